/-
  Evaluator, contracts, plain law.
-/
import Derived.Test.YtnkaepnblikcdaaGreatVP4
import Derived.Test.YtnkaepnblikcdaaGreatVP3
import Derived.Lib.Mul64
set_option maxRecDepth 100000
set_option linter.unusedVariables false
set_option linter.defProp false
set_option linter.unusedSimpArgs false
open Go.IntKind (i64 u64 u8)
namespace Go.Proofs.YtnkaepnblikcdaaGreat
open Go.Sx
def qi3:aB:=fC 89 λf=>.aj (dU f) (.ai (.bool (fh f)))
def yI0:qi3.ok pP:=fE (λf h=>xT7 f h)
def zb:aB:=fC 66 λf=>.aj (dU f&&fh f) (.ai (V4.sv (ej f)))
def Xh:zb.ok pP:=fE (λf h=>xH6 f h)
def W7:aB:=fC 96 λf=>.aj (dU f&&fh f) (.ai (V4.sv (ej f)))
def yy9:W7.ok pP:=fE (λf h=>xH7 f h)
def qe3:aB:=fC 93 λf=>.aj (u7 f.pos) (.ai (.bool (zi f)))
def yD6:qe3.ok pP:=fE (λf h=>xO0 f h)
def qi2:aB:=fC 94 λf=>.aj (dU f&&u7 f.pos) (.ai (.bool (vr f)))
def yH9:qi2.ok pP:=fE (λf h=>xT6 f h)
def FO(c d:Co)(g h:Gu):Bool:=c.ok&& (d.ok&& (g.ok&&h.ok))
def Rp:aB:=⟨68,λargs=>match args with
 |[.agg [.int .i64 a0,.int .i64 a1,.int .i64 a2,.int .i64 a3,.int .i64 a4,.int .i64 a5,.int .i64 a6,.int .i64 a7,.int .i64 a8,.int .i64 a9,.int .i64 UB,.int .i64 UA],.agg [.int .i64 g0,.int .i64 g1,.int .i64 g2,.int .i64 g3,.int .i64 g4,.int .i64 g5,.int .i64 g6,.int .i64 g7,.int .i64 g8,.int .i64 g9,.bool d,.int .i64 h0,.int .i64 h1,.int .i64 h2,.int .i64 h3,.int .i64 h4,.int .i64 h5,.int .i64 h6,.int .i64 h7,.int .i64 h8,.int .i64 h9,.bool u]] =>some (.ai (.bool (FO ⟨a0,a1,a2,a3,a4,a5⟩ ⟨a6,a7,a8,a9,UB,UA⟩ ⟨g0,g1,g2,g3,g4,g5,g6,g7,g8,g9,d⟩ ⟨h0,h1,h2,h3,h4,h5,h6,h7,h8,h9,u⟩)))
 |_=>none⟩
def IL(f:Fw):Bool:=(!(f.mode==3)&&f.bf)||(!f.aT&&f.queue.isEmpty)
def u9(f:Fw):Bool:=tP f&& (A4 f&& (dU f&& (fh f&&IL f)))
def Er{f:Fw}:u9 f=true↔tP f=true/\A4 f=true/\dU f=true/\fh f=true/\IL f=true:=by simp only[u9,aH]
def IK{f:Fw}:IL f=true↔(¬f.mode=3/\f.bf=true)\/(f.aT=false/\f.queue.length=0):=by
 simp only[IL,ia,aH,iJ,dM,dz,wz,Ca]
def xh2{f:Fw}:fh f=true↔u7 f.pos=true/\u7 f.ret=true/\u7 (eV f)=true/\vr f=true:=by
 rw[pL,xg9];constructor
 .rintro ⟨a,b,c,d,e,g,h⟩;exact⟨c,d,e,a,b,g,h⟩
 .rintro ⟨c,d,e,a,b,g,h⟩;exact⟨a,b,c,d,e,g,h⟩
def eF(f:Fw):Bool:=!f.aT&& (f.queue.isEmpty&&f.bt==0)
def zM{f:Fw}:eF f=true↔f.aT=false/\f.queue.length=0/\f.bt=0:=by
 simp only[eF,aH,iJ,cI,wz,Ca]
def yG8:Rp.ok pP:=λargs t ht=>by
 simp only[Rp]at ht
 split at ht<;>cases ht;exact xR4 ⟨_,_,_,_,_,_⟩ ⟨_,_,_,_,_,_⟩ ⟨_,_,_,_,_,_,_,_,_,_,_⟩ ⟨_,_,_,_,_,_,_,_,_,_,_⟩
theorem Q5(f:Fw):SCall pP 31 [f.sv] (.bool (u9 f)):=
 aY aL [Rq,qf3,qe5,qi3] ⟨YM,yE7,yD8,yI0,trivial⟩ 1000 (.ah (.ln 11 pA) (.ln 3 (.ah (.ln 7 pA) (.ln 3 (.ah (.ln 3 pA) (.ln 3 (.ah .all (.ah (.ar (.ar (.ah (.ln 4 pA) (.ln 3 (.ah (.ln 5 pA) (.ln 5 pA)))))) (.ln 6 (.ah (.ln 5 pA) (.ln 5 pA)))))))))))
  (t:=let y0:ak SV:=.ai (.bool false);let y1:ak SV:=.ag (!f.aT) (.ai (.bool ((↑f.queue.length:Int)==0))) y0;.ag (!tP f) y0 (.ag (!A4 f) y0 (.ag (!dU f) y0 (.aj (dU f) (.ag (!fh f) y0 (.ag (f.mode != 3) (.ag (f.bf) (.ai (.bool true)) y1) y1))))))
  (by kernel_rfl) (by
   have vi:=Er (f:=f);have ei:=IK (f:=f);simp only[ak.holds,sM];(repeat' (first|apply aX|intro _));
   all_goals first
    |assumption
    |(refine jh ?_;rw[vi,ei];(try simp only[sM]);first|omega|grind)) (by kernel_rfl)
theorem Q4(f:Fw):SCall pP 32 [f.sv] (.bool (u9 f)):=
 aY aL [pR,Rp,qf4,vB,qe3,qi2] ⟨qA,yG8,yE8,FM,yD6,yH9,trivial⟩ 1000 (let z0:ax:=.ln 5 pA;.ah (.ln 15 pA) (.ln 6 (.ah (.ln 8 pA) (.ar (.ar (.ah (.ln 5 (.ah (.ln 3 pA) (.ln 3 (.ah .all (.ah (.ln 12 pA) (.ln 4 (.ah (.ln 7 pA) (.ln 3 (.ah (.ln 3 pA) (.ln 3 (.ah .all (.ah (.ln 3 (.ah (.ln 4 pA) (.ln 3 (.ah z0 z0)))) (.ln 7 (.ah z0 z0)))))))))))))) (.ln 9 pA)))))))
  (t:=let y0:ak SV:=.ai (.bool false);let y1:ak SV:=.ag (!f.aT) (.ai (.bool ((↑f.queue.length:Int)==0))) y0;.ag (!f.ma.ok) y0 (.ag (!FO f.c0 f.c1 f.g0 f.g1) y0 (.ag (f.mode>=1) (.ag (!decide (f.mode<=3)) y0 (.ag (!wW f) y0 (.ag (!u7 f.pos) y0 (.ag (!u7 f.ret) y0 (.aj (u7 f.pos) (.ag (!zi f) y0 (.aj (dU f&&u7 f.pos) (.ag (!vr f) y0 (.ag (f.bf) (.ag (f.mode != 3) (.ai (.bool true)) y1) y1))))))))) y0)))
  (by kernel_rfl) (by
   have vi:=Er (f:=f);have ei:=IK (f:=f);have pi:=xg (f:=f)
   have p4:FO f.c0 f.c1 f.g0 f.g1=true↔f.c0.ok=true/\f.c1.ok=true/\f.g0.ok=true/\f.g1.ok=true:=by simp only[FO,aH]
   have mi:=Fx (f:=f);have mo:=X0 (f:=f);have qi:=xh2 (f:=f);simp only[ak.holds,sM];(repeat' (first|apply aX|intro _));
   all_goals first
    |assumption
    |(exact(mo.1 (by assumption)).1)
    |(refine jh ?_;rw[vi,ei];(try simp only[sM]);first|omega|grind)) (by kernel_rfl)
def pQ:aB:=fC 31 λf=>.ai (.bool (u9 f))
def zl:pQ.ok pP:=fE (λf=>Q5 f)
def Bi:aB:=fC 32 λf=>.ai (.bool (u9 f))
def CU:Bi.ok pP:=fE (λf=>Q4 f)
theorem xK0(f:Fw):ak.holds (λv=>v=(.bool (eF f))) (.ag (!f.aT)
 (.ag ((↑f.queue.length:Int)==0)
  (.ai (SV.bool (f.bt==0)))
  (.ai (SV.bool false)))
 (.ai (SV.bool false)):ak SV):=by simp only[ak.holds,sM];(repeat' (first|apply aX|intro _));all_goals(refine jh ?_;rw[zM];(try simp only[sM]); first|omega|grind)
def xJ8(f:Fw):SCall pP 65 [f.sv] (.bool (eF f)):=
 aY aL [] trivial 1000 (.ah (.ln 4 (.ah (.ar (.ar pA)) (.ar (.ar pA)))) (.ln 7 pA))
  (by kernel_rfl) (xK0 f) (by kernel_rfl)
def xJ9(f:Fw):SCall pP 95 [f.sv] (.bool (eF f)):=
 aY aL [] trivial 1000 (.ah (.ln 4 (.ah (.ar (.ar pA)) (.ar (.ar pA)))) (.ln 7 pA))
  (by kernel_rfl) (xK0 f) (by kernel_rfl)
def vC:aB:=fC 65 λf=>.ai (.bool (eF f))
def P0:vC.ok pP:=fE (λf=>xJ8 f)
def Lp:aB:=fC 95 λf=>.ai (.bool (eF f))
def PZ:Lp.ok pP:=fE (λf=>xJ9 f)
def qx(f:Fw):Bool:=u9 f&&eF f
def zb8{f:Fw}:qx f=true↔u9 f=true/\eF f=true:=by simp only[qx,aH]
theorem Zw(f:Fw):ak.holds (λv=>v=(.bool (qx f))) (.ag (u9 f)
 (.ai (SV.bool (eF f)))
 (.ai (SV.bool false)):ak SV):=by simp only[ak.holds,sM];(repeat' (first|apply aX|intro _));all_goals(refine jh ?_;rw[zb8];(try simp only[sM]); first|omega|grind)
def xz0(f:Fw):SCall pP 20 [f.sv] (.bool (qx f)):=
 aY aL [pQ,vC] ⟨zl,P0,trivial⟩ 1000 (.ah (.ar pA) (.ar pA))
  (by kernel_rfl) (Zw f) (by kernel_rfl)
def xz1(f:Fw):SCall pP 33 [f.sv] (.bool (qx f)):=
 aY aL [Bi,Lp] ⟨CU,PZ,trivial⟩ 1000 (.ah (.ar pA) (.ar pA))
  (by kernel_rfl) (Zw f) (by kernel_rfl)
def qa9:aB:=fC 20 λf=>.ai (.bool (qx f))
def yA4:qa9.ok pP:=fE (λf=>xz0 f)
def qb0:aB:=fC 33 λf=>.ai (.bool (qx f))
def yA5:qb0.ok pP:=fE (λf=>xz1 f)
variable{P:Program}{f:FuncId}{args:List SV}{v:SV}
def C4{v':SV}(h:SCall P f args v)(hv:∀ (R:Nat->Prop) (I:bu) (n:Nat) (w:World) (u:Value),aJ R I n w v u->aJ R I n w v' u):SCall P f args v':=by
 intro m w0 R0 I w vs hm bR;refine kN.mono (λu w' hu=>?_) (h m w0 R0 I w vs hm bR);obtain⟨I',g1,g2,g3⟩:=hu;exact⟨I',g1,g2,hv _ _ _ _ _ g3⟩
variable{cs:List SV}
def JB{ds rest:List SV}(hn:j7 cs ds)(R:Nat->Prop)(I:bu)(n:Nat)(w:World)(u:Value)(h:aJ R I n w (.tuple (.agg cs::rest)) u):aJ R I n w (.tuple (.agg ds::rest)) u:=by
 obtain⟨vs,h1,x,xs,h2,⟨ws,h3,h4⟩,h5⟩:=h;exact⟨vs,h1,x,xs,h2,⟨ws,h3,hn.nY h4⟩,h5⟩
def vj(m:Ma)(c d:Co)(g h:Gu)(bc:Int):Bool:=m.ok&& (c.ok&& (d.ok&& (g.ok&& (h.ok&& (az bc 0 400000&& (az g.fault 0 0&&az h.fault 0 0))))))
variable{m:Ma}{c d:Co}{g h:Gu}{bc:Int}
def Pc:vj m c d g h bc=true↔m.ok=true/\c.ok=true/\d.ok=true/\g.ok=true/\h.ok=true/\(0<=bc/\bc<=400000)/\g.fault=0/\h.fault=0:=by
 have z:∀n:Int,az n 0 0=true↔n=0:=λn=>by rw[v5];omega
 simp only[vj,aH,v5,z]
def a0:Ax:=⟨0,0,0,0,0,0,0⟩
def ma0:Ma:=⟨a0,a0,a0,a0,false,0⟩
def aP:Fw:=⟨ma0,0,false,z4,(0,0,0),0,0,[],[],m0,false,0,false,z4,0,0,Co.zero,Co.zero,Gu.zero,Gu.zero,0,0,0,0,0,0⟩
def jA(m:Ma)(c d:Co)(g h:Gu)(bc:Int):Fw:={aP with ma:=m,mode:=1,c0:=c,c1:=d,g0:=g,g1:=h,bc:=bc}
def o9(f:Fw):List SV:=f.cells.take 41++(.cm::.cm::f.cells.drop 43)
def wX(m:Ma)(c d:Co)(g h:Gu)(bc:Int):SV:=match vj m c d g h bc with
 |true=>.tuple [.agg (o9 (jA m c d g h bc)),J 0]
 |false=>.tuple [.agg (o9 aP),J 1]
def XQ(k:vj m c d g h bc=true):wX m c d g h bc=.tuple [.agg (o9 (jA m c d g h bc)),J 0] :=by unfold wX;rw[k]
def XR(k:vj m c d g h bc=false):wX m c d g h bc=.tuple [.agg (o9 aP),J 1] :=by unfold wX;rw[k]
theorem xP6(m:Ma)(c d:Co)(g h:Gu)(bc:Int):SCall pP 61 [m.sv,.agg (c.cells++d.cells),.agg (g.cells++h.cells),J bc] (wX m c d g h bc):=
 v9 aL [Rq] ⟨YM,trivial⟩ 1000 (.ah (.ln 13 pA) (.ar (.ah (.ln 5 (.ah (.ln 9 pA) (.ln 4 (.ah (.ln 4 pA) (.ln 4 (.ah .all .all)))))) (.ln 15 pA))))
  (t:=let y0:ak SV:=lT [.agg (o9 aP),.int .i64 1];.ag (!tP (Fw.mk m 1 false (0,0,0,0) (0,0,0) 0 0 [] [] (((0,0,0,0),0,0,0,0),0,0) false 0 false (0,0,0,0) 0 0 c d g h 0 0 0 bc 0 0)) y0 (.ag (bc>=0) (.ag (!decide (bc<=400000)) y0 (rT (.ag (g.fault != 0) y0 (rT (.ag (h.fault != 0) y0 (lT [.agg [.int .i64 m.x.num,.int .i64 m.x.den,.int .i64 m.x.bP,.int .i64 m.x.bV,.int .i64 m.x.bB,.int .i64 m.x.min,.int .i64 m.x.max,.int .i64 m.y.num,.int .i64 m.y.den,.int .i64 m.y.bP,.int .i64 m.y.bV,.int .i64 m.y.bB,.int .i64 m.y.min,.int .i64 m.y.max,.int .i64 m.z.num,.int .i64 m.z.den,.int .i64 m.z.bP,.int .i64 m.z.bV,.int .i64 m.z.bB,.int .i64 m.z.min,.int .i64 m.z.max,.int .i64 m.e.num,.int .i64 m.e.den,.int .i64 m.e.bP,.int .i64 m.e.bV,.int .i64 m.e.bB,.int .i64 m.e.min,.int .i64 m.e.max,.bool m.xy,.int .i64 m.aU,.int .i64 1,.bool false,.int .i64 0,.int .i64 0,.int .i64 0,.int .i64 0,.int .i64 0,.int .i64 0,.int .i64 0,.int .i64 0,.int .i64 0,SV.cm,SV.cm,.int .i64 0,.int .i64 0,.int .i64 0,.int .i64 0,.int .i64 0,.int .i64 0,.int .i64 0,.int .i64 0,.int .i64 0,.int .i64 0,.bool false,.int .i64 0,.bool false,.int .i64 0,.int .i64 0,.int .i64 0,.int .i64 0,.int .i64 0,.int .i64 0,.int .i64 c.target,.int .i64 c.kp,.int .i64 c.ki,.int .i64 c.scale,.int .i64 c.sum,.int .i64 c.dA,.int .i64 d.target,.int .i64 d.kp,.int .i64 d.ki,.int .i64 d.scale,.int .i64 d.sum,.int .i64 d.dA,.int .i64 g.low,.int .i64 g.bQ,.int .i64 g.watch,.int .i64 g.cG,.int .i64 g.bN,.int .i64 g.base,.int .i64 g.count,.int .i64 g.idle,.int .i64 g.quiet,.int .i64 g.fault,.bool g.dc,.int .i64 h.low,.int .i64 h.bQ,.int .i64 h.watch,.int .i64 h.cG,.int .i64 h.bN,.int .i64 h.base,.int .i64 h.count,.int .i64 h.idle,.int .i64 h.quiet,.int .i64 h.fault,.bool h.dc,.int .i64 0,.int .i64 0,.int .i64 0,.int .i64 bc,.int .i64 0,.int .i64 0],.int .i64 0])))))) y0))
  (by kernel_rfl) (by
   simp only[tP,FO];simp only[ak.holds,sM];(repeat' (first|apply aX|intro _));
   all_goals first|(rw[XR (eB.2 (by rw[dz,Pc];grind))];rfl)|(rw[XQ (Pc.2 (by grind))];rfl)) (by kernel_rfl) (by unfold wX;split<;>rfl)
def gx.{u}{β:Type u}(p:β->Prop):List β->Prop
 |[] =>True
 |x::l=>p x/\gx p l
theorem gx.all.{u}{β:Type u}{p:β->Prop}:∀{l:List β},gx p l->∀x∈l,p x
 |[],_=>λx hx=>by cases hx
 |y::l,h=>λx hx=>by
  cases hx with
  |head=>exact h.1
  |tail _ hx=>exact h.2.all x hx
variable{id:Nat}
def aQ.Kz{w0:World}{R0:eo}{I:bu}{w:World}{m m2:Mem}{Uu:List SV}(h:aQ w0 R0 I w m)(hB:m.get id=some (.cells cs))(hn:j7 cs Uu)(h2:mT m id (some (.cells Uu)) m2):aQ w0 R0 I w m2/\m8 w0 R0 I w m I w m2:=by
 have hg:∀k B,m2.get k=some B->∃C,m.get k=some C/\(fJ (I k) B->fJ (I k) C):=λk B hk=>by
  rw[h2.1 k]at hk
  split at hk;.rename_i dB;subst dB;exact⟨_,hB,λ_=>trivial⟩
  .exact⟨B,hk,λx=>x⟩
 have dZ:∀b,RO w0 R0 I w m b->RO w0 R0 I w m2 b:=λb hb=>by
  rcases hb with hb|⟨k1,k2,k3,k4⟩
  .exact .inl hb
  .exact .inr ⟨k1,k2,λk B hk hs=>by
    obtain⟨C,hC,bj⟩:=hg k B hk
    exact k3 k C hC (bj hs),k4⟩
 have e:m8 w0 R0 I w m I w m2:=⟨by rw[h2.2];exact bA _,λ_ _=>rfl,λb hb=>⟨dZ b hb,rfl⟩⟩;refine⟨⟨h.below,λk B hk=>?_,λk B hk hs=>?_,λk B hk hs=>?_,λk k' B B' hk gP hs bj dD=>?_,λk B hk=>?_,h.aI.1,λk B hk hs=>?_⟩,e⟩;.obtain⟨C,hC,_⟩:=hg k B hk;rw[h2.2];exact h.lt k C hC
 .obtain⟨C,hC,bj⟩:=hg k B hk;exact h.lo k C hC (bj hs)
 .obtain⟨C,hC,bj⟩:=hg k B hk;exact h.hi k C hC (bj hs)
 .obtain⟨C,hC,c1⟩:=hg k B hk
  obtain⟨C',T5,c2⟩:=hg k' B' gP;exact h.inj k k' C C' hC T5 (c1 hs) (c2 bj) dD
 .rw[h2.1 k]at hk
  split at hk
  .rename_i dB
   subst dB;cases hk;obtain⟨arr,el,fr,k1,k2,k3⟩:=h.box k _ hB;exact⟨arr,el,fr,k1,k2,hn.nY (j8.mono e _ _ k3)⟩
  .exact fN.mono e _ (λ_=>rfl) (h.box k B hk)
 .obtain⟨C,hC,bj⟩:=hg k B hk;exact h.aI.2 k C hC (bj hs)
def X5{w0:World}{R0:eo}{I:bu}{w:World}{m:Mem}(h:aQ w0 R0 I w m){B C:aR}(hB:m.get id=some B):∃m2,mT m id (some C) m2:=by
 obtain⟨m2,hn,hg⟩:=JP m.next ((List.range m.next).map λk=>if k=id then some C else m.get k);refine⟨m2,λk=>?_,hn⟩;rw[hg k,AB]
 by_cases hk:k<m.next
 .rw[EP hk];rfl
 .have dB:¬k=id:=λe=>by subst e;exact hk (h.lt k B hB)
  rw[qU (by simpa using hk),au dB]
  cases hx:m.get k with
  |none=>rfl
  |some D=>exact absurd (h.lt k D hx) hk
def Vd{x:List SV}{C:aR}(hn:j7 cs x)(h:lW P f args (.cells x) (false,v,C)):lW P f args (.cells cs) (false,v,C):=by
 intro m m' id hB ec w0 R0 I w vs hm bR;obtain⟨m2,h2⟩:=X5 (C:=.cells x) hm hB;obtain⟨a,e⟩:=aQ.Kz hm hB hn h2
 have kZ:mT m2 id (some C) m':=⟨λk=>by rw[ec.1 k,h2.1 k];split<;>rfl,ec.2.trans h2.2.symm⟩
 refine kN.mono (λu w' hu=>?_) (h m2 m' id (by rw[h2.1,ay rfl]) kZ w0 R0 I w vs a (j8.mono e _ _ bR));obtain⟨I',g1,g2,g3⟩:=hu;exact⟨I',g1,e.trans g2,g3⟩
def zv8{x:List SV}{B:aR}(hn:j7 cs x)(h:lW P f args B (false,v,.cells cs)):lW P f args B (false,v,.cells x):=by
 intro m m' id hB ec w0 R0 I w vs hm bR;obtain⟨m1,h1⟩:=X5 (C:=.cells cs) hm hB;refine kN.mono (λu w' hu=>?_) (h m m1 id hB h1 w0 R0 I w vs hm bR);obtain⟨I',g1,g2,g3⟩:=hu
 obtain⟨a,e⟩:=aQ.Kz g1 (by rw[h1.1,ay rfl]) hn (m2:=m') ⟨λk=>by rw[ec.1 k,h1.1 k];split<;>rfl,ec.2.trans h1.2.symm⟩
 exact⟨I',a,g2.trans e,aJ.mono e _ _ g3⟩
def iS(P:Program)(f:FuncId)(rest:List SV)(x:Fw)(r:SV×Fw):Prop:=lW P f rest (.cells x.cells) (false,r.1,.cells r.2.cells)
inductive HU (v:SV) (y:Fw):eW->Prop where
 |mk (cs:List SV) (hn:j7 cs y.cells) (hd:f7 cs=true):HU v y (.fin (.ret v [some (.cells cs)]))
variable{y:Fw}
def ends{u:SV}(h:u=v)(hn:j7 cs y.cells)(hd:f7 cs=true):HU v y (.fin (.ret u [some (.cells cs)])):=by subst h;exact .mk cs hn hd
def qG9(f:Fw):f7 f.cells=true:=rfl
variable{x:Fw}
def Gh{rest:List SV}(hf:Bo P f (.ptr 0 0::rest)=true)(hd:f7 rest=true)(hv:v.data=true)(hc:f7 cs=true)(hn:j7 cs y.cells)(h:qw P (x9 P f) [] 1 (.ret v [some (.cells cs)]) (v7 P f) (v6 P f (.ptr 0 0::rest)) [some (.cells x.cells)]):iS P f rest x (v,y):=
 zv8 hn (AK hf h rfl hd (qG9 x) hc hv)
theorem II:∀t:ak eW,t.holds (HU v y)->∃cs,j7 cs y.cells/\f7 cs=true/\t.holds λo=>match o with
   |.fin r'=>r'=.ret v [some (.cells cs)]
   |.at gV size iw kf=>iw.length=size/\False
 |.ai o,h=>by
  have h:HU v y o:=h
  cases h with
  |mk cs hn hd=>exact⟨cs,hn,hd,rfl⟩
 |.ag b t f,h=>by
  cases b with
  |true=>
   obtain⟨cs,h1,h2,h3⟩:=II t (h.1 rfl);exact⟨cs,h1,h2,λ_=>h3,λhb=>by cases hb⟩
  |false=>
   obtain⟨cs,h1,h2,h3⟩:=II f (h.2 rfl);exact⟨cs,h1,h2,λhb=>(by cases hb),λ_=>h3⟩
 |.aj b t,h=>by
  obtain⟨cs,h1,h2,h3⟩:=II t h.2;exact⟨cs,h1,h2,h.1,h3⟩
 |.aA _,h=>h.elim
def rp{E:Env}(hK:cV P E)(n:Nat)(p:ax){keep:List Item->List Bool}{rest:List SV}{t:ak eW}(ht:fU E n (x9 P f) 1 keep (v7 P f) p (v6 P f (.ptr 0 0::rest)) [some (.cells x.cells)] =t)(h:t.holds (HU v y))(hf:Bo P f (.ptr 0 0::rest)=true)(hd:f7 rest=true)(hv:v.data=true):iS P f rest x (v,y):=by
 obtain⟨cs,h1,h2,h3⟩:=II t h;refine Gh (cs:=cs) hf hd hv h2 h1 (nV hK (n:=n) (keep:=keep) (p:=p) (bA _) ?_);rw[ht]
 exact ak.BL (λo ho=>by
  cases o with
  |fin r=>exact ho
  |«at» i s l b=>exact ho.2.elim) t h3
def GM:ak (SV×Fw)->ak (Bool×SV×aR)
 |.ai x=>.ai (false,x.1,.cells x.2.cells)
 |.ag b t f=>.ag b (GM t) (GM f)
 |.aj b t=>.aj b (GM t)
 |.aA n=>.aA n
def uS(f:FuncId)(h:Fw->List SV->Option (ak (SV×Fw))):bF:=⟨f,λargs B=>match B with
 |.cells cs=>match yL cs with
  |some x=>match h x args with
   |some t=>some (GM t)
   |none=>none
  |none=>none
 |_=>none⟩
theorem J4(hn:j7 cs x.cells):∀t:ak (SV×Fw),t.bw (iS P f args x)->(GM t).bw (lW P f args (.cells cs))
 |.ai _,k=>Vd hn k
 |.ag _ t u,k=>⟨λhb=>J4 hn t (k.1 hb),λhb=>J4 hn u (k.2 hb)⟩
 |.aj _ t,k=>λhb=>J4 hn t (k hb)
 |.aA _,_=>trivial
def Ck{h:Fw->List SV->Option (ak (SV×Fw))}(k:∀x rest t,h x rest=some t->t.bw (iS P f rest x)):(uS f h).ok P:=λargs B t ht=>by
 simp only[uS]at ht
 split at ht
 .split at ht
  .rename_i hx
   split at ht
   .rename_i t' rH
    cases ht;exact J4 (Cn hx) t' (k _ _ _ rH)
   .cases ht
  .cases ht
 .cases ht
noncomputable def wT(m:Mem)(id:Nat):ak (SV×Fw)->ak (SV×Mem)
 |.ai x=>m.set id (some (.cells x.2.cells)) λm'=>.ai (x.1,m')
 |.ag b t f=>.ag b (wT m id t) (wT m id f)
 |.aj b t=>.aj b (wT m id t)
 |.aA n=>.aA n
noncomputable def vO(f:FuncId)(h:Fw->List SV->Option (ak (SV×Fw))):iY:=⟨f,λargs m=>match args with
 |a::rest=>match a with
  |.ptr id off=>match Nat.beq off 0 with
   |true=>match m.get id with
    |some B=>match B with
     |.cells cs=>match yL cs with
      |some x=>match h x rest with
       |some t=>some (wT m id t)
       |none=>none
      |none=>none
     |_=>none
    |none=>none
   |false=>none
  |_=>none
 |_=>none⟩
theorem MY{m:Mem}(hB:m.get id=some (.cells cs))(hn:j7 cs x.cells):∀t:ak (SV×Fw),t.bw (iS P f args x)->(wT m id t).bw (Cq P f (.ptr id 0::args) m)
 |.ai _,k=>QS λm' hm=>(Vd hn k:lW P f args (.cells cs) _) m m' id hB hm
 |.ag _ t u,k=>⟨λhb=>MY hB hn t (k.1 hb),λhb=>MY hB hn u (k.2 hb)⟩
 |.aj _ t,k=>λhb=>MY hB hn t (k hb)
 |.aA _,_=>trivial
def Ad{h:Fw->List SV->Option (ak (SV×Fw))}(k:∀x rest t,h x rest=some t->t.bw (iS P f rest x)):(vO f h).ok P:=λargs m t ht=>by
 simp only[vO]at ht
 split at ht
 .split at ht
  .rename_i id off
   split at ht
   .rename_i h0
    have h0:=gQ h0;subst h0
    split at ht
    .rename_i B hB
     split at ht
     .rename_i cs
      split at ht
      .rename_i hx
       split at ht
       .rename_i t' rH
        cases ht;exact MY hB (Cn hx) t' (k _ _ _ rH)
       .cases ht
      .cases ht
     .cases ht
    .cases ht
   .cases ht
  .cases ht
 .cases ht
def I7:ax:=.ar (.all)
def zI6(cap:Nat):o8 (Env.of pP (j9 [])) 1000 (x9 pP 175) w9 (x6 8 []) (v7 pP 175) I7 (v6 pP 175 [.dO (.slice none 0 cap)]) [] =(rT (.ai (.done (.list w9 [])))):=by kernel_rfl
def I6:ax:=.ar pA
def zI8(a:Addr)(cap:Nat):o8 (Env.of pP (j9 [])) 1000 (x9 pP 175) w9 (x6 8 []) (v7 pP 175) I6 (v6 pP 175 [.dO (.slice (some a) 0 cap)]) [] =(rT (.ai (.done (.list w9 [])))):=by kernel_rfl
def I8:ax:=.ar pA
def zI4(b:Ty.T w9)(l:List (Ty.T w9)):o8 (Env.of pP (j9 [])) 1000 (x9 pP 175) w9 (x6 8 []) (v7 pP 175) I8 (v6 pP 175 [.list w9 (b::l)]) [] =(.aj (!(b::l).isEmpty) (.aj ((0+(b::l).length)*64<=140737488355328) (.ai (.done (.list w9 (b::l)))))):=by kernel_rfl
def I4:ax:=.ar (.all)
def zJ2(cap:Nat):o8 (Env.of pP (j9 [])) 1000 (x9 pP 176) (.int .i64) (x6 8 []) (v7 pP 176) I4 (v6 pP 176 [.dO (.slice none 0 cap)]) [] =(rT (.ai (.done (.list (Ty.int i64) [])))):=by kernel_rfl
def I3:ax:=.ar pA
def zJ4(a:Addr)(cap:Nat):o8 (Env.of pP (j9 [])) 1000 (x9 pP 176) (.int .i64) (x6 8 []) (v7 pP 176) I3 (v6 pP 176 [.dO (.slice (some a) 0 cap)]) [] =(rT (.ai (.done (.list (Ty.int i64) [])))):=by kernel_rfl
def I5:ax:=.ar pA
def zJ0(b:Ty.T (.int .i64))(l:List (Ty.T (.int .i64))):o8 (Env.of pP (j9 [])) 1000 (x9 pP 176) (.int .i64) (x6 8 []) (v7 pP 176) I5 (v6 pP 176 [.list (.int .i64) (b::l)]) [] =(.aj (!(b::l).isEmpty) (.aj ((0+(b::l).length)*8<=140737488355328) (.ai (.done (.list (Ty.int i64) (b::l)))))):=by kernel_rfl
end Go.Proofs.YtnkaepnblikcdaaGreat
namespace Go.Sx
open Go.RowKit
section
variable {w0:World} {R0:eo} {I:bu} {w:World} {m mc m':Mem} {ρc:bu} {w':World}
def qM6{id:Nat}{t:Ty}{l:List t.T}{u:Value}(hm:aQ w0 R0 I w m)(hc:aQ w (RS w0 R0 I w m) ρc w' mc)(lj:mc.get id=some (.rows t l))(h3:mU m (.rows t l) m')(hr:aJ (RO w (RS w0 R0 I w m) ρc w' mc) ρc mc.next w' (.row id) u):n9 w0 R0 I w m (.row m.next) m' u w':=by
 have hh:=Hand.start hm hc
 have ec:∀j B,m'.get j=some B->(j=m.next/\B=.rows t l)\/(j≠m.next/\m.get j=some B):=λj B hj=>by
  rw[h3.1 j]at hj
  by_cases e:j=m.next
  .rw[ay e]at hj;injection hj with hj;exact .inl ⟨e,hj.symm⟩
  .rw[au e]at hj;exact .inr ⟨e,hj⟩
 have ayM:=hm.size_le;have e:Ext (RR w0 R0 I w m ρc mc w') I m.next w' (RR w0 R0 I w m ρc mc w') (cL I m.next (ρc id)) m'.next w':=⟨by rw[h3.2];omega,λj hj=>r8 _ _ (by omega),λb hb=>⟨hb,rfl⟩⟩
 have hand:Hand w0 R0 I w m ρc mc w' (cL I m.next (ρc id)) m' ⟨0,.e⟩:=by
  refine⟨by rw[h3.2];omega,λj hj=>r8 _ _ (by omega),λj B hj=>?_,λj B hj hs=>?_,λj B hj hs=>?_,λj B hj hs=>?_,λj j' B B' hj rI hs bj he=>?_,λj B hj=>?_,λj B hj=>(by cases hj),λj B hj=>(by cases hj),λb hb=>?_⟩
  .rw[h3.2]
   rcases ec j B hj with⟨rfl,_⟩|⟨_,n2⟩
   .omega
   .have:=hh.lt j B n2;omega
  .rcases ec j B hj with⟨rfl,rfl⟩|⟨n1,n2⟩
   .rw[s9]at hs ⊢;have:=hc.lo id _ lj hs;omega
   .rw[r8 _ _ n1]at hs ⊢;exact hh.lo j B n2 hs
  .rcases ec j B hj with⟨rfl,rfl⟩|⟨n1,n2⟩
   .rw[s9]at hs ⊢;exact hc.hi id _ lj hs
   .rw[r8 _ _ n1]at hs ⊢;exact hh.hi j B n2 hs
  .rcases ec j B hj with⟨rfl,rfl⟩|⟨n1,n2⟩
   .rw[s9]at hs ⊢;exact λhr=>by have:=(hm.aI.1 _ hr).1;have:=hc.lo id _ lj hs;omega
   .rw[r8 _ _ n1]at hs ⊢;exact hh.nh j B n2 hs
  .rcases ec j B hj with⟨rfl,rfl⟩|⟨n1,n2⟩<;>rcases ec j' B' rI with⟨rfl,rfl⟩|⟨vI,xV⟩
   .rfl
   .rw[s9]at hs he;rw[r8 _ _ vI]at bj he
    exact absurd he.symm (hh.apart id _ lj hs j' B' xV bj)
   .rw[s9]at bj he;rw[r8 _ _ n1]at hs he
    exact absurd he (hh.apart id _ lj bj j B n2 hs)
   .rw[r8 _ _ n1]at hs he;rw[r8 _ _ vI]at bj he
    exact hh.inj j j' B B' n2 xV hs bj he
  .rcases ec j B hj with⟨rfl,rfl⟩|⟨n1,n2⟩
   .rw[s9]
    obtain⟨b1,b2,b3⟩:=hc.box id _ lj;refine⟨b1,b2,λhp=>?_⟩;obtain⟨arr,el,fr,q1,q2,q3,q4⟩:=b3 hp;refine⟨arr,el,fr,q1,q2,q3,λi hi=>?_⟩;obtain⟨cs,c1,c2,c3⟩:=q4 i hi;exact⟨cs,c1,c2,p7.mono (λb hb=>⟨.inr hb,rfl⟩) _ _ _ c3⟩
   .rw[r8 _ _ n1]
    exact fN.mono e B (λ_=>rfl) (hh.box j B n2)
  .have cw:fJ (ρc id) (.rows t l)->(ρc id).1≠b:=λhs=>by
    rcases hb with hb|hb
    .have:=hm.mB hb;have:=hc.lo id _ lj hs;omega
    .exact hc.Ge hb lj hs
   rcases hh.ro b hb with hb|⟨g1,g2,g3,g4⟩
   .exact .inl hb
   .refine .inr ⟨g1,g2,λj B hj hs=>?_,g4⟩
    rcases ec j B hj with⟨rfl,rfl⟩|⟨n1,n2⟩
    .rw[s9]at hs ⊢;exact cw hs
    .rw[r8 _ _ n1]at hs ⊢;exact g3 j B n2 hs
 obtain⟨g4,g5⟩:=hand.finish hm hc;obtain⟨_,a,hu,ha⟩:=hr;exact⟨_,g4,g5,by rw[h3.2];omega,a,by rw[s9];exact hu,by rw[s9];exact ha⟩
def qM5{t:Ty}{a:Option Addr}(hm:aQ w0 R0 I w m)(hc:aQ w (RS w0 R0 I w m) ρc w' mc)(h3:mU m (.rows t []) m'):n9 w0 R0 I w m (.row m.next) m' (.slice a 0 0) w':=by
 have hh:=Hand.start hm hc
 have ec:∀j B,m'.get j=some B->(j=m.next/\B=.rows t [])\/(j≠m.next/\m.get j=some B):=λj B hj=>by
  rw[h3.1 j]at hj
  by_cases e:j=m.next
  .rw[ay e]at hj;injection hj with hj;exact .inl ⟨e,hj.symm⟩
  .rw[au e]at hj;exact .inr ⟨e,hj⟩
 have e:Ext (RR w0 R0 I w m ρc mc w') I m.next w' (RR w0 R0 I w m ρc mc w') (cL I m.next (0,0,0)) m'.next w':=⟨by rw[h3.2];omega,λj hj=>r8 _ _ (by omega),λb hb=>⟨hb,rfl⟩⟩
 have no:¬fJ (cL I m.next (0,0,0) m.next) (.rows t []):=by rw[s9];exact gZ 0
 have hand:Hand w0 R0 I w m ρc mc w' (cL I m.next (0,0,0)) m' ⟨0,.e⟩:=by
  refine⟨by rw[h3.2];omega,λj hj=>r8 _ _ (by omega),λj B hj=>?_,λj B hj hs=>?_,λj B hj hs=>?_,λj B hj hs=>?_,λj j' B B' hj rI hs bj he=>?_,λj B hj=>?_,λj B hj=>(by cases hj),λj B hj=>(by cases hj),λb hb=>?_⟩
  .rw[h3.2]
   rcases ec j B hj with⟨rfl,_⟩|⟨_,n2⟩
   .omega
   .have:=hh.lt j B n2;omega
  .rcases ec j B hj with⟨rfl,rfl⟩|⟨n1,n2⟩
   .exact absurd hs no
   .rw[r8 _ _ n1]at hs ⊢;exact hh.lo j B n2 hs
  .rcases ec j B hj with⟨rfl,rfl⟩|⟨n1,n2⟩
   .exact absurd hs no
   .rw[r8 _ _ n1]at hs ⊢;exact hh.hi j B n2 hs
  .rcases ec j B hj with⟨rfl,rfl⟩|⟨n1,n2⟩
   .exact absurd hs no
   .rw[r8 _ _ n1]at hs ⊢;exact hh.nh j B n2 hs
  .rcases ec j B hj with⟨rfl,rfl⟩|⟨n1,n2⟩
   .exact absurd hs no
   .rcases ec j' B' rI with⟨rfl,rfl⟩|⟨vI,xV⟩
    .exact absurd bj no
    .rw[r8 _ _ vI]at bj he;rw[r8 _ _ n1]at hs he
     exact hh.inj j j' B B' n2 xV hs bj he
  .rcases ec j B hj with⟨rfl,rfl⟩|⟨n1,n2⟩
   .rw[s9];exact⟨rfl,bA _,λh0=>absurd h0 (gZ _)⟩
   .rw[r8 _ _ n1]
    exact fN.mono e B (λ_=>rfl) (hh.box j B n2)
  .rcases hh.ro b hb with hb|⟨g1,g2,g3,g4⟩
   .exact .inl hb
   .refine .inr ⟨g1,g2,λj B hj hs=>?_,g4⟩
    rcases ec j B hj with⟨rfl,rfl⟩|⟨n1,n2⟩
    .exact absurd hs no
    .rw[r8 _ _ n1]at hs ⊢;exact g3 j B n2 hs
 obtain⟨g4,g5⟩:=hand.finish hm hc;exact⟨_,g4,g5,by rw[h3.2];omega,a,by rw[s9],by rw[s9];exact λh0=>absurd h0 (gZ _)⟩
end
def Kg(t:Ty)(l:List t.T)(v:SV)(mc:Mem):Prop:=
 (∃id,v=.row id/\mc.get id=some (.rows t l))\/(l=[] /\(v=.cm\/(∃id off,v=.arr id off 0)))
variable{P:Program}{E:Env}{f:FuncId}{args:List SV}{m m':Mem}
def Zg(hK:cV P E){n:Nat}{p:ax}{t:Ty}{l:List t.T}(hd:f7 args=true)(h:(lY E n f args p).holds λx=>Kg t l x.1 x.2)(hp:mU m (.rows t l) m'):je P m (.row m.next) m' f args:=by
 intro w0 R0 I w vs hm bR;unfold lY at h
 split at h
 .rename_i fn jG
  have hf:=hK.e.fn f fn jG
  split at h
  .rename_i body hb
   split at h
   .rename_i hn
    obtain⟨fr,h1,h2,h3,h4⟩:=qz h;obtain⟨out,h5,h6⟩:=su hK.e hK.s hK.aL n _ _ _ _ _ _ h1
    cases out with
    |stop it aD m'=>cases h5
    |cE v aD m'=>cases h5
    |ret p' aD mc=>
     dsimp only at h5;obtain⟨v',h7,h8⟩:=qE hK.e h5;have h7:Kg t l v' mc:=h7;rw[nS hf hb hn];obtain⟨o1,o2⟩:=xh hm I;have cn:=pV h2 h3 h4 (j8.data (R':=RO w (RS w0 R0 I w m) I w ⟨0,.e⟩) (I':=I) (n':=0) o2 args vs hd bR)
     refine Calls.mono (ve hf hb h6 h8 o1 cn) λe w' ⟨u,he,I',g1,g2,g3⟩=>⟨u,he,?_⟩
     rcases h7 with⟨id,rfl,hg⟩|⟨rfl,rfl|⟨id,off,rfl⟩⟩
     .exact qM6 hm g1 hg hp g3
     .rw[show u=_ from g3];exact qM5 hm g1 hp
     .obtain⟨_,hu⟩:=g3
      rw[hu];exact qM5 hm g1 hp
   .exact h.elim
  .exact h.elim
 .exact h.elim
noncomputable def zk(t:Ty)(l:List t.T):Mem:=⟨1,.n .e (some (.rows t l)) .e⟩
def Zd{t:Ty}{l:List t.T}(h:∀m m',mU m (.rows t l) m'->je P m (.row m.next) m' f args):yQ P f args (.row 0,zk t l):=by
 intro m v' m' ha
 change ((zk t l).set 0 none λmc=>m.push (.rows t l) λm id=>ak.ai (SV.row id,m)).holds _ at ha
 obtain⟨gp,h1,h2⟩:=Mem.iN ha;obtain⟨m1,h3,h4⟩:=Mem.nB h2;injection h4 with e1 e2;subst e1 e2;exact h m m1 h3
noncomputable def CX(x:SV×Mem):SV:=match x.1 with
 |.row id=>match x.2.get id with
  |some (.rows t l)=>.list t l
  |_=>.undef
 |.cm=>.cm
 |.arr _ _ n=>match n with
  |0=>.cm
  |_+1=>.undef
 |_=>.undef
noncomputable def ak.sR:ak (SV×Mem)->ak SV
 |.ai x=>.ai (CX x)
 |.ag b t f=>.ag b t.sR f.sR
 |.aj b t=>.aj b t.sR
 |.aA n=>.aA n
def y33{t:Ty}{l:List t.T}{x:SV×Mem}(h:CX x=.list t l):Kg t l x.1 x.2:=by
 unfold CX at h
 split at h
 .rename_i id hx
  split at h
  .rename_i t' l' hg
   injection h with h1 h2;subst h1;have h2:=eq_of_heq h2;subst h2;exact .inl ⟨id,hx,hg⟩
  .cases h
 .cases h
 .split at h<;>cases h
 .cases h
def y32{t:Ty}{x:SV×Mem}(h:CX x=.cm):Kg t [] x.1 x.2:=by
 unfold CX at h
 split at h;.split at h<;>cases h
 .rename_i hx;exact .inr ⟨rfl,.inl hx⟩
 .rename_i id off n hx
  split at h;.exact .inr ⟨rfl,.inr ⟨id,off,hx⟩⟩
  .cases h
 .cases h
theorem ak.GK{L:SV->Prop}:∀t:ak (SV×Mem),t.sR.holds L->t.holds λx=>L (CX x)
 |.ai _,h=>h
 |.ag _ t f,h=>⟨λhb=>GK t (h.1 hb),λhb=>GK f (h.2 hb)⟩
 |.aj _ t,h=>⟨h.1,GK t h.2⟩
 |.aA _,h=>h.elim
def Zf(hK:cV P E)(n:Nat)(p:ax){t:Ty}{l:List t.T}{T:ak SV}(hT:(lY E n f args p).sR=T)(h:T.holds λv=>v=.list t l)(hd:f7 args=true)(hp:mU m (.rows t l) m'):je P m (.row m.next) m' f args:=
 Zg hK (n:=n) (p:=p) hd (ak.BL (λx hx=>y33 hx) _ (ak.GK _ (by rw[hT];exact h))) hp
def Kf(hK:cV P E)(n:Nat)(p:ax){t:Ty}{T:ak SV}(hT:(lY E n f args p).sR=T)(h:T.holds λv=>v=.cm)(hd:f7 args=true)(hp:mU m (.rows t []) m'):je P m (.row m.next) m' f args:=
 Zg hK (n:=n) (p:=p) (l:=([] :List t.T)) hd (ak.BL (λx hx=>y32 hx) _ (ak.GK _ (by rw[hT];exact h))) hp
end Go.Sx
namespace Go.Proofs.YtnkaepnblikcdaaGreat
open Go.Sx
variable{P:Program}
def WD{f:FuncId}{t:Ty}(hn:∀cap,SCall P f [.dO (.slice none 0 cap)] (.list t []))(hs:∀a cap,SCall P f [.dO (.slice (some a) 0 cap)] (.list t []))(l:List t.T)
  (hc:∀b r,l=b::r->SCall P f [.list t (b::r)] (.list t (b::r))):SCall P f [.list t l] (.list t l):=by
 cases l with
 |cons b r=>exact hc b r rfl
 |nil=>
  intro m w0 R0 I w vs hm bR;obtain⟨u,us,rfl,h1,h2⟩:=bR;rw[show us=[]from h2];obtain⟨a,cap,gq,_,_⟩:=h1;cases gq
  cases a with
  |none=>exact hn cap m w0 R0 I w [_] hm ⟨_,[],rfl,rfl,rfl⟩
  |some a=>exact hs a cap m w0 R0 I w [_] hm ⟨_,[],rfl,rfl,rfl⟩
def XL{f:FuncId}{t:Ty}{v:SV}(h:SCall P f [.list t []] v):SCall P f [.cm] v:=by
 intro m w0 R0 I w vs hm bR;obtain⟨u,us,rfl,h1,h2⟩:=bR;refine h m w0 R0 I w _ hm ⟨u,us,rfl,?_,h2⟩;exact⟨none,0,by rw[show u=_ from h1];rfl,bA _,λh=>absurd h (gZ _)⟩
def jk(n:Nat):Bool:=decide ((n:Int)<=100000)
def xT{n:Nat}:jk n=true↔n<=100000:=by simp only[jk,aV];omega
def xC5(l:List Bk)(h:jk l.length=true):SCall pP 175 [LB l] (LB l):=by
 have h:=xT.1 h;refine WD (t:=w9) (λcap=>?_) (λa cap=>?_) l (λb r hl=>?_)
 .refine s8 rfl rfl (by kernel_rfl) (o6 k0 (n:=1000) (hint:=w9) (keep:=x6 8 []) (p:=I7) (boxes:=[]) rfl ?_)
  have e:=zI6 cap;unfold v6 v7 at e;erw [e];exact⟨rfl,rfl⟩
 .refine s8 rfl rfl (by kernel_rfl) (o6 k0 (n:=1000) (hint:=w9) (keep:=x6 8 []) (p:=I6) (boxes:=[]) rfl ?_)
  have e:=zI8 a cap;unfold v6 v7 at e;erw [e];exact⟨rfl,rfl⟩
 .subst hl
  refine s8 rfl rfl (by kernel_rfl) (o6 k0 (n:=1000) (hint:=w9) (keep:=x6 8 []) (p:=I8) (boxes:=[]) rfl ?_);have e:=zI4 b r;unfold v6 v7 at e;erw [e];refine⟨rfl,?_,rfl⟩;rw[aV];have h:(List.length (α:=Ty.T w9) (b::r):Nat)<=100000:=h;omega
def xC6(l:List Int)(h:jk l.length=true):SCall pP 176 [LI l] (LI l):=by
 have h:=xT.1 h;refine WD (t:=.int .i64) (λcap=>?_) (λa cap=>?_) l (λb r hl=>?_)
 .refine s8 rfl rfl (by kernel_rfl) (o6 k0 (n:=1000) (hint:=.int .i64) (keep:=x6 8 []) (p:=I4) (boxes:=[]) rfl ?_)
  have e:=zJ2 cap;unfold v6 v7 at e;erw [e];exact⟨rfl,rfl⟩
 .refine s8 rfl rfl (by kernel_rfl) (o6 k0 (n:=1000) (hint:=.int .i64) (keep:=x6 8 []) (p:=I3) (boxes:=[]) rfl ?_)
  have e:=zJ4 a cap;unfold v6 v7 at e;erw [e];exact⟨rfl,rfl⟩
 .subst hl
  refine s8 rfl rfl (by kernel_rfl) (o6 k0 (n:=1000) (hint:=.int .i64) (keep:=x6 8 []) (p:=I5) (boxes:=[]) rfl ?_);have e:=zJ0 b r;unfold v6 v7 at e;erw [e];refine⟨rfl,?_,rfl⟩;rw[aV];have h:(List.length (α:=Ty.T (.int .i64)) (b::r):Nat)<=100000:=h;omega
def Jn:aB:=⟨175,λargs=>match args with
 |[.list (.pair (.pair (.int .i64) (.pair (.int .i64) (.pair (.int .i64) (.int .i64)))) (.pair (.int .i64) (.pair (.int .i64) (.pair (.int .i64) (.int .i64))))) l] =>some (.aj (jk (List.length l)) (.ai (LB l)))
 |[.cm] =>some (.ai (LB []))
 |_=>none⟩
def Jm:aB:=⟨176,λargs=>match args with
 |[.list (.int .i64) l] =>some (.aj (jk (List.length l)) (.ai (LI l)))
 |[.cm] =>some (.ai (LI []))
 |_=>none⟩
def yv1:Jn.ok pP:=λargs t ht=>by
 simp only[Jn]at ht
 split at ht;.cases ht;exact xC5 _
 .cases ht
  exact XL (t:=w9) (xC5 [] rfl)
 .cases ht
def yv2:Jm.ok pP:=λargs t ht=>by
 simp only[Jm]at ht
 split at ht;.cases ht;exact xC6 _
 .cases ht
  exact XL (t:=.int .i64) (xC6 [] rfl)
 .cases ht
def Zh{f:FuncId}{t:Ty}(hn:∀cap m m',mU m (.rows t []) m'->je P m (.row m.next) m' f [.dO (.slice none 0 cap)])(hs:∀a cap m m',mU m (.rows t []) m'->je P m (.row m.next) m' f [.dO (.slice (some a) 0 cap)])(l:List t.T)
  (hc:∀b r,l=b::r->∀m m',mU m (.rows t (b::r)) m'->je P m (.row m.next) m' f [.list t (b::r)]) {m m':Mem} (hp:mU m (.rows t l) m'):je P m (.row m.next) m' f [.list t l] :=by
 cases l with
 |cons b r=>exact hc b r rfl m m' hp
 |nil=>
  intro w0 R0 I w vs hm bR;obtain⟨u,us,rfl,h1,h2⟩:=bR;rw[show us=[]from h2];obtain⟨a,cap,gq,_,_⟩:=h1;cases gq
  cases a with
  |none=>exact hn cap m m' hp w0 R0 I w [_] hm ⟨_,[],rfl,rfl,rfl⟩
  |some a=>exact hs a cap m m' hp w0 R0 I w [_] hm ⟨_,[],rfl,rfl,rfl⟩
def yr0(cap:Nat):(lY (Env.of pP (j9 [])) 1000 175 [.dO (.slice none 0 cap)] I7).sR=rT (.ai .cm):=by kernel_rfl
def yr1(a:Addr)(cap:Nat):(lY (Env.of pP (j9 [])) 1000 175 [.dO (.slice (some a) 0 cap)] I6).sR=rT (.ai .cm):=by kernel_rfl
def yq9(b:Bk)(l:List Bk):(lY (Env.of pP (j9 [])) 1000 175 [.list w9 (b::l)] I8).sR=.aj (!(b::l).isEmpty) (.aj ((0+(b::l).length)*64<=140737488355328) (.ai (.list w9 (b::l)))):=by kernel_rfl
def yr3(cap:Nat):(lY (Env.of pP (j9 [])) 1000 176 [.dO (.slice none 0 cap)] I4).sR=rT (.ai .cm):=by kernel_rfl
def yr4(a:Addr)(cap:Nat):(lY (Env.of pP (j9 [])) 1000 176 [.dO (.slice (some a) 0 cap)] I3).sR=rT (.ai .cm):=by kernel_rfl
def yr2(b:Int)(l:List Int):(lY (Env.of pP (j9 [])) 1000 176 [.list (.int .i64) (b::l)] I5).sR=.aj (!(b::l).isEmpty) (.aj ((0+(b::l).length)*8<=140737488355328) (.ai (.list (.int .i64) (b::l)))):=by kernel_rfl
def Zj(l:List Bk)(h:jk l.length=true):yQ pP 175 [LB l] (.row 0,zk w9 l):=
 Zd (t:=w9) λm m' hp=>Zh (t:=w9) (λcap m m' hp=>Kf k0 1000 I7 (yr0 cap) ⟨rfl,rfl⟩ rfl hp) (λa cap m m' hp=>Kf k0 1000 I6 (yr1 a cap) ⟨rfl,rfl⟩ rfl hp) l (λb r e m m' hp=>Zf (t:=w9) k0 1000 I8 (yq9 b r) ⟨rfl,by
  have h:=xT.1 h;rw[e]at h;rw[aV];have h:(List.length (α:=Ty.T w9) (b::r):Nat)<=100000:=h
  omega,rfl⟩ rfl hp) hp
def Zi(l:List Int)(h:jk l.length=true):yQ pP 176 [LI l] (.row 0,zk (.int .i64) l):=
 Zd (t:=.int .i64) λm m' hp=>Zh (t:=.int .i64) (λcap m m' hp=>Kf k0 1000 I4 (yr3 cap) ⟨rfl,rfl⟩ rfl hp) (λa cap m m' hp=>Kf k0 1000 I3 (yr4 a cap) ⟨rfl,rfl⟩ rfl hp) l (λb r e m m' hp=>Zf (t:=.int .i64) k0 1000 I5 (yr2 b r) ⟨rfl,by
  have h:=xT.1 h;rw[e]at h;rw[aV];have h:(List.length (α:=Ty.T (.int .i64)) (b::r):Nat)<=100000:=h
  omega,rfl⟩ rfl hp) hp
def Ze{f:FuncId}{t:Ty}{x:SV×Mem}(h:yQ P f [.list t []] x):yQ P f [.cm] x:=by
 intro m v' m' ha w0 R0 I w vs hm bR;obtain⟨u,us,rfl,h1,h2⟩:=bR;refine h m v' m' ha w0 R0 I w _ hm ⟨u,us,rfl,?_,h2⟩;exact⟨none,0,by rw[show u=_ from h1];rfl,bA _,λh=>absurd h (gZ _)⟩
noncomputable def CM:Az:=⟨175,λargs=>match args with
 |[.list (.pair (.pair (.int .i64) (.pair (.int .i64) (.pair (.int .i64) (.int .i64)))) (.pair (.int .i64) (.pair (.int .i64) (.pair (.int .i64) (.int .i64))))) l] =>some (.aj (jk (List.length l)) (.ai (.row 0,zk w9 l)))
 |[.cm] =>some (.ai (.row 0,zk w9 []))
 |_=>none⟩
noncomputable def CL:Az:=⟨176,λargs=>match args with
 |[.list (.int .i64) l] =>some (.aj (jk (List.length l)) (.ai (.row 0,zk (.int .i64) l)))
 |[.cm] =>some (.ai (.row 0,zk (.int .i64) []))
 |_=>none⟩
def yE9:CM.ok pP:=λargs t ht=>by
 simp only[CM]at ht
 split at ht;.cases ht;exact Zj _
 .cases ht;exact Ze (t:=w9) (Zj [] rfl)
 .cases ht
def yF0:CL.ok pP:=λargs t ht=>by
 simp only[CL]at ht
 split at ht;.cases ht;exact Zi _
 .cases ht;exact Ze (t:=.int .i64) (Zi [] rfl)
 .cases ht
def mE:List UInt8:=[0,1,2,2,3,3,3,3,4,4,4,4,4,4,4,4,5,5,5,5,5,5,5,5,5,5,5,5,5,5,5,5,6,6,6,6,6,6,6,6,6,6,6,6,6,6,6,6,6,6,6,6,6,6,6,6,6,6,6,6,6,6,6,6,7,7,7,7,7,7,7,7,7,7,7,7,7,7,7,7,7,7,7,7,7,7,7,7,7,7,7,7,7,7,7,7,7,7,7,7,7,7,7,7,7,7,7,7,7,7,7,7,7,7,7,7,7,7,7,7,7,7,7,7,7,7,7,7,8,8,8,8,8,8,8,8,8,8,8,8,8,8,8,8,8,8,8,8,8,8,8,8,8,8,8,8,8,8,8,8,8,8,8,8,8,8,8,8,8,8,8,8,8,8,8,8,8,8,8,8,8,8,8,8,8,8,8,8,8,8,8,8,8,8,8,8,8,8,8,8,8,8,8,8,8,8,8,8,8,8,8,8,8,8,8,8,8,8,8,8,8,8,8,8,8,8,8,8,8,8,8,8,8,8,8,8,8,8,8,8,8,8,8,8,8,8,8,8,8,8,8,8,8,8,8,8]
def bk(n:Int):SV:=.int .u64 n
def oN(x:Int):Int:=(mE.getD x.toNat 0).toNat
def rB(x:Int):Int:=
 if x>=4294967296 then
  if x / 4294967296>=65536 then
   if x / 4294967296 / 65536>=256 then 56+oN (x / 4294967296 / 65536 / 256)else 48+oN (x / 4294967296 / 65536)
  else if x / 4294967296>=256 then 40+oN (x / 4294967296 / 256)else 32+oN (x / 4294967296)
 else if x>=65536 then
  if x / 65536>=256 then 24+oN (x / 65536 / 256)else 16+oN (x / 65536)
 else if x>=256 then 8+oN (x / 256)else oN x
def ew(x:Int):Bool:=az x 0 18446744073709551615
def KJ(f:FuncId)(h:Int->ak SV):aB:=⟨f,λargs=>match args with
 |[.int .u64 a] =>some (h a)
 |_=>none⟩
def qx5{f:FuncId}{h:Int->ak SV}(k:∀a,(h a).bw (SCall P f [bk a])):(KJ f h).ok P:=λargs t ht=>by
 simp only[KJ]at ht
 split at ht<;>cases ht;exact k _
def KI(f:FuncId)(h:Int->Int->ak SV):aB:=⟨f,λargs=>match args with
 |[.int .u64 a,.int .u64 b] =>some (h a b)
 |_=>none⟩
def qx4{f:FuncId}{h:Int->Int->ak SV}(k:∀a b,(h a b).bw (SCall P f [bk a,bk b])):(KI f h).ok P:=λargs t ht=>by
 simp only[KI]at ht
 split at ht<;>cases ht;exact k _ _
def KH(f:FuncId)(h:Int->Int->Int->ak SV):aB:=⟨f,λargs=>match args with
 |[.int .u64 a,.int .u64 b,.int .u64 c] =>some (h a b c)
 |_=>none⟩
def qx3{f:FuncId}{h:Int->Int->Int->ak SV}(k:∀a b c,(h a b c).bw (SCall P f [bk a,bk b,bk c])):(KH f h).ok P:=λargs t ht=>by
 simp only[KH]at ht
 split at ht<;>cases ht;exact k _ _ _
def q55:((List.range 256).all λk=>Nat.ble (mE.getD k 0).toNat 8&& (Nat.beq k 0||(Nat.ble (2 ^ ((mE.getD k 0).toNat-1)) k&& (Nat.blt k (2 ^ (mE.getD k 0).toNat)&&Nat.ble 1 (mE.getD k 0).toNat))))=true:=by kernel_rfl
variable{x:Int}
def q58(h0:1<=x)(h1:x<256):∃t:Nat,oN x=t/\1<=t/\t<=8/\(2:Int) ^ (t-1)<=x/\x<2 ^ t:=by
 have h:=nM.1 q55 x.toNat (aij.2 (by omega));simp only[aH,ia,UQ,Nat.beq_eq_true_eq,UP]at h;obtain⟨h2,h3⟩:=h;rcases h3 with h3|⟨h3,h4,h5⟩
 .have:=gQ h3;omega
 .refine⟨_,rfl,h5,h2,?_,?_⟩
  .have:((2 ^ ((mE.getD x.toNat 0).toNat-1):Nat):Int)<=(x.toNat:Int):=Int.ofNat_le.2 h3
   rw[Int.toNat_of_nonneg (by omega)]at this
   simpa using this
  .have:((x.toNat:Nat):Int)< ((2 ^ ((mE.getD x.toNat 0).toNat):Nat):Int):=Int.ofNat_lt.2 h4
   rw[Int.toNat_of_nonneg (by omega)]at this
   simpa using this
def q70{e t:Nat}(ht:1<=t)(h1:(2:Int) ^ (t-1)<=x / 2 ^ e)(h2:x / 2 ^ e<2 ^ t):(2:Int) ^ (e+t-1)<=x/\x<2 ^ (e+t):=by
 have hp:(0:Int)<2 ^ e:=zw e;constructor
 .rw[Int.le_ediv_iff_mul_le hp]at h1
  rw[show e+t-1=(t-1)+e by omega,Int.pow_add];exact h1
 .rw[Int.ediv_lt_iff_lt_mul hp]at h2
  rw[show e+t=t+e by omega,Int.pow_add];exact h2
def q69(h0:1<=x)(h1:x<18446744073709551616):∃n:Nat,rB x=n/\1<=n/\n<=64/\(2:Int) ^ (n-1)<=x/\x<2 ^ n:=by
 have go:∀ (e:Nat) (k:Int),e<=56->k=x / 2 ^ e->1<=k->k<256->∃n:Nat,(e:Int)+oN k=n/\1<=n/\n<=64/\(2:Int) ^ (n-1)<=x/\x<2 ^ n:=λe k he hk k1 k2=>by
  obtain⟨t,e1,e2,e3,e4,e5⟩:=q58 k1 k2;rw[hk]at e4 e5;obtain⟨u1,u2⟩:=q70 e2 e4 e5;exact⟨e+t,by rw[e1];simp,by omega,by omega,u1,u2⟩
 unfold rB
 (repeat' split)
 .exact go 56 _ (by omega) (by rw[show(2:Int) ^ 56=72057594037927936 by decide];omega) (by omega) (by omega)
 .exact go 48 _ (by omega) (by rw[show(2:Int) ^ 48=281474976710656 by decide];omega) (by omega) (by omega)
 .exact go 40 _ (by omega) (by rw[show(2:Int) ^ 40=1099511627776 by decide];omega) (by omega) (by omega)
 .exact go 32 _ (by omega) (by rw[show(2:Int) ^ 32=4294967296 by decide]) (by omega) (by omega)
 .exact go 24 _ (by omega) (by rw[show(2:Int) ^ 24=16777216 by decide];omega) (by omega) (by omega)
 .exact go 16 _ (by omega) (by rw[show(2:Int) ^ 16=65536 by decide]) (by omega) (by omega)
 .exact go 8 _ (by omega) (by rw[show(2:Int) ^ 8=256 by decide]) (by omega) (by omega)
 .have:=go 0 x (by omega) (by simp) (by omega) (by omega)
  simpa using this
def nA(x:Int):0<=oN x/\oN x<=255:=by unfold oN;have:=(mE.getD x.toNat 0).toNat_lt;omega
def w8(h0:0<=x)(h1:x<256):u8.wrap x=x:=by
 have h2:IntKind.wrap .u8 x=if false&&x % 256>=128 then x % 256-256 else x % 256:=rfl
 rw[h2];simp only[Il,eY,iD];omega
def wU(x:Int):u64.wrap x=x % 18446744073709551616:=by
 have h2:IntKind.wrap .u64 x=if false&&x % 18446744073709551616>=9223372036854775808 then x % 18446744073709551616-18446744073709551616 else x % 18446744073709551616:=rfl
 rw[h2];simp only[Il,eY,iD]
def AM(h0:0<=x)(h1:x<18446744073709551616):(((BitVec.ofInt 64 x &&&BitVec.ofInt 64 4294967295).toNat:Nat):Int)=x % 4294967296:=by
 obtain⟨m,rfl⟩:=ox h0
 have e1:(BitVec.ofInt 64 (m:Int)).toNat=m:=by
  rw[Io];have:((2 ^ 64:Nat):Int)=18446744073709551616:=rfl;rw[this];omega
 have e2:(BitVec.ofInt 64 4294967295).toNat=2 ^ 32-1:=by decide
 rw[aiy,e1,e2,Nat.and_two_pow_sub_one_eq_mod];omega
def xL2(x:Int)(h:ew x=true):SCall pP 318 [bk x] (J (rB x)):=
 aY aL [] trivial 1000 (.ah (.ah (.ah (.all) (.all)) (.ah (.all) (.all))) (.ah (.ah (.all) (.all)) (.ah (.all) (.all))))
  (t:=let y0:=x.fdiv 4294967296;let y1:=y0.fdiv 65536;let y2:=x.fdiv 65536;.ag (x>=4294967296) (rT (.ag (x.fdiv 4294967296>=65536) (rT (.ag (y0.fdiv 65536>=256) (rT (.aj (0<=u8.wrap (y1.fdiv 256)&&u8.wrap (y1.fdiv 256)<256) (.ai (.int .i64 (i64.wrap (56+i64.wrap (↑(mE.getD (u8.wrap (y1.fdiv 256)).toNat 0).toNat:Int))))))) (.aj (0<=u8.wrap y1&&u8.wrap y1<256) (.ai (.int .i64 (i64.wrap (48+i64.wrap (↑(mE.getD (u8.wrap y1).toNat 0).toNat:Int)))))))) (.ag (x.fdiv 4294967296>=256) (rT (.aj (0<=u8.wrap (y0.fdiv 256)&&u8.wrap (y0.fdiv 256)<256) (.ai (.int .i64 (i64.wrap (40+i64.wrap (↑(mE.getD (u8.wrap (y0.fdiv 256)).toNat 0).toNat:Int))))))) (.aj (0<=u8.wrap y0&&u8.wrap y0<256) (.ai (.int .i64 (i64.wrap (32+i64.wrap (↑(mE.getD (u8.wrap y0).toNat 0).toNat:Int))))))))) (.ag (x>=65536) (rT (.ag (x.fdiv 65536>=256) (rT (.aj (0<=u8.wrap (y2.fdiv 256)&&u8.wrap (y2.fdiv 256)<256) (.ai (.int .i64 (i64.wrap (24+i64.wrap (↑(mE.getD (u8.wrap (y2.fdiv 256)).toNat 0).toNat:Int))))))) (.aj (0<=u8.wrap y2&&u8.wrap y2<256) (.ai (.int .i64 (i64.wrap (16+i64.wrap (↑(mE.getD (u8.wrap y2).toNat 0).toNat:Int)))))))) (.ag (x>=256) (rT (.aj (0<=u8.wrap (x.fdiv 256)&&u8.wrap (x.fdiv 256)<256) (.ai (.int .i64 (i64.wrap (8+i64.wrap (↑(mE.getD (u8.wrap (x.fdiv 256)).toNat 0).toNat:Int))))))) (.aj (0<=u8.wrap x&&u8.wrap x<256) (.ai (.int .i64 (i64.wrap (0+i64.wrap (↑(mE.getD (u8.wrap x).toNat 0).toNat:Int)))))))))
  (by kernel_rfl) (by
   have r:=v5.1 h
   have f1:∀y:Int,y.fdiv 4294967296=y / 4294967296:=λy=>uP _ (by omega)
   have f2:∀y:Int,y.fdiv 65536=y / 65536:=λy=>uP _ (by omega)
   have f3:∀y:Int,y.fdiv 256=y / 256:=λy=>uP _ (by omega)
   simp only[f1,f2,f3]
   have g:∀k:Int,0<=k->k<256->i64.wrap (((mE.getD (u8.wrap k).toNat 0).toNat:Nat):Int)=oN k:=λk h0 h1=>by
    have:=nA k;rw[w8 h0 h1];exact aG (by have:((mE.getD k.toNat 0).toNat:Int)=oN k:=rfl;omega) (by have:((mE.getD k.toNat 0).toNat:Int)=oN k:=rfl;omega)
   simp only[ak.holds,sM];(repeat' (first|apply aX|intro _));
   all_goals first
    |(rw[w8 (by omega) (by omega)];omega)
    |(rw[g _ (by omega) (by omega)]
      refine mJ ?_;have:=nA;unfold rB
      repeat first|rw[ay (by omega)] |rw[au (by omega)]
      first
      |(rw[aG (by have:=nA (x / 4294967296 / 65536 / 256);omega) (by have:=nA (x / 4294967296 / 65536 / 256);omega)])
      |(rw[aG (by have:=nA (x / 4294967296 / 65536);omega) (by have:=nA (x / 4294967296 / 65536);omega)])
      |(rw[aG (by have:=nA (x / 4294967296 / 256);omega) (by have:=nA (x / 4294967296 / 256);omega)])
      |(rw[aG (by have:=nA (x / 4294967296);omega) (by have:=nA (x / 4294967296);omega)])
      |(rw[aG (by have:=nA (x / 65536 / 256);omega) (by have:=nA (x / 65536 / 256);omega)])
      |(rw[aG (by have:=nA (x / 65536);omega) (by have:=nA (x / 65536);omega)])
      |(rw[aG (by have:=nA (x / 256);omega) (by have:=nA (x / 256);omega)])
      |(rw[aG (by have:=nA x;omega) (by have:=nA x;omega)];omega))) (by kernel_rfl)
def qc7:aB:=KJ 318 λx=>.aj (ew x) (.ai (J (rB x)))
def yB9:qc7.ok pP:=qx5 λx h=>xL2 x h
def Kv(x y:Int):SV:=.tuple [bk (x*y / 18446744073709551616),bk (x*y % 18446744073709551616)]
variable{a b:Int}
def Za{c d:Int}(h:a=c)(k:b=d):SV.tuple [SV.int .u64 a,SV.int .u64 b] =SV.tuple [bk c,bk d] :=by subst h k;rfl
def xO8(x y:Int)(hx:ew x=true)(hy:ew y=true):SCall pP 331 [bk x,bk y] (Kv x y):=
 aY aL [] trivial 1000 (.all)
  (t:=let y1:=(↑(BitVec.ofInt 64 x &&&BitVec.ofInt 64 4294967295).toNat:Int);let y2:=(↑(BitVec.ofInt 64 y &&&BitVec.ofInt 64 4294967295).toNat:Int);let y0:=u64.wrap (u64.wrap (x.fdiv 4294967296*u64.wrap y2)+(u64.wrap (u64.wrap y1*u64.wrap y2)).fdiv 4294967296);rT (rT (rT (rT (rT (lT [.int .u64 (u64.wrap (u64.wrap (u64.wrap (x.fdiv 4294967296*y.fdiv 4294967296)+y0.fdiv 4294967296)+(u64.wrap (u64.wrap (↑(BitVec.ofInt 64 y0 &&&BitVec.ofInt 64 4294967295).toNat:Int)+u64.wrap (u64.wrap y1*y.fdiv 4294967296))).fdiv 4294967296)),.int .u64 (u64.wrap (x*y))]))))))
  (by kernel_rfl) (by
   have rx:=v5.1 hx;have ry:=v5.1 hy;obtain⟨X,rfl⟩:=ox rx.1;obtain⟨Y,rfl⟩:=ox ry.1
   have f1:∀y:Int,y.fdiv 4294967296=y / 4294967296:=λy=>uP _ (by omega)
   simp only[ak.holds,f1,AM rx.1 (by omega),AM ry.1 (by omega),dV];obtain⟨k1,k2,k3,k4⟩:=Go.Lib.mul64_hi X Y (by omega) (by omega)
   have wN:∀n:Nat,n<18446744073709551616->u64.wrap (n:Int)=(n:Int):=λn hn=>by rw[wU];omega
   have c1:(X:Int) % 4294967296=((X % 4294967296:Nat):Int):=by omega
   have c2:(Y:Int) % 4294967296=((Y % 4294967296:Nat):Int):=by omega
   have c3:(X:Int) / 4294967296=((X / 4294967296:Nat):Int):=by omega
   have c4:(Y:Int) / 4294967296=((Y / 4294967296:Nat):Int):=by omega
   have q1:=wj (show X / 4294967296<=4294967295 by omega) (show Y % 4294967296<=4294967295 by omega);have q2:=wj (show X % 4294967296<=4294967295 by omega) (show Y / 4294967296<=4294967295 by omega);have q3:=wj (show X / 4294967296<=4294967295 by omega) (show Y / 4294967296<=4294967295 by omega);have q4:=wj (show X % 4294967296<=4294967295 by omega) (show Y % 4294967296<=4294967295 by omega);simp only[c1,c2,c3,c4,<-AE,wN _ (show X % 4294967296<18446744073709551616 by omega),wN _ (show Y % 4294967296<18446744073709551616 by omega)]
   generalize ha:X / 4294967296*(Y % 4294967296)=a at *
   generalize hb:X % 4294967296*(Y / 4294967296)=b at *
   generalize hc:X / 4294967296*(Y / 4294967296)=c at *
   generalize hd:X % 4294967296*(Y % 4294967296)=d at *
   simp only[wN a (by omega),wN b (by omega),wN c (by omega),wN d (by omega)]
   have c5:((d:Nat):Int) / 4294967296=((d / 4294967296:Nat):Int):=by omega
   simp only[c5,<-Int.natCast_add];have ea:=wN (a+d / 4294967296) (by omega);simp only[ea];have c6:=AM (x:=((a+d / 4294967296:Nat):Int)) (by omega) (by omega);simp only[c6];refine Za ?_ ?_;.simp only[wU];omega
   .rw[wU];omega) (by kernel_rfl)
def xO9(x y:Int)(hx:ew x=true)(hy:ew y=true):SCall pP 247 [bk x,bk y] (Kv x y):=
 aY aL [] trivial 1000 (.all)
  (t:=let y1:=(↑(BitVec.ofInt 64 x &&&BitVec.ofInt 64 4294967295).toNat:Int);let y2:=(↑(BitVec.ofInt 64 y &&&BitVec.ofInt 64 4294967295).toNat:Int);let y0:=u64.wrap (u64.wrap (x.fdiv 4294967296*u64.wrap y2)+(u64.wrap (u64.wrap y1*u64.wrap y2)).fdiv 4294967296);rT (rT (rT (rT (rT (lT [.int .u64 (u64.wrap (u64.wrap (u64.wrap (x.fdiv 4294967296*y.fdiv 4294967296)+y0.fdiv 4294967296)+(u64.wrap (u64.wrap (u64.wrap y1*y.fdiv 4294967296)+u64.wrap (↑(BitVec.ofInt 64 y0 &&&BitVec.ofInt 64 4294967295).toNat:Int))).fdiv 4294967296)),.int .u64 (u64.wrap (x*y))]))))))
  (by kernel_rfl) (by
   have rx:=v5.1 hx;have ry:=v5.1 hy;obtain⟨X,rfl⟩:=ox rx.1;obtain⟨Y,rfl⟩:=ox ry.1
   have f1:∀y:Int,y.fdiv 4294967296=y / 4294967296:=λy=>uP _ (by omega)
   simp only[ak.holds,f1,AM rx.1 (by omega),AM ry.1 (by omega),dV];obtain⟨k1,k2,k3,k4⟩:=Go.Lib.mul64_hi X Y (by omega) (by omega)
   have wN:∀n:Nat,n<18446744073709551616->u64.wrap (n:Int)=(n:Int):=λn hn=>by rw[wU];omega
   have c1:(X:Int) % 4294967296=((X % 4294967296:Nat):Int):=by omega
   have c2:(Y:Int) % 4294967296=((Y % 4294967296:Nat):Int):=by omega
   have c3:(X:Int) / 4294967296=((X / 4294967296:Nat):Int):=by omega
   have c4:(Y:Int) / 4294967296=((Y / 4294967296:Nat):Int):=by omega
   have q1:=wj (show X / 4294967296<=4294967295 by omega) (show Y % 4294967296<=4294967295 by omega);have q2:=wj (show X % 4294967296<=4294967295 by omega) (show Y / 4294967296<=4294967295 by omega);have q3:=wj (show X / 4294967296<=4294967295 by omega) (show Y / 4294967296<=4294967295 by omega);have q4:=wj (show X % 4294967296<=4294967295 by omega) (show Y % 4294967296<=4294967295 by omega);simp only[c1,c2,c3,c4,<-AE,wN _ (show X % 4294967296<18446744073709551616 by omega),wN _ (show Y % 4294967296<18446744073709551616 by omega)]
   generalize ha:X / 4294967296*(Y % 4294967296)=a at *
   generalize hb:X % 4294967296*(Y / 4294967296)=b at *
   generalize hc:X / 4294967296*(Y / 4294967296)=c at *
   generalize hd:X % 4294967296*(Y % 4294967296)=d at *
   simp only[wN a (by omega),wN b (by omega),wN c (by omega),wN d (by omega)]
   have c5:((d:Nat):Int) / 4294967296=((d / 4294967296:Nat):Int):=by omega
   simp only[c5,<-Int.natCast_add];have ea:=wN (a+d / 4294967296) (by omega);simp only[ea];have c6:=AM (x:=((a+d / 4294967296:Nat):Int)) (by omega) (by omega);simp only[c6];refine Za ?_ ?_;.simp only[wU];omega
   .rw[wU];omega) (by kernel_rfl)
def qe6:aB:=KI 331 λx y=>.aj (ew x) (.aj (ew y) (.ai (Kv x y)))
def qe7:aB:=KI 247 λx y=>.aj (ew x) (.aj (ew y) (.ai (Kv x y)))
def yD9:qe6.ok pP:=qx4 (λx y hx hy=>xO8 x y hx hy)
def yE0:qe7.ok pP:=qx4 (λx y hx hy=>xO9 x y hx hy)
def cC(x:Int):Int:=if x<0 then -x else x
def dN(x:Int):Bool:=az x (-9223372036854775808) 9223372036854775807
def xX5(x:Int)(h:dN x=true):ak.holds (λv=>v=(bk (cC x))) (.ag (x<0)
 (.ai (SV.int IntKind.u64 (u64.wrap (0-u64.wrap x))))
 (.ai (SV.int IntKind.u64 (u64.wrap x))):ak SV):=by
   have r:=v5.1 h;simp only[ak.holds,sM]
   refine⟨λhc=>?_,λhc=>?_⟩<;>unfold cC bk<;>simp only[wU]
   .rw[ay hc];congr 1;omega
   .rw[au hc];congr 1;omega
def xX3(x:Int)(h:dN x=true):SCall pP 332 [J x] (bk (cC x)):=
 aY aL [] trivial 1000 (.ah (.all) (.all))
  (by kernel_rfl) (xX5 x h) (by kernel_rfl)
def xX4(x:Int)(h:dN x=true):SCall pP 248 [J x] (bk (cC x)):=
 aY aL [] trivial 1000 (.ah (.all) (.all))
  (by kernel_rfl) (xX5 x h) (by kernel_rfl)
def qk8:aB:=tU 332 λx=>.aj (dN x) (.ai (bk (cC x)))
def qk9:aB:=tU 248 λx=>.aj (dN x) (.ai (bk (cC x)))
def yK8:qk8.ok pP:=rq (λx h=>xX3 x h)
def yK9:qk9.ok pP:=rq (λx h=>xX4 x h)
def xM7(x:Int)(h:(ew x&&1<=x)=true):SCall pP 337 [bk x] (J (64-rB x)):=
 aY aL [qc7] ⟨yB9,trivial⟩ 1000 (.all)
  (t:=.aj (ew x) (.ai (SV.int i64 (i64.wrap (64-rB x)))))
  (by kernel_rfl) (by
   rw[aH,aV]at h;have r:=v5.1 h.1;obtain⟨n,e1,e2,e3,_⟩:=q69 h.2 (by omega);refine⟨h.1,?_⟩
   rw[aG (by omega) (by omega)];rfl) (by kernel_rfl)
def Un:aB:=KJ 337 λx=>.aj (ew x&&1<=x) (.ai (J (64-rB x)))
def yC5:Un.ok pP:=qx5 λx h=>xM7 x h
def Wc:ax:=.ah (.all) (.ah (.all) (.ah (.all) (.all)))
def dv0(h l y:Int):o8 (Env.of pP (j9 [Un])) 1000 (x9 pP 333) .unit (x6 135 [2,8,9,10,11,13,14,15,16]) (v7 pP 333) Wc (v6 pP 333 [bk h,bk l,bk y]) [] =(let y2:=u64.wrap (64-rB y);let y0:=(↑(BitVec.ofInt 64 (u64.wrap (h*2 ^ min y2.toNat 64)) |||BitVec.ofInt 64 (l.fdiv (2 ^ min (u64.wrap (64-u64.wrap (64-rB y))).toNat 64))).toNat:Int);let y1:=u64.wrap (y*2 ^ min y2.toNat 64);let y3:=decide (0<=u64.wrap (64-rB y)); .ag (y==0) (.aA 14) (.ag (y<=h) (.aA 14) (.ag (h==0) (.aj (!y==0) (.aj (!y==0) (.ai (.done (.tuple [.int .u64 (u64.wrap (l.tdiv y)),.int .u64 (l.tmod y)]))))) (.aj (ew y&&1<=y) (.aj y3 (rT (.aj y3 (.aj (0<=u64.wrap (64-u64.wrap (64-rB y))) (.aj y3 (rT (.aj (!y1.fdiv 4294967296==0) (.ai (.at (x8 pP 333 0) 135 (x7 135 [(2,.int .u64 y1),(8,.int .u64 y2),(9,.int .u64 (y1.fdiv 4294967296)),(10,.int .u64 (u64.wrap (↑(BitVec.ofInt 64 y1 &&&BitVec.ofInt 64 4294967295).toNat:Int))),(11,.int .u64 (u64.wrap y0)),(13,.int .u64 ((u64.wrap (l*2 ^ min y2.toNat 64)).fdiv 4294967296)),(14,.int .u64 (u64.wrap (↑(BitVec.ofInt 64 (u64.wrap (l*2 ^ min y2.toNat 64)) &&&BitVec.ofInt 64 4294967295).toNat:Int))),(15,.int .u64 (u64.wrap ((u64.wrap y0).tdiv (y1.fdiv 4294967296)))),(16,.int .u64 (u64.wrap (u64.wrap y0-u64.wrap (u64.wrap ((u64.wrap y0).tdiv (y1.fdiv 4294967296))*y1.fdiv 4294967296))))]) []))))))))))))):=by kernel_rfl
def Wa:ax:=.ah (.ln 9 (.ah .all .all)) (.ln 8 (.ah (.ah .all .all) .all))
def dv1(y s p1 p0 u v1 v0 q r:Int):o8 (Env.of pP (j9 [])) 1000 (x9 pP 333) .unit (x6 135 [2,8,9,10,14,15,16,17,18,11,13]) (x8 pP 333 0) Wa (x7 135 [(2,bk y),(8,bk s),(9,bk p1),(10,bk p0),(11,bk u),(13,bk v1),(14,bk v0),(15,bk q),(16,bk r)]) [] =(let y1:=u64.wrap (u64.wrap (u*4294967296)+v1)-u64.wrap (u64.wrap (q-1)*y);let y0:ak Stop:=.ag (u64.wrap (r+p1)>=4294967296) (.aj (!p1==0) (.ai (.at (x8 pP 333 1) 135 (x7 135 [(2,.int .u64 y),(8,.int .u64 s),(9,.int .u64 p1),(10,.int .u64 p0),(11,.int .u64 u),(13,.int .u64 v1),(14,.int .u64 v0),(15,.int .u64 (u64.wrap (q-1))),(16,.int .u64 (u64.wrap (u64.wrap y1-u64.wrap (u64.wrap ((u64.wrap y1).tdiv p1)*p1)))),(17,.int .u64 (u64.wrap y1)),(18,.int .u64 (u64.wrap ((u64.wrap y1).tdiv p1)))]) []))) (.ai (.at (x8 pP 333 0) 135 (x7 135 [(2,.int .u64 y),(8,.int .u64 s),(9,.int .u64 p1),(10,.int .u64 p0),(11,.int .u64 u),(13,.int .u64 v1),(14,.int .u64 v0),(15,.int .u64 (u64.wrap (q-1))),(16,.int .u64 (u64.wrap (r+p1)))]) []));let y2:=u64.wrap (u64.wrap (u*4294967296)+v1)-u64.wrap (q*y); .ag (q>=4294967296) y0 (.ag (u64.wrap (q*p0)>u64.wrap (u64.wrap (4294967296*r)+v1)) y0 (.aj (!p1==0) (.ai (.at (x8 pP 333 1) 135 (x7 135 [(2,.int .u64 y),(8,.int .u64 s),(9,.int .u64 p1),(10,.int .u64 p0),(11,.int .u64 u),(13,.int .u64 v1),(14,.int .u64 v0),(15,.int .u64 q),(16,.int .u64 (u64.wrap (u64.wrap y2-u64.wrap (u64.wrap ((u64.wrap y2).tdiv p1)*p1)))),(17,.int .u64 (u64.wrap y2)),(18,.int .u64 (u64.wrap ((u64.wrap y2).tdiv p1)))]) []))))):=by kernel_rfl
def V8:ax:=.ah (.ln 9 (.ah .all .all)) (.ln 8 (.ah (.ah .all .all) .all))
def dv2(y s p1 p0 u v1 v0 a t q r:Int):o8 (Env.of pP (j9 [])) 1000 (x9 pP 333) .unit (x6 135 [2,8,9,10,14,15,16,17,18,11,13]) (x8 pP 333 1) V8 (x7 135 [(2,bk y),(8,bk s),(9,bk p1),(10,bk p0),(11,bk u),(13,bk v1),(14,bk v0),(15,bk a),(16,bk r),(17,bk t),(18,bk q)]) [] =(let y0:ak Stop:=.ag (u64.wrap (r+p1)>=4294967296) (.aj (0<=s) (.ai (.done (.tuple [.int .u64 (u64.wrap (u64.wrap (a*4294967296)+u64.wrap (q-1))),.int .u64 ((u64.wrap (u64.wrap (u64.wrap (t*4294967296)+v0)-u64.wrap (u64.wrap (q-1)*y))).fdiv (2 ^ min s.toNat 64))])))) (.ai (.at (x8 pP 333 1) 135 (x7 135 [(2,.int .u64 y),(8,.int .u64 s),(9,.int .u64 p1),(10,.int .u64 p0),(11,.int .u64 u),(13,.int .u64 v1),(14,.int .u64 v0),(15,.int .u64 a),(16,.int .u64 (u64.wrap (r+p1))),(17,.int .u64 t),(18,.int .u64 (u64.wrap (q-1)))]) [])); .ag (q>=4294967296) y0 (.ag (u64.wrap (q*p0)>u64.wrap (u64.wrap (4294967296*r)+v0)) y0 (.aj (0<=s) (.ai (.done (.tuple [.int .u64 (u64.wrap (u64.wrap (a*4294967296)+q)),.int .u64 ((u64.wrap (u64.wrap (u64.wrap (t*4294967296)+v0)-u64.wrap (q*y))).fdiv (2 ^ min s.toNat 64))])))))):=by kernel_rfl
def Qx:ax:=.ah (.all) (.all)
def qt0(h l d:Int):o8 (Env.of pP (j9 [])) 1000 (x9 pP 249) .unit (x6 46 [1,2,9,10,11]) (v7 pP 249) Qx (v6 pP 249 [bk h,bk l,bk d]) [] =(.ag (h>=d) (.ai (.done (.tuple [.int .u64 0,.int .u64 0,.bool false]))) (.ai (.at (x8 pP 249 0) 46 (x7 46 [(1,.int .u64 l),(2,.int .u64 d),(9,.int .u64 0),(10,.int .u64 h),(11,.int .i64 0)]) []))):=by kernel_rfl
def Qw:ax:=.ah (.ah (.ln 3 pA) (.ln 3 (.ah .all .all))) .all
def qt1(l d q r i:Int):o8 (Env.of pP (j9 [])) 1000 (x9 pP 249) .unit (x6 46 [1,2,9,10,11]) (x8 pP 249 0) Qw (x7 46 [(1,bk l),(2,bk d),(9,bk q),(10,bk r),(11,J i)]) [] =(let y1:=(↑(BitVec.ofInt 64 (u64.wrap (r*2)) |||BitVec.ofInt 64 (l.fdiv 9223372036854775808)).toNat:Int);let y0:ak Stop:=.ai (.at (x8 pP 249 0) 46 (x7 46 [(1,.int .u64 (u64.wrap (l*2))),(2,.int .u64 d),(9,.int .u64 (u64.wrap (u64.wrap (q*2)+1))),(10,.int .u64 (u64.wrap (u64.wrap y1-d))),(11,.int .i64 (i64.wrap (i+1)))]) []); .ag (i<64) (rT (rT (rT (rT (rT (.ag (r.fdiv 9223372036854775808==1) y0 (.ag (u64.wrap y1>=d) y0 (.ai (.at (x8 pP 249 0) 46 (x7 46 [(1,.int .u64 (u64.wrap (l*2))),(2,.int .u64 d),(9,.int .u64 (u64.wrap (q*2))),(10,.int .u64 (u64.wrap y1)),(11,.int .i64 (i64.wrap (i+1)))]) []))))))))) (.ai (.done (.tuple [.int .u64 q,.int .u64 r,.bool true])))):=by kernel_rfl
def wN{n:Nat}(hn:n<18446744073709551616):u64.wrap (n:Int)=(n:Int):=by rw[wU];omega
def jm0(a b:Nat):((a:Int).tdiv (b:Int))=((a / b:Nat):Int):=by
 rw[EQ (by omega)];rfl
def Wh{U v Q Y R:Nat}(h:U*4294967296+v=Q*Y+R)(hR:R<18446744073709551616):u64.wrap (u64.wrap (u64.wrap ((U:Int)*4294967296)+(v:Int))-u64.wrap ((Q:Int)*(Y:Int)))=((R:Nat):Int):=by
 rw[<-AE Q Y];generalize Q*Y=b at h ⊢;simp only[wU];omega
def ZX{t p:Nat}(ht:t<18446744073709551616)(hp:0<p):u64.wrap ((t:Int).tdiv (p:Int))=((t / p:Nat):Int)/\u64.wrap ((t:Int)-u64.wrap (((t / p:Nat):Int)*(p:Int)))=((t-t / p*p:Nat):Int):=by
 have h1:t / p<=t:=aie _ _;have h2:=Nat.div_mul_le_self t p;rw[jm0,<-AE];generalize t / p*p=b at h2 ⊢;generalize t / p=c at h1 ⊢;simp only[wU];omega
def xd1{q:Nat}(h:1<=q)(h2:q<18446744073709551616):u64.wrap ((q:Int)-1)=((q-1:Nat):Int):=by rw[wU];omega
section
variable {s p1 p0 Y U v1 v0:Nat}
noncomputable def Dc(s p1 p0 Y U v1 v0 q r:Nat):List SV:=x7 135 [(2,bk Y),(8,bk s),(9,bk p1),(10,bk p0),(11,bk U),(13,bk v1),(14,bk v0),(15,bk q),(16,bk r)]
noncomputable def zz(s p1 p0 Y U v1 v0 a t q r:Nat):List SV:=x7 135 [(2,bk Y),(8,bk s),(9,bk p1),(10,bk p0),(11,bk U),(13,bk v1),(14,bk v0),(15,bk a),(16,bk r),(17,bk t),(18,bk q)]
variable{Q:Nat}
def zU6{T:Nat}{tT:SV}(hQ:(U*4294967296+v1) / Y=Q)(hT:(U*4294967296+v1) % Y=T)(hd:tT.data=true)(hY:9223372036854775808<=Y/\Y<18446744073709551616)(e1:p1=Y / 4294967296)(e0:p0=Y % 4294967296)(hU:U<Y)(hv:v1<4294967296)
  (k:t9 pP (x9 pP 333) tT (x8 pP 333 1) (zz s p1 p0 Y U v1 v0 Q T (T / p1) (T-T / p1*p1)) [])
  (q r:Nat) (h1:q*p1+r=U) (h2:Q<=q) (h3:q<=4294967297) (h4:r<4294967296)
  (ih:∀q' r':Nat,q'<q->q'*p1+r'=U->Q<=q'->r'<4294967296->t9 pP (x9 pP 333) tT (x8 pP 333 0) (Dc s p1 p0 Y U v1 v0 q' r') []):
  t9 pP (x9 pP 333) tT (x8 pP 333 0) (Dc s p1 p0 Y U v1 v0 q r) [] :=by
 have Hr:2147483648<=p1/\p1<4294967296:=by omega
 have hTY:T<Y:=by rw[<-hT];exact yz _ (by omega)
 have D:∀q':Nat,q'=Q->u64.wrap (u64.wrap (u64.wrap ((U:Int)*4294967296)+(v1:Int))-u64.wrap ((q':Int)*(Y:Int)))=((T:Nat):Int):=λq' h=>by
  subst h;exact Wh (by rw[<-hQ,<-hT,Nat.div_add_mod']) (by omega)
 obtain⟨R1,R2⟩:=ZX (t:=T) (p:=p1) (by omega) (by omega)
 have wr:u64.wrap ((r:Int)+(p1:Int))=((r+p1:Nat):Int):=by rw[wU];omega
 have np:(!((p1:Int)==0))=true:=by simp;omega
 -- a step down
 have down:Q+1<=q->(q-1)*p1+(r+p1)=U/\Q<=q-1/\u64.wrap ((q:Int)-1)=((q-1:Nat):Int):=λh=>by
  refine⟨?_,by omega,xd1 (by omega) (by omega)⟩;obtain⟨q',rfl⟩:∃q',q=q'+1:=⟨q-1,by omega⟩;rw[uM]at h1;rw[UR];omega
 have wm:u64.wrap (4294967296*(r:Int))=((4294967296*r:Nat):Int):=by rw[wU];omega
 have QX:u64.wrap (((4294967296*r:Nat):Int)+(v1:Int))=((4294967296*r+v1:Nat):Int):=by rw[wU];omega
 have QW:q<4294967296->u64.wrap ((q:Int)*(p0:Int))=((q*p0:Nat):Int):=λh=>by
  have:q*p0<=4294967295*4294967295:=wj (by omega) (by omega);rw[<-AE];exact wN (by omega)
 have less:=Wj (y:=Y) (u:=U) (u1:=v1) (q:=q) (rh:=r) (by omega) hU hv (by rw[<-e1];exact h1);rw[hQ]at less;have out:=Wi (y:=Y) (u:=U) (u1:=v1) (q:=q) (rh:=r) (by omega) (by rw[<-e1];exact h1) (by rw[hQ];exact h2);rw[hQ]at out
 have brk:Q+1<=q->4294967296<=r+p1->q-1=Q:=λh hb=>by have:=Wm (y:=Y) (u:=U) (u1:=v1) (q:=q-1) (rh:=r+p1) (by omega) (by rw[<-e1];exact(down h).1) (by rw[hQ];exact(down h).2.1) (by omega) hb;rw[hQ]at this;exact this
 have stay:Q+1<=q->r+p1<4294967296->t9 pP (x9 pP 333) tT (x8 pP 333 0) (Dc s p1 p0 Y U v1 v0 (q-1) (r+p1)) [] :=λh hr=>ih _ _ (by omega) (down h).1 (down h).2.1 hr
 refine o6 k0 (n:=1000) (hint:=.unit) (keep:=x6 135 [2,8,9,10,14,15,16,17,18,11,13]) (p:=Wa) hd ?_;unfold Dc;erw [dv1 Y s p1 p0 U v1 v0 q r];rw[wr];simp only[ak.holds,aV,ez,np,dV];unfold Dc at stay;unfold zz at k;refine⟨λc=>⟨λb=>?_,λb=>?_⟩,λc=>?_⟩
 .have hl:=less (.inl (by omega))
  rw[(down hl).2.2,D _ (brk hl (by omega)),R1,R2,brk hl (by omega)];exact⟨o5 _ _,k⟩
 .have hl:=less (.inl (by omega))
  rw[(down hl).2.2];exact⟨o5 _ _,stay hl (by omega)⟩
 .rw[QW (by omega),wm,QX]
  refine⟨λd=>⟨λb=>?_,λb=>?_⟩,λd=>?_⟩
  .have hl:=less (.inr (by rw[<-e0];omega))
   rw[(down hl).2.2,D _ (brk hl (by omega)),R1,R2,brk hl (by omega)];exact⟨o5 _ _,k⟩
  .have hl:=less (.inr (by rw[<-e0];omega))
   rw[(down hl).2.2];exact⟨o5 _ _,stay hl (by omega)⟩
  .have ho:=out (by rw[<-e0];omega)
   rw[D _ ho,R1,R2,ho];exact⟨o5 _ _,k⟩
theorem Wb{T:Nat}{tT:SV}(hQ:(U*4294967296+v1) / Y=Q)(hT:(U*4294967296+v1) % Y=T)(hd:tT.data=true)(hY:9223372036854775808<=Y/\Y<18446744073709551616)(e1:p1=Y / 4294967296)(e0:p0=Y % 4294967296)(hU:U<Y)(hv:v1<4294967296)
  (k:t9 pP (x9 pP 333) tT (x8 pP 333 1) (zz s p1 p0 Y U v1 v0 Q T (T / p1) (T-T / p1*p1)) []):
  ∀ (n q r:Nat),q<n->q*p1+r=U->Q<=q->q<=4294967297->r<4294967296->t9 pP (x9 pP 333) tT (x8 pP 333 0) (Dc s p1 p0 Y U v1 v0 q r) []
 |0,q,r,hn,_,_,_,_=>by omega
 |n+1,q,r,hn,h1,h2,h3,h4=>zU6 hQ hT hd hY e1 e0 hU hv k q r h1 h2 h3 h4 λq' r' h g1 g2 g4=>Wb hQ hT hd hY e1 e0 hU hv k n q' r' (by omega) g1 g2 (by omega) g4
noncomputable def EF(s a q t:Nat):SV:=.tuple [bk ((a*4294967296+q:Nat):Int),bk ((t / 2 ^ s:Nat):Int)]
def zU9{T a t:Nat}(hQ:(t*4294967296+v0) / Y=Q)(hT:(t*4294967296+v0) % Y=T)(hs:s<=64)(hY:9223372036854775808<=Y/\Y<18446744073709551616)(e1:p1=Y / 4294967296)(e0:p0=Y % 4294967296)(ht:t<Y)(hv:v0<4294967296)(ha:a<4294967296)
  (q r:Nat) (h1:q*p1+r=t) (h2:Q<=q) (h3:q<=4294967297) (h4:r<4294967296)
  (ih:∀q' r':Nat,q'<q->q'*p1+r'=t->Q<=q'->r'<4294967296->t9 pP (x9 pP 333) (EF s a Q T) (x8 pP 333 1) (zz s p1 p0 Y U v1 v0 a t q' r') []):
  t9 pP (x9 pP 333) (EF s a Q T) (x8 pP 333 1) (zz s p1 p0 Y U v1 v0 a t q r) [] :=by
 have Hr:2147483648<=p1/\p1<4294967296:=by omega
 have hTY:T<Y:=by rw[<-hT];exact yz _ (by omega)
 have hQl:Q<4294967296:=by rw[<-hQ];exact Oo (by omega) ht hv
 have D:∀q':Nat,q'=Q->u64.wrap (u64.wrap (u64.wrap ((t:Int)*4294967296)+(v0:Int))-u64.wrap ((q':Int)*(Y:Int)))=((T:Nat):Int):=λq' h=>by
  subst h;exact Wh (by rw[<-hQ,<-hT,Nat.div_add_mod']) (by omega)
 have wr:u64.wrap ((r:Int)+(p1:Int))=((r+p1:Nat):Int):=by rw[wU];omega
 have down:Q+1<=q->(q-1)*p1+(r+p1)=t/\Q<=q-1/\u64.wrap ((q:Int)-1)=((q-1:Nat):Int):=λh=>by
  refine⟨?_,by omega,xd1 (by omega) (by omega)⟩;obtain⟨q',rfl⟩:∃q',q=q'+1:=⟨q-1,by omega⟩;rw[uM]at h1;rw[UR];omega
 have wm:u64.wrap (4294967296*(r:Int))=((4294967296*r:Nat):Int):=by rw[wU];omega
 have QX:u64.wrap (((4294967296*r:Nat):Int)+(v0:Int))=((4294967296*r+v0:Nat):Int):=by rw[wU];omega
 have QW:q<4294967296->u64.wrap ((q:Int)*(p0:Int))=((q*p0:Nat):Int):=λh=>by
  have:q*p0<=4294967295*4294967295:=wj (by omega) (by omega);rw[<-AE];exact wN (by omega)
 have less:=Wj (y:=Y) (u:=t) (u1:=v0) (q:=q) (rh:=r) (by omega) ht hv (by rw[<-e1];exact h1);rw[hQ]at less;have out:=Wi (y:=Y) (u:=t) (u1:=v0) (q:=q) (rh:=r) (by omega) (by rw[<-e1];exact h1) (by rw[hQ];exact h2);rw[hQ]at out
 have brk:Q+1<=q->4294967296<=r+p1->q-1=Q:=λh hb=>by have:=Wm (y:=Y) (u:=t) (u1:=v0) (q:=q-1) (rh:=r+p1) (by omega) (by rw[<-e1];exact(down h).1) (by rw[hQ];exact(down h).2.1) (by omega) hb;rw[hQ]at this;exact this
 have stay:=λ(h:Q+1<=q) (hr:r+p1<4294967296)=>ih (q-1) (r+p1) (by omega) (down h).1 (down h).2.1 hr
 have fin:∀q':Nat,q'=Q->u64.wrap (u64.wrap ((a:Int)*4294967296)+(q':Int))=((a*4294967296+Q:Nat):Int):=λq' h=>by
  subst h;simp only[wU];omega
 have sh:(((T:Nat):Int)).fdiv (2 ^ min (s:Int).toNat 64)=((T / 2 ^ s:Nat):Int):=by
  rw[show min (s:Int).toNat 64=s by omega,uP _ (Int.le_of_lt (zw s))];simp
 have n0:decide ((0:Int)<=(s:Int))=true:=bn (by omega);refine o6 k0 (n:=1000) (hint:=.unit) (keep:=x6 135 [2,8,9,10,14,15,16,17,18,11,13]) (p:=V8) rfl ?_;unfold zz;erw [dv2 Y s p1 p0 U v1 v0 a t q r];rw[wr];simp only[ak.holds,aV,ez,n0,dV];unfold zz at stay;unfold EF at stay ⊢
 have p0':(0:Int)<=(s:Int):=by omega
 refine⟨λc=>⟨λb=>?_,λb=>?_⟩,λc=>?_⟩
 .have hl:=less (.inl (by omega))
  rw[(down hl).2.2,D _ (brk hl (by omega)),sh,fin _ (brk hl (by omega))];rfl
 .have hl:=less (.inl (by omega))
  rw[(down hl).2.2];exact⟨o5 _ _,stay hl (by omega)⟩
 .rw[QW (by omega),wm,QX]
  refine⟨λd=>⟨λb=>?_,λb=>?_⟩,λd=>?_⟩
  .have hl:=less (.inr (by rw[<-e0];omega))
   rw[(down hl).2.2,D _ (brk hl (by omega)),sh,fin _ (brk hl (by omega))];rfl
  .have hl:=less (.inr (by rw[<-e0];omega))
   rw[(down hl).2.2];exact⟨o5 _ _,stay hl (by omega)⟩
  .have ho:=out (by rw[<-e0];omega)
   rw[D _ ho,sh,fin _ ho];rfl
theorem V9{T a t:Nat}(hQ:(t*4294967296+v0) / Y=Q)(hT:(t*4294967296+v0) % Y=T)(hs:s<=64)(hY:9223372036854775808<=Y/\Y<18446744073709551616)(e1:p1=Y / 4294967296)(e0:p0=Y % 4294967296)(ht:t<Y)(hv:v0<4294967296)(ha:a<4294967296):
  ∀ (n q r:Nat),q<n->q*p1+r=t->Q<=q->q<=4294967297->r<4294967296->t9 pP (x9 pP 333) (EF s a Q T) (x8 pP 333 1) (zz s p1 p0 Y U v1 v0 a t q r) []
 |0,q,r,hn,_,_,_,_=>by omega
 |n+1,q,r,hn,h1,h2,h3,h4=>zU9 hQ hT hs hY e1 e0 ht hv ha q r h1 h2 h3 h4 λq' r' h g1 g2 g4=>V9 hQ hT hs hY e1 e0 ht hv ha n q' r' (by omega) g1 g2 (by omega) g4
end
def Zt{a b e:Nat}(ha:a*2 ^ e<18446744073709551616)(hb:b<2 ^ e)(lu:b<18446744073709551616):(((BitVec.ofInt 64 ((a*2 ^ e:Nat):Int) |||BitVec.ofInt 64 ((b:Nat):Int)).toNat:Nat):Int)=((a*2 ^ e+b:Nat):Int):=by
 have e1:∀m:Nat,m<18446744073709551616->(BitVec.ofInt 64 (m:Int)).toNat=m:=λm hm=>by
  rw[Io];have:((2 ^ 64:Nat):Int)=18446744073709551616:=rfl;rw[this];omega
 rw[aix,e1 _ ha,e1 _ lu,yy a,<-aBG hb]
def xD8{H L Yn:Nat}(h1:H<Yn)(h2:L<18446744073709551616)(h3:Yn<18446744073709551616):SCall pP 333 [bk (H:Int),bk (L:Int),bk (Yn:Int)] (.tuple [bk (((H*18446744073709551616+L) / Yn:Nat):Int),bk (((H*18446744073709551616+L) % Yn:Nat):Int)]):=by
 refine s8 rfl rfl (by kernel_rfl) (o6 (kW (l:=[Un]) ⟨yC5,trivial⟩) (n:=1000) (hint:=.unit) (keep:=x6 135 [2,8,9,10,11,13,14,15,16]) (p:=Wc) (boxes:=[]) rfl ?_);have e:=dv0 H L Yn;unfold v6 v7 at e;erw [e];clear e
 have hy0:((Yn:Int)==0)=false:=by simp;omega
 have hyh:decide ((Yn:Int)<=(H:Int))=false:=iX (by omega);simp only[ak.holds,hy0,hyh,eY,iG,ir,dV,U1,jI];refine⟨λh0=>?_,λh0=>?_⟩
 .have h0:H=0:=by simpa using h0
  subst h0;show SV.tuple _=_;have hl:L / Yn<=L:=aie _ _;rw[jm0,wN (by omega),UH,gY,aBO (by omega)];rfl
 .obtain⟨n,en,n1,n2,n3,n4⟩:=q69 (x:=(Yn:Int)) (by omega) (by omega)
  obtain⟨s,hs⟩:∃s:Nat,s=64-n:=⟨_,rfl⟩
  have ws:u64.wrap (64-rB (Yn:Int))=(s:Int):=by rw[en,wU];omega
  have ws2:u64.wrap (64-(s:Int))=((64-s:Nat):Int):=by rw[wU];omega
  have m1:min (s:Int).toNat 64=s:=by omega
  have m2:min ((64-s:Nat):Int).toNat 64=64-s:=by omega
  have hp:0<2 ^ s:=ah6 s
  have pw:∀k:Nat,(2:Int) ^ k=((2 ^ k:Nat):Int):=λk=>by simp
  -- the divisor, aug
  have L9:2 ^ (n-1)<=Yn:=by rw[pw]at n3;omega
  have n4':Yn<2 ^ n:=by rw[pw]at n4;omega
  have y1:9223372036854775808<=Yn*2 ^ s:=by
   have:2 ^ (n-1)*2 ^ s<=Yn*2 ^ s:=nL _ L9;rw[<-NB,show n-1+s=63 by omega]at this;exact this
  have y2:Yn*2 ^ s<18446744073709551616:=by
   have:Yn*2 ^ s<2 ^ n*2 ^ s:=Nat.mul_lt_mul_of_pos_right n4' hp;rw[<-NB,show n+s=64 by omega]at this;exact this
  -- the upper half, aug
  have l1:L / 2 ^ (64-s)<2 ^ s:=by
   rw[UO (ah6 _),<-NB,show s+(64-s)=64 by omega];exact h2
  have l2:L / 2 ^ (64-s)<=L:=aie _ _;have u0:(H+1)*2 ^ s<=Yn*2 ^ s:=nL _ h1;rw[uM,Nat.one_mul]at u0
  have hU:H*2 ^ s+L / 2 ^ (64-s)<Yn*2 ^ s:=by omega
  have lo:L*2 ^ s=L / 2 ^ (64-s)*18446744073709551616+L*2 ^ s % 18446744073709551616:=by
   have:L / 2 ^ (64-s)=L*2 ^ s / 18446744073709551616:=by
    rw[show(18446744073709551616:Nat)=2 ^ (64-s)*2 ^ s by rw[<-NB,show 64-s+s=64 by omega],ah9 _ _ hp]
   rw[this];omega
  have wY:u64.wrap ((Yn:Int)*2 ^ s)=((Yn*2 ^ s:Nat):Int):=by rw[pw,<-AE];exact wN y2
  have wH:u64.wrap ((H:Int)*2 ^ s)=((H*2 ^ s:Nat):Int):=by rw[pw,<-AE];exact wN (by omega)
  have wL:u64.wrap ((L:Int)*2 ^ s)=((L*2 ^ s % 18446744073709551616:Nat):Int):=by rw[pw,<-AE,wU];omega
  have fL:((L:Nat):Int).fdiv (2 ^ (64-s))=((L / 2 ^ (64-s):Nat):Int):=by
   rw[uP _ (Int.le_of_lt (zw _)),pw];rfl
  have oU:=Zt (a:=H) (b:=L / 2 ^ (64-s)) (e:=s) (by omega) l1 (by omega)
  have f32:∀m:Nat,((m:Nat):Int).fdiv 4294967296=((m / 4294967296:Nat):Int):=λm=>by rw[uP _ (by omega)];rfl
  have a32:∀m:Nat,m<18446744073709551616->u64.wrap ((((BitVec.ofInt 64 ((m:Nat):Int) &&&BitVec.ofInt 64 4294967295).toNat:Nat):Int))=((m % 4294967296:Nat):Int):=λm hm=>by rw[AM (by omega) (by omega),wU];omega
  have d0:decide ((0:Int)<=(s:Int))=true:=bn (by omega);have d1:decide ((0:Int)<=((64-s:Nat):Int))=true:=bn (by omega)
  have ok:(ew (Yn:Int)&&1<=(Yn:Int))=true:=by rw[aH,aV];exact⟨v5.2 (by omega),by omega⟩
  generalize hYY:Yn*2 ^ s=Y at *
  generalize hUU:H*2 ^ s+L / 2 ^ (64-s)=U at *
  generalize hLL:L*2 ^ s % 18446744073709551616=LO at *
  have hLO:LO<18446744073709551616:=by omega
  have np:(!((Y / 4294967296:Nat):Int)==0)=true:=by simp;omega
  obtain⟨R1,R2⟩:=ZX (t:=U) (p:=Y / 4294967296) (by omega) (by omega);have wU2:u64.wrap ((U:Nat):Int)=(U:Int):=wN (by omega);simp only[ws,ws2,m1,m2,wY,wH,wL,fL,oU,f32,a32 Y y2,a32 LO hLO,d0,d1,ok,np,wU2,R1,R2,dV];refine⟨o5 _ _,?_⟩;have g1:=Wl (y:=Y) (u:=U) (u1:=LO / 4294967296) y1 y2 hU (by omega);have hT:(U*4294967296+LO / 4294967296) % Y<Y:=yz _ (by omega);have g2:=Wl (y:=Y) (u:=(U*4294967296+LO / 4294967296) % Y) (u1:=LO % 4294967296) y1 y2 hT (by omega);have hQ1:(U*4294967296+LO / 4294967296) / Y<4294967296:=Oo (by omega) hU (by omega);have two:=jv2 (y:=Y) (u:=U) (u1:=LO / 4294967296) (u0:=LO % 4294967296) (by omega);have key:=V9 (v1:=LO / 4294967296) (U:=U) (s:=s) rfl rfl (by omega) ⟨y1,y2⟩ rfl rfl hT (show LO % 4294967296<4294967296 by omega) hQ1 _ _ _ (aia _) g2.1 g2.2.1 g2.2.2.1 g2.2.2.2;have afH:=Wb (v0:=LO % 4294967296) (s:=s) rfl rfl (by rfl) ⟨y1,y2⟩ rfl rfl hU (show LO / 4294967296<4294967296 by omega) key _ _ _ (aia _) g1.1 g1.2.1 g1.2.2.1 g1.2.2.2
  have eN:U*18446744073709551616+(LO / 4294967296*4294967296+LO % 4294967296)=(H*18446744073709551616+L)*2 ^ s:=by
   rw[uM,lo,<-hUU,Nat.mul_right_comm H,uM];omega
  rw[eN,<-hYY,ah9 _ _ hp,Nat.mul_mod_mul_right]at two
  have tT:EF s ((U*4294967296+LO / 4294967296) / Y) (((U*4294967296+LO / 4294967296) % Y*4294967296+LO % 4294967296) / Y) (((U*4294967296+LO / 4294967296) % Y*4294967296+LO % 4294967296) % Y)=.tuple [bk (((H*18446744073709551616+L) / Yn:Nat):Int),bk (((H*18446744073709551616+L) % Yn:Nat):Int)] :=by
   unfold EF;rw[<-hYY,two.1,two.2,Nat.mul_div_cancel _ hp]
  rw[tT]at afH;exact afH
def W9:aB:=KH 333 λh l y=>.aj (az h 0 (y-1)&& (ew l&&ew y)) (lT [bk ((h*18446744073709551616+l) / y),bk ((h*18446744073709551616+l) % y)])
def yw3:W9.ok pP:=qx3 λh l y k=>by
 simp only[aH,v5,ew]at k;obtain⟨H,rfl⟩:=ox k.1.1;obtain⟨L,rfl⟩:=ox k.2.1.1;obtain⟨Y,rfl⟩:=ox k.2.2.1;have:=xD8 (H:=H) (L:=L) (Yn:=Y) (by omega) (by omega) (by omega);simp at this;exact this
variable{i:Nat}
def jt9{low k:Nat}(h:i+(k+1)=64):(low*2 ^ i % 18446744073709551616) / 9223372036854775808=low / 2 ^ k % 2:=by
 have e:(18446744073709551616:Nat)=9223372036854775808*2:=by decide
 rw[e,Nat.mod_mul_right_div_self]
 have e2:(9223372036854775808:Nat)=2 ^ k*2 ^ i:=by rw[<-NB,show k+i=63 by omega]
 rw[e2,ah9 _ _ (ah6 i)]
def y01{x b:Nat}(hx:x<18446744073709551616)(h2:x % 2=0)(hb:b<2):(((BitVec.ofInt 64 ((x:Nat):Int) |||BitVec.ofInt 64 ((b:Nat):Int)).toNat:Nat):Int)=((x+b:Nat):Int):=by
 have:=Zt (a:=x / 2) (b:=b) (e:=1) (by omega) (by omega) (by omega);rw[show x / 2*2 ^ 1=x by omega]at this;exact this
noncomputable def Db(d low q r i:Nat):List SV:=x7 46 [(1,bk ((low*2 ^ i % 18446744073709551616:Nat):Int)),(2,bk d),(9,bk q),(10,bk r),(11,J i)]
theorem QA{d low:Nat}(hd:d<18446744073709551616)(hl:low<18446744073709551616):∀ (k i q r:Nat),i+k=64->r<d->q<2 ^ i->
  t9 pP (x9 pP 249) (.tuple [bk ((qF d low k q r).1:Int),bk ((qF d low k q r).2:Int),.bool true]) (x8 pP 249 0) (Db d low q r i) []
 |0,i,q,r,hi,hr,hq=>by
  refine o6 k0 (n:=1000) (hint:=.unit) (keep:=x6 46 [1,2,9,10,11]) (p:=Qw) rfl ?_;unfold Db;erw [qt1 _ d q r i];refine⟨λc=>?_,λ_=>rfl⟩;have:=bG c;omega
 |k+1,i,q,r,hi,hr,hq=>by
  have hp:2 ^ i<=9223372036854775808:=by
   have:2 ^ i<=2 ^ 63:=ah8 (by decide) (by omega);exact this
  have e2:2 ^ (i+1)=2 ^ i*2:=Nat.pow_succ 2 i;have hb:=jt9 (low:=low) hi;have lu:low / 2 ^ k % 2<2:=yz _ (by decide);have ht:low*2 ^ i % 18446744073709551616<18446744073709551616:=yz _ (by decide)
  have en:low*2 ^ (i+1) % 18446744073709551616=(low*2 ^ i % 18446744073709551616*2) % 18446744073709551616:=by
   rw[e2,<-EK];omega
  generalize hL:low*2 ^ i % 18446744073709551616=L at *
  generalize hB:low / 2 ^ k % 2=B at *
  have w1:u64.wrap ((L:Int)*2)=((low*2 ^ (i+1) % 18446744073709551616:Nat):Int):=by rw[en,wU];omega
  have f1:((L:Nat):Int).fdiv 9223372036854775808=((B:Nat):Int):=by rw[uP _ (by omega)];omega
  have f2:((r:Nat):Int).fdiv 9223372036854775808=((r / 9223372036854775808:Nat):Int):=by rw[uP _ (by omega)];rfl
  have w2:u64.wrap ((r:Int)*2)=((r*2 % 18446744073709551616:Nat):Int):=by rw[wU];omega
  have w3:u64.wrap ((q:Int)*2)=((2*q:Nat):Int):=by rw[wU];omega
  have w4:u64.wrap (((2*q:Nat):Int)+1)=((2*q+1:Nat):Int):=by rw[wU];omega
  have o1:=y01 (x:=r*2 % 18446744073709551616) (b:=B) (by omega) (by omega) lu;have w5:u64.wrap ((r*2 % 18446744073709551616+B:Nat):Int)=((r*2 % 18446744073709551616+B:Nat):Int):=wN (by omega)
  have w6:d<=2*r+B->u64.wrap (((r*2 % 18446744073709551616+B:Nat):Int)-(d:Int))=((2*r+B-d:Nat):Int):=λh=>by rw[wU];omega
  have w7:i64.wrap ((i:Int)+1)=((i+1:Nat):Int):=by rw[aG (by omega) (by omega)];rfl
  have vl:d<=2*r+B->t9 pP (x9 pP 249) (.tuple [bk ((qF d low (k+1) q r).1:Int),bk ((qF d low (k+1) q r).2:Int),.bool true]) (x8 pP 249 0) (Db d low (2*q+1) (2*r+B-d) (i+1)) [] :=λh=>by
   have:=QA hd hl k (i+1) (2*q+1) (2*r+B-d) (by omega) (by omega) (by omega);rw[qF,hB,ay h];exact this
  have no:¬d<=2*r+B->t9 pP (x9 pP 249) (.tuple [bk ((qF d low (k+1) q r).1:Int),bk ((qF d low (k+1) q r).2:Int),.bool true]) (x8 pP 249 0) (Db d low (2*q) (2*r+B) (i+1)) [] :=λh=>by
   have:=QA hd hl k (i+1) (2*q) (2*r+B) (by omega) (by omega) (by omega);rw[qF,hB,au h];exact this
  unfold Db at vl no ⊢;refine o6 k0 (n:=1000) (hint:=.unit) (keep:=x6 46 [1,2,9,10,11]) (p:=Qw) rfl ?_;rw[hL];erw [qt1 L d q r i];simp only[w1,f1,f2,w2,w3,w4,o1,w5,w7];refine⟨λc=>⟨rfl,rfl,rfl,rfl,rfl,λd1=>?_,λd1=>⟨λd2=>?_,λd2=>?_⟩⟩,λc=>?_⟩
  .have d1:((r / 9223372036854775808:Nat):Int)=1:=by simpa using d1
   have hc:d<=2*r+B:=by omega
   rw[w6 hc];exact⟨o5 _ _,vl hc⟩
  .have d1:¬((r / 9223372036854775808:Nat):Int)=1:=by simpa using d1
   have d2:=bG d2
   have hc:d<=2*r+B:=by omega
   rw[w6 hc];exact⟨o5 _ _,vl hc⟩
  .have d1:¬((r / 9223372036854775808:Nat):Int)=1:=by simpa using d1
   have d2:=cO d2
   have hc:¬d<=2*r+B:=by omega
   rw[show r*2 % 18446744073709551616+B=2*r+B by omega];exact⟨o5 _ _,no hc⟩
  .have:=cO c
   omega
def xT8{H L D:Nat}(h1:H<D)(h2:L<18446744073709551616)(h3:D<18446744073709551616):SCall pP 249 [bk (H:Int),bk (L:Int),bk (D:Int)] (.tuple [bk (((H*18446744073709551616+L) / D:Nat):Int),bk (((H*18446744073709551616+L) % D:Nat):Int),.bool true]):=by
 refine s8 rfl rfl (by kernel_rfl) (o6 k0 (n:=1000) (hint:=.unit) (keep:=x6 46 [1,2,9,10,11]) (p:=Qx) (boxes:=[]) rfl ?_);have e:=qt0 H L D;unfold v6 v7 at e;erw [e];have q:=QA (low:=L) h3 h2 64 0 0 H (by omega) h1 (by decide);rw[xh5 h1 h2]at q;refine⟨λc=>?_,λ_=>⟨o5 _ _,?_⟩⟩;.have:=bG c;omega
 .unfold Db at q
  rw[show L*2 ^ 0 % 18446744073709551616=L by omega]at q;exact q
def xT9{H L D:Int}(h1:¬H<D):SCall pP 249 [bk H,bk L,bk D] (.tuple [bk 0,bk 0,.bool false]):=by
 refine s8 rfl rfl (by kernel_rfl) (o6 k0 (n:=1000) (hint:=.unit) (keep:=x6 46 [1,2,9,10,11]) (p:=Qx) (boxes:=[]) rfl ?_);have e:=qt0 H L D;unfold v6 v7 at e;erw [e];exact⟨λ_=>rfl,λc=>absurd (cO c) (by omega)⟩
def qi4:aB:=KH 249 λh l y=>.aj (ew h&& (ew l&&ew y)) (.ag (h<y) (lT [bk ((h*18446744073709551616+l) / y),bk ((h*18446744073709551616+l) % y),.bool true]) (lT [bk 0,bk 0,.bool false]))
def yI1:qi4.ok pP:=qx3 λh l y k=>by
 simp only[aH,v5,ew]at k;refine⟨λc=>?_,λc=>xT9 (cO c)⟩;have c:=bG c;obtain⟨H,rfl⟩:=ox k.1.1;obtain⟨L,rfl⟩:=ox k.2.1.1;obtain⟨Y,rfl⟩:=ox k.2.2.1;have:=xT8 (H:=H) (L:=L) (D:=Y) (by omega) (by omega) (by omega);simp at this;exact this
def D7(a b c:Int):SV:=if a*b / c<9223372036854775808 then .tuple [J (a*b / c),J 0]else .tuple [J 0,J 3]
def vo(a b c:Int):Bool:=az a 0 9223372036854775807&& (az b 0 9223372036854775807&&az c 1 9223372036854775807)
def tO{c:Int}:vo a b c=true↔(0<=a/\a<=9223372036854775807)/\(0<=b/\b<=9223372036854775807)/\1<=c/\c<=9223372036854775807:=by simp only[vo,aH,v5]
def JS{c:Int}(h:a*b / c<9223372036854775808):D7 a b c=.tuple [J (a*b / c),J 0] :=ay h
def JT{c:Int}(h:¬a*b / c<9223372036854775808):D7 a b c=.tuple [J 0,J 3] :=au h
def qM4(ha:0<=a/\a<=9223372036854775807)(hb:0<=b/\b<=9223372036854775807):0<=a*b / 18446744073709551616/\a*b / 18446744073709551616<18446744073709551616/\a*b / 18446744073709551616*18446744073709551616+a*b % 18446744073709551616=a*b/\0<=a*b:=by
 have h0:0<=a*b:=wB ha.1 hb.1;have h1:a*b<=9223372036854775807*9223372036854775807:=uO ha.2 hb.2 hb.1 (by omega)
 generalize a*b=x at *
 omega
def X6{c:Int}(hx:0<=x)(hc:1<=c)(h:c<=x / 18446744073709551616):¬x / c<9223372036854775808:=by
 have h1:c*18446744073709551616<=x:=by omega
 have:18446744073709551616<=x / c:=NK (by omega) (by omega);omega
def xN3(a b c:Int)(h:vo a b c=true):SCall pP 319 [J a,J b,J c] (D7 a b c):=
 v9 aL [qe6,qk8,W9] ⟨yD9,yK8,yw3,trivial⟩ 1000 (.ah .all (.ah .all (.ah (.ah .all .all) (.ah (.ln 4 pA) (.ar (.ar (.ah (.ln 4 (.ah .all (.ah .all .all))) (.ln 5 (.ah .all .all)))))))))
  (t:=let y0:=cC a*cC b / 18446744073709551616*18446744073709551616+cC a*cC b % 18446744073709551616;let y1:ak SV:=.ag (y0 % cC c>0) (lT [.int .i64 (i64.wrap (u64.wrap (0-u64.wrap (y0 / cC c+1)))),.int .i64 0]) (lT [.int .i64 (i64.wrap (u64.wrap (0-y0 / cC c))),.int .i64 0]);let y2:ak SV:=lT [.int .i64 0,.int .i64 3];.ag (c==0) (lT [.int .i64 0,.int .i64 4]) (.aj (dN a) (.aj (dN b) (.aj (ew (cC a)) (.aj (ew (cC b)) (.aj (dN c) (.ag (cC a*cC b / 18446744073709551616>=cC c) y2 (.aj (dN c) (.aj (az (cC a*cC b / 18446744073709551616) 0 (cC c-1)&& (ew (cC a*cC b % 18446744073709551616)&&ew (cC c))) (.ag ((!decide (a<0)==decide (b<0))==decide (c<0)) (.ag (y0 / cC c>=9223372036854775808) y2 (lT [.int .i64 (i64.wrap (y0 / cC c)),.int .i64 0])) (.ag (y0 / cC c>9223372036854775808) y2 (.ag (y0 / cC c==9223372036854775808) (.ag (y0 % cC c>0) y2 y1) y1))))))))))))
  (by kernel_rfl) (by
   have o:=tO.1 h;obtain⟨h1,h2,h3,h4⟩:=qM4 o.1 o.2.1;have sa:cC a=a:=au (by omega);have sb:cC b=b:=au (by omega);have sc:cC c=c:=au (by omega);have m0:0<=a*b / c:=ES h4 (by omega);have m1:a*b / c<=a*b:=Ii _ h4;have hi:=X6 h4 o.2.2.1;have k1:dN a=true:=v5.2 (by omega);have k2:dN b=true:=v5.2 (by omega);have k3:dN c=true:=v5.2 (by omega);have k4:ew a=true:=v5.2 (by omega);have k5:ew b=true:=v5.2 (by omega);have k6:ew c=true:=v5.2 (by omega);have k7:ew (a*b / 18446744073709551616)=true:=v5.2 (by omega);have k8:ew (a*b % 18446744073709551616)=true:=v5.2 (by omega);have na:decide (a<0)=false:=iX (by omega);have nb:decide (b<0)=false:=iX (by omega);have nc:decide (c<0)=false:=iX (by omega)
   have n0:(c==0)=false:=by simp;omega
   simp only[ak.holds,sa,sb,sc,h3,k1,k2,k3,k4,k5,k6,k7,k8,na,nb,nc,n0,show(false==false)=true from rfl,show(true==false)=false from rfl,show(false==true)=false from rfl,sM];(repeat' (first|apply aX|intro _));
   all_goals first
    |(rw[JT (by first|omega|exact hi (by omega))];rfl)
    |(have lt:a*b / c<9223372036854775808:=by omega
      rw[JS lt,aG (by omega) (by omega)];rfl)
    |(rw[v5];omega)) (by kernel_rfl) (by unfold D7;split<;>rfl)
def xN4(a b c:Int)(h:vo a b c=true):SCall pP 188 [J a,J b,J c] (D7 a b c):=
 v9 aL [qe7,qk9,qi4] ⟨yE0,yK9,yI1,trivial⟩ 1000 (.ah .all (.ah (.ar (.ah (.ah .all .all) (.ah (.ln 4 pA) (.ar (.ar (.ah (.ln 4 (.ah .all (.ah .all .all))) (.ln 5 (.ah .all .all)))))))) pA))
  (t:=let y0:=cC a*cC b / 18446744073709551616*18446744073709551616+cC a*cC b % 18446744073709551616;let y1:ak SV:=.ag (y0 % cC c>0) (lT [.int .i64 (i64.wrap (u64.wrap (0-u64.wrap (y0 / cC c+1)))),.int .i64 0]) (lT [.int .i64 (i64.wrap (u64.wrap (0-y0 / cC c))),.int .i64 0]);let y2:ak SV:=lT [.int .i64 0,.int .i64 3];.ag (c==0) (lT [.int .i64 0,.int .i64 4]) (.aj (dN a) (.aj (dN b) (.aj (ew (cC a)) (.aj (ew (cC b)) (.aj (dN c) (.aj (ew (cC a*cC b / 18446744073709551616)&& (ew (cC a*cC b % 18446744073709551616)&&ew (cC c))) (.ag (cC a*cC b / 18446744073709551616<cC c) (.ag (!!decide (a<0)==!decide (b<0)==decide (c<0)) (.ag (y0 / cC c>9223372036854775807) y2 (lT [.int .i64 (i64.wrap (y0 / cC c)),.int .i64 0])) (.ag (y0 / cC c>9223372036854775808) y2 (.ag (y0 / cC c==9223372036854775808) (.ag (y0 % cC c>0) y2 y1) y1))) y2))))))))
  (by kernel_rfl) (by
   have o:=tO.1 h;obtain⟨h1,h2,h3,h4⟩:=qM4 o.1 o.2.1;have sa:cC a=a:=au (by omega);have sb:cC b=b:=au (by omega);have sc:cC c=c:=au (by omega);have m0:0<=a*b / c:=ES h4 (by omega);have m1:a*b / c<=a*b:=Ii _ h4;have hi:=X6 h4 o.2.2.1;have k1:dN a=true:=v5.2 (by omega);have k2:dN b=true:=v5.2 (by omega);have k3:dN c=true:=v5.2 (by omega);have k4:ew a=true:=v5.2 (by omega);have k5:ew b=true:=v5.2 (by omega);have k6:ew c=true:=v5.2 (by omega);have k7:ew (a*b / 18446744073709551616)=true:=v5.2 (by omega);have k8:ew (a*b % 18446744073709551616)=true:=v5.2 (by omega);have na:decide (a<0)=false:=iX (by omega);have nb:decide (b<0)=false:=iX (by omega);have nc:decide (c<0)=false:=iX (by omega)
   have n0:(c==0)=false:=by simp;omega
   simp only[ak.holds,sa,sb,sc,h3,k1,k2,k3,k4,k5,k6,k7,k8,na,nb,nc,n0,show(false==false)=true from rfl,show(true==false)=false from rfl,show(false==true)=false from rfl,sM];(repeat' (first|apply aX|intro _));
   all_goals first
    |(rw[JT (by first|omega|exact hi (by omega))];rfl)
    |(have lt:a*b / c<9223372036854775808:=by omega
      rw[JS lt,aG (by omega) (by omega)];rfl)
    |(rw[v5];omega)) (by kernel_rfl) (by unfold D7;split<;>rfl)
def fMd:aB:=zC 319 λa b c=>.aj (vo a b c) (.ag (a*b / c<9223372036854775808) (.ai (.tuple [J (a*b / c),J 0])) (.ai (.tuple [J 0,J 3])))
def qd8:aB:=zC 188 λa b c=>.aj (vo a b c) (.ag (a*b / c<9223372036854775808) (.ai (.tuple [J (a*b / c),J 0])) (.ai (.tuple [J 0,J 3])))
def yD0:fMd.ok pP:=Dp (λa b c h=>⟨λk=>JS (bG k)▸xN3 a b c h,λk=>JT (cO k)▸xN3 a b c h⟩)
def yD1:qd8.ok pP:=Dp (λa b c h=>⟨λk=>JS (bG k)▸xN4 a b c h,λk=>JT (cO k)▸xN4 a b c h⟩)
def qm2:aB:=Dl 135 λm i p=>.aj (az i 0 3) (.ag (fI m p) (.ai (.tuple [J (cZ (cA m i) p),J 0])) (.ai (.tuple [J 0,J 1])))
def qm3:aB:=Dl 303 λm i p=>.aj (az i 0 3) (.ag (fI m p) (.ai (.tuple [J (cZ (cA m i) p),J 0])) (.ai (.tuple [J 0,J 1])))
def yM2:qm2.ok pP:=KT (λm i p h=>by
 have h:=v5.1 h
 have hi:i=0\/i=1\/i=2\/i=3:=by omega
 rcases hi with rfl|rfl|rfl|rfl
 .exact⟨λhk=>gy hk▸xY6 m p,λhk=>gz hk▸xY6 m p⟩
 .exact⟨λhk=>gy hk▸xY8 m p,λhk=>gz hk▸xY8 m p⟩
 .exact⟨λhk=>gy hk▸xZ0 m p,λhk=>gz hk▸xZ0 m p⟩
 .exact⟨λhk=>gy hk▸xZ2 m p,λhk=>gz hk▸xZ2 m p⟩)
def yM3:qm3.ok pP:=KT (λm i p h=>by
 have h:=v5.1 h
 have hi:i=0\/i=1\/i=2\/i=3:=by omega
 rcases hi with rfl|rfl|rfl|rfl
 .exact⟨λhk=>gy hk▸xY7 m p,λhk=>gz hk▸xY7 m p⟩
 .exact⟨λhk=>gy hk▸xY9 m p,λhk=>gz hk▸xY9 m p⟩
 .exact⟨λhk=>gy hk▸xZ1 m p,λhk=>gz hk▸xZ1 m p⟩
 .exact⟨λhk=>gy hk▸xZ3 m p,λhk=>gz hk▸xZ3 m p⟩)
def xF:aB:=Dl 192 λm i p=>.aj (az i 0 3) (.ag (e7 m p) (.ai (.tuple [J (dY (cA m i) p),J 0])) (.ai (.tuple [J 0,J 1])))
def K7:aB:=Dl 112 λm i p=>.aj (az i 0 3) (.ag (e7 m p) (.ai (.tuple [J (dY (cA m i) p),J 0])) (.ai (.tuple [J 0,J 1])))
def PI:xF.ok pP:=KT (λm i p h=>by
 have h:=v5.1 h
 have hi:i=0\/i=1\/i=2\/i=3:=by omega
 rcases hi with rfl|rfl|rfl|rfl
 .exact⟨λhk=>gy hk▸x34 m p,λhk=>gz hk▸x34 m p⟩
 .exact⟨λhk=>gy hk▸x36 m p,λhk=>gz hk▸x36 m p⟩
 .exact⟨λhk=>gy hk▸x38 m p,λhk=>gz hk▸x38 m p⟩
 .exact⟨λhk=>gy hk▸x40 m p,λhk=>gz hk▸x40 m p⟩)
def PH:K7.ok pP:=KT (λm i p h=>by
 have h:=v5.1 h
 have hi:i=0\/i=1\/i=2\/i=3:=by omega
 rcases hi with rfl|rfl|rfl|rfl
 .exact⟨λhk=>gy hk▸x35 m p,λhk=>gz hk▸x35 m p⟩
 .exact⟨λhk=>gy hk▸x37 m p,λhk=>gz hk▸x37 m p⟩
 .exact⟨λhk=>gy hk▸x39 m p,λhk=>gz hk▸x39 m p⟩
 .exact⟨λhk=>gy hk▸x41 m p,λhk=>gz hk▸x41 m p⟩)
theorem xN8(m:Ma)(v:V3)(e:Int):SCall pP 63 [m.sv,V3.sv v,J e] (zh m v e):=
 v9 aL [qm2] ⟨yM2,trivial⟩ 1000 (.go (.ar (.ah (.ar (.go (.ar (.ah (.ar (.go (.ar (.ah (.ar (.go (.ar (.ah (.ar (.go (.ar (.ah (.all) (.all))))) pA)))) pA)))) pA)))) pA)))
  (t:=let y0:ak SV:=lT [.agg [.int .i64 0,.int .i64 0,.int .i64 0,.int .i64 0],.int .i64 1];rT (rT (.ag (fI m v.1) (rT (rT (rT (.ag (fI m v.2.1) (rT (rT (rT (.ag (fI m v.2.2) (rT (rT (rT (.ag (fI m e) (rT (.ag (m.xy) (rT (rT (rT (rT (rT (rT (lT [.agg [.int .i64 (i64.wrap (cZ (cA m 0) v.1+cZ (cA m 1) v.2.1)),.int .i64 (i64.wrap (cZ (cA m 0) v.1-cZ (cA m 1) v.2.1)),.int .i64 (cZ (cA m 2) v.2.2),.int .i64 (cZ (cA m 3) e)],.int .i64 0]))))))) (lT [.agg [.int .i64 (cZ (cA m 0) v.1),.int .i64 (cZ (cA m 1) v.2.1),.int .i64 (cZ (cA m 2) v.2.2),.int .i64 (cZ (cA m 3) e)],.int .i64 0]))) y0)))) y0)))) y0)))) y0)))
  (by kernel_rfl) (by
   have B6:cA m 0=m.x:=rfl;have B5:cA m 1=m.y:=rfl;have B4:cA m 2=m.z:=rfl;have B3:cA m 3=m.e:=rfl;simp only[ak.holds,sM];simp only[B6,B5,B4,B3];(repeat' (first|apply aX|intro _));
   all_goals first
    |(rw[JN (eB.2 (by rw[dz,tL];first|omega|grind))];rfl)
    |(have hk:=tL.1 (show iL m v e=true by rw[tL];grind)
      have ho:=(Ma.bz m).1 (dK.1 hk.1).1;have r1:=(oV ho.1 (dK.1 hk.1).2).2;have r2:=(oV ho.2.1 (dK.1 hk.2.1).2).2;rw[JM (tL.2 hk)];have w1:=aG (x:=cZ m.x v.1+cZ m.y v.2.1) (by omega) (by omega);have w2:=aG (x:=cZ m.x v.1-cZ m.y v.2.1) (by omega) (by omega);unfold mg Fg;rename_i BF
      simp only[BF,w1,w2];rfl)) (by kernel_rfl) (by unfold zh;split<;>rfl)
theorem xN9(m:Ma)(v:V3)(e:Int):SCall pP 271 [m.sv,V3.sv v,J e] (zh m v e):=
 v9 aL [qm3] ⟨yM3,trivial⟩ 1000 (.go (.ar (.ah (.ar (.go (.ar (.ah (.ar (.go (.ar (.ah (.ar (.go (.ar (.ah (.ar (.go (.ar (.ah (.all) (.all))))) pA)))) pA)))) pA)))) pA)))
  (t:=let y0:ak SV:=lT [.agg [.int .i64 0,.int .i64 0,.int .i64 0,.int .i64 0],.int .i64 1];rT (rT (.ag (fI m v.1) (rT (rT (rT (.ag (fI m v.2.1) (rT (rT (rT (.ag (fI m v.2.2) (rT (rT (rT (.ag (fI m e) (rT (.ag (m.xy) (rT (rT (rT (rT (lT [.agg [.int .i64 (i64.wrap (cZ (cA m 0) v.1+cZ (cA m 1) v.2.1)),.int .i64 (i64.wrap (cZ (cA m 0) v.1-cZ (cA m 1) v.2.1)),.int .i64 (cZ (cA m 2) v.2.2),.int .i64 (cZ (cA m 3) e)],.int .i64 0]))))) (lT [.agg [.int .i64 (cZ (cA m 0) v.1),.int .i64 (cZ (cA m 1) v.2.1),.int .i64 (cZ (cA m 2) v.2.2),.int .i64 (cZ (cA m 3) e)],.int .i64 0]))) y0)))) y0)))) y0)))) y0)))
  (by kernel_rfl) (by
   have B6:cA m 0=m.x:=rfl;have B5:cA m 1=m.y:=rfl;have B4:cA m 2=m.z:=rfl;have B3:cA m 3=m.e:=rfl;simp only[ak.holds,sM];simp only[B6,B5,B4,B3];(repeat' (first|apply aX|intro _));
   all_goals first
    |(rw[JN (eB.2 (by rw[dz,tL];first|omega|grind))];rfl)
    |(have hk:=tL.1 (show iL m v e=true by rw[tL];grind)
      have ho:=(Ma.bz m).1 (dK.1 hk.1).1;have r1:=(oV ho.1 (dK.1 hk.1).2).2;have r2:=(oV ho.2.1 (dK.1 hk.2.1).2).2;rw[JM (tL.2 hk)];have w1:=aG (x:=cZ m.x v.1+cZ m.y v.2.1) (by omega) (by omega);have w2:=aG (x:=cZ m.x v.1-cZ m.y v.2.1) (by omega) (by omega);unfold mg Fg;rename_i BF
      simp only[BF,w1,w2];rfl)) (by kernel_rfl) (by unfold zh;split<;>rfl)
def zJ:aB:=KO 63 λm v e=>.ag (iL m v e) (.ai (.tuple [V4.sv (mg m v e),J 0])) (.ai (.tuple [V4.sv z4,J 1]))
def qe2:aB:=KO 271 λm v e=>.ag (iL m v e) (.ai (.tuple [V4.sv (mg m v e),J 0])) (.ai (.tuple [V4.sv z4,J 1]))
def YS:zJ.ok pP:=qv5 (λm v e=>⟨λhk=>JM hk▸xN8 m v e,λhk=>JN hk▸xN8 m v e⟩)
def yD5:qe2.ok pP:=qv5 (λm v e=>⟨λhk=>JM hk▸xN9 m v e,λhk=>JN hk▸xN9 m v e⟩)
theorem xK1(m:Ma)(v:V3):SCall pP 214 [m.sv,V3.sv v] (.bool (gC m v)):=
 aY aL [pS] ⟨qB,trivial⟩ 1000 (.go (.ar (.ah (.ln 7 pA) (.ln 7 (.ah .all (.go (.ar (.ah (.ln 7 pA) (.ln 7 (.ah .all (.go (.ar (.ah (.ln 7 pA) (.ln 7 (.ah .all (.go pA))))))))))))))))
  (t:=let y0:ak SV:=.ai (.bool false);rT (rT (.ag (v.1<m.x.min) y0 (rT (.ag (v.1>m.x.max) y0 (rT (rT (.ag (v.2.1<m.y.min) y0 (rT (.ag (v.2.1>m.y.max) y0 (rT (rT (.ag (v.2.2<m.z.min) y0 (rT (.ag (v.2.2>m.z.max) y0 (.ai (.bool m.ok)))))))))))))))))
  (by kernel_rfl) (by simp only[ak.holds,sM];(repeat' (first|apply aX|intro _));all_goals(refine jh ?_;rw[Lw];(try simp only[sM]); first|omega|grind)) (by kernel_rfl)
theorem xK2(m:Ma)(v:V3):SCall pP 272 [m.sv,V3.sv v] (.bool (gC m v)):=
 aY aL [pR] ⟨qA,trivial⟩ 1000 (.ah (.ln 5 (.ah (.ln 5 (.ah (.ln 5 (.ah (.ln 5 (.ah (.ln 5 (.ah (.ln 4 pA) (.ln 4 pA))) (.ln 5 pA))) (.ln 11 pA))) (.ln 12 pA))) (.ln 18 pA))) (.ln 19 pA))
  (t:=let y0:ak SV:=.ai (.bool false);.ag (m.ok) (rT (.ag (v.1>=m.x.min) (.ag (v.1<=m.x.max) (rT (.ag (v.2.1>=m.y.min) (.ag (v.2.1<=m.y.max) (rT (.ag (v.2.2>=m.z.min) (.ai (.bool (v.2.2<=m.z.max))) y0)) y0) y0)) y0) y0)) y0)
  (by kernel_rfl) (by simp only[ak.holds,sM];(repeat' (first|apply aX|intro _));all_goals(refine jh ?_;rw[Lw];(try simp only[sM]); first|omega|grind)) (by kernel_rfl)
def zK:aB:=KS 214 λm v=>.ai (.bool (gC m v))
def qb5:aB:=KS 272 λm v=>.ai (.bool (gC m v))
def YX:zK.ok pP:=qv6 (xK1)
def yA9:qb5.ok pP:=qv6 (xK2)
def xS7(m:Ma)(p:V4)(h:(m.ok&&u7 p)=true):SCall pP 193 [m.sv,V4.sv p] (.tuple [V3.sv ((dh m p).1,(dh m p).2.1,(dh m p).2.2.1),J (dh m p).2.2.2,J 0]):=
 aY aL [xF,Ji,pS] ⟨PI,OY,qB,trivial⟩ 1000 (let z0:ax:=.go (.ar (.ah (.ar (.go (.ar (.ah (.ar (.go (.ar (.ah (.ar (.go (.ar (.ah (.ar (.go pA)) pA)))) pA)))) pA)))) pA));let z1:ax:=.ln 3 pA;.go (.ar (.ah (.ln 3 (.ah .all (.go (.ar (.ah (.ln 3 (.ah .all (.go (.ar (.ah (.ln 3 (.ah .all (.go (.ar (.ah (.ln 3 (.ah .all (.go (.ar (.ah z0 z0))))) z1))))) z1))))) z1))))) z1)))
  (t:=let y0:ak SV:=lT [.agg [.int .i64 0,.int .i64 0,.int .i64 0],.int .i64 0,.int .i64 1];rT (.ag (p.1>=-281474976710656) (.ag (!decide (p.1<=281474976710656)) y0 (rT (.ag (p.2.1>=-281474976710656) (.ag (!decide (p.2.1<=281474976710656)) y0 (rT (.ag (p.2.2.1>=-281474976710656) (.ag (!decide (p.2.2.1<=281474976710656)) y0 (rT (.ag (p.2.2.2>=-281474976710656) (.ag (!decide (p.2.2.2<=281474976710656)) y0 (.ag (m.xy) (rT (rT (.aj (az (i64.wrap (p.1+p.2.1)) (-4611686018427387904) 4611686018427387904) (rT (rT (.aj (az (i64.wrap (p.1-p.2.1)) (-4611686018427387904) 4611686018427387904) (rT (rT (rT (rT (.ag (e7 m (i64.wrap (p.1+p.2.1) / 2)) (rT (rT (rT (.ag (e7 m (i64.wrap (p.1-p.2.1) / 2)) (rT (rT (rT (.ag (e7 m p.2.2.1) (rT (rT (rT (.ag (e7 m p.2.2.2) (rT (rT (rT (rT (rT (lT [.agg [.int .i64 (dY (cA m 0) (i64.wrap (p.1+p.2.1) / 2)),.int .i64 (dY (cA m 1) (i64.wrap (p.1-p.2.1) / 2)),.int .i64 (dY (cA m 2) p.2.2.1)],.int .i64 (dY (cA m 3) p.2.2.2),.int .i64 0])))))) y0)))) y0)))) y0)))) y0))))))))))) (rT (rT (.ag (e7 m p.1) (rT (rT (rT (.ag (e7 m p.2.1) (rT (rT (rT (.ag (e7 m p.2.2.1) (rT (rT (rT (.ag (e7 m p.2.2.2) (rT (rT (rT (rT (rT (lT [.agg [.int .i64 (dY (cA m 0) p.1),.int .i64 (dY (cA m 1) p.2.1),.int .i64 (dY (cA m 2) p.2.2.1)],.int .i64 (dY (cA m 3) p.2.2.2),.int .i64 0])))))) y0)))) y0)))) y0)))) y0))))) y0))) y0))) y0))) y0))
  (by kernel_rfl) (by
   rw[aH,fO]at h;have ho:=h.1;have n1:=aG (x:=p.1+p.2.1) (by omega) (by omega);have n2:=aG (x:=p.1-p.2.1) (by omega) (by omega);have d1:=yV (a:=p.1+p.2.1) (b:=2) (M:=33554432) (by omega) (by omega) (by omega);have d2:=yV (a:=p.1-p.2.1) (b:=2) (M:=33554432) (by omega) (by omega) (by omega)
   have u:∀n:Int,-33554432<=n/\n<=33554432->e7 m n=true:=λn hn=>fH.2 ⟨ho,by omega⟩
   have u1:=u _ d1;have u2:=u _ d2;have u3:=u p.1 (by omega);have u4:=u p.2.1 (by omega);have u5:=u p.2.2.1 (by omega);have u6:=u p.2.2.2 (by omega);have B6:cA m 0=m.x:=rfl;have B5:cA m 1=m.y:=rfl;have B4:cA m 2=m.z:=rfl;have B3:cA m 3=m.e:=rfl;have i1:az (p.1+p.2.1) (-4611686018427387904) 4611686018427387904=true:=v5.2 (by omega);have i2:az (p.1-p.2.1) (-4611686018427387904) 4611686018427387904=true:=v5.2 (by omega)
   have q0:∀n:Int,-16777216<=n/\n<=16777216->decide (n>=-281474976710656)=true/\decide (n<=281474976710656)=true/\decide (n < -281474976710656)=false/\decide (n>281474976710656)=false:=λn hn=>⟨bn (by omega),bn (by omega),iX (by omega),iX (by omega)⟩
   obtain⟨q1,q2,q3,q4⟩:=q0 p.1 (by omega);obtain⟨q5,q6,q7,q8⟩:=q0 p.2.1 (by omega);obtain⟨q9,qa,qb,qc⟩:=q0 p.2.2.1 (by omega);obtain⟨qd,qe,qf,qg⟩:=q0 p.2.2.2 (by omega)
   cases BF:m.xy
   all_goals simp only[ak.holds,dh,sW,V3.sv,J,BF,ho,n1,n2,u1,u2,u3,u4,u5,u6,B6,B5,B4,B3,i1,i2,q1,q2,q3,q4,q5,q6,q7,q8,q9,qa,qb,qc,qd,qe,qf,qg,sM]) (by kernel_rfl)
def xS8(m:Ma)(p:V4)(h:(m.ok&&u7 p)=true):SCall pP 198 [m.sv,V4.sv p] (.tuple [V3.sv ((dh m p).1,(dh m p).2.1,(dh m p).2.2.1),J (dh m p).2.2.2,J 0]):=
 aY aL [K7,Jh,pR] ⟨PH,OX,qA,trivial⟩ 1000 (let z0:ax:=.go (.ar (.ah (.ar (.go (.ar (.ah (.ar (.go (.ar (.ah (.ar (.go (.ar (.ah (.ar (.go pA)) pA)))) pA)))) pA)))) pA));let z1:ax:=.ar (.ar pA);let z2:ax:=.ln 5 pA;.go (.ar (.ah z2 (.ar (.ar (.ah z1 (.ar (.ar (.ah .all (.go (.ar (.ah z2 (.ar (.ar (.ah z1 (.ar (.ar (.ah .all (.go (.ar (.ah z2 (.ar (.ar (.ah z1 (.ar (.ar (.ah .all (.go (.ar (.ah z2 (.ar (.ar (.ah z1 (.ar (.ar (.ah .all (.go (.ar (.ah z0 z0)))))))))))))))))))))))))))))))))))))))
  (t:=let y0:ak SV:=lT [.agg [.int .i64 0,.int .i64 0,.int .i64 0],.int .i64 0,.int .i64 1];rT (.ag (!m.ok) y0 (.ag (p.1 < -281474976710656) y0 (.ag (p.1>281474976710656) y0 (rT (.ag (!m.ok) y0 (.ag (p.2.1 < -281474976710656) y0 (.ag (p.2.1>281474976710656) y0 (rT (.ag (!m.ok) y0 (.ag (p.2.2.1 < -281474976710656) y0 (.ag (p.2.2.1>281474976710656) y0 (rT (.ag (!m.ok) y0 (.ag (p.2.2.2 < -281474976710656) y0 (.ag (p.2.2.2>281474976710656) y0 (.ag (m.xy) (rT (rT (.aj (az (i64.wrap (p.1+p.2.1)) (-4611686018427387904) 4611686018427387904) (rT (rT (.aj (az (i64.wrap (p.1-p.2.1)) (-4611686018427387904) 4611686018427387904) (rT (rT (rT (rT (.ag (e7 m (i64.wrap (p.1+p.2.1) / 2)) (rT (rT (rT (.ag (e7 m (i64.wrap (p.1-p.2.1) / 2)) (rT (rT (rT (.ag (e7 m p.2.2.1) (rT (rT (rT (.ag (e7 m p.2.2.2) (rT (rT (rT (rT (rT (lT [.agg [.int .i64 (dY (cA m 0) (i64.wrap (p.1+p.2.1) / 2)),.int .i64 (dY (cA m 1) (i64.wrap (p.1-p.2.1) / 2)),.int .i64 (dY (cA m 2) p.2.2.1)],.int .i64 (dY (cA m 3) p.2.2.2),.int .i64 0])))))) y0)))) y0)))) y0)))) y0))))))))))) (rT (rT (.ag (e7 m p.1) (rT (rT (rT (.ag (e7 m p.2.1) (rT (rT (rT (.ag (e7 m p.2.2.1) (rT (rT (rT (.ag (e7 m p.2.2.2) (rT (rT (rT (rT (rT (lT [.agg [.int .i64 (dY (cA m 0) p.1),.int .i64 (dY (cA m 1) p.2.1),.int .i64 (dY (cA m 2) p.2.2.1)],.int .i64 (dY (cA m 3) p.2.2.2),.int .i64 0])))))) y0)))) y0)))) y0)))) y0))))))))))))))))))))
  (by kernel_rfl) (by
   rw[aH,fO]at h;have ho:=h.1;have n1:=aG (x:=p.1+p.2.1) (by omega) (by omega);have n2:=aG (x:=p.1-p.2.1) (by omega) (by omega);have d1:=yV (a:=p.1+p.2.1) (b:=2) (M:=33554432) (by omega) (by omega) (by omega);have d2:=yV (a:=p.1-p.2.1) (b:=2) (M:=33554432) (by omega) (by omega) (by omega)
   have u:∀n:Int,-33554432<=n/\n<=33554432->e7 m n=true:=λn hn=>fH.2 ⟨ho,by omega⟩
   have u1:=u _ d1;have u2:=u _ d2;have u3:=u p.1 (by omega);have u4:=u p.2.1 (by omega);have u5:=u p.2.2.1 (by omega);have u6:=u p.2.2.2 (by omega);have B6:cA m 0=m.x:=rfl;have B5:cA m 1=m.y:=rfl;have B4:cA m 2=m.z:=rfl;have B3:cA m 3=m.e:=rfl;have i1:az (p.1+p.2.1) (-4611686018427387904) 4611686018427387904=true:=v5.2 (by omega);have i2:az (p.1-p.2.1) (-4611686018427387904) 4611686018427387904=true:=v5.2 (by omega)
   have q0:∀n:Int,-16777216<=n/\n<=16777216->decide (n>=-281474976710656)=true/\decide (n<=281474976710656)=true/\decide (n < -281474976710656)=false/\decide (n>281474976710656)=false:=λn hn=>⟨bn (by omega),bn (by omega),iX (by omega),iX (by omega)⟩
   obtain⟨q1,q2,q3,q4⟩:=q0 p.1 (by omega);obtain⟨q5,q6,q7,q8⟩:=q0 p.2.1 (by omega);obtain⟨q9,qa,qb,qc⟩:=q0 p.2.2.1 (by omega);obtain⟨qd,qe,qf,qg⟩:=q0 p.2.2.2 (by omega)
   cases BF:m.xy
   all_goals simp only[ak.holds,dh,sW,V3.sv,J,BF,ho,n1,n2,u1,u2,u3,u4,u5,u6,B6,B5,B4,B3,i1,i2,q1,q2,q3,q4,q5,q6,q7,q8,q9,qa,qb,qc,qd,qe,qf,qg,sM]) (by kernel_rfl)
def zG:aB:=Dk 193 λm p=>.aj (m.ok&&u7 p) (lT [V3.sv ((dh m p).1,(dh m p).2.1,(dh m p).2.2.1),J (dh m p).2.2.2,J 0])
def Rn:aB:=Dk 198 λm p=>.aj (m.ok&&u7 p) (lT [V3.sv ((dh m p).1,(dh m p).2.1,(dh m p).2.2.1),J (dh m p).2.2.2,J 0])
def YK:zG.ok pP:=KP (λm p h=>xS7 m p h)
def YJ:Rn.ok pP:=KP (λm p h=>xS8 m p h)
def fD(v a b c:Int):Int:=if a*b / c<v then a*b / c else v
def KV(f:FuncId)(h:Int->Int->Int->Int->ak SV):aB:=⟨f,λargs=>match args with
 |[.int .i64 a,.int .i64 b,.int .i64 c,.int .i64 d] =>some (h a b c d)
 |_=>none⟩
def qt5{f:FuncId}{h:Int->Int->Int->Int->ak SV}(k:∀a b c d,(h a b c d).bw (SCall P f [J a,J b,J c,J d])):(KV f h).ok P:=λargs t ht=>by
 simp only[KV]at ht
 split at ht<;>cases ht;exact k _ _ _ _
def okB(v a b c:Int):Bool:=vo a b c&&az v 0 16777216
variable{v:Int}
def xd{c:Int}:okB v a b c=true↔vo a b c=true/\0<=v/\v<=16777216:=by simp only[okB,aH,v5]
def x10(n:Int)(hn:az n (-4611686018427387904) 4611686018427387904=true):SCall pP 290 [J n] (J (sz n)):=
 aY aL [] trivial 1000 (.all)
  (t:=.ai (SV.int i64 (if i64.wrap (0-n)>n then i64.wrap (0-n)else n)))
  (by kernel_rfl) (by
   rw[v5]at hn
   have e:i64.wrap (0-n)= -n:=by rw[aG (by omega) (by omega)];omega
   simp only[ak.holds,sM];(repeat' (first|apply aX|intro _));all_goals((try simp only[e]);refine mJ ?_;unfold sz;(repeat' split)<;>omega)) (by kernel_rfl)
def x11(n:Int)(hn:az n (-4611686018427387904) 4611686018427387904=true):SCall pP 99 [J n] (J (sz n)):=
 aY aL [] trivial 1000 (.ah (.all) (.all))
  (t:=.ag (n<0)
 (.ai (SV.int i64 (i64.wrap (0-n))))
 (.ai (SV.int i64 n)))
   (by kernel_rfl) (by
    rw[v5]at hn
    have e:i64.wrap (0-n)= -n:=by rw[aG (by omega) (by omega)];omega
    simp only[ak.holds,sM];(repeat' (first|apply aX|intro _));all_goals((try simp only[e]);refine mJ ?_;unfold sz;(repeat' split)<;>omega)) (by kernel_rfl)
def PL:(nK 290).ok pP:=rq λn h=>x10 n h
def PK:(nK 99).ok pP:=rq λn h=>x11 n h
def xB7(a b c v:Int)(h:okB v a b c=true):SCall pP 289 [J a,J b,J c,J v] (J (fD v a b c)):=
 aY aL [fMd] ⟨yD0,trivial⟩ 1000 (.ah pA pA)
  (t:=.aj (vo a b c) (.ag (a*b / c<9223372036854775808)
 (.ai (SV.int i64 (if v<a*b / c then v else a*b / c)))
 (.ai (SV.int i64 v))))
  (by kernel_rfl) (by
   have o:=xd.1 h;have m:=tO.1 o.1;simp only[ak.holds,sM];(repeat' (first|apply aX|intro _));
   all_goals first
    |exact o.1
    |(refine mJ ?_;unfold fD;(repeat' split)<;>omega)) (by kernel_rfl)
def xM6(v a b c:Int)(h:okB v a b c=true):SCall pP 98 [J v,J a,J b,J c] (J (fD v a b c)):=
 aY aL [qd8] ⟨yD1,trivial⟩ 1000 (.ah (.ln 4 (.ah .all .all)) (.ln 4 pA))
  (t:=.aj (vo a b c) (.ag (a*b / c<9223372036854775808)
 (.ag (a*b / c<v)
  (.ai (SV.int i64 (a*b / c)))
  (.ai (SV.int i64 v)))
 (.ai (SV.int i64 v))))
  (by kernel_rfl) (by
   have o:=xd.1 h;have m:=tO.1 o.1;simp only[ak.holds,sM];(repeat' (first|apply aX|intro _));
   all_goals first
    |exact o.1
    |(refine mJ ?_;unfold fD;(repeat' split)<;>omega)) (by kernel_rfl)
def Jo:aB:=KV 289 λa b c v=>.aj (okB v a b c) (.ai (J (fD v a b c)))
def Li:aB:=KV 98 λv a b c=>.aj (okB v a b c) (.ai (J (fD v a b c)))
def O4:Jo.ok pP:=qt5 λa b c v h=>xB7 a b c v h
def PU:Li.ok pP:=qt5 λv a b c h=>xM6 v a b c h
def kw(n v s k:Int):Int:=if k=0 then v else fD v s n (sz k)
def VR(m:Ma)(c:V4):Int:=kw (aF c) (kw (aF c) (kw (aF c) (kw (aF c) 16777216 m.x.bV c.1) m.y.bV c.2.1) m.z.bV c.2.2.1) m.e.bV c.2.2.2
def JY{c:Int}(h:okB v a b c=true):0<=fD v a b c/\fD v a b c<=v:=by
 have o:=xd.1 h;have m:=tO.1 o.1;have:0<=a*b / c:=ES (wB m.1.1 m.2.1.1) (by omega)
 unfold fD;split<;>omega
def ya9{c:Int}(h:okB v a b c=true)(hc:c<=a*b)(hv:1<=v):1<=fD v a b c/\fD v a b c<=v:=by
 have o:=xd.1 h;have m:=tO.1 o.1;have:1<=a*b / c:=NK (by omega) (by omega)
 unfold fD;split<;>omega
variable{s n k:Int}
def E1(hs:1<=s/\s<=16777216)(hn:1<=n/\n<=16777216)(hv:1<=v/\v<=16777216)(hk:¬k=0)(hz:sz k<=n):okB v s n (sz k)=true/\sz k<=s*n:=by
 have:1<=sz k:=by unfold sz;split<;>omega
 have h2:1*n<=s*n:=Ce hs.1 (by omega);exact⟨xd.2 ⟨tO.2 (by omega),by omega⟩,by omega⟩
def MM(hs:1<=s/\s<=16777216)(hn:1<=n/\n<=16777216)(hv:1<=v/\v<=16777216)(hz:sz k<=n):1<=kw n v s k/\kw n v s k<=v:=by
 unfold kw
 split;.omega
 .rename_i hk
  obtain⟨h1,h2⟩:=E1 hs hn hv hk hz;exact ya9 h1 h2 hv.1
def yb0(h:¬k=0):fD v s n (sz k)=kw n v s k:=(au h).symm
def je7(h:k=0):v=kw n v s k:=(ay h).symm
structure UZ (M:Int) (m:Ma) (c:V4) (s:Ax->Int):Prop where
 h1:∀v,1<=v/\v<=M->1<=kw (aF c) v (s m.x) c.1/\kw (aF c) v (s m.x) c.1<=M
 h2:∀v,1<=v/\v<=M->1<=kw (aF c) v (s m.y) c.2.1/\kw (aF c) v (s m.y) c.2.1<=M
 h3:∀v,1<=v/\v<=M->1<=kw (aF c) v (s m.z) c.2.2.1/\kw (aF c) v (s m.z) c.2.2.1<=M
 h4:∀v,1<=v/\v<=M->1<=kw (aF c) v (s m.e) c.2.2.2/\kw (aF c) v (s m.e) c.2.2.2<=M
 k1:∀v,1<=v/\v<=M->¬c.1=0->okB v (s m.x) (aF c) (sz c.1)=true
 k2:∀v,1<=v/\v<=M->¬c.2.1=0->okB v (s m.y) (aF c) (sz c.2.1)=true
 k3:∀v,1<=v/\v<=M->¬c.2.2.1=0->okB v (s m.z) (aF c) (sz c.2.2.1)=true
 k4:∀v,1<=v/\v<=M->¬c.2.2.2=0->okB v (s m.e) (aF c) (sz c.2.2.2)=true
variable{M:Int}{m:Ma}{c:V4}
def DY{s:Ax->Int}(hM:M<=16777216)(hc:bM c=true)(hs:∀a:Ax,a.ok=true->1<=s a/\s a<=16777216)(hm:m.ok=true):UZ M m c s:=by
 have o:=(Ma.bz m).1 hm;have d:=vk hc;rw[<-AU hc]at d
 have n1:1<=aF c/\aF c<=16777216:=by omega
 refine⟨λv hv=>?_,λv hv=>?_,λv hv=>?_,λv hv=>?_,λv hv k=>(E1 (hs _ o.1) n1 (by omega) k (by omega)).1,λv hv k=>(E1 (hs _ o.2.1) n1 (by omega) k (by omega)).1,λv hv k=>(E1 (hs _ o.2.2.1) n1 (by omega) k (by omega)).1,λv hv k=>(E1 (hs _ o.2.2.2.1) n1 (by omega) k (by omega)).1⟩;.have:=MM (hs _ o.1) n1 (v:=v) (by omega) (k:=c.1) (by omega);omega
 .have:=MM (hs _ o.2.1) n1 (v:=v) (by omega) (k:=c.2.1) (by omega);omega
 .have:=MM (hs _ o.2.2.1) n1 (v:=v) (by omega) (k:=c.2.2.1) (by omega);omega
 .have:=MM (hs _ o.2.2.2.1) n1 (v:=v) (by omega) (k:=c.2.2.2) (by omega);omega
def NS(a:Ax)(h:a.ok=true):1<=a.bP/\a.bP<=16777216:=by have:=(Ax.bz a).1 h;omega
def NT(a:Ax)(h:a.ok=true):1<=a.bV/\a.bV<=16777216:=by have:=(Ax.bz a).1 h;omega
def si(a:Ax)(h:a.ok=true):1<=a.bB/\a.bB<=1048576:=by have:=(Ax.bz a).1 h;omega
def iB(m:Ma)(c:V4):Bool:=m.ok&&bM c
def mj:iB m c=true↔m.ok=true/\bM c=true:=by simp only[iB,aH]
def ku(m:Ma)(c:V4):Int:=match iB m c with
 |true=>VR m c
 |false=>0
def N9(h:iB m c=true):ku m c=VR m c:=by unfold ku;rw[h]
def VP(h:iB m c=false):ku m c=0:=by unfold ku;rw[h]
def G0(n v s k:Int)(K:Int->ak SV):ak SV:=rT (.ag (k != 0) (rT (rT (.aj (az k (-4611686018427387904) 4611686018427387904) (.aj (okB v s n (sz k)) (K (fD v s n (sz k))))))) (K v))
variable{L:SV->Prop}
def MJ{K:Int->ak SV}(hk:az k (-4611686018427387904) 4611686018427387904=true)(hb:¬k=0->okB v s n (sz k)=true)(h:(K (kw n v s k)).holds L):(G0 n v s k K).holds L:=by
 refine⟨rfl,λc=>⟨rfl,rfl,hk,hb ?_,?_⟩,λc=>?_⟩
 .simpa using c
 .rw[yb0 (by simpa using c)];exact h
 .rw[je7 (n:=n) (v:=v) (s:=s) (k:=k) (by simpa using c)];exact h
def GA(m:Ma)(c:V4)(s:Ax->Int)(v:Int)(K:Int->ak SV):ak SV:=G0 (aF c) v (s m.x) c.1 λv=>G0 (aF c) v (s m.y) c.2.1 λv=>G0 (aF c) v (s m.z) c.2.2.1 λv=>G0 (aF c) v (s m.e) c.2.2.2 K
def uH(m:Ma)(c:V4)(s:Ax->Int)(v:Int):Int:=kw (aF c) (kw (aF c) (kw (aF c) (kw (aF c) v (s m.x) c.1) (s m.y) c.2.1) (s m.z) c.2.2.1) (s m.e) c.2.2.2
def LN{s:Ax->Int}{K:Int->ak SV}(f:UZ M m c s)(hc:bM c=true)(hv:1<=v/\v<=M)(h:(K (uH m c s v)).holds L):(GA m c s v K).holds L:=by
 have b:=(nU.1 hc).1;have v1:=f.h1 v hv;have v2:=f.h2 _ v1;have v3:=f.h3 _ v2;exact MJ (v5.2 (by omega)) (f.k1 v hv) (MJ (v5.2 (by omega)) (f.k2 _ v1) (MJ (v5.2 (by omega)) (f.k3 _ v2) (MJ (v5.2 (by omega)) (f.k4 _ v3) h)))
def LM{s:Ax->Int}(f:UZ M m c s)(hv:1<=v/\v<=M):1<=uH m c s v/\uH m c s v<=M:=f.h4 _ (f.h3 _ (f.h2 _ (f.h1 v hv)))
def xz3(m:Ma)(c:V4):SCall pP 260 [m.sv,V4.sv c] (J (ku m c)):=
 aY aL [z70,DG,pS,Jo,nK 290] ⟨sx,FL,qB,O4,PL,trivial⟩ 1000 (let z1:ax:=.go (.ar (.ah (.go pA) (.go pA)));let z0:ax:=.go (.ar (.ah z1 z1));.go (.ar (.ah pA (.go (.ar (.ah (.all) (.go (.ar (.ah (.go (.ar (.ah z0 z0))) (.go (.ar (.ah z0 z0))))))))))))
  (t:=rT (.ag (!bM c) (.ai (J 0)) (.ag (!m.ok) (.ai (J 0)) (GA m c Ax.bV 16777216 λv=>.ai (J v)))))
  (by kernel_rfl) (by
   cases hl:iB m c with
   |false=>
    have:=mt mj.2 (by rw[hl];exact fS);simp only[ak.holds,VP hl,sM]
    (repeat' (first|apply aX|intro _))<;>first|rfl|(exfalso;simp_all)
   |true=>
    obtain⟨hm,hc⟩:=mj.1 hl;simp only[ak.holds,N9 hl,hm,hc,sM]
    exact LN (M:=16777216) (DY (by omega) hc NT hm) hc (by omega) rfl) (by kernel_rfl)
def xz4(m:Ma)(c:V4):SCall pP 36 [m.sv,V4.sv c] (J (ku m c)):=
 aY aL [rl,DF,pR,Li,nK 99] ⟨sw,FK,qA,PU,PK,trivial⟩ 1000 (let z1:ax:=.go (.ar (.ah (.go pA) (.go pA)));let z0:ax:=.go (.ar (.ah z1 z1));.ah (.ln 3 pA) (.ln 3 (.ah .all (.go (.ar (.ah (.go (.ar (.ah z0 z0))) (.go (.ar (.ah z0 z0)))))))))
  (t:=.ag (!m.ok) (.ai (J 0)) (.ag (!bM c) (.ai (J 0)) (GA m c Ax.bV 16777216 λv=>.ai (J v))))
  (by kernel_rfl) (by
   cases hl:iB m c with
   |false=>
    have:=mt mj.2 (by rw[hl];exact fS);simp only[ak.holds,VP hl,sM]
    (repeat' (first|apply aX|intro _))<;>first|rfl|(exfalso;simp_all)
   |true=>
    obtain⟨hm,hc⟩:=mj.1 hl;simp only[ak.holds,N9 hl,hm,hc,sM]
    exact LN (M:=16777216) (DY (by omega) hc NT hm) hc (by omega) rfl) (by kernel_rfl)
def z28:aB:=Dk 260 λm c=>.ai (J (ku m c))
def Fs:aB:=Dk 36 λm c=>.ai (J (ku m c))
def Xz:z28.ok pP:=KP (xz3)
def yr6:Fs.ok pP:=KP (xz4)
def El(v n l f:Int):Int:=if 0<l/\0<f then(if fD v f n l<1 then 1 else fD v f n l)else v
def dL(m:Ma)(c:V4)(l f:Int):Int:=match iB m c with
 |true=>El (uH m c Ax.bP 1048576) (aF c) l f
 |false=>0
variable{l:Int}
def MN{f:Int}(h:iB m c=true):dL m c l f=El (uH m c Ax.bP 1048576) (aF c) l f:=by unfold dL;rw[h]
def jc9{f:Int}(h:iB m c=false):dL m c l f=0:=by unfold dL;rw[h]
def wO(hc:bM c=true):1<=aF c/\aF c<=16777216:=⟨Wd hc,(nQ c).2⟩
def S5{f:Int}(hv:1<=v/\v<=1048576)(hn:1<=n/\n<=16777216)(hl:0<l/\l<=9223372036854775807)(hf:0<f/\f<=9223372036854775807):okB v f n l=true:=xd.2 ⟨tO.2 (by omega),by omega⟩
def jS(v A B x:Int):Int:=if sz x=0 then v else fD v A B (sz x)
def jd(a b:V4)(x y:Int):Int:=x*aF b-y*aF a
def kD(m:Ma)(a b:V4):Int:=match iB m a&&bM b with
 |true=>jS (jS (jS (jS 1048576 (m.x.bB*aF a) (aF b) (jd a b a.1 b.1)) (m.y.bB*aF a) (aF b) (jd a b a.2.1 b.2.1)) (m.z.bB*aF a) (aF b) (jd a b a.2.2.1 b.2.2.1)) (m.e.bB*aF a) (aF b) (jd a b a.2.2.2 b.2.2.2)
 |false=>0
def Sh{a b:V4}(h:(iB m a&&bM b)=false):kD m a b=0:=by unfold kD;rw[h]
def Sg{a b:V4}(h:(iB m a&&bM b)=true):kD m a b=jS (jS (jS (jS 1048576 (m.x.bB*aF a) (aF b) (jd a b a.1 b.1)) (m.y.bB*aF a) (aF b) (jd a b a.2.1 b.2.1)) (m.z.bB*aF a) (aF b) (jd a b a.2.2.1 b.2.2.1)) (m.e.bB*aF a) (aF b) (jd a b a.2.2.2 b.2.2.2):=by unfold kD;rw[h]
def jT(e:Int->Bool)(x A B v:Int)(K:Int->ak SV):ak SV:=rT (rT (.aj (az x (-4611686018427387904) 4611686018427387904) (.ag (e (sz x)) (rT (.aj (okB v A B (sz x)) (K (fD v A B (sz x))))) (K v))))
def zV{e:Int->Bool}(he:∀n,0<=n->(e n=true↔¬n=0)){A B:Int}{K:Int->ak SV}(hx:az x (-4611686018427387904) 4611686018427387904=true)(hb:¬sz x=0->okB v A B (sz x)=true)(h:(K (jS v A B x)).holds L):(jT e x A B v K).holds L:=by
 have z:=Ei x;refine⟨rfl,rfl,hx,λc=>⟨rfl,hb ((he _ z).1 c),?_⟩,λc=>?_⟩;.rw[show fD v A B (sz x)=jS v A B x from(au ((he _ z).1 c)).symm];exact h
 .have:sz x=0:=by
   have hn:=mt (he _ z).2 (by rw[c];exact fS);omega
  rw[show v=jS v A B x from(ay this).symm];exact h
def vG{A B:Int}(hv:0<=v/\v<=1048576)(h:¬sz x=0->okB v A B (sz x)=true):0<=jS v A B x/\jS v A B x<=1048576:=by
 unfold jS
 split;.exact hv
 .rename_i c
  have:=JY (h c);omega
def q09{a b:V4}{y:Int}(hx: -16777216<=x/\x<=16777216)(hy: -16777216<=y/\y<=16777216):(-281474976710656<=x*aF b/\x*aF b<=281474976710656)/\(-281474976710656<=y*aF a/\y*aF a<=281474976710656):=by
 have h1:=JJ (A:=16777216) (B:=16777216) (by omega) hx (nQ b);have h2:=JJ (A:=16777216) (B:=16777216) (by omega) hy (nQ a);omega
def sO{a b:V4}{y:Int}(hx: -16777216<=x/\x<=16777216)(hy: -16777216<=y/\y<=16777216):i64.wrap (i64.wrap (x*aF b)-i64.wrap (y*aF a))=jd a b x y/\az (jd a b x y) (-4611686018427387904) 4611686018427387904=true/\sz (jd a b x y)<=562949953421312:=by
 have r:=q09 (a:=a) (b:=b) hx hy;unfold jd;rw[aG (x:=x*aF b) (by omega) (by omega),aG (x:=y*aF a) (by omega) (by omega),aG (by omega) (by omega)];refine⟨rfl,v5.2 (by omega),?_⟩
 unfold sz;split<;>omega
variable{j:Int}
def ya7{c:Int}:fD v j (n*k) c=fD v (j*n) k c:=by unfold fD;rw[NJ]
def q06:jS v j (n*k) x=jS v (j*n) k x:=by unfold jS;rw[ya7]
def sK(hj:1<=j/\j<=1048576)(hn:1<=n/\n<=16777216):0<=j*n/\j*n<=17592186044416:=by
 have h1:0<=j*n:=wB (by omega) (by omega);have h2:j*n<=1048576*16777216:=uO hj.2 hn.2 (by omega) (by omega);omega
def We(hn:1<=n/\n<=16777216)(hk:1<=k/\k<=16777216):0<=n*k/\n*k<=281474976710656:=by
 have h1:0<=n*k:=wB (by omega) (by omega);have h2:n*k<=16777216*16777216:=uO hn.2 hk.2 (by omega) (by omega);omega
def xY1(m:Ma)(c:V4)(l f:Int)(h:(dN l&&dN f)=true):SCall pP 259 [m.sv,V4.sv c,J l,J f] (J (dL m c l f)):=
 aY aL [z70,DG,pS,Jo,nK 290] ⟨sx,FL,qB,O4,PL,trivial⟩ 1000 (let z1:ax:=.go (.ar (.ah (.ar (.ar (.ah .all .all))) (.ar (.ar pA))));let z0:ax:=.go (.ar (.ah z1 z1));let z2:ax:=.go (.ar (.ah z0 z0));.go (.ar (.ah pA (.go (.ar (.ah .all (.go (.ar (.ah (.go (.ar (.ah z2 z2))) (.go (.ar (.ah z2 z2))))))))))))
  (t:=rT (.ag (!bM c) (.ai (J 0)) (.ag (!m.ok) (.ai (J 0)) (GA m c Ax.bP 1048576 λv=>.ag (l>0) (.ag (f>0) (.aj (okB v f (aF c) l) (.ai (J (if(if fD v f (aF c) l>1 then fD v f (aF c) l else 1)<v then(if fD v f (aF c) l>1 then fD v f (aF c) l else 1)else v)))) (.ai (J v))) (.ai (J v))))))
  (by kernel_rfl) (by
   rw[aH]at h;have h1:=v5.1 h.1;have h2:=v5.1 h.2
   cases hl:iB m c with
   |false=>
    have:=mt mj.2 (by rw[hl];exact fS);simp only[ak.holds,jc9 hl,sM]
    (repeat' (first|apply aX|intro _))<;>first|rfl|(exfalso;simp_all)
   |true=>
    obtain⟨hm,hc⟩:=mj.1 hl;simp only[ak.holds,MN hl,hm,hc,sM];have F:=DY (M:=1048576) (m:=m) (c:=c) (s:=Ax.bP) (by omega) hc NS hm;have fv:=LM F (v:=1048576) (by omega);refine LN (M:=1048576) F hc (by omega) ?_;unfold El;generalize uH m c Ax.bP 1048576=v at fv ⊢;have dn:=wO hc
    have ob:=λ(a:0<l) (b:0<f)=>S5 (v:=v) (n:=aF c) (l:=l) (f:=f) (by omega) dn (by omega) (by omega)
    simp only[ak.holds,sM];refine⟨λa=>⟨λb=>⟨ob a b,?_⟩,λb=>?_⟩,λa=>?_⟩
    .have ln:=JY (ob a b)
     rw[ay (show 0<l/\0<f from⟨a,b⟩)]
     refine mJ ?_;(repeat' split)<;>omega
    .rw[au (show ¬(0<l/\0<f) by omega)]
    .rw[au (show ¬(0<l/\0<f) by omega)]) (by kernel_rfl)
def xY2(m:Ma)(c:V4)(l f:Int)(h:(dN l&&dN f)=true):SCall pP 35 [m.sv,V4.sv c,J l,J f] (J (dL m c l f)):=
 aY aL [rl,DF,pR,Li,nK 99] ⟨sw,FK,qA,PU,PK,trivial⟩ 1000 (let z1:ax:=.go (.ar (.ah (.ar (.ar (.ah (.ah .all .all) .all))) (.ar (.ar pA))));let z0:ax:=.go (.ar (.ah z1 z1));let z2:ax:=.go (.ar (.ah z0 z0));.ah (.ln 3 pA) (.ln 3 (.ah .all (.go (.ar (.ah (.go (.ar (.ah z2 z2))) (.go (.ar (.ah z2 z2)))))))))
  (t:=.ag (!m.ok) (.ai (J 0)) (.ag (!bM c) (.ai (J 0)) (GA m c Ax.bP 1048576 λv=>.ag (l>0) (.ag (f>0) (.aj (okB v f (aF c) l) (.ag (fD v f (aF c) l<1) (.ai (J 1)) (.ai (J (fD v f (aF c) l))))) (.ai (J v))) (.ai (J v)))))
  (by kernel_rfl) (by
   rw[aH]at h;have h1:=v5.1 h.1;have h2:=v5.1 h.2
   cases hl:iB m c with
   |false=>
    have:=mt mj.2 (by rw[hl];exact fS);simp only[ak.holds,jc9 hl,sM]
    (repeat' (first|apply aX|intro _))<;>first|rfl|(exfalso;simp_all)
   |true=>
    obtain⟨hm,hc⟩:=mj.1 hl;simp only[ak.holds,MN hl,hm,hc,sM];have F:=DY (M:=1048576) (m:=m) (c:=c) (s:=Ax.bP) (by omega) hc NS hm;have fv:=LM F (v:=1048576) (by omega);refine LN (M:=1048576) F hc (by omega) ?_;unfold El;generalize uH m c Ax.bP 1048576=v at fv ⊢;have dn:=wO hc
    have ob:=λ(a:0<l) (b:0<f)=>S5 (v:=v) (n:=aF c) (l:=l) (f:=f) (by omega) dn (by omega) (by omega)
    simp only[ak.holds,sM];refine⟨λa=>⟨λb=>⟨ob a b,?_⟩,λb=>?_⟩,λa=>?_⟩
    .have ln:=JY (ob a b)
     rw[ay (show 0<l/\0<f from⟨a,b⟩)];exact⟨λd=>by rw[ay d],λd=>by rw[au d]⟩
    .rw[au (show ¬(0<l/\0<f) by omega)]
    .rw[au (show ¬(0<l/\0<f) by omega)]) (by kernel_rfl)
def xK7(m:Ma)(a b:V4):SCall pP 261 [m.sv,V4.sv a,V4.sv b] (J (kD m a b)):=
 aY aL [z70,DG,pS,Jo,nK 290] ⟨sx,FL,qB,O4,PL,trivial⟩ 1000 (let z2:ax:=.ar (.all);let z1:ax:=.go (.ar (.ah (.go z2) (.go z2)));let z0:ax:=.go (.ar (.ah z1 z1));.go (.ar (.ah z2 (.go (.ar (.ah z2 (.go (.ar (.ah (.all) (.go (.ar (.ah (.go (.ar (.ah z0 z0))) (.go (.ar (.ah z0 z0)))))))))))))))
  (t:=rT (.ag (!bM a) (.ai (J 0)) (rT (.ag (!bM b) (.ai (J 0)) (.ag (!m.ok) (.ai (J 0)) (jT (λn=>decide (n>0)) (i64.wrap (i64.wrap (a.1*aF b)-i64.wrap (b.1*aF a))) (i64.wrap (m.x.bB*aF a)) (aF b) 1048576 (λv=>jT (λn=>decide (n>0)) (i64.wrap (i64.wrap (a.2.1*aF b)-i64.wrap (b.2.1*aF a))) (i64.wrap (m.y.bB*aF a)) (aF b) v (λv=>jT (λn=>decide (n>0)) (i64.wrap (i64.wrap (a.2.2.1*aF b)-i64.wrap (b.2.2.1*aF a))) (i64.wrap (m.z.bB*aF a)) (aF b) v (λv=>jT (λn=>decide (n>0)) (i64.wrap (i64.wrap (a.2.2.2*aF b)-i64.wrap (b.2.2.2*aF a))) (i64.wrap (m.e.bB*aF a)) (aF b) v (λv=>.ai (J v)))))))))))
  (by kernel_rfl) (by
   cases hl:iB m a&&bM b with
   |false=>
    have hn:¬((m.ok=true/\bM a=true)/\bM b=true):=λk=>by
     have:(iB m a&&bM b)=true:=by rw[aH];exact⟨mj.2 k.1,k.2⟩
     rw[hl]at this;cases this
    simp only[ak.holds,Sh hl,sM]
    (repeat' (first|apply aX|intro _))<;>first|rfl|(exfalso;simp_all)
   |true=>
    have h2:=hl;rw[aH]at h2;obtain⟨hm,ha⟩:=mj.1 h2.1;have hb:=h2.2;have mo:=(Ma.bz m).1 hm;have ra:=(nU.1 ha).1;have rb:=(nU.1 hb).1;have da:=wO ha;have db:=wO hb;have j1:=si _ mo.1;have j2:=si _ mo.2.1;have j3:=si _ mo.2.2.1;have j4:=si _ mo.2.2.2.1;obtain⟨w1,i1,z1⟩:=sO (a:=a) (b:=b) (x:=a.1) (y:=b.1) (by omega) (by omega);obtain⟨w2,i2,z2⟩:=sO (a:=a) (b:=b) (x:=a.2.1) (y:=b.2.1) (by omega) (by omega);obtain⟨w3,i3,z3⟩:=sO (a:=a) (b:=b) (x:=a.2.2.1) (y:=b.2.2.1) (by omega) (by omega);obtain⟨w4,i4,Fp⟩:=sO (a:=a) (b:=b) (x:=a.2.2.2) (y:=b.2.2.2) (by omega) (by omega);have m1:=sK j1 da;have m2:=sK j2 da;have m3:=sK j3 da;have m4:=sK j4 da;have mm:=We da db
    have ob:∀{v A B x:Int},0<=v/\v<=1048576->0<=A/\A<=17592186044416->0<=B/\B<=281474976710656->sz x<=562949953421312->¬sz x=0->okB v A B (sz x)=true:=λ{v A B x} hv hA hB hx h0=>xd.2 ⟨tO.2 (by have:=Ei x;omega),by omega⟩
    rw[w1,w2,w3,w4];simp only[ak.holds,Sg hl,hm,ha,hb,sM];rw[aG (x:=m.x.bB*aF a) (by omega) (by omega),aG (x:=m.y.bB*aF a) (by omega) (by omega),aG (x:=m.z.bB*aF a) (by omega) (by omega),aG (x:=m.e.bB*aF a) (by omega) (by omega)]
    have v0:(0:Int)<=1048576/\(1048576:Int)<=1048576:=by omega
    have b1:=ob (x:=jd a b a.1 b.1) v0 (A:=m.x.bB*aF a) (B:=aF b) m1 (by omega) z1;have v1:=vG v0 b1;have b2:=ob (x:=jd a b a.2.1 b.2.1) v1 (A:=m.y.bB*aF a) (B:=aF b) m2 (by omega) z2;have v2:=vG v1 b2;have b3:=ob (x:=jd a b a.2.2.1 b.2.2.1) v2 (A:=m.z.bB*aF a) (B:=aF b) m3 (by omega) z3;have v3:=vG v2 b3;have b4:=ob (x:=jd a b a.2.2.2 b.2.2.2) v3 (A:=m.e.bB*aF a) (B:=aF b) m4 (by omega) Fp
    exact zV (λn hn=>⟨λk=>by have:=bG k;omega,λk=>bn (by omega)⟩) i1 b1 (zV (λn hn=>⟨λk=>by have:=bG k;omega,λk=>bn (by omega)⟩) i2 b2 (zV (λn hn=>⟨λk=>by have:=bG k;omega,λk=>bn (by omega)⟩) i3 b3 (zV (λn hn=>⟨λk=>by have:=bG k;omega,λk=>bn (by omega)⟩) i4 b4 rfl)))) (by kernel_rfl)
def xK8(m:Ma)(a b:V4):SCall pP 37 [m.sv,V4.sv a,V4.sv b] (J (kD m a b)):=
 aY aL [rl,DF,pR,Li,nK 99] ⟨sw,FK,qA,PU,PK,trivial⟩ 1000 (let z1:ax:=.go (.ar (.ah (.go pA) (.go pA)));let z0:ax:=.go (.ar (.ah z1 z1));.ah (.ln 7 pA) (.ln 3 (.ah (.ln 3 pA) (.ln 3 (.ah .all (.go (.ar (.ah (.go (.ar (.ah z0 z0))) (.go (.ar (.ah z0 z0)))))))))))
  (t:=let y0:=i64.wrap (aF a*aF b);.ag (!m.ok) (.ai (J 0)) (.ag (!bM a) (.ai (J 0)) (.ag (!bM b) (.ai (J 0)) (jT (λn=>n != 0) (i64.wrap (i64.wrap (a.1*aF b)-i64.wrap (b.1*aF a))) m.x.bB y0 1048576 (λv=>jT (λn=>n != 0) (i64.wrap (i64.wrap (a.2.1*aF b)-i64.wrap (b.2.1*aF a))) m.y.bB y0 v (λv=>jT (λn=>n != 0) (i64.wrap (i64.wrap (a.2.2.1*aF b)-i64.wrap (b.2.2.1*aF a))) m.z.bB y0 v (λv=>jT (λn=>n != 0) (i64.wrap (i64.wrap (a.2.2.2*aF b)-i64.wrap (b.2.2.2*aF a))) m.e.bB y0 v (λv=>.ai (J v)))))))))
  (by kernel_rfl) (by
   cases hl:iB m a&&bM b with
   |false=>
    have hn:¬((m.ok=true/\bM a=true)/\bM b=true):=λk=>by
     have:(iB m a&&bM b)=true:=by rw[aH];exact⟨mj.2 k.1,k.2⟩
     rw[hl]at this;cases this
    simp only[ak.holds,Sh hl,sM]
    (repeat' (first|apply aX|intro _))<;>first|rfl|(exfalso;simp_all)
   |true=>
    have h2:=hl;rw[aH]at h2;obtain⟨hm,ha⟩:=mj.1 h2.1;have hb:=h2.2;have mo:=(Ma.bz m).1 hm;have ra:=(nU.1 ha).1;have rb:=(nU.1 hb).1;have da:=wO ha;have db:=wO hb;have j1:=si _ mo.1;have j2:=si _ mo.2.1;have j3:=si _ mo.2.2.1;have j4:=si _ mo.2.2.2.1;obtain⟨w1,i1,z1⟩:=sO (a:=a) (b:=b) (x:=a.1) (y:=b.1) (by omega) (by omega);obtain⟨w2,i2,z2⟩:=sO (a:=a) (b:=b) (x:=a.2.1) (y:=b.2.1) (by omega) (by omega);obtain⟨w3,i3,z3⟩:=sO (a:=a) (b:=b) (x:=a.2.2.1) (y:=b.2.2.1) (by omega) (by omega);obtain⟨w4,i4,Fp⟩:=sO (a:=a) (b:=b) (x:=a.2.2.2) (y:=b.2.2.2) (by omega) (by omega);have m1:=sK j1 da;have m2:=sK j2 da;have m3:=sK j3 da;have m4:=sK j4 da;have mm:=We da db
    have ob:∀{v A B x:Int},0<=v/\v<=1048576->0<=A/\A<=17592186044416->0<=B/\B<=281474976710656->sz x<=562949953421312->¬sz x=0->okB v A B (sz x)=true:=λ{v A B x} hv hA hB hx h0=>xd.2 ⟨tO.2 (by have:=Ei x;omega),by omega⟩
    rw[w1,w2,w3,w4];simp only[ak.holds,Sg hl,hm,ha,hb,sM];rw[aG (x:=aF a*aF b) (by omega) (by omega)];simp only[<-q06]
    have v0:(0:Int)<=1048576/\(1048576:Int)<=1048576:=by omega
    have b1:=ob (x:=jd a b a.1 b.1) v0 (A:=m.x.bB) (B:=aF a*aF b) (by omega) mm z1;have v1:=vG v0 b1;have b2:=ob (x:=jd a b a.2.1 b.2.1) v1 (A:=m.y.bB) (B:=aF a*aF b) (by omega) mm z2;have v2:=vG v1 b2;have b3:=ob (x:=jd a b a.2.2.1 b.2.2.1) v2 (A:=m.z.bB) (B:=aF a*aF b) (by omega) mm z3;have v3:=vG v2 b3;have b4:=ob (x:=jd a b a.2.2.2 b.2.2.2) v3 (A:=m.e.bB) (B:=aF a*aF b) (by omega) mm Fp
    exact zV (λn hn=>by simp) i1 b1 (zV (λn hn=>by simp) i2 b2 (zV (λn hn=>by simp) i3 b3 (zV (λn hn=>by simp) i4 b4 rfl)))) (by kernel_rfl)
def KQ(f:FuncId)(h:Ma->V4->Int->Int->ak SV):aB:=⟨f,λargs=>match args with
 |[.agg [.int .i64 a0,.int .i64 a1,.int .i64 a2,.int .i64 a3,.int .i64 a4,.int .i64 a5,.int .i64 a6,.int .i64 b0,.int .i64 b1,.int .i64 b2,.int .i64 b3,.int .i64 b4,.int .i64 b5,.int .i64 b6,.int .i64 c0,.int .i64 c1,.int .i64 c2,.int .i64 c3,.int .i64 c4,.int .i64 c5,.int .i64 c6,.int .i64 d0,.int .i64 d1,.int .i64 d2,.int .i64 d3,.int .i64 d4,.int .i64 d5,.int .i64 d6,.bool xy,.int .i64 t],.agg [.int .i64 x,.int .i64 y,.int .i64 z,.int .i64 w],.int .i64 i,.int .i64 j] =>some (h ⟨⟨a0,a1,a2,a3,a4,a5,a6⟩,⟨b0,b1,b2,b3,b4,b5,b6⟩,⟨c0,c1,c2,c3,c4,c5,c6⟩,⟨d0,d1,d2,d3,d4,d5,d6⟩,xy,t⟩ (x,y,z,w) i j)
 |_=>none⟩
def qv2{f:FuncId}{h:Ma->V4->Int->Int->ak SV}(k:∀m v i j,(h m v i j).bw (SCall P f [m.sv,V4.sv v,J i,J j])):(KQ f h).ok P:=λargs t ht=>by
 simp only[KQ]at ht
 split at ht<;>cases ht;exact k ⟨⟨_,_,_,_,_,_,_⟩,⟨_,_,_,_,_,_,_⟩,⟨_,_,_,_,_,_,_⟩,⟨_,_,_,_,_,_,_⟩,_,_⟩ (_,_,_,_) _ _
def KR(f:FuncId)(h:Ma->V4->V4->ak SV):aB:=⟨f,λargs=>match args with
 |[.agg [.int .i64 a0,.int .i64 a1,.int .i64 a2,.int .i64 a3,.int .i64 a4,.int .i64 a5,.int .i64 a6,.int .i64 b0,.int .i64 b1,.int .i64 b2,.int .i64 b3,.int .i64 b4,.int .i64 b5,.int .i64 b6,.int .i64 c0,.int .i64 c1,.int .i64 c2,.int .i64 c3,.int .i64 c4,.int .i64 c5,.int .i64 c6,.int .i64 d0,.int .i64 d1,.int .i64 d2,.int .i64 d3,.int .i64 d4,.int .i64 d5,.int .i64 d6,.bool xy,.int .i64 t],.agg [.int .i64 x,.int .i64 y,.int .i64 z,.int .i64 w],.agg [.int .i64 x2,.int .i64 y2,.int .i64 z2,.int .i64 w2]] =>some (h ⟨⟨a0,a1,a2,a3,a4,a5,a6⟩,⟨b0,b1,b2,b3,b4,b5,b6⟩,⟨c0,c1,c2,c3,c4,c5,c6⟩,⟨d0,d1,d2,d3,d4,d5,d6⟩,xy,t⟩ (x,y,z,w) (x2,y2,z2,w2))
 |_=>none⟩
def qv0{f:FuncId}{h:Ma->V4->V4->ak SV}(k:∀m v u,(h m v u).bw (SCall P f [m.sv,V4.sv v,V4.sv u])):(KR f h).ok P:=λargs t ht=>by
 simp only[KR]at ht
 split at ht<;>cases ht;exact k ⟨⟨_,_,_,_,_,_,_⟩,⟨_,_,_,_,_,_,_⟩,⟨_,_,_,_,_,_,_⟩,⟨_,_,_,_,_,_,_⟩,_,_⟩ (_,_,_,_) (_,_,_,_)
def xH:aB:=KQ 259 λm c l f=>.aj (dN l&&dN f) (.ai (J (dL m c l f)))
def Gm:aB:=KQ 35 λm c l f=>.aj (dN l&&dN f) (.ai (J (dL m c l f)))
def YA:xH.ok pP:=qv2 (λm c l f h=>xY1 m c l f h)
def yL4:Gm.ok pP:=qv2 (λm c l f h=>xY2 m c l f h)
def xN:aB:=KR 261 λm a b=>.ai (J (kD m a b))
def Gn:aB:=KR 37 λm a b=>.ai (J (kD m a b))
def YU:xN.ok pP:=qv0 (xK7)
def yB5:Gn.ok pP:=qv0 (xK8)
section
variable {m:Ma} {c:V4}
def zg8(h:iB m c=true):1<=ku m c/\ku m c<=16777216:=by
 obtain⟨hm,hc⟩:=mj.1 h;rw[N9 h];exact LM (DY (M:=16777216) (by omega) hc NT hm) (v:=16777216) (by omega)
def jd4(h:iB m c=true):1<=uH m c Ax.bP 1048576/\uH m c Ax.bP 1048576<=1048576:=by
 obtain⟨hm,hc⟩:=mj.1 h;exact LM (DY (M:=1048576) (by omega) hc NS hm) (v:=1048576) (by omega)
def jd2(h:iB m c=true):dL m c 0 0=uH m c Ax.bP 1048576:=by
 rw[MN h];unfold El;rw[au (by omega)]
def MO(h:iB m c=true){l f:Int}(hl:l<=9223372036854775807)(hf:f<=9223372036854775807):1<=dL m c l f/\dL m c l f<=dL m c 0 0/\dL m c 0 0<=1048576:=by
 have t:=jd4 h;have hc:=(mj.1 h).2;rw[jd2 h];refine⟨?_,?_,t.2⟩
 all_goals
  rw[MN h];unfold El
  split
  .rename_i k
   have b:=S5 (v:=uH m c Ax.bP 1048576) (n:=aF c) (l:=l) (f:=f) (by omega) (wO hc) (by omega) (by omega);have n:=JY b
   split<;>omega
  .omega
def L3(m:Ma)(a b:V4):0<=kD m a b/\kD m a b<=1048576:=by
 cases hl:iB m a&&bM b with
 |false=>rw[Sh hl];omega
 |true=>
  have h2:=hl;rw[aH]at h2;obtain⟨hm,ha⟩:=mj.1 h2.1;have hb:=h2.2;have mo:=(Ma.bz m).1 hm;have ra:=(nU.1 ha).1;have rb:=(nU.1 hb).1;have da:=wO ha;have db:=wO hb;have j1:=si _ mo.1;have j2:=si _ mo.2.1;have j3:=si _ mo.2.2.1;have j4:=si _ mo.2.2.2.1;obtain⟨w1,i1,z1⟩:=sO (a:=a) (b:=b) (x:=a.1) (y:=b.1) (by omega) (by omega);obtain⟨w2,i2,z2⟩:=sO (a:=a) (b:=b) (x:=a.2.1) (y:=b.2.1) (by omega) (by omega);obtain⟨w3,i3,z3⟩:=sO (a:=a) (b:=b) (x:=a.2.2.1) (y:=b.2.2.1) (by omega) (by omega);obtain⟨w4,i4,Fp⟩:=sO (a:=a) (b:=b) (x:=a.2.2.2) (y:=b.2.2.2) (by omega) (by omega);have m1:=sK j1 da;have m2:=sK j2 da;have m3:=sK j3 da;have m4:=sK j4 da
  have ob:∀{v A B x:Int},0<=v/\v<=1048576->0<=A/\A<=17592186044416->0<=B/\B<=281474976710656->sz x<=562949953421312->1<=B->¬sz x=0->okB v A B (sz x)=true:=λ{v A B x} hv hA hB hx _ h0=>xd.2 ⟨tO.2 (by have:=Ei x;omega),by omega⟩
  rw[Sg hl]
  have v0:(0:Int)<=1048576/\(1048576:Int)<=1048576:=by omega
  have v1:=vG v0 (ob (A:=m.x.bB*aF a) (B:=aF b) (x:=jd a b a.1 b.1) v0 m1 (by omega) z1 db.1);have v2:=vG v1 (ob (A:=m.y.bB*aF a) (B:=aF b) (x:=jd a b a.2.1 b.2.1) v1 m2 (by omega) z2 db.1);have v3:=vG v2 (ob (A:=m.z.bB*aF a) (B:=aF b) (x:=jd a b a.2.2.1 b.2.2.1) v2 m3 (by omega) z3 db.1);exact vG v3 (ob (A:=m.e.bB*aF a) (B:=aF b) (x:=jd a b a.2.2.2 b.2.2.2) v3 m4 (by omega) Fp db.1)
def S3{v M:Int}(hv:0<=v/\v<=M):0<=v*v/\v*v<=M*M:=⟨wB hv.1 hv.1,uO hv.2 hv.2 hv.1 (by omega)⟩
def jd6{v M:Int}(hv:1<=v/\v<=M):1<=v*v/\v*v<=M*M:=by
 have h1:1*1<=v*v:=uO hv.1 hv.1 (by omega) (by omega);exact⟨by omega,(S3 (v:=v) (M:=M) (by omega)).2⟩
end
def oM:List Int->Int->Int
 |[],d=>d
 |n::l,d=>if 0<n then n else oM l d
def zP:List Int->Bool
 |[] =>false
 |n::_=>n==0
def f9(f:Fw):Int:=if f.aT=true/\0<f.bL then f.bL else oM f.lines (f.line+1)
def mw(f:Fw):Bool:=match f.aT with
 |true=>f.bL==0
 |false=>zP f.lines
variable{f:Fw}
def Qh(h:f.aT=true):mw f=(f.bL==0):=by unfold mw;rw[h]
def Qi(h:f.aT=false):mw f=zP f.lines:=by unfold mw;rw[h]
def f4(f:Fw):Bool:=kL f.pos&& (f.lines.length=f.queue.length&& (f.queue.length<=32&& (az f.line 0 1099511627776&& (az f.bL 0 1099511627776&&f.lines.all λn=>az n 0 1099511627776))))
def oh:f4 f=true↔kL f.pos=true/\f.lines.length=f.queue.length/\f.queue.length<=32/\(0<=f.line/\f.line<=1099511627776)/\(0<=f.bL/\f.bL<=1099511627776)/\∀n∈f.lines,0<=n/\n<=1099511627776:=by
 simp only[f4,aH,aV,v5,nM]
theorem qC8:∀ (l:List Int) (d:Int),(∀n∈l,0<=n/\n<=1099511627776)->0<=d/\d<=1099511627777->0<=oM l d/\oM l d<=1099511627777
 |[],d,_,h=>h
 |n::l,d,k,h=>by
  unfold oM;have:=k n mO
  split;.omega
  .exact qC8 l d (λx hx=>k x (rX _ hx)) h
def FB(h:f4 f=true):0<=f9 f/\f9 f<=1099511627777:=by
 obtain⟨_,_,_,h1,h2,h3⟩:=oh.1 h;unfold f9
 split;.omega
 .exact qC8 _ _ h3 (by omega)
def oe(f:Fw):V4:=if f.aT=true/\0<f.bL then eV f else if f.bf=true/\mw f=false then f.pos else f.ret
def ek(f:Fw):Fw:={f with ret:=oe f,line:=f9 f-1,back:=f.back||f.bf,bf:=false,aT:=false,queue:=[],lines:=[],mo:=m0,bL:=0,bt:=0,waits:=0}
def G1(b:Bk)(t:Int):Mo:=match pX b t with
 |true=>rF b t
 |false=>m0
def S2{b:Bk}{t:Int}(h:pX b t=true):G1 b t=rF b t:=by unfold G1;rw[h]
def jf2{b:Bk}{t:Int}(h:pX b t=false):G1 b t=m0:=by unfold G1;rw[h]
def mY(f:Fw):Bool:=!f.aT&& (!f.queue.isEmpty&& (!(f.mode==3)&&f.bt==0))
def CG:mY f=true↔f.aT=false/\¬f.queue.length=0/\¬f.mode=3/\f.bt=0:=by
 simp only[mY,aH,iJ,cI,dM,dz,ain,Ca]
def oT(f:Fw):Fw:={f with mo:=G1 (f.queue.getD 0 aM) f.ma.aU,aT:=true,bL:=f.lines.getD 0 0,queue:=f.queue.drop 1,lines:=f.lines.drop 1}
def s7(f:Fw):Fw:=match mY f with
 |true=>oT f
 |false=>f
def NQ(h:mY f=true):s7 f=oT f:=by unfold s7;rw[h]
def NR(h:mY f=false):s7 f=f:=by unfold s7;rw[h]
def mA(g:Gu)(r:Int):Gu:=if g.fault=0 then g else g.rest r
def xl(g:Gu)(r:Int):Bool:=g.fault==0||g.cD r==0
def Bd{g:Gu}{r:Int}:xl g r=true↔g.fault=0\/g.cD r=0:=by simp only[xl,ia,cI]
def mH(f:Fw):Fw:={f with g0:=f.g0.kV,g1:=f.g1.kV}
def ji1(f:Fw):Fw:={f with g0:=f.g0.stop,g1:=f.g1.stop}
def ui(f:Fw):Fw:={ek (ji1 f)with mode:=3}
def A2(m:Ma)(c:V4)(len bH:Int):Bk:=(c,ku m c,0,dL m c len bH*dL m c len bH,0)
def pH(m:Ma)(q:List Bk)(i:Nat):Int:=if i=0 then 0 else kD m (q.getD (i-1) aM).1 (q.getD i aM).1*kD m (q.getD (i-1) aM).1 (q.getD i aM).1
def ij(m:Ma)(q:List Bk):List Int:=(List.range q.length).map (pH m q)
def m9(f:Fw):Int:=if f.aT=true then f.mo.1.2.2.2.2 else if f.queue.length=0 then 0 else(f.queue.getD 0 aM).2.2.1
def t6(f:Fw)(c:V4)(len:Int):List Bk:=f.queue++[A2 f.ma c len f.bH]
def dt(f:Fw)(c:V4)(len:Int):Bool:=m9 f<=fp (t6 f c len) 0&&gL (t6 f c len) (ij f.ma (t6 f c len)) (m9 f) 0=m9 f
def uV{len:Int}:dt f c len=true↔m9 f<=fp (t6 f c len) 0/\gL (t6 f c len) (ij f.ma (t6 f c len)) (m9 f) 0=m9 f:=by simp only[dt,aH,aV]
def p8(f:Fw)(c:V4)(len line:Int):Fw:={f with queue:=jo (t6 f c len) (gL (t6 f c len) (ij f.ma (t6 f c len)) (m9 f)),lines:=f.lines++[line]}
def CN(f:Fw)(h:f.queue=[])(k:f.lines=[]):j7 (o9 f) f.cells:=by
 obtain⟨⟩:=f;dsimp only at h k;subst h k
 repeat(first|exact trivial|refine⟨.same _,?_⟩|refine⟨.nil _,?_⟩)
def uc(h k:Int):Bool:=!(i64.wrap ((BitVec.ofInt 64 h &&&BitVec.ofInt 64 k).toNat:Int)==0)
def DT{h:Int}:uc h k=true↔¬i64.wrap ((BitVec.ofInt 64 h &&&BitVec.ofInt 64 k).toNat:Int)=0:=by simp only[uc,iJ,dM,dz]
def t7(f:Fw)(c:Gc.C):V3:=(if uc c.has 1=true then c.x else f.loc.1,if uc c.has 2=true then c.y else f.loc.2.1,if uc c.has 4=true then c.z else f.loc.2.2)
def r9(f:Fw)(c:Gc.C):Int:=if uc c.has 8=true then c.e else f.e
def xC(a b:V3):Int:=(b.1-a.1)*(b.1-a.1)+(b.2.1-a.2.1)*(b.2.1-a.2.1)+(b.2.2-a.2.2)*(b.2.2-a.2.2)
def jm(f:Fw)(p:V3)(e:Int):Int:=if gN (xC f.loc p)=0 then(if e-f.e<f.e-e then f.e-e else e-f.e)else gN (xC f.loc p)
def b7(f:Fw)(c:Gc.C):Fw:=if uc c.has 16=true then {f with bH:=c.f} else f
def oF(f:Fw)(c:Gc.C):V4:=mg f.ma (t7 f c) (r9 f c)
def mb(f:Fw)(c:Gc.C):V4:=iC (oF f c) (ej f)
def lH(g:Fw)(u:V3)(e:Int)(p d:V4):Int:=match u7 p&&u7 d with
 |false=>2
 |true=>match bO d with
  |false=>0
  |true=>if 32<=g.queue.length then 18 else if dt g d (jm g u e)=true then 0 else 2
def xA(g:Fw)(line:Int)(u:V3)(e:Int)(d:V4):Fw:=match bO d with
 |false=>{g with loc:=u,e:=e}
 |true=>{p8 g d (jm g u e) line with loc:=u,e:=e}
def F9(g:Fw)(line:Int)(u:V3)(e:Int)(p d:V4):Fw:=if lH g u e p d=0 then xA g line u e d else g
def tK(f:Fw)(line:Int)(c:Gc.C):Int:=
 if line<1\/f.bf=false\/f.back=true\/¬f.mode=1 then 14
 else if gC f.ma (t7 f c)=false\/iL f.ma (t7 f c) (r9 f c)=false then 8
 else if f.e<r9 f c/\f.r0<f.bc then 15
 else 0
def gG(f:Fw)(line:Int)(c:Gc.C):Int:=if tK f line c=0 then lH (b7 f c) (t7 f c) (r9 f c) (oF f c) (mb f c)else tK f line c
def ni(f:Fw)(line:Int)(c:Gc.C):Fw:=xA (b7 f c) line (t7 f c) (r9 f c) (mb f c)
def oG(f:Fw)(line:Int)(c:Gc.C):Fw:=if tK f line c=0 then F9 (b7 f c) line (t7 f c) (r9 f c) (oF f c) (mb f c)else if tK f line c=14 then f else b7 f c
def qG(f:Fw):Int:=if e7 f.ma f.pos.2.2.2=true then dY f.ma.e f.pos.2.2.2 else 0
def qH(f:Fw)(line:Int):Bool:=(line==0&&f.bf)||f.back
def oK(f:Fw)(line:Int):V4:=if line=0/\f.bf=true then f.pos else f.ret
def dX(f:Fw)(line:Int):Fw:={f with ret:=oK f line,back:=false,pos:=(0,0,0,f.pos.2.2.2),bf:=true,loc:=(0,0,0),e:=qG f}
def gj(f:Fw)(line:Int):V4:=(0,0,(oK f line).2.2.1,0)
def kB(f:Fw)(line:Int):V4:=((oK f line).1,(oK f line).2.1,0,0)
def gX(f:Fw)(c:V4):Bool:=!bO c||dt f c 0
def n8(f:Fw)(c:V4):Fw:=if bO c=true then p8 f c 0 0 else f
def vD(f:Fw)(line:Int):Int:=
 if qH f line=false then 0
 else if gX (dX f line) (gj f line)=false then 2
 else if gX (n8 (dX f line) (gj f line)) (kB f line)=false then 2 else 0
def C3(m:Ma)(p:V4):V3:=((dh m p).1,(dh m p).2.1,(dh m p).2.2.1)
def nv(f:Fw)(line:Int):Fw:=
 if qH f line=false then dX f line
 else {n8 (n8 (dX f line) (gj f line)) (kB f line)with loc:=C3 f.ma (oK f line)}
def cD(f:Fw):Int:=if ¬f.mode=3 then 14 else if xl f.g0 f.r0=false\/xl f.g1 f.r1=false then 16 else 0
def jQ(f:Fw):Fw:={f with g0:=mA f.g0 f.r0,g1:=mA f.g1 f.r1,mode:=1}
def gm(f:Fw)(line:Int):Int:=if eF f=false then 18 else if ¬f.mode=1 then 14 else vD f line
def rC(a b:Int):Int:=i64.wrap ((BitVec.ofInt 64 a |||BitVec.ofInt 64 b).toNat:Int)
def pW(f:Fw)(line:Int):Fw:=if line=0 then f else {f with line:=line}
def dR(f:Fw)(line:Int)(c:Gc.C):Int:=
 if c.code=1112 then 0
 else if c.code=1999 then cD f
 else if f.mode=3 then 16
 else if c.code=1025 then(if f.mode=1 then 0 else 14)
 else if c.code=1024 then(if f.mode=2 then 0 else 14)
 else if ¬f.waits=0\/¬f.bt=0 then 18
 else if c.code=0\/c.code=1 then gG f line c
 else if c.code=4 then(if eF f=true then 0 else 18)
 else if c.code=28 then gm f line
 else 0
def cN(f:Fw)(line:Int)(c:Gc.C):Fw:=
 if c.code=1112 then ui (pW f line)
 else if c.code=1999 then jQ f
 else if c.code=1025 then {f with mode:=2}
 else if c.code=1024 then {f with mode:=1}
 else if c.code=0\/c.code=1 then ni f line c
 else if c.code=4 then {f with bt:=c.s}
 else if c.code=28 then nv f line
 else if c.code=1104 then {f with c0:=f.c0.fM c.s}
 else if c.code=1109 then {f with c0:=f.c0.fM c.s,waits:=rC f.waits 1}
 else if c.code=1140 then {f with c1:=f.c1.fM c.s}
 else if c.code=1190 then {f with c1:=f.c1.fM c.s,waits:=rC f.waits 2}
 else {f with fo:=c.s}
def eZ(f:Fw)(line:Int)(c:Gc.C):Int:=
 if u9 f=false\/c.valid=false\/(¬line=0/\¬line=f.line+1)\/1099511627776<line then 1 else dR f line c
def jc(f:Fw)(line:Int)(c:Gc.C):Fw:=mH (if c.code=1112 then cN f line c else pW (cN f line c) line)
def jR(f:Fw)(r s:Int):Fw:={f with r0:=r,r1:=s,aU:=if f.aU+1<1099511627776 then f.aU+1 else 1099511627776}
def ji(f:Fw):Fw:={f with c0:=f.c0.step f.r0,c1:=f.c1.step f.r1,g0:=f.g0.step f.r0 (f.c0.step f.r0).target (f.c0.cM f.r0),g1:=f.g1.step f.r1 (f.c1.step f.r1).target (f.c1.cM f.r1)}
def AT(f:Fw):Int:=f.g0.cM f.r0 (f.c0.step f.r0).target (f.c0.cM f.r0)
def AS(f:Fw):Int:=f.g1.cM f.r1 (f.c1.step f.r1).target (f.c1.cM f.r1)
def Pd(a b:Gu):Bool:=a.fault==0&&!(b.fault==0)
def rA(f:Fw):Bool:=Pd f.g0 (ji f).g0||Pd f.g1 (ji f).g1
def tM(f:Fw):Fw:=if rA f=true then {ek (ji f)with mode:=3} else ji f
def By(c:Co)(g:Gu)(r:Int):Bool:=decide (c.target-g.bN<=r)
def iW(f:Fw):Fw:={f with waits:=if By f.c1 f.g1 f.r1=true then Gc.andNot (if By f.c0 f.g0 f.r0=true then Gc.andNot f.waits 1 else f.waits) 2 else(if By f.c0 f.g0 f.r0=true then Gc.andNot f.waits 1 else f.waits)}
def kF(f:Fw):Fw:=if kO (gM f.mo f.ma.aU)=true then {f with pos:=f5 f.pos (eP f.mo f.ma.aU),mo:=m0,aT:=false,bL:=0} else {f with pos:=f5 f.pos (eP f.mo f.ma.aU),mo:=gM f.mo f.ma.aU}
def kT(f:Fw):Fw:=if 0<f.bt then {f with bt:=f.bt-1} else if(s7 f).aT=true then kF (s7 f)else s7 f
def jg(f:Fw):V4:=if 0<f.bt then z4 else if(s7 f).aT=true then eP (s7 f).mo (s7 f).ma.aU else z4
def iA(f:Fw)(r s:Int):Fw:=iW (tM (jR f r s))
def mI(f:Fw)(r s:Int):Fw:=if u9 f=false then f else if(iA f r s).mode=3 then iA f r s else kT (iA f r s)
def vM(f:Fw)(r s:Int):V4:=if u9 f=false then z4 else if(iA f r s).mode=3 then z4 else jg (iA f r s)
def lK(f:Fw)(r s:Int):Int×Int:=if u9 f=false then(0,0)else if(iA f r s).mode=3 then(0,0)else(AT (jR f r s),AS (jR f r s))
def Gt{l:List Int}:zP l=true↔0<l.length/\l.getD 0 0=0:=by
 cases l with
 |nil=>simp[zP]
 |cons n l=>simp[zP]
def D0(f:Fw):Bool:=decide (f.lines.length=f.queue.length)
def ZQ:mw f=true↔(f.aT=true/\f.bL=0)\/(f.aT=false/\0<f.lines.length/\f.lines.getD 0 0=0):=by
 cases hm:f.aT;.rw[Qi hm,Gt];simp
 .rw[Qh hm];simp
def LW:D0 f=true↔f.lines.length=f.queue.length:=by simp only[D0,aV]
def xW0:ax:=.ah .all (.ah (.ln 7 pA) (.ln 7 pA))
noncomputable def QJ(f:Fw):ak eW:= .ag (f.aT) (.ai (.fin (.ret (.bool (f.bL==0)) [some (.cells (Fw.cells f))]))) (.ag ((↑f.queue.length:Int)>0) (.aj (0< (↑f.lines.length:Int)) (.ai (.fin (.ret (.bool (f.lines.getD 0 0==0)) [some (.cells (Fw.cells f))])))) (.ai (.fin (.ret (.bool false) [some (.cells (Fw.cells f))]))))
def xV9(f:Fw):fU (Env.cq pP (j9 []) (d9 []) (f0 []) (b9 []) (j6 []) (j6 []) (j6 []) (j6 [])) 1000 (x9 pP 227) 1 (x6 31 []) (v7 pP 227) xW0 (v6 pP 227 [.ptr 0 0]) [some (.cells f.cells)] =QJ f:=by kernel_rfl
theorem xV7(f:Fw)(h:D0 f=true):iS pP 227 [] f (.bool (mw f),f):=
 rp (hB (l:=[]) (k:=[]) (j:=[]) (i:=[]) nN nN nN nN (trivial) v8 v8 v8) 1000 xW0 (keep:=(x6 31 [])) (t:=QJ f) (xV9 f) (by
  unfold QJ;have z:=Gt (l:=f.lines);have hl:=LW.1 h
  cases hm:f.aT
  .rw[Qi hm]
   simp only[ak.holds,hm,sM];(repeat' (first|apply aX|intro _));
   all_goals first
    |omega
    |(refine ends (rQ SV.bool ?_) (j7.refl _) rfl;rw[uQ,z];first|(simp_all;done)|(simp_all;omega)|grind)
  .rw[Qh hm]
   simp only[ak.holds,hm,sM];(repeat' (first|apply aX|intro _));
   all_goals exact ends rfl (j7.refl _) rfl) (by kernel_rfl) (by kernel_rfl) (by kernel_rfl)
theorem xV8(f:Fw):SCall pP 169 [f.sv] (.bool (mw f)):=
 aY aL [] trivial 1000 (.ah .all (.ah (.ln 4 pA) (.ln 4 pA)))
  (t:=.ag (f.aT)
 (.ai (SV.bool (f.bL==0)))
 (.ag ((↑f.lines.length:Int)>0)
  (.aj (0< (↑f.lines.length:Int)) (.ai (SV.bool (f.lines.getD 0 0==0))))
  (.ai (SV.bool false))))
   (by kernel_rfl) (by
    have z:=Gt (l:=f.lines)
    cases hm:f.aT
    .rw[Qi hm]
     simp only[ak.holds,hm,sM];(repeat' (first|apply aX|intro _));
     all_goals first
      |omega
      |(refine rQ SV.bool ?_;rw[uQ,z];first|(simp_all;done)|(simp_all;omega)|grind)
    .rw[Qh hm]
     simp only[ak.holds,hm,sM];(repeat' (first|apply aX|intro _));
     all_goals rfl) (by kernel_rfl)
def Ld:aB:=fC 169 λf=>.ai (.bool (mw f))
def PM:Ld.ok pP:=fE (λf=>xV8 f)
def Yi:ax:=.ah (.ln 6 (.ah .all .all)) (.ln 6 pA)
noncomputable def Yh(f:Fw):ak eW:=let y0:ak eW:=.ai (.at (x8 pP 228 0) 43 (x7 43 [(0,.ptr 0 0),(27,.list (Ty.int i64) f.lines),(28,J (↑f.lines.length:Int)),(29,J 0)]) [some (.cells (Fw.cells f))]); .ag (f.aT) (.ag (f.bL>0) (.ai (.fin (.ret (J f.bL) [some (.cells (Fw.cells f))]))) y0) y0
def op0(f:Fw):fU (Env.cq pP (j9 []) (d9 []) (f0 []) (b9 []) (j6 []) (j6 []) (j6 []) (j6 [])) 1000 (x9 pP 228) 1 (x6 43 [0,27,28,29]) (v7 pP 228) Yi (v6 pP 228 [.ptr 0 0]) [some (.cells f.cells)] =Yh f:=by kernel_rfl
def Yf:ax:=.ah (.ah (.all) (.all)) (.all)
def op1(f:Fw)(n i:Int):fU (Env.cq pP (j9 []) (d9 []) (f0 []) (b9 []) (j6 []) (j6 []) (j6 []) (j6 [])) 1000 (x9 pP 228) 1 (x6 43 [0,27,28,29]) (x8 pP 228 0) Yf (x7 43 [(0,.ptr 0 0),(27,LI f.lines),(28,J n),(29,J i)]) [some (.cells f.cells)] =(.ag (i<n) (.aj (0<=i&&i< (↑f.lines.length:Int)) (.ag (f.lines.getD i.toNat 0>0) (.ai (.fin (.ret (J (f.lines.getD i.toNat 0)) [some (.cells (Fw.cells f))]))) (.ai (.at (x8 pP 228 0) 43 (x7 43 [(0,.ptr 0 0),(27,.list (Ty.int i64) f.lines),(28,J n),(29,J (i64.wrap (i+1)))]) [some (.cells (Fw.cells f))])))) (.ai (.fin (.ret (J (i64.wrap (f.line+1))) [some (.cells (Fw.cells f))])))):=by kernel_rfl
def Yd:ax:=.ah (.ln 3 (.ah .all .all)) (.ln 3 pA)
noncomputable def Yc(f:Fw):ak Stop:=let y0:ak Stop:=.ai (.at (x8 pP 170 0) 34 (x7 34 [(1,.ptr 0 0),(3,J 0)]) [some (.cells (Fw.cells f))]); .ag (f.aT) (.ag (f.bL>0) (.ai (.done (J f.bL))) y0) y0
def or0(f:Fw):o8 (Env.of pP (j9 [])) 1000 (x9 pP 170) .unit (x6 34 [1,3]) (v7 pP 170) Yd (v6 pP 170 [f.sv]) [] =Yc f:=by kernel_rfl
def Ya:ax:=.ah (.ah (.all) (.all)) (.all)
def or1(f:Fw)(i:Int):o8 (Env.of pP (j9 [])) 1000 (x9 pP 170) .unit (x6 34 [1,3]) (x8 pP 170 0) Ya (x7 34 [(1,.ptr 0 0),(3,J i)]) [some (.cells f.cells)] =(.ag (i< (↑f.lines.length:Int)) (.aj (0<=i&&i< (↑f.lines.length:Int)) (.ag (f.lines.getD i.toNat 0>0) (.aj (0<=i&&i< (↑f.lines.length:Int)) (.ai (.done (J (f.lines.getD i.toNat 0))))) (.ai (.at (x8 pP 170 0) 34 (x7 34 [(1,.ptr 0 0),(3,J (i64.wrap (i+1)))]) [some (.cells (Fw.cells f))])))) (.ai (.done (J (i64.wrap (f.line+1)))))):=by kernel_rfl
def qC6(l:List Int)(d:Int)(hi:i<l.length):oM (l.drop i) d=if 0<l.getD i 0 then l.getD i 0 else oM (l.drop (i+1)) d:=by
 rw[aBM hi,cK,cc hi];rfl
def qC7(l:List Int)(d:Int):oM (l.drop l.length) d=d:=by rw[List.drop_length];rfl
theorem Yg(f:Fw)(h:f4 f=true):∀ (k i:Nat),i+k=f.lines.length->
  qw pP (x9 pP 228) [] 1 (.ret (J (oM (f.lines.drop i) (f.line+1))) [some (.cells f.cells)]) (x8 pP 228 0) (x7 43 [(0,.ptr 0 0),(27,LI f.lines),(28,J f.lines.length),(29,J i)]) [some (.cells f.cells)]
 |k,i,hi=>by
  have s:=oh.1 h;refine nV (hB (l:=[]) (k:=[]) (j:=[]) (i:=[]) [] [] [] [] trivial v8 v8 v8) (n:=1000) (keep:=x6 43 [0,27,28,29]) (p:=Yf) (bA _) ?_;erw [op1 f f.lines.length i]
  have t0:(i:Int).toNat=i:=by omega
  have w1:i64.wrap ((i:Int)+1)=((i+1:Nat):Int):=by rw[aG (by omega) (by omega)];omega
  have w2:i64.wrap (f.line+1)=f.line+1:=aG (by omega) (by omega)
  match k,hi with
  |0,hi=>
   have gD:¬((i:Int)<f.lines.length):=by omega
   have TS:i=f.lines.length:=by omega
   simp only[t0,w1,w2,gD,ak.holds,aV,ez,iG,dV,ir,mG]
   rw[TS,qC7]<;>rfl
  |k+1,hi=>
   have gD:(i:Int)<f.lines.length:=by omega
   have ih:=Yg f h k (i+1) (by omega);have e:=qC6 f.lines (f.line+1) (i:=i) (by omega);simp only[t0,w1,w2,gD,ak.holds,aV,ez,aH,oQ,iG,dV,jI,ir];refine⟨by omega,λa=>?_,λa=>⟨o5 _ _,?_⟩⟩;.rw[e,ay a]<;>rfl
   .rw[e,au a];exact ih
def xQ2(f:Fw)(h:f4 f=true):iS pP 228 [] f (J (f9 f),f):=by
 have s:=oh.1 h;refine Gh (cs:=f.cells) (by kernel_rfl) rfl rfl rfl (j7.refl _) (nV (hB (l:=[]) (k:=[]) (j:=[]) (i:=[]) [] [] [] [] trivial v8 v8 v8) (n:=1000) (keep:=x6 43 [0,27,28,29]) (p:=Yi) (bA _) ?_);have q:=op0 f;unfold v6 v7 at q;erw [q];unfold Yh f9;have lp:=Yg f h f.lines.length 0 (by omega)
 cases hm:f.aT
 .simp only[hm,ak.holds,eY,false_and,iD,iG,ir,dV]
  exact⟨o5 _ _,lp⟩
 .simp only[hm,ak.holds,aV,ez,dV,ir,yF,iG,jI]
  refine⟨λa=>?_,λa=>⟨o5 _ _,?_⟩⟩;.rw[ay (by omega)]<;>rfl
  .rw[au (by omega)];exact lp
def AL:bF:=uS 228 λf rest=>match rest with
 |[] =>some (.aj (f4 f) (.ai (J (f9 f),f)))
 |_=>none
def Xt:AL.ok pP:=Ck λf rest t ht=>by
 split at ht<;>cases ht;exact λh=>xQ2 f h
theorem Yb(f:Fw)(h:f4 f=true):∀ (k i:Nat),i+k=f.lines.length->
  t9 pP (x9 pP 170) (J (oM (f.lines.drop i) (f.line+1))) (x8 pP 170 0) (x7 34 [(1,.ptr 0 0),(3,J i)]) [some (.cells f.cells)]
 |k,i,hi=>by
  have s:=oh.1 h;refine o6 k0 (n:=1000) (hint:=.unit) (keep:=x6 34 [1,3]) (p:=Ya) rfl ?_;erw [or1 f i]
  have t0:(i:Int).toNat=i:=by omega
  have w1:i64.wrap ((i:Int)+1)=((i+1:Nat):Int):=by rw[aG (by omega) (by omega)];omega
  have w2:i64.wrap (f.line+1)=f.line+1:=aG (by omega) (by omega)
  match k,hi with
  |0,hi=>
   have gD:¬((i:Int)<f.lines.length):=by omega
   have TS:i=f.lines.length:=by omega
   simp only[t0,w1,w2,gD,ak.holds,aV,ez,iG,dV,ir,mG]
   rw[TS,qC7]<;>rfl
  |k+1,hi=>
   have gD:(i:Int)<f.lines.length:=by omega
   have ih:=Yb f h k (i+1) (by omega);have e:=qC6 f.lines (f.line+1) (i:=i) (by omega);simp only[t0,w1,w2,gD,ak.holds,aV,ez,aH,oQ,iG,dV,jI,ir];refine⟨by omega,λa=>⟨by omega,?_⟩,λa=>⟨o5 _ _,?_⟩⟩;.rw[e,ay a]<;>rfl
   .rw[e,au a];exact ih
def xQ3(f:Fw)(h:f4 f=true):SCall pP 170 [f.sv] (J (f9 f)):=by
 refine s8 rfl rfl (by kernel_rfl) (o6 k0 (n:=1000) (hint:=.unit) (keep:=x6 34 [1,3]) (p:=Yd) (boxes:=[]) rfl ?_);have q:=or0 f;unfold v6 v7 at q;erw [q];unfold Yc f9;have lp:=Yb f h f.lines.length 0 (by omega)
 cases hm:f.aT
 .simp only[hm,ak.holds,eY,false_and,iD,iG,ir,dV]
  exact⟨o5 _ _,lp⟩
 .simp only[hm,ak.holds,aV,ez,dV,ir,yF,iG,jI]
  refine⟨λa=>?_,λa=>⟨o5 _ _,?_⟩⟩;.rw[ay (by omega)]<;>rfl
  .rw[au (by omega)];exact lp
def Lg:aB:=fC 170 λf=>.aj (f4 f) (.ai (J (f9 f)))
def PP:Lg.ok pP:=fE λf h=>xQ3 f h
def JC{g y:Fw}(h:g=y)(q:g.queue=[])(l:g.lines=[]):j7 (o9 g) y.cells:=by subst h;exact CN g q l
def xM3:ax:=let z0:ax:=.ah (.ln 4 pA) (.ln 4 pA);let z1:ax:=.ah (.ar (.ah (.ar (.ar (.ah z0 z0))) (.ah (.ln 10 (.ah z0 z0)) (.ln 11 z0)))) (.ln 4 z0);.ah (.ln 6 (.ah z0 z1)) (.ln 7 z1)
noncomputable def QM(f:Fw):ak eW:=let y2:=Fw.mk f.ma f.mode f.bf f.pos f.loc f.e f.bH f.queue f.lines f.mo f.aT f.bL f.back (eV f) f.bt f.waits f.c0 f.c1 f.g0 f.g1 f.fo f.line f.aU f.bc f.r0 f.r1;let y3:=Fw.mk f.ma f.mode f.bf f.pos f.loc f.e f.bH f.queue f.lines f.mo f.aT f.bL f.back f.pos f.bt f.waits f.c0 f.c1 f.g0 f.g1 f.fo f.line f.aU f.bc f.r0 f.r1;let y5:=(((0,0,0,0),0,0,0,0),0,0);let y0:ak eW:=.aj (f4 y3) (.ag (y3.back) (.ai (.fin (.ret (.tuple []) [some (.cells (o9 {y3 with bf:=false,queue:=[],lines:=[],mo:=y5,aT:=false,bL:=0,back:=true,bt:=0,waits:=0,line:=(i64.wrap (f9 y3-1))}))]))) (.ai (.fin (.ret (.tuple []) [some (.cells (o9 {y3 with bf:=false,queue:=[],lines:=[],mo:=y5,aT:=false,bL:=0,back:=y3.bf,bt:=0,waits:=0,line:=(i64.wrap (f9 y3-1))}))]))));let y1:ak eW:=.aj (f4 f) (.ag (f.back) (.ai (.fin (.ret (.tuple []) [some (.cells (o9 {f with bf:=false,queue:=[],lines:=[],mo:=y5,aT:=false,bL:=0,back:=true,bt:=0,waits:=0,line:=(i64.wrap (f9 f-1))}))]))) (.ai (.fin (.ret (.tuple []) [some (.cells (o9 {f with bf:=false,queue:=[],lines:=[],mo:=y5,aT:=false,bL:=0,back:=f.bf,bt:=0,waits:=0,line:=(i64.wrap (f9 f-1))}))]))));let y4:ak eW:=.ag (f.bf) (.ag (f.aT) (.ag (!f.bL==0) y0 y1) (.ag ((↑f.queue.length:Int)>0) (.aj (0< (↑f.lines.length:Int)) (.ag (!f.lines.getD 0 0==0) y0 y1)) y0)) y1; .ag (f.aT) (.ag (f.bL>0) (.aj (kL f.pos) (.aj (f4 y2) (.ag (y2.back) (.ai (.fin (.ret (.tuple []) [some (.cells (o9 {y2 with bf:=false,queue:=[],lines:=[],mo:=y5,aT:=false,bL:=0,back:=true,bt:=0,waits:=0,line:=(i64.wrap (f9 y2-1))}))]))) (.ai (.fin (.ret (.tuple []) [some (.cells (o9 {y2 with bf:=false,queue:=[],lines:=[],mo:=y5,aT:=false,bL:=0,back:=y2.bf,bt:=0,waits:=0,line:=(i64.wrap (f9 y2-1))}))])))))) y4) y4
def xM2(f:Fw):fU (Env.cq pP (j9 [z44]) (d9 []) (f0 [bF.toP AL]) (b9 [AL]) (j6 []) (j6 []) (j6 []) (j6 [])) 1000 (x9 pP 164) 1 (x6 101 []) (v7 pP 164) xM3 (v6 pP 164 [.ptr 0 0]) [some (.cells f.cells)] =QM f:=by kernel_rfl
theorem xL9(f:Fw)(h:f4 f=true):iS pP 164 [] f (.tuple [],ek f):=
 rp (hB (l:=[z44]) (k:=[]) (j:=[bF.toP AL]) (i:=[AL]) nN nN nN nN (⟨Xr,trivial⟩) v8 (gx.all (p:=kq.ok pP) (l:=[bF.toP AL]) ⟨bF.toP_ok Xt,trivial⟩) (gx.all (p:=bF.ok pP) (l:=[AL]) ⟨Xt,trivial⟩)) 1000 xM3 (keep:=(x6 101 [])) (t:=QM f) (xM2 f) (by
  unfold QM;have sh:=oh.1 h;have rb:=ZQ (f:=f);have ov:=FB h;have w1:=aG (x:=f9 f-1) (by omega) (by omega)
  have e3:ek f={ek f with line:=i64.wrap (f9 f-1)}:=by rw[w1];rfl
  cases uE:f.back
  all_goals
  simp only[ak.holds,uE,sM];(repeat' (first|apply aX|intro _));
  all_goals first
   |exact h
   |exact sh.1
   |omega
   |(have e:oe f=eV f:=ay (by grind)
     refine ends rfl (JC ?_ rfl rfl) rfl;rw[e3];unfold ek;rw[e,uE];rfl)
   |(have e:oe f=bI f.pos (fc f.mo):=by rw[show oe f=eV f from ay (by grind),uT (by assumption),uj sh.1 (JU f.mo)]
     refine ends rfl (JC ?_ rfl rfl) rfl;rw[e3];unfold ek;rw[e,uE];rfl)
   |(have e:oe f=f.pos:=by unfold oe;rw[au (by grind),ay (by grind)]
     refine ends rfl (JC ?_ rfl rfl) rfl;rw[e3];unfold ek;rw[e,uE];rfl)
   |(have e:oe f=f.ret:=by unfold oe;rw[au (by grind),au (by grind)]
     refine ends rfl (JC ?_ rfl rfl) rfl;rw[e3];unfold ek;rw[e,uE];rfl)) (by kernel_rfl) (by kernel_rfl) (by kernel_rfl)
def qZ:bF:=uS 164 λf rest=>match rest with
 |[] =>some (.aj (f4 f) (.ai (.tuple [],ek f)))
 |_=>none
def Jy:qZ.ok pP:=Ck λf rest t ht=>by
 split at ht<;>cases ht;exact λh=>xL9 f h
theorem xM0(f:Fw)(h:f4 f=true):SCall pP 81 [f.sv] (.agg (o9 (ek f))):=
 aY aL [Ld,Lg,xL,DH] ⟨PM,PP,zo,FN,trivial⟩ 1000 (let z0:ax:=.ah (.ar pA) (.ar pA);let z1:ax:=.ah (.ar (.ar (.ah z0 z0))) (.ln 3 z0);.ah (.ln 3 (.ah z0 z1)) (.ln 4 z1))
  (t:=let y2:=Fw.mk f.ma f.mode f.bf f.pos f.loc f.e f.bH f.queue f.lines f.mo f.aT f.bL f.back (bI f.pos (fc f.mo)) f.bt f.waits f.c0 f.c1 f.g0 f.g1 f.fo f.line f.aU f.bc f.r0 f.r1;let y3:=Fw.mk f.ma f.mode f.bf f.pos f.loc f.e f.bH f.queue f.lines f.mo f.aT f.bL f.back f.pos f.bt f.waits f.c0 f.c1 f.g0 f.g1 f.fo f.line f.aU f.bc f.r0 f.r1;let y4:=(((0,0,0,0),0,0,0,0),0,0);let y1:ak SV:=.aj (f4 f) (.ag (f.back) (.ai (.agg (o9 {f with bf:=false,queue:=[],lines:=[],mo:=y4,aT:=false,bL:=0,back:=true,bt:=0,waits:=0,line:=(i64.wrap (f9 f-1))}))) (.ai (.agg (o9 {f with bf:=false,queue:=[],lines:=[],mo:=y4,aT:=false,bL:=0,back:=f.bf,bt:=0,waits:=0,line:=(i64.wrap (f9 f-1))}))));let y0:ak SV:=.ag (!mw f) (.ag (f.bf) (.aj (f4 y3) (.ag (f.back) (.ai (.agg (o9 {f with bf:=false,queue:=[],lines:=[],mo:=y4,aT:=false,bL:=0,back:=true,ret:=f.pos,bt:=0,waits:=0,line:=(i64.wrap (f9 y3-1))}))) (.ai (.agg (o9 {f with bf:=false,queue:=[],lines:=[],mo:=y4,aT:=false,bL:=0,back:=f.bf,ret:=f.pos,bt:=0,waits:=0,line:=(i64.wrap (f9 y3-1))}))))) y1) y1;.ag (f.aT) (.ag (f.bL>0) (.aj (f4 y2) (.ag (f.back) (.ai (.agg (o9 {f with bf:=false,queue:=[],lines:=[],mo:=y4,aT:=false,bL:=0,back:=true,ret:=(bI f.pos (fc f.mo)),bt:=0,waits:=0,line:=(i64.wrap (f9 y2-1))}))) (.ai (.agg (o9 {f with bf:=false,queue:=[],lines:=[],mo:=y4,aT:=false,bL:=0,back:=f.bf,ret:=(bI f.pos (fc f.mo)),bt:=0,waits:=0,line:=(i64.wrap (f9 y2-1))}))))) y0) y0)
  (by kernel_rfl) (by
   have sh:=oh.1 h;have rb:=ZQ (f:=f);have ov:=FB h;have w1:=aG (x:=f9 f-1) (by omega) (by omega)
   have e3:ek f={ek f with line:=i64.wrap (f9 f-1)}:=by rw[w1];rfl
   cases uE:f.back
   all_goals
   simp only[ak.holds,uE,sM];(repeat' (first|apply aX|intro _));
   all_goals first
    |exact h
    |exact sh.1
    |omega
    |(have e:oe f=eV f:=ay (by grind)
      rw[e3];unfold ek;rw[e,uE];rfl)
    |(have e:oe f=bI f.pos (fc f.mo):=by rw[show oe f=eV f from ay (by grind),uT (by assumption),uj sh.1 (JU f.mo)]
      rw[e3];unfold ek;rw[e,uE];rfl)
    |(have e:oe f=f.pos:=by unfold oe;rw[au (by grind),ay (by grind)]
      rw[e3];unfold ek;rw[e,uE];rfl)
    |(have e:oe f=f.ret:=by unfold oe;rw[au (by grind),au (by grind)]
      rw[e3];unfold ek;rw[e,uE];rfl)) (by kernel_rfl)
def ym9{cs ds:List SV}(hn:j7 cs ds)(R:Nat->Prop)(I:bu)(n:Nat)(w:World)(u:Value)(h:aJ R I n w (.agg cs) u):aJ R I n w (.agg ds) u:=by
 obtain⟨ws,h3,h4⟩:=h;exact⟨ws,h3,hn.nY h4⟩
def xM1(f:Fw)(h:f4 f=true):SCall pP 81 [f.sv] (ek f).sv:=C4 (xM0 f h) (ym9 (CN _ rfl rfl))
def Rx:aB:=fC 81 λf=>.aj (f4 f) (.ai (ek f).sv)
def YT:Rx.ok pP:=fE (λf h=>xM1 f h)
def xZ6:ax:=.ah (.ln 21 pA) (.ln 7 (.ah (.ln 13 pA) (.ln 6 (.ah (.ln 6 pA) (.ln 6 (.ah .all (.ah .all .all)))))))
noncomputable def QH(f:Fw):ak eW:=let y0:ak eW:=.ai (.fin (.ret (.bool false) [some (.cells (Fw.cells f))]));let y1:=(↑f.queue.length:Int);let y2:=(↑f.lines.length:Int);let y3:=List.drop 1 f.queue;let y4:=List.drop 1 f.lines; .ag (f.aT) y0 (.ag (y1==0) y0 (.ag (f.mode==3) y0 (.ag (f.bt != 0) y0 (.aj (0<y1) (.ag (pX (f.queue.getD 0 aM) f.ma.aU) (.aj (0<y2) (.aj (1<=y1) (.aj (jk y3.length) (.aj (1<=y2) (.aj (jk y4.length) (.ai (.fin (.ret (.bool true) [some (.cells (Fw.cells {f with queue:=y3,lines:=y4,mo:=(rF (f.queue.getD 0 aM) f.ma.aU),aT:=true,bL:=(f.lines.getD 0 0)}))])))))))) (.aj (0<y2) (.aj (1<=y1) (.aj (jk y3.length) (.aj (1<=y2) (.aj (jk y4.length) (.ai (.fin (.ret (.bool true) [some (.cells (Fw.cells {f with queue:=y3,lines:=y4,mo:=(((0,0,0,0),0,0,0,0),0,0),aT:=true,bL:=(f.lines.getD 0 0)}))])))))))))))))
def xZ5(f:Fw):fU (Env.cq pP (j9 [Ri,Jn,Jm]) (d9 []) (f0 []) (b9 []) (j6 []) (j6 []) (j6 []) (j6 [])) 1000 (x9 pP 84) 1 (x6 91 []) (v7 pP 84) xZ6 (v6 pP 84 [.ptr 0 0]) [some (.cells f.cells)] =QH f:=by kernel_rfl
theorem xZ4(f:Fw)(h:f4 f=true):iS pP 84 [] f (.bool (mY f),s7 f):=
 rp (hB (l:=[Ri,Jn,Jm]) (k:=[]) (j:=[]) (i:=[]) nN nN nN nN (⟨yL7,yv1,yv2,trivial⟩) v8 v8 v8) 1000 xZ6 (keep:=(x6 91 [])) (t:=QH f) (xZ5 f) (by
  unfold QH;have sh:=oh.1 h;have ci:=CG (f:=f)
  cases hc:mY f
  .have hn:¬(f.aT=false/\¬f.queue.length=0/\¬f.mode=3/\f.bt=0):=λa=>by rw[ci.2 a]at hc;cases hc
   simp only[ak.holds,sM];(repeat' (first|apply aX|intro _));
   all_goals first
    |(exfalso;first|omega|grind)
    |(rw[NR hc];exact ends rfl (j7.refl _) rfl)
  .have hy:=ci.1 hc
   rw[NQ hc];simp only[ak.holds,sM];(repeat' (first|apply aX|intro _));
   all_goals first
    |omega
    |(rw[xT];simp;omega)
    |(exfalso;first|omega|grind)
    |(unfold oT;rw[S2 (by assumption)];exact ends rfl (j7.refl _) rfl)
    |(unfold oT;rw[jf2 (by assumption)];exact ends rfl (j7.refl _) rfl)) (by kernel_rfl) (by kernel_rfl) (by kernel_rfl)
def tE:bF:=uS 84 λf rest=>match rest with
 |[] =>some (.aj (f4 f) (.ai (.bool (mY f),s7 f)))
 |_=>none
def Jx:tE.ok pP:=Ck λf rest t ht=>by
 split at ht<;>cases ht;exact λh=>xZ4 f h
def x16:ax:=let z1:ax:=.go (.ar (.ah (.go pA) (.go pA)));let z0:ax:=.go (.ar (.ah z1 z1));.go (.ar (.ah (.go (.ar (.ah z0 z0))) (.go (.ar (.ah z0 z0)))))
noncomputable def QU(f:Fw)(c:Gc.C):ak eW:=let y0:=i64.wrap (↑(BitVec.ofInt 64 c.has &&&BitVec.ofInt 64 8).toNat:Int) != 0;let y1:aR:=.cells (Fw.cells f);let y2:=i64.wrap (↑(BitVec.ofInt 64 c.has &&&BitVec.ofInt 64 4).toNat:Int) != 0;let y3:=i64.wrap (↑(BitVec.ofInt 64 c.has &&&BitVec.ofInt 64 2).toNat:Int) != 0; rT (.ag (i64.wrap (↑(BitVec.ofInt 64 c.has &&&BitVec.ofInt 64 1).toNat:Int) != 0) (rT (.ag y3 (rT (.ag y2 (rT (.ag y0 (.ai (.fin (.ret (.tuple [.agg [J c.x,J c.y,J c.z],J c.e]) [some y1]))) (.ai (.fin (.ret (.tuple [.agg [J c.x,J c.y,J c.z],J f.e]) [some y1]))))) (rT (.ag y0 (.ai (.fin (.ret (.tuple [.agg [J c.x,J c.y,J f.loc.2.2],J c.e]) [some y1]))) (.ai (.fin (.ret (.tuple [.agg [J c.x,J c.y,J f.loc.2.2],J f.e]) [some y1]))))))) (rT (.ag y2 (rT (.ag y0 (.ai (.fin (.ret (.tuple [.agg [J c.x,J f.loc.2.1,J c.z],J c.e]) [some y1]))) (.ai (.fin (.ret (.tuple [.agg [J c.x,J f.loc.2.1,J c.z],J f.e]) [some y1]))))) (rT (.ag y0 (.ai (.fin (.ret (.tuple [.agg [J c.x,J f.loc.2.1,J f.loc.2.2],J c.e]) [some y1]))) (.ai (.fin (.ret (.tuple [.agg [J c.x,J f.loc.2.1,J f.loc.2.2],J f.e]) [some y1]))))))))) (rT (.ag y3 (rT (.ag y2 (rT (.ag y0 (.ai (.fin (.ret (.tuple [.agg [J f.loc.1,J c.y,J c.z],J c.e]) [some y1]))) (.ai (.fin (.ret (.tuple [.agg [J f.loc.1,J c.y,J c.z],J f.e]) [some y1]))))) (rT (.ag y0 (.ai (.fin (.ret (.tuple [.agg [J f.loc.1,J c.y,J f.loc.2.2],J c.e]) [some y1]))) (.ai (.fin (.ret (.tuple [.agg [J f.loc.1,J c.y,J f.loc.2.2],J f.e]) [some y1]))))))) (rT (.ag y2 (rT (.ag y0 (.ai (.fin (.ret (.tuple [.agg [J f.loc.1,J f.loc.2.1,J c.z],J c.e]) [some y1]))) (.ai (.fin (.ret (.tuple [.agg [J f.loc.1,J f.loc.2.1,J c.z],J f.e]) [some y1]))))) (rT (.ag y0 (.ai (.fin (.ret (.tuple [.agg [J f.loc.1,J f.loc.2.1,J f.loc.2.2],J c.e]) [some y1]))) (.ai (.fin (.ret (.tuple [.agg [J f.loc.1,J f.loc.2.1,J f.loc.2.2],J f.e]) [some y1]))))))))))
def x15(f:Fw)(c:Gc.C):fU (Env.cq pP (j9 []) (d9 []) (f0 []) (b9 []) (j6 []) (j6 []) (j6 []) (j6 [])) 1000 (x9 pP 213) 1 (x6 53 []) (v7 pP 213) x16 (v6 pP 213 [.ptr 0 0,c.sv]) [some (.cells f.cells)] =QU f c:=by kernel_rfl
def x13(f:Fw)(c:Gc.C):iS pP 213 [c.sv] f (.tuple [V3.sv (t7 f c),J (r9 f c)],f):=
 rp (hB (l:=[]) (k:=[]) (j:=[]) (i:=[]) nN nN nN nN (trivial) v8 v8 v8) 1000 x16 (keep:=(x6 53 [])) (t:=QU f c) (x15 f c) (by
  unfold QU;simp only[ak.holds,sM];(repeat' (first|apply aX|intro _));
  all_goals first
   |rfl
   |(refine ends ?_ (j7.refl _) rfl;unfold t7 r9;simp only[DT, *,mG,oQ,pc,iD];rfl)) (by kernel_rfl) (by kernel_rfl) (by kernel_rfl)
def x14(f:Fw)(c:Gc.C):SCall pP 270 [f.sv,c.sv] (.tuple [V3.sv (t7 f c),J (r9 f c)]):=
 aY aL [] trivial 1000 (.ah (.ah (.ah (.ah (.all) (.all)) (.ah (.all) (.all))) (.ah (.ah (.all) (.all)) (.ah (.all) (.all)))) (.ah (.ah (.ah (.all) (.all)) (.ah (.all) (.all))) (.ah (.ah (.all) (.all)) (.ah (.all) (.all)))))
  (t:=let y0:=i64.wrap (↑(BitVec.ofInt 64 c.has &&&BitVec.ofInt 64 8).toNat:Int) != 0;let y1:=i64.wrap (↑(BitVec.ofInt 64 c.has &&&BitVec.ofInt 64 4).toNat:Int) != 0;let y2:=i64.wrap (↑(BitVec.ofInt 64 c.has &&&BitVec.ofInt 64 2).toNat:Int) != 0;.ag (i64.wrap (↑(BitVec.ofInt 64 c.has &&&BitVec.ofInt 64 1).toNat:Int) != 0) (.ag y2 (.ag y1 (.ag y0 (lT [.agg [J c.x,J c.y,J c.z],J c.e]) (lT [.agg [J c.x,J c.y,J c.z],J f.e])) (.ag y0 (lT [.agg [J c.x,J c.y,J f.loc.2.2],J c.e]) (lT [.agg [J c.x,J c.y,J f.loc.2.2],J f.e]))) (.ag y1 (.ag y0 (lT [.agg [J c.x,J f.loc.2.1,J c.z],J c.e]) (lT [.agg [J c.x,J f.loc.2.1,J c.z],J f.e])) (.ag y0 (lT [.agg [J c.x,J f.loc.2.1,J f.loc.2.2],J c.e]) (lT [.agg [J c.x,J f.loc.2.1,J f.loc.2.2],J f.e])))) (.ag y2 (.ag y1 (.ag y0 (lT [.agg [J f.loc.1,J c.y,J c.z],J c.e]) (lT [.agg [J f.loc.1,J c.y,J c.z],J f.e])) (.ag y0 (lT [.agg [J f.loc.1,J c.y,J f.loc.2.2],J c.e]) (lT [.agg [J f.loc.1,J c.y,J f.loc.2.2],J f.e]))) (.ag y1 (.ag y0 (lT [.agg [J f.loc.1,J f.loc.2.1,J c.z],J c.e]) (lT [.agg [J f.loc.1,J f.loc.2.1,J c.z],J f.e])) (.ag y0 (lT [.agg [J f.loc.1,J f.loc.2.1,J f.loc.2.2],J c.e]) (lT [.agg [J f.loc.1,J f.loc.2.1,J f.loc.2.2],J f.e])))))
  (by kernel_rfl) (by
   simp only[ak.holds,sM];(repeat' (first|apply aX|intro _));
   all_goals first
    |rfl
    |(unfold t7 r9;simp only[DT, *,mG,oQ,pc,iD];rfl)) (by kernel_rfl)
def JA:List SV->Bool
 |[] =>true
 |x::l=>match x with
  |.cm=>false
  |_=>JA l
theorem XK:∀{cs ys:List SV},j7 cs ys->JA cs=true->cs=ys
 |[],[],_,_=>rfl
 |x::xs,y::ys,h,k=>by
  obtain⟨h1,h2⟩:=h;unfold JA at k
  split at k;.cases k
  .rename_i hx
   cases h1 with
   |same=>rw[XK h2 k]
   |nil t=>exact absurd rfl hx
def Gg(cs:List SV):ak SV->ak (Bool×SV×aR)
 |.ai v=>.ai (false,v,.cells cs)
 |.ag b t f=>.ag b (Gg cs t) (Gg cs f)
 |.aj b t=>.aj b (Gg cs t)
 |.aA n=>.aA n
def Kl(f:FuncId)(h:Fw->List SV->Option (ak SV)):bF:=⟨f,λargs B=>match B with
 |.cells cs=>match JA cs with
  |true=>match yL cs with
   |some x=>match h x args with
    |some t=>some (Gg cs t)
    |none=>none
   |none=>none
  |false=>none
 |_=>none⟩
theorem Ks{f:FuncId}{args cs:List SV}{x:Fw}(he:cs=x.cells):∀t:ak SV,t.bw (λv=>iS P f args x (v,x))->(Gg cs t).bw (lW P f args (.cells cs))
 |.ai v,k=>by subst he;exact k
 |.ag _ t u,k=>⟨λhb=>Ks he t (k.1 hb),λhb=>Ks he u (k.2 hb)⟩
 |.aj _ t,k=>λhb=>Ks he t (k hb)
 |.aA _,_=>trivial
def ZP{f:FuncId}{h:Fw->List SV->Option (ak SV)}(k:∀x rest t,h x rest=some t->t.bw λv=>iS P f rest x (v,x)):(Kl f h).ok P:=λargs B t ht=>by
 simp only[Kl]at ht
 split at ht
 .split at ht
  .rename_i hn
   split at ht
   .rename_i hx
    split at ht
    .rename_i t' rH
     cases ht;exact Ks (XK (Cn hx) hn) t' (k _ _ _ rH)
    .cases ht
   .cases ht
  .cases ht
 .cases ht
def lN(p:V3):Bool:=az p.1 (-33554432) 33554432&& (az p.2.1 (-33554432) 33554432&&az p.2.2 (-33554432) 33554432)
variable{p:V3}
def RJ:lN p=true↔(-33554432<=p.1/\p.1<=33554432)/\(-33554432<=p.2.1/\p.2.1<=33554432)/\-33554432<=p.2.2/\p.2.2<=33554432:=by simp only[lN,aH,v5]
def Ag(n:Int):Bool:=az n (-1152921504606846976) 1152921504606846976
def ue(f:Fw)(p:V3)(e:Int):Bool:=lN f.loc&& (lN p&& (Ag f.e&&Ag e))
variable{e:Int}
def LX:ue f p e=true↔lN f.loc=true/\lN p=true/\(-1152921504606846976<=f.e/\f.e<=1152921504606846976)/\-1152921504606846976<=e/\e<=1152921504606846976:=by simp only[ue,Ag,aH,v5]
def Bs(a b:V3)(d:Int):Int:=if gN (xC a b)=0 then(if d < -d then -d else d)else gN (xC a b)
def q63:jm f p e=Bs f.loc p (e-f.e):=by
 unfold jm Bs
 split;.rw[show -(e-f.e)=f.e-e by omega]
 .rfl
def S4(h: -67108864<=x/\x<=67108864):i64.wrap (x*x)=x*x/\0<=x*x/\x*x<=4503599627370496:=by
 have h1:0<=x*x:=by
  rcases Ih 0 x with k|k
  .exact wB k k
  .have:=wB (show 0<=-x by omega) (show 0<=-x by omega);rwa [Int.neg_mul_neg]at this
 have h2:x*x<=67108864*67108864:=by
  rcases Ih 0 x with k|k
  .exact uO h.2 h.2 k (by omega)
  .have:=uO (show -x<=67108864 by omega) (show -x<=67108864 by omega) (show 0<=-x by omega) (by omega)
   rwa [Int.neg_mul_neg]at this
 exact⟨aG (by omega) (by omega),h1,by omega⟩
def jd8{a b:V3}(ha:lN a=true)(hb:lN b=true):i64.wrap (b.1-a.1)=b.1-a.1/\i64.wrap (b.2.1-a.2.1)=b.2.1-a.2.1/\i64.wrap (b.2.2-a.2.2)=b.2.2-a.2.2/\
  i64.wrap (i64.wrap (i64.wrap ((b.1-a.1)*(b.1-a.1))+i64.wrap ((b.2.1-a.2.1)*(b.2.1-a.2.1)))+i64.wrap ((b.2.2-a.2.2)*(b.2.2-a.2.2)))=xC a b/\az (xC a b) 0 9223372036854775807=true:=by
 rw[RJ]at ha hb;obtain⟨e1,p1,q1⟩:=S4 (x:=b.1-a.1) (by omega);obtain⟨e2,p2,q2⟩:=S4 (x:=b.2.1-a.2.1) (by omega);obtain⟨e3,p3,q3⟩:=S4 (x:=b.2.2-a.2.2) (by omega);refine⟨aG (by omega) (by omega),aG (by omega) (by omega),aG (by omega) (by omega),?_,v5.2 (by unfold xC;omega)⟩;rw[e1,e2,e3,aG (x:=(b.1-a.1)*(b.1-a.1)+(b.2.1-a.2.1)*(b.2.1-a.2.1)) (by omega) (by omega),aG (by omega) (by omega)];rfl
def xL6:ax:=.ah (.all) (.all)
noncomputable def QN(f:Fw)(p:V3)(e:Int):ak eW:=let y0:=i64.wrap (i64.wrap (i64.wrap (i64.wrap (p.1-f.loc.1)*i64.wrap (p.1-f.loc.1))+i64.wrap (i64.wrap (p.2.1-f.loc.2.1)*i64.wrap (p.2.1-f.loc.2.1)))+i64.wrap (i64.wrap (p.2.2-f.loc.2.2)*i64.wrap (p.2.2-f.loc.2.2))); .aj (az y0 0 9223372036854775807) (.ag (gN y0==0) (.ai (.fin (.ret (J (if i64.wrap (f.e-e)>i64.wrap (e-f.e)then i64.wrap (f.e-e)else i64.wrap (e-f.e))) [some (.cells (Fw.cells f))]))) (.ai (.fin (.ret (J (gN y0)) [some (.cells (Fw.cells f))]))))
def xL5(f:Fw)(p:V3)(e:Int):fU (Env.cq pP (j9 [Ln]) (d9 []) (f0 []) (b9 []) (j6 []) (j6 []) (j6 []) (j6 [])) 1000 (x9 pP 216) 1 (x6 72 []) (v7 pP 216) xL6 (v6 pP 216 [.ptr 0 0,V3.sv p,J e]) [some (.cells f.cells)] =QN f p e:=by kernel_rfl
def xL3(f:Fw)(p:V3)(e:Int)(h:ue f p e=true):iS pP 216 [V3.sv p,J e] f (J (jm f p e),f):=
 rp (hB (l:=[Ln]) (k:=[]) (j:=[]) (i:=[]) nN nN nN nN (⟨YW,trivial⟩) v8 v8 v8) 1000 xL6 (keep:=(x6 72 [])) (t:=QN f p e) (xL5 f p e) (by
  unfold QN;have lp:=LX.1 h;obtain⟨x1,x2,x3,x4,x5⟩:=jd8 lp.1 lp.2.1;have w1:=aG (x:=e-f.e) (by omega) (by omega);have w2:=aG (x:=f.e-e) (by omega) (by omega);rw[x1,x2,x3];simp only[x4,x5,w1,w2,ak.holds,sM];(repeat' (first|apply aX|intro _));
  all_goals first
   |rfl
   |(refine ends ?_ (j7.refl _) rfl;unfold jm;refine mJ ?_;(repeat' split)<;>omega)) (by kernel_rfl) (by kernel_rfl) (by kernel_rfl)
def zs6:bF:=uS 216 λf rest=>match rest with
 |[.agg [.int .i64 x,.int .i64 y,.int .i64 z],.int .i64 e] =>some (.aj (ue f (x,y,z) e) (.ai (J (jm f (x,y,z) e),f)))
 |_=>none
def xL4(a b:V3)(d:Int)(ha:lN a=true)(hb:lN b=true)(hd:Ag d=true):SCall pP 273 [V3.sv a,V3.sv b,J d] (J (Bs a b d)):=
 aY aL [RA] ⟨YV,trivial⟩ 1000 (.ah (.all) (.all))
  (t:=let y0:=i64.wrap (i64.wrap (i64.wrap (i64.wrap (b.1-a.1)*i64.wrap (b.1-a.1))+i64.wrap (i64.wrap (b.2.1-a.2.1)*i64.wrap (b.2.1-a.2.1)))+i64.wrap (i64.wrap (b.2.2-a.2.2)*i64.wrap (b.2.2-a.2.2)));.aj (az y0 0 9223372036854775807) (.ag (gN y0==0) (.ai (J (if i64.wrap (0-d)>d then i64.wrap (0-d)else d))) (.ai (J (gN y0)))))
  (by kernel_rfl) (by
   obtain⟨x1,x2,x3,x4,x5⟩:=jd8 ha hb;have hd:=v5.1 hd;have w1:=aG (x:=0-d) (by omega) (by omega);rw[x1,x2,x3];simp only[x4,x5,w1,ak.holds,sM];(repeat' (first|apply aX|intro _));
   all_goals first
    |rfl
    |(unfold Bs;refine mJ ?_;(repeat' split)<;>omega)) (by kernel_rfl)
def Ry:aB:=⟨273,λargs=>match args with
 |[.agg [.int .i64 x,.int .i64 y,.int .i64 z],.agg [.int .i64 u,.int .i64 v,.int .i64 w],.int .i64 d] =>some (.aj (lN (x,y,z)) (.aj (lN (u,v,w)) (.aj (Ag d) (.ai (J (Bs (x,y,z) (u,v,w) d))))))
 |_=>none⟩
def yC0:Ry.ok pP:=λargs t ht=>by
 simp only[Ry]at ht
 split at ht<;>cases ht;exact λha hb hd=>xL4 (_,_,_) (_,_,_) _ ha hb hd
def zt3:bF:=uS 213 λf rest=>match rest with
 |[.agg [.int .i64 a0,.int .i64 a1,.int .i64 a2,.int .i64 a3,.int .i64 a4,.int .i64 a5,.int .i64 a6,.int .i64 a7]] =>some (.ai (.tuple [V3.sv (t7 f ⟨a0,a1,a2,a3,a4,a5,a6,a7⟩),J (r9 f ⟨a0,a1,a2,a3,a4,a5,a6,a7⟩)],f))
 |_=>none
def Rg:aB:=⟨270,λargs=>match args with
 |.agg l::rest=>match yL l with
  |some f=>match rest with
   |[.agg [.int .i64 a0,.int .i64 a1,.int .i64 a2,.int .i64 a3,.int .i64 a4,.int .i64 a5,.int .i64 a6,.int .i64 a7]] =>some (lT [V3.sv (t7 f ⟨a0,a1,a2,a3,a4,a5,a6,a7⟩),J (r9 f ⟨a0,a1,a2,a3,a4,a5,a6,a7⟩)])
   |_=>none
  |none=>none
 |_=>none⟩
def yM9:Rg.ok pP:=λargs t ht=>by
 simp only[Rg]at ht
 split at ht
 .split at ht
  .rename_i hx
   split at ht
   .cases ht
    exact x81 (Cn hx) (x14 _ ⟨_,_,_,_,_,_,_,_⟩)
   .cases ht
  .cases ht
 .cases ht
def VO:ax:=.all
def ad0(f:Fw)(c:V4)(len line:Int):fU (Env.L7 (Env.cq pP (j9 [xH,z28,xN]) (d9 [tX.qn]) (f0 []) (b9 []) (j6 []) (j6 []) (j6 []) (j6 [])) (CY [CM,CL])) 1000 (x9 pP 215) 1 (x6 137 [0,3,10,11,12]) (v7 pP 215) VO (v6 pP 215 [.ptr 0 0,V4.sv c,J len,J line]) [some (.cells f.cells)] =(.aj (dN len&&dN f.bH) (.aj (jk f.queue.length) (.aj ((f.queue.length+ [(c,ku f.ma c,0,i64.wrap (dL f.ma c len f.bH*dL f.ma c len f.bH),0)].length)*64<=140737488355328) (.aj (0<=(↑(f.queue++[(c,ku f.ma c,0,i64.wrap (dL f.ma c len f.bH*dL f.ma c len f.bH),0)]).length:Int)&& (↑(f.queue++[(c,ku f.ma c,0,i64.wrap (dL f.ma c len f.bH*dL f.ma c len f.bH),0)]).length:Int)==(↑(f.queue++[(c,ku f.ma c,0,i64.wrap (dL f.ma c len f.bH*dL f.ma c len f.bH),0)]).length:Int)&&8*(↑(f.queue++[(c,ku f.ma c,0,i64.wrap (dL f.ma c len f.bH*dL f.ma c len f.bH),0)]).length:Int)<=140737488355328&&(↑(f.queue++[(c,ku f.ma c,0,i64.wrap (dL f.ma c len f.bH*dL f.ma c len f.bH),0)]).length:Int)<=(9223372036854775807:Int)) (.ai (.at (x8 pP 215 0) 137 (x7 137 [(0,.ptr 0 0),(3,J line),(10,SV.row 1),(11,SV.row 2),(12,J 1)]) [some (.cells (Fw.cells f)),some (.rows w9 (f.queue++[(c,ku f.ma c,0,i64.wrap (dL f.ma c len f.bH*dL f.ma c len f.bH),0)])),some (.rows (Ty.int i64) (List.replicate (↑(f.queue++[(c,ku f.ma c,0,i64.wrap (dL f.ma c len f.bH*dL f.ma c len f.bH),0)]).length:Int).toNat (0:Int)))])))))):=by kernel_rfl
def VM:ax:=let z0:ax:=.ah (.ah pA pA) pA;.ah (.all) (.ah z0 (.ah z0 z0))
def ad1(f:Fw)(line:Int)(q:List Bk)(s:List Int)(i:Int):fU (Env.L7 (Env.cq pP (j9 [xH,z28,xN]) (d9 [tX.qn]) (f0 []) (b9 []) (j6 []) (j6 []) (j6 []) (j6 [])) (CY [CM,CL])) 1000 (x9 pP 215) 1 (x6 137 [0,3,10,11,12]) (x8 pP 215 0) VM (x7 137 [(0,.ptr 0 0),(3,J line),(10,.row 1),(11,.row 2),(12,J i)]) [some (.cells f.cells),some (.rows w9 q),some (.rows (.int .i64) s)] =(let y0:ak eW:=.ai (.fin (.ret (J 2) [some (.cells (Fw.cells f))]));let y1:=decide ((f.lines.length+ [line].length)*8<=140737488355328);let y2:=f.queue.getD 0 aM; .ag (i< (↑q.length:Int)) (.aj (0<=i64.wrap (i-1)&&i64.wrap (i-1)< (↑q.length:Int)) (.aj ((i64.wrap (i-1)).toNat<q.length) (.aj (0<=i&&i< (↑q.length:Int)) (.aj (i.toNat<q.length) (.aj (0<=i&&i< (↑s.length:Int)) (.aj (i.toNat<s.length) (.ai (.at (x8 pP 215 0) 137 (x7 137 [(0,.ptr 0 0),(3,J line),(10,SV.row 1),(11,SV.row 2),(12,J (i64.wrap (i+1)))]) [some (.cells (Fw.cells f)),some (.rows w9 q),some (.rows (Ty.int i64) (s.set i.toNat (i64.wrap (kD f.ma (q.getD (i64.wrap (i-1)).toNat aM).1 (q.getD i.toNat aM).1*kD f.ma (q.getD (i64.wrap (i-1)).toNat aM).1 (q.getD i.toNat aM).1))))])))))))) (.ag (f.aT) (.aj (kP q s f.mo.1.2.2.2.2) (.ag (f.mo.1.2.2.2.2<=fp q 0) (.ag (gL q s f.mo.1.2.2.2.2 0=f.mo.1.2.2.2.2) (.aj (jk f.lines.length) (.aj y1 (.ai (.fin (.ret (J 0) [some (.cells (Fw.cells {f with queue:=(jo q (gL q s f.mo.1.2.2.2.2)),lines:=(f.lines++[line])}))]))))) y0) y0)) (.ag ((↑f.queue.length:Int)>0) (.aj (0< (↑f.queue.length:Int)) (.aj (kP q s y2.2.2.1) (.ag (y2.2.2.1<=fp q 0) (.ag (gL q s y2.2.2.1 0=y2.2.2.1) (.aj (jk f.lines.length) (.aj y1 (.ai (.fin (.ret (J 0) [some (.cells (Fw.cells {f with queue:=(jo q (gL q s y2.2.2.1)),lines:=(f.lines++[line])}))]))))) y0) y0))) (.aj (kP q s 0) (.ag (0<=fp q 0) (.ag (gL q s 0 0=0) (.aj (jk f.lines.length) (.aj y1 (.ai (.fin (.ret (J 0) [some (.cells (Fw.cells {f with queue:=(jo q (gL q s 0)),lines:=(f.lines++[line])}))]))))) y0) y0))))):=by kernel_rfl
def WA:ax:=.all
def cp0(f:Fw):o8 (Env.of pP (j9 [Gn])) 1000 (x9 pP 200) (.int .i64) (x6 38 [1,3,4]) (v7 pP 200) WA (v6 pP 200 [f.sv]) [] =(.ai (.at (x8 pP 200 0) 38 (x7 38 [(1,.ptr 0 0),(3,SV.cm),(4,J 0)]) [some (.cells (Fw.cells f))])):=by kernel_rfl
def Wx:ax:=.ah (.ah (.all) (.all)) (.all)
def zL6(f:Fw)(i:Int):o8 (Env.of pP (j9 [Gn])) 1000 (x9 pP 200) (.int .i64) (x6 38 [1,3,4]) (x8 pP 200 0) Wx (x7 38 [(1,.ptr 0 0),(3,.cm),(4,J i)]) [some (.cells f.cells)] =(let y0:=kD f.ma (f.queue.getD (i64.wrap (i-1)).toNat aM).1 (f.queue.getD i.toNat aM).1*kD f.ma (f.queue.getD (i64.wrap (i-1)).toNat aM).1 (f.queue.getD i.toNat aM).1;let y1:=x7 38 [(1,.ptr 0 0),(3,SV.row 1),(4,J (i64.wrap (i+1)))]; .ag (i< (↑f.queue.length:Int)) (.ag (i>0) (.aj (0<=i64.wrap (i-1)&&i64.wrap (i-1)< (↑f.queue.length:Int)) (.aj (0<=i&&i< (↑f.queue.length:Int)) (.aj ([i64.wrap y0].length*8<=140737488355328) (.ai (.at (x8 pP 200 0) 38 y1 [some (.cells (Fw.cells f)),some (.rows (Ty.int i64) [i64.wrap y0])]))))) (rT (.ai (.at (x8 pP 200 0) 38 y1 [some (.cells (Fw.cells f)),some (.rows (Ty.int i64) [(0:Int)])])))) (.ai (.done (.list (Ty.int i64) [])))):=by kernel_rfl
def Wy:ax:=.ah (.ah (.all) (.all)) (.all)
def cp1(f:Fw)(s:List Int)(i:Int):o8 (Env.of pP (j9 [Gn])) 1000 (x9 pP 200) (.int .i64) (x6 38 [1,3,4]) (x8 pP 200 0) Wy (x7 38 [(1,.ptr 0 0),(3,.row 1),(4,J i)]) [some (.cells f.cells),some (.rows (.int .i64) s)] =(let y0:=kD f.ma (f.queue.getD (i64.wrap (i-1)).toNat aM).1 (f.queue.getD i.toNat aM).1*kD f.ma (f.queue.getD (i64.wrap (i-1)).toNat aM).1 (f.queue.getD i.toNat aM).1;let y1:=x7 38 [(1,.ptr 0 0),(3,SV.row 1),(4,J (i64.wrap (i+1)))]; .ag (i< (↑f.queue.length:Int)) (.ag (i>0) (.aj (0<=i64.wrap (i-1)&&i64.wrap (i-1)< (↑f.queue.length:Int)) (.aj (0<=i&&i< (↑f.queue.length:Int)) (.aj ((s.length+ [i64.wrap y0].length)*8<=140737488355328) (.ai (.at (x8 pP 200 0) 38 y1 [some (.cells (Fw.cells f)),some (.rows (Ty.int i64) (s++[i64.wrap y0]))]))))) (.aj ((s.length+1)*8<=140737488355328) (.ai (.at (x8 pP 200 0) 38 y1 [some (.cells (Fw.cells f)),some (.rows (Ty.int i64) (s++[(0:Int)]))])))) (.ai (.done (.list (Ty.int i64) s)))):=by kernel_rfl
def dm(f:Fw)(c:V4)(len:Int):Bool:=iB f.ma c&& (dN len&& (dN f.bH&& (f.queue.all n7&& (D0 f&& (f.queue.length<=1000&&az (m9 f) 0 1099511627776)))))
def qv{len:Int}:dm f c len=true↔iB f.ma c=true/\dN len=true/\dN f.bH=true/\(∀b∈f.queue,n7 b=true)/\f.lines.length=f.queue.length/\f.queue.length<=1000/\0<=m9 f/\m9 f<=1099511627776:=by
 simp only[dm,aH,nM,LW,aV,v5]
def pJ:dN x=true↔-9223372036854775808<=x/\x<=9223372036854775807:=v5
def zF2(m:Ma)(q:List Bk)(i:Nat):0<=pH m q i/\pH m q i<=1099511627776:=by
 unfold pH
 split;.omega
 .have:=S3 (L3 m (q.getD (i-1) aM).1 (q.getD i aM).1);omega
def zF9(m:Ma)(q:List Bk):(ij m q).length=q.length:=by simp[ij]
def rf(f:Fw)(c:V4)(len:Int):(t6 f c len).length=f.queue.length+1:=by simp[t6]
def yl0{len:Int}(h:dm f c len=true):n7 (A2 f.ma c len f.bH)=true:=by
 obtain⟨h1,h2,h3,_⟩:=qv.1 h;have a:=zg8 h1;have s:=MO h1 (l:=len) (f:=f.bH) (pJ.1 h2).2 (pJ.1 h3).2;have q:=jd6 (v:=dL f.ma c len f.bH) (M:=1048576) (by omega);exact Ac.2 ⟨(mj.1 h1).2,a,by show 1<=dL f.ma c len f.bH*dL f.ma c len f.bH;omega,by show dL f.ma c len f.bH*dL f.ma c len f.bH<=1099511627776;omega⟩
def Iz{len:Int}(h:dm f c len=true):ed (t6 f c len) (ij f.ma (t6 f c len)) (m9 f):=by
 have p:=qv.1 h;refine⟨by rw[rf];omega,λb hb=>?_,zF9 _ _,λx hx=>?_,p.2.2.2.2.2.2⟩
 .unfold t6 at hb
  rcases wu.1 hb with hb|hb
  .exact p.2.2.2.1 b hb
  .rw[Ie.1 hb];exact yl0 h
 .unfold ij at hx
  obtain⟨i,_,rfl⟩:=EM.1 hx;exact zF2 _ _ _
def N5{len:Int}(h:dm f c len=true):kP (t6 f c len) (ij f.ma (t6 f c len)) (m9 f)=true:=
 rn.2 ⟨by have:=(qv.1 h).2.2.2.2.2.1;rw[rf];omega,Iz h⟩
def AO(f:Fw)(c:V4)(len:Int):Int:=if dt f c len=true then 0 else 2
def yN(f:Fw)(c:V4)(len line:Int):Fw:=if dt f c len=true then p8 f c len line else f
def WR{q:List Bk}{s:List Int}(hs:s.length=q.length)(h:∀t,t<q.length->s.getD t 0=pH m q t):s=ij m q:=LV hs h
def C5(hv:0<=v/\v<=1048576):i64.wrap (v*v)=v*v:=by
 have:=S3 hv;exact aG (by omega) (by omega)
def OE(m:Ma)(q:List Bk)(h:1<=i):pH m q i=kD m (q.getD (i-1) aM).1 (q.getD i aM).1*kD m (q.getD (i-1) aM).1 (q.getD i aM).1:=au (by omega)
def VB{len:Int}(h:dt f c len=true):AO f c len=0:=ay h
def N7{len:Int}(h:¬dt f c len=true):AO f c len=2:=au h
def VA{len line:Int}(h:dt f c len=true):yN f c len line=p8 f c len line:=ay h
def N6{len line:Int}(h:¬dt f c len=true):yN f c len line=f:=au h
def wrA:∀x∈[tX.qn],x.ok pP:=gx.all (p:=iY.ok pP) (l:=[tX.qn]) ⟨aB.aAS yH0,trivial⟩
def kA:cV pP (Env.L7 (Env.cq pP (j9 [xH,z28,xN]) (d9 [tX.qn]) (f0 []) (b9 []) (j6 []) (j6 []) (j6 []) (j6 [])) (CY [CM,CL])):=
 q37 (hB (l:=[xH,z28,xN]) (k:=[tX.qn]) (j:=[]) (i:=[]) [] [] [] [] ⟨YA,Xz,YU,trivial⟩ wrA v8 v8) (gx.all (p:=Az.ok pP) (l:=[CM,CL]) ⟨yE9,yF0,trivial⟩)
theorem VN{len:Int}(line:Int)(h:dm f c len=true):∀ (k i:Nat) (s:List Int),i+k=f.queue.length+1->1<=i->s.length=f.queue.length+1->(∀t,t<i->s.getD t 0=pH f.ma (t6 f c len) t)->
  qw pP (x9 pP 215) [] 1 (.ret (J (AO f c len)) [some (.cells (yN f c len line).cells)]) (x8 pP 215 0) (x7 137 [(0,.ptr 0 0),(3,J line),(10,.row 1),(11,.row 2),(12,J i)]) [some (.cells f.cells),some (.rows w9 (t6 f c len)),some (.rows (.int .i64) s)]
 |k,i,s,hi,h1,hs,hc=>by
  have p:=qv.1 h;have pl:=N5 h;have ql:=rf f c len;refine nV kA (n:=1000) (keep:=x6 137 [0,3,10,11,12]) (p:=VM) (by show 1<=3;omega) ?_;erw [ad1 f line (t6 f c len) s i]
  have t0:(i:Int).toNat=i:=by omega
  have wm:i64.wrap ((i:Int)-1)=((i-1:Nat):Int):=by rw[aG (by omega) (by omega)];omega
  have tm:((i-1:Nat):Int).toNat=i-1:=by omega
  have w1:i64.wrap ((i:Int)+1)=((i+1:Nat):Int):=by rw[aG (by omega) (by omega)];omega
  have jr:=L3 f.ma ((t6 f c len).getD (i-1) aM).1 ((t6 f c len).getD i aM).1
  match k,hi with
  |k+1,hi=>
   have gD:(i:Int)< (t6 f c len).length:=by omega
   have ih:=VN line h k (i+1) (s.set i (pH f.ma (t6 f c len) i)) (by omega) (by omega) (by simpa using hs) (λt ht=>by
    rw[xw (by omega)]
    split;.rename_i e;rw[e]
    .exact hc t (by omega))
   rw[OE f.ma (t6 f c len) h1]at ih;simp only[t0,wm,tm,w1,C5 jr,gD,ak.holds,aV,ez,aH,oQ,iG,dV,jI,ir];exact⟨by omega,by omega,by omega,by omega,by omega,by omega,o5 _ _,ih⟩
  |0,hi=>
   have gD:¬((i:Int)< (t6 f c len).length):=by omega
   have es:s=ij f.ma (t6 f c len):=WR (by omega) λt ht=>hc t (by omega)
   subst es;have f2:jk f.lines.length=true:=xT.2 (by omega)
   have l2:(f.lines.length+ [line].length)*8<=140737488355328:=by simp;omega
   have key:∀e,e=m9 f->(kP (t6 f c len) (ij f.ma (t6 f c len)) e=true/\((e<=fp (t6 f c len) 0->(gL (t6 f c len) (ij f.ma (t6 f c len)) e 0=e->Fin.ret (SV.int i64 0) [some (aR.cells (Fw.cells {f with queue:=jo (t6 f c len) (gL (t6 f c len) (ij f.ma (t6 f c len)) e),lines:=f.lines++[line]}))] =.ret (J (AO f c len)) [some (.cells (yN f c len line).cells)])/\(¬gL (t6 f c len) (ij f.ma (t6 f c len)) e 0=e->Fin.ret (SV.int i64 2) [some (aR.cells (Fw.cells f))] =.ret (J (AO f c len)) [some (.cells (yN f c len line).cells)]))/\(¬e<=fp (t6 f c len) 0->Fin.ret (SV.int i64 2) [some (aR.cells (Fw.cells f))] =.ret (J (AO f c len)) [some (.cells (yN f c len line).cells)]))):=λe he=>by
    subst he;refine⟨pl,λa=>⟨λb=>?_,λb=>?_⟩,λa=>?_⟩
    .have o:=uV.2 ⟨a,b⟩
     rw[VB o,VA o];rfl
    .have o:¬dt f c len=true:=λo=>b (uV.1 o).2
     rw[N7 o,N6 o];rfl
    .have o:¬dt f c len=true:=λo=>a (uV.1 o).1
     rw[N7 o,N6 o];rfl
   have l0:(f.queue.length:Int)>0↔¬f.queue.length=0:=by omega
   cases hm:f.aT
   .by_cases hq:f.queue.length=0
    .have kk:=key 0 (by unfold m9;rw[hm,au (by decide),ay hq])
     have TE:¬((f.queue.length:Int)>0):=by omega
     simp only[hm]at kk;simp only[gD,TE,f2,l2,ak.holds,aV,ez,iG,dV,ir,mG,eY];exact⟨kk.1,λa=>⟨λb=>(kk.2.1 a).1 b,λb=>(kk.2.1 a).2 b⟩,λa=>kk.2.2 a⟩
    .have kk:=key (f.queue.getD 0 aM).2.2.1 (by unfold m9;rw[hm,au (by decide),au hq])
     have TE:(f.queue.length:Int)>0:=by omega
     have BJ:(0:Int)<f.queue.length:=by omega
     simp only[hm]at kk;simp only[gD,TE,BJ,f2,l2,ak.holds,aV,ez,iG,dV,ir,mG,oQ,eY,jI];exact⟨kk.1,λa=>⟨λb=>(kk.2.1 a).1 b,λb=>(kk.2.1 a).2 b⟩,λa=>kk.2.2 a⟩
   .have kk:=key f.mo.1.2.2.2.2 (by unfold m9;rw[hm,ay rfl])
    simp only[hm]at kk;simp only[gD,hm,f2,l2,ak.holds,aV,ez,iG,dV,ir,mG,yF,jI];exact⟨kk.1,λa=>⟨λb=>(kk.2.1 a).1 b,λb=>(kk.2.1 a).2 b⟩,λa=>kk.2.2 a⟩
def xz7(f:Fw)(c:V4)(len line:Int)(h:dm f c len=true):iS pP 215 [V4.sv c,J len,J line] f (J (AO f c len),yN f c len line):=by
 have p:=qv.1 h;have ql:=rf f c len;have sr:=MO p.1 (l:=len) (f:=f.bH) (pJ.1 p.2.1).2 (pJ.1 p.2.2.1).2;have w:=C5 (v:=dL f.ma c len f.bH) (by omega);refine Gh (cs:=(yN f c len line).cells) (by kernel_rfl) rfl rfl rfl (j7.refl _) (nV kA (n:=1000) (keep:=x6 137 [0,3,10,11,12]) (p:=VO) (bA _) ?_);have q:=ad0 f c len line;unfold v6 v7 at q;erw [q]
 have lp:=VN line h f.queue.length 1 (List.replicate (t6 f c len).length 0) (by omega) (by omega) (by simp[ql]) (λt ht=>by
  have:t=0:=by omega
  subst this
  rw[ql];rfl)
 have tn:((t6 f c len).length:Int).toNat=(t6 f c len).length:=by omega
 rw[w];simp only[show f.queue++[(c,ku f.ma c,0,dL f.ma c len f.bH*dL f.ma c len f.bH,0)] =t6 f c len from rfl,tn,ak.holds,aH,aV,HZ,jI,dV];refine⟨⟨p.2.1,p.2.2.1⟩,xT.2 (by omega),by simp;omega,⟨⟨by omega,by omega⟩,by omega⟩,o5 _ _,lp⟩
def jJ:bF:=uS 215 λf rest=>match rest with
 |[.agg [.int .i64 a,.int .i64 b,.int .i64 c,.int .i64 d],.int .i64 len,.int .i64 line] =>some (.aj (dm f (a,b,c,d) len) (.ag (dt f (a,b,c,d) len) (.ai (J 0,p8 f (a,b,c,d) len line)) (.ai (J 2,f))))
 |_=>none
def Jz:jJ.ok pP:=Ck λf rest t ht=>by
 split at ht
 .rename_i a b c d len line
  cases ht;intro h;have k:=xz7 f (a,b,c,d) len line h;refine⟨λo=>?_,λo=>?_⟩;.rw[VB o,VA o]at k;exact k
  .have o:¬dt f (a,b,c,d) len=true:=by rw[o];exact fS
   rw[N7 o,N6 o]at k;exact k
 .cases ht
def tQ:bF:=Kl 213 λf rest=>match rest with
 |[.agg [.int .i64 a0,.int .i64 a1,.int .i64 a2,.int .i64 a3,.int .i64 a4,.int .i64 a5,.int .i64 a6,.int .i64 a7]] =>some (lT [V3.sv (t7 f ⟨a0,a1,a2,a3,a4,a5,a6,a7⟩),J (r9 f ⟨a0,a1,a2,a3,a4,a5,a6,a7⟩)])
 |_=>none
def YD:tQ.ok pP:=ZP λf rest t ht=>by
 split at ht<;>cases ht;exact x13 f ⟨_,_,_,_,_,_,_,_⟩
def xu:bF:=Kl 216 λf rest=>match rest with
 |[.agg [.int .i64 x,.int .i64 y,.int .i64 z],.int .i64 e] =>some (.aj (ue f (x,y,z) e) (.ai (J (jm f (x,y,z) e))))
 |_=>none
def YE:xu.ok pP:=ZP λf rest t ht=>by
 split at ht<;>cases ht;exact λh=>xL3 f (_,_,_) _ h
noncomputable def Gp:List Item:=Ek (fU (Env.cq pP (j9 [zJ,zK,zb,xM,rv]) (d9 []) (f0 [bF.toP tQ]) (b9 [tQ]) (j6 []) (j6 []) (j6 []) (j6 [12])) 1000 (x9 pP 146) 1 (x6 152 []) (v7 pP 146) .all (v6 pP 146 [.ptr 0 0,J 1,(⟨0,0,0,0,0,0,0,0⟩:Gc.C).sv]) [some (.cells aP.cells)])
def XX:ax:=let z1:ax:=.ar (.ar pA);let z0:ax:=.ah (.ah z1 (.ln 3 (.ah (.ln 12 (.ah .all .all)) (.ln 12 pA)))) (.ah z1 z1);.ah (.ln 19 pA) (.ln 6 (.ah (.ln 12 pA) (.ln 5 (.ah (.ln 6 pA) (.ln 6 (.ah .all (.ah z0 z0)))))))
def mv0(f:Fw)(line:Int)(c:Gc.C):fU (Env.cq pP (j9 [zJ,zK,zb,xM,rv]) (d9 []) (f0 [bF.toP tQ]) (b9 [tQ]) (j6 []) (j6 []) (j6 []) (j6 [12])) 1000 (x9 pP 146) 1 (x6 152 [0,1,7,8,9,11]) (v7 pP 146) XX (v6 pP 146 [.ptr 0 0,J line,c.sv]) [some (.cells f.cells)] =(let y3:={f with bH:=c.f};let y5:ak eW:=.ai (.fin (.ret (J 14) [some (.cells (Fw.cells f))]));let y6:aR:=.cells (Fw.cells {f with bH:=c.f});let y7:ak eW:=.ai (.fin (.ret (J 8) [some (.cells (Fw.cells f))]));let y8:=((t7 y3 c).1,(t7 y3 c).2);let y0:=mg f.ma y8 (r9 y3 c);let y2:ak eW:=.aj (dU y3&&fh y3) (.ai (.at Gp 152 (x7 152 [(0,.ptr 0 0),(1,J line),(7,.ptr 1 0),(8,J (r9 y3 c)),(9,.ptr 2 0),(11,.ptr 3 0)]) [some y6,some (.cells [J (t7 y3 c).1,J (t7 y3 c).2.1,J (t7 y3 c).2.2]),some (.cells [J y0.1,J y0.2.1,J y0.2.2.1,J y0.2.2.2]),some (.cells [J (bI y0 (ej y3)).1,J (bI y0 (ej y3)).2.1,J (bI y0 (ej y3)).2.2.1,J (bI y0 (ej y3)).2.2.2])]));let y9:=((t7 f c).1,(t7 f c).2);let y4:=mg f.ma y9 (r9 f c);let y1:ak eW:=.aj (dU f&&fh f) (.ai (.at Gp 152 (x7 152 [(0,.ptr 0 0),(1,J line),(7,.ptr 1 0),(8,J (r9 f c)),(9,.ptr 2 0),(11,.ptr 3 0)]) [some (.cells (Fw.cells f)),some (.cells [J (t7 f c).1,J (t7 f c).2.1,J (t7 f c).2.2]),some (.cells [J y4.1,J y4.2.1,J y4.2.2.1,J y4.2.2.2]),some (.cells [J (bI y4 (ej f)).1,J (bI y4 (ej f)).2.1,J (bI y4 (ej f)).2.2.1,J (bI y4 (ej f)).2.2.2])]));let dg:ak eW:=.ai (.fin (.ret (J 8) [some y6])); .ag (line<1) y5 (.ag (!f.bf) y5 (.ag (f.back) y5 (.ag (f.mode != 1) y5 (.ag (i64.wrap (↑(BitVec.ofInt 64 c.has &&&BitVec.ofInt 64 16).toNat:Int) != 0) (.ag (iL f.ma y8 (r9 y3 c)) (.ag (!gC f.ma y8) dg (.ag (r9 y3 c>f.e) (rT (.ag (f.r0<f.bc) (.ai (.fin (.ret (J 15) [some y6]))) y2)) y2)) (.ag (!gC f.ma y8) dg dg)) (.ag (iL f.ma y9 (r9 f c)) (.ag (!gC f.ma y9) y7 (.ag (r9 f c>f.e) (rT (.ag (f.r0<f.bc) (.ai (.fin (.ret (J 15) [some (.cells (Fw.cells f))]))) y1)) y1)) (.ag (!gC f.ma y9) y7 y7))))))):=by kernel_rfl
def XW:ax:=let z0:ax:=.ah (.ah pA pA) .all;.ah (.ln 3 pA) (.ln 3 (.ah .all (.ah (.ln 7 (.ah .all z0)) (.ln 8 z0))))
def mv1(f:Fw)(line:Int)(u:V3)(e:Int)(p d:V4):fU (Env.cq pP (j9 [zJ,zK,zb,xM,rv]) (d9 []) (f0 [bF.toP jJ,bF.toP xu]) (b9 [jJ,xu]) (j6 []) (j6 []) (j6 []) (j6 [])) 1000 (x9 pP 146) 1 (x6 152 [0,1,7,8,9,11]) Gp XW (x7 152 [(0,.ptr 0 0),(1,J line),(7,.ptr 1 0),(8,J e),(9,.ptr 2 0),(11,.ptr 3 0)]) [some (.cells f.cells),some (.cells (V3.cells u)),some (.cells (V4.cells p)),some (.cells (V4.cells d))] =(let y1:ak eW:=.ai (.fin (.ret (J 2) [some (.cells (Fw.cells f))]));let y2:=!(d.1==0&& (d.2.1==0&& (d.2.2.1==0&& (d.2.2.2==0&&true))));let y0:ak eW:=.ag y2 (.aj (ue f u e) (.aj (ue f u e) (.aj (dm f d (jm f u e)) (.ag (dt f d (jm f u e)) (.ai (.fin (.ret (J 0) [some (.cells (Fw.cells { (p8 f d (jm f u e) line)with loc:=u,e:=e}))]))) y1)))) (.ai (.fin (.ret (J 0) [some (.cells (Fw.cells {f with loc:=u,e:=e}))]))); .ag (!u7 p) y1 (.ag (!u7 d) y1 (.ag y2 (.ag ((↑f.queue.length:Int)>=32) (.ai (.fin (.ret (J 18) [some (.cells (Fw.cells f))]))) y0) y0))):=by kernel_rfl
def nzT(d:V4):(!(d.1==0&& (d.2.1==0&& (d.2.2.1==0&& (d.2.2.2==0&&true)))))=bO d:=by
 unfold bO;rw[U2]
section
variable {g:Fw} {line e:Int} {u:V3} {p d:V4}
def GW(h:(u7 p&&u7 d)=false):lH g u e p d=2:=by unfold lH;rw[h]
def js9(h:(u7 p&&u7 d)=true)(k:bO d=false):lH g u e p d=0:=by unfold lH;rw[h,k]
def SI(h:(u7 p&&u7 d)=true)(k:bO d=true)(q:32<=g.queue.length):lH g u e p d=18:=by unfold lH;rw[h,k];exact ay q
def jt0(h:(u7 p&&u7 d)=true)(k:bO d=true)(q:¬32<=g.queue.length)(o:dt g d (jm g u e)=true):lH g u e p d=0:=by unfold lH;rw[h,k];dsimp only;rw[au q,ay o]
def SH(h:(u7 p&&u7 d)=true)(k:bO d=true)(q:¬32<=g.queue.length)(o:¬dt g d (jm g u e)=true):lH g u e p d=2:=by unfold lH;rw[h,k];dsimp only;rw[au q,au o]
def Ml(h:¬lH g u e p d=0):F9 g line u e p d=g:=au h
def SE(h:lH g u e p d=0):F9 g line u e p d=xA g line u e d:=ay h
def SG(k:bO d=false):xA g line u e d={g with loc:=u,e:=e}:=by unfold xA;rw[k]
def SF(k:bO d=true):xA g line u e d={p8 g d (jm g u e) line with loc:=u,e:=e}:=by unfold xA;rw[k]
def kMv:cV pP (Env.cq pP (j9 [zJ,zK,zb,xM,rv]) (d9 []) (f0 [bF.toP jJ,bF.toP xu]) (b9 [jJ,xu]) (j6 []) (j6 []) (j6 []) (j6 [])):=
 hB (l:=[zJ,zK,zb,xM,rv]) (k:=[]) (j:=[bF.toP jJ,bF.toP xu]) (i:=[jJ,xu]) [] [] [] [] ⟨YS,YX,Xh,PS,PQ,trivial⟩ v8 (gx.all (p:=kq.ok pP) (l:=[bF.toP jJ,bF.toP xu]) ⟨bF.toP_ok Jz,bF.toP_ok YE,trivial⟩) (gx.all (p:=bF.ok pP) (l:=[jJ,xu]) ⟨Jz,YE,trivial⟩)
def kMh:cV pP (Env.cq pP (j9 [zJ,zK,zb,xM,rv]) (d9 []) (f0 [bF.toP tQ]) (b9 [tQ]) (j6 []) (j6 []) (j6 []) (j6 [12])):=
 hB (l:=[zJ,zK,zb,xM,rv]) (k:=[]) (j:=[bF.toP tQ]) (i:=[tQ]) [] [] [] [12] ⟨YS,YX,Xh,PS,PQ,trivial⟩ v8 (gx.all (p:=kq.ok pP) (l:=[bF.toP tQ]) ⟨bF.toP_ok YD,trivial⟩) (gx.all (p:=bF.ok pP) (l:=[tQ]) ⟨YD,trivial⟩)
def yj0(hl:u7 d=true->bO d=true->¬32<=g.queue.length->ue g u e=true/\dm g d (jm g u e)=true):
  qw pP (x9 pP 146) [] 1 (.ret (J (lH g u e p d)) [some (.cells (F9 g line u e p d).cells)]) Gp (x7 152 [(0,.ptr 0 0),(1,J line),(7,.ptr 1 0),(8,J e),(9,.ptr 2 0),(11,.ptr 3 0)]) [some (.cells g.cells),some (.cells (V3.cells u)),some (.cells (V4.cells p)),some (.cells (V4.cells d))] :=by
 refine nV kMv (n:=1000) (keep:=x6 152 [0,1,7,8,9,11]) (p:=XW) (by show 1<=4;omega) ?_;erw [mv1 g line u e p d];rw[nzT]
 cases hp:u7 p
 .have h:(u7 p&&u7 d)=false:=by rw[hp];rfl
  have k:=GW (g:=g) (u:=u) (e:=e) h;rw[k,Ml (by rw[k];decide)];exact⟨λ_=>rfl,λc=>by cases c⟩
 cases hd:u7 d
 .have h:(u7 p&&u7 d)=false:=by rw[hp,hd];rfl
  have k:=GW (g:=g) (u:=u) (e:=e) h;rw[k,Ml (by rw[k];decide)];exact⟨λc=>(by cases c),λ_=>⟨λ_=>rfl,λc=>by cases c⟩⟩
 have h:(u7 p&&u7 d)=true:=by rw[hp,hd];rfl
 refine⟨λc=>(by cases c),λ_=>⟨λc=>(by cases c),λ_=>?_⟩⟩
 cases hz:bO d
 .have k:=js9 (g:=g) (u:=u) (e:=e) h hz
  rw[k,SE k,SG hz];exact⟨λc=>(by cases c),λ_=>⟨λc=>(by cases c),λ_=>rfl⟩⟩
 by_cases hq:32<=g.queue.length
 .have k:=SI (g:=g) (u:=u) (e:=e) h hz hq
  rw[k,Ml (by rw[k];decide)];exact⟨λ_=>⟨λ_=>rfl,λc=>absurd (cO c) (λn=>n (by omega))⟩,λc=>by cases c⟩
 .obtain⟨l1,l2⟩:=hl hd hz hq
  refine⟨λ_=>⟨λc=>absurd (bG c) (by omega),λ_=>⟨λ_=>⟨l1,l1,l2,λo=>?_,λo=>?_⟩,λc=>by cases c⟩⟩,λc=>by cases c⟩
  .have k:=jt0 (g:=g) (u:=u) (e:=e) h hz hq o
   rw[k,SE k,SF hz];rfl
  .have k:=SH (g:=g) (u:=u) (e:=e) h hz hq (by rw[o];exact fS)
   rw[k,Ml (by rw[k];decide)];rfl
end
structure VF (f:Fw):Prop where
 ma:f.ma.ok=true
 c0:f.c0.ok=true
 c1:f.c1.ok=true
 g0:f.g0.ok=true
 g1:f.g1.ok=true
 mode:1<=f.mode/\f.mode<=3
 gK:(-16777216<=f.loc.1/\f.loc.1<=16777216)/\(-16777216<=f.loc.2.1/\f.loc.2.1<=16777216)/\(-16777216<=f.loc.2.2/\f.loc.2.2<=16777216)/\(-16777216<=f.e/\f.e<=16777216)/\(0<=f.bH/\f.bH<=1048576)/\(0<=f.bt/\f.bt<=1048576)/\(0<=f.waits/\f.waits<=3)/\(0<=f.fo/\f.fo<=255)/\(0<=f.line/\f.line<=1099511627776)/\(0<=f.bL/\f.bL<=1099511627776)/\(0<=f.aU/\f.aU<=1099511627776)/\0<=f.bc/\f.bc<=400000
 jq:dU f=true
 nu:fh f=true
 ends:(¬f.mode=3/\f.bf=true)\/(f.aT=false/\f.queue.length=0)
 len:f.queue.length<=32
 lens:f.lines.length=f.queue.length
 pos:u7 f.pos=true
 ret:u7 f.ret=true
 Ux:u7 (eV f)=true
 q0:u7 (dx f)=true
 lR:∀i,i<f.queue.length->nT (dx f) f.queue f.lines i=true
def d7(h:u9 f=true):VF f:=by
 obtain⟨h1,h2,h3,h4,h5⟩:=Er.1 h;obtain⟨a1,a2,a3,a4,a5⟩:=xg.1 h1;obtain⟨b1,b2⟩:=Fx.1 h2;obtain⟨q1,q2,q3,q4,q5,q6,q7⟩:=pL.1 h4;exact⟨a1,a2,a3,a4,a5,b1,oE.1 b2,h3,h4,IK.1 h5,q1,q2,q3,q4,q5,q6,q7⟩
def R6{α:Type}{l:List α}{x d:α}(h:x∈l):∃i,i<l.length/\l.getD i d=x:=by
 obtain⟨i,hi,e⟩:=NE h;exact⟨i,hi,by rw[cK,cc hi];exact e⟩
def vh{p:V4}{q:List Bk}{ls:List Int}(h:nT p q ls i=true):f6 (q.getD i aM)=true/\(0<=ls.getD i 0/\ls.getD i 0<=1099511627776)/\u7 (dJ p q (i+1))=true:=by
 simp only[nT,aH,v5]at h;exact h
def VF.blocks(v:VF f):∀b∈f.queue,f6 b=true:=λb hb=>by
 obtain⟨i,hi,rfl⟩:=R6 (d:=aM) hb;exact(vh (v.lR i hi)).1
def VF.awx(v:VF f):∀n∈f.lines,0<=n/\n<=1099511627776:=λn hn=>by
 obtain⟨i,hi,rfl⟩:=R6 (d:=(0:Int)) hn;exact(vh (v.lR i (by have:=v.lens;omega))).2.1
def VF.shape(v:VF f):f4 f=true:=oh.2 ⟨iq v.pos,v.lens,v.len,by have:=v.gK;omega,by have:=v.gK;omega,v.awx⟩
def VF.goal(v:VF f):u7 (ej f)=true:=by
 unfold ej
 cases hq:f.queue.length with
 |zero=>exact v.q0
 |succ n=>exact(vh (v.lR n (by omega))).2.2
def VF.sound(v:VF f):∀b∈f.queue,n7 b=true:=λb hb=>by
 have:=v.blocks b hb;unfold f6 at this;rw[aH]at this;exact this.1
def VF.entry(v:VF f):0<=m9 f/\m9 f<=1099511627776:=by
 unfold m9
 split
 .rename_i hm
  have m:=v.jq;rw[zf hm]at m;have r:=sV.1 (lF.1 m).1;omega
 .split
  .omega
  .rename_i hq
   have r:=sV.1 (vh (v.lR 0 (by omega))).1;omega
def Pg{u:V3}(h:iL m u e=true):kL (mg m u e)=true:=by
 obtain⟨h1,h2,h3,h4⟩:=tL.1 h;have o:=(Ma.bz m).1 (dK.1 h1).1;have r1:=(oV o.1 (dK.1 h1).2).2;have r2:=(oV o.2.1 (dK.1 h2).2).2;have r3:=(oV o.2.2.1 (dK.1 h3).2).2;have r4:=(oV o.2.2.2.1 (dK.1 h4).2).2;rw[wE];unfold mg Fg
 split<;>dsimp only<;>omega
def q64{u:V3}(h:ue f u e=true):0<=jm f u e/\jm f u e<=4611686018427387904:=by
 have p:=LX.1 h;have a:=qZ2 (xC f.loc u);have b:=Lt (xC f.loc u);unfold jm
 split;.split<;>omega
 .omega
def jy8{c:Gc.C}(h:c.valid=true):0<=c.f/\c.f<=1048576:=by
 unfold Gc.C.valid at h;rw[aH]at h;have r:=h.2;simp only[Gc.rest,aH]at r;have h4:Gc.okW c 4=true:=r.2.2.2.2.1;unfold Gc.okW at h4
 have e:c.num 4=c.f:=by unfold Gc.C.num;simp
 have e1:Gc.lo c.code 4=1:=by unfold Gc.lo;simp
 have e2:Gc.hi c.code 4=1048576:=by unfold Gc.hi;simp
 rw[e,e1,e2]at h4
 split at h4;.have:=cI.1 h4;omega
 .have:=v5.1 h4;omega
section
variable {f:Fw} {line:Int} {c:Gc.C}
def Pf(k:line<1\/f.bf=false\/f.back=true\/¬f.mode=1):gG f line c=14/\oG f line c=f:=by
 have e:tK f line c=14:=ay k;unfold gG oG;rw[e];exact⟨au (by decide),by rw[au (by decide),ay rfl]⟩
def tI(k:¬(line<1\/f.bf=false\/f.back=true\/¬f.mode=1))(k2:gC f.ma (t7 f c)=false\/iL f.ma (t7 f c) (r9 f c)=false):gG f line c=8/\oG f line c=b7 f c:=by
 have e:tK f line c=8:=by unfold tK;rw[au k,ay k2]
 unfold gG oG;rw[e];exact⟨au (by decide),by rw[au (by decide),au (by decide)]⟩
def JH(k:¬(line<1\/f.bf=false\/f.back=true\/¬f.mode=1))(k2:¬(gC f.ma (t7 f c)=false\/iL f.ma (t7 f c) (r9 f c)=false))(k3:f.e<r9 f c/\f.r0<f.bc):gG f line c=15/\oG f line c=b7 f c:=by
 have e:tK f line c=15:=by unfold tK;rw[au k,au k2,ay k3]
 unfold gG oG;rw[e];exact⟨au (by decide),by rw[au (by decide),au (by decide)]⟩
def JI(k:¬(line<1\/f.bf=false\/f.back=true\/¬f.mode=1))(k2:¬(gC f.ma (t7 f c)=false\/iL f.ma (t7 f c) (r9 f c)=false))(k3:¬(f.e<r9 f c/\f.r0<f.bc)):gG f line c=lH (b7 f c) (t7 f c) (r9 f c) (oF f c) (mb f c)/\oG f line c=F9 (b7 f c) line (t7 f c) (r9 f c) (oF f c) (mb f c):=by
 have e:tK f line c=0:=by unfold tK;rw[au k,au k2,au k3]
 unfold gG oG;rw[e];exact⟨ay rfl,ay rfl⟩
def qA5(h:uc c.has 16=true):b7 f c={f with bH:=c.f}:=ay h
def qA4(h:¬uc c.has 16=true):b7 f c=f:=au h
def qA6(v:VF f)(hc:c.valid=true):0<=(b7 f c).bH/\(b7 f c).bH<=1048576:=by
 unfold b7
 split;.exact jy8 hc
 .have:=v.gK;omega
def Pe(v:VF f)(hc:c.valid=true)(ki:gC f.ma (t7 f c)=true)(km:iL f.ma (t7 f c) (r9 f c)=true){d:V4}(hd:u7 d=true)(hz:bO d=true):ue (b7 f c) (t7 f c) (r9 f c)=true/\dm (b7 f c) d (jm (b7 f c) (t7 f c) (r9 f c))=true:=by
 have n:=v.gK;have o:=(Ma.bz f.ma).1 v.ma;have ii:=Lw.1 ki;have a1:=(Ax.bz _).1 o.1;have a2:=(Ax.bz _).1 o.2.1;have a3:=(Ax.bz _).1 o.2.2.1;have mm:=(tL.1 km).2.2.2;have me:=(dK.1 mm).2;have iu:lN (t7 f c)=true:=RJ.2 (by omega);have il:lN f.loc=true:=RJ.2 (by omega)
 have fl:(b7 f c).loc=f.loc:=by unfold b7;split<;>rfl
 have fe:(b7 f c).e=f.e:=by unfold b7;split<;>rfl
 have fm:(b7 f c).ma=f.ma:=by unfold b7;split<;>rfl
 have fq:(b7 f c).queue=f.queue:=by unfold b7;split<;>rfl
 have fn:(b7 f c).lines=f.lines:=by unfold b7;split<;>rfl
 have fy:m9 (b7 f c)=m9 f:=by unfold b7;split<;>rfl
 have lp:ue (b7 f c) (t7 f c) (r9 f c)=true:=LX.2 ⟨by rw[fl];exact il,iu,by rw[fe];omega,by omega⟩;have lr:=q64 lp;have fr:=qA6 v hc;have en:=v.entry;refine⟨lp,qv.2 ⟨mj.2 ⟨by rw[fm];exact v.ma,?_⟩,pJ.2 (by omega),pJ.2 (by omega),by rw[fq];exact v.sound,by rw[fn,fq];exact v.lens,by rw[fq];have:=v.len;omega,by rw[fy];exact en⟩⟩;unfold bM;rw[hd,hz];rfl
def xO5(h:u9 f=true)(hc:c.valid=true):iS pP 146 [J line,c.sv] f (J (gG f line c),oG f line c):=by
 have v:=d7 h;refine Gh (cs:=(oG f line c).cells) (by kernel_rfl) rfl rfl rfl (j7.refl _) (nV kMh (n:=1000) (keep:=x6 152 [0,1,7,8,9,11]) (p:=XX) (bA _) ?_);have q:=mv0 f line c;unfold v6 v7 at q;erw [q]
 by_cases k:line<1\/f.bf=false\/f.back=true\/¬f.mode=1
 .obtain⟨eA,eO⟩:=Pf (c:=c) k
  rw[eA,eO];refine⟨λ_=>rfl,λa=>⟨λ_=>rfl,λb=>⟨λ_=>rfl,λd=>⟨λ_=>rfl,λe=>?_⟩⟩⟩⟩;exfalso;have a:=cO a;have e:=ot.1 e;rcases k with k|k|k|k
  .exact a k
  .rw[k]at b;cases b
  .rw[k]at d;cases d
  .exact k e
 .have mq:(dU f&&fh f)=true:=by rw[v.jq,v.nu];rfl
  refine⟨λa=>absurd (.inl (bG a)) k,λ_=>⟨λa=>absurd (.inr (.inl (by simpa using a))) k,λ_=>⟨λa=>absurd (.inr (.inr (.inl a))) k,λ_=>⟨λa=>absurd (.inr (.inr (.inr (px.1 a)))) k,λ_=>?_⟩⟩⟩⟩
  have out:∀g:Fw,b7 f c=g->(gC f.ma (t7 f c)=true->iL f.ma (t7 f c) (r9 f c)=true->¬(f.e<r9 f c/\f.r0<f.bc)->
    qw pP (x9 pP 146) [] 1 (.ret (J (gG f line c)) [some (.cells (oG f line c).cells)]) Gp (x7 152 [(0,.ptr 0 0),(1,J line),(7,.ptr 1 0),(8,J (r9 f c)),(9,.ptr 2 0),(11,.ptr 3 0)]) [some (.cells g.cells),some (.cells (V3.cells (t7 f c))),some (.cells (V4.cells (oF f c))),some (.cells (V4.cells (bI (oF f c) (ej f))))]):=λg hg ki km kk=>by
   obtain⟨eA,eO⟩:=JI k (λn=>by rcases n with n|n;rw[ki]at n;cases n;rw[km]at n;cases n) kk;have hw:bI (oF f c) (ej f)=mb f c:=uj (Pg km) (iq v.goal);rw[eA,eO,hw,<-hg]
   exact yj0 λhd hz _=>Pe v hc ki km hd hz
  refine⟨λw=>?_,λw=>?_⟩
  .have hf:b7 f c={f with bH:=c.f}:=qA5 (DT.2 (px.1 w))
   refine⟨λm=>⟨λi=>?_,λi=>⟨λt=>⟨rfl,λr=>?_,λr=>⟨mq,o5 _ _,?_⟩⟩,λt=>⟨mq,o5 _ _,?_⟩⟩⟩,λm=>⟨λi=>?_,λi=>?_⟩⟩
   .obtain⟨eA,eO⟩:=tI (c:=c) k (.inl (by have i:(!gC f.ma (t7 f c))=true:=i;simpa using i))
    rw[eA,eO,hf];rfl
   .have i:(!gC f.ma (t7 f c))=false:=i
    have m:iL f.ma (t7 f c) (r9 f c)=true:=m;obtain⟨eA,eO⟩:=JH (c:=c) k (λn=>by rcases n with n|n;rw[n]at i;cases i;rw[m]at n;cases n) ⟨bG t,bG r⟩;rw[eA,eO,hf];rfl
   .have i:(!gC f.ma (t7 f c))=false:=i
    exact out _ hf (by simpa using i) m λn=>absurd n.2 (cO r)
   .have i:(!gC f.ma (t7 f c))=false:=i
    exact out _ hf (by simpa using i) m λn=>absurd n.1 (cO t)
   .obtain⟨eA,eO⟩:=tI (c:=c) k (.inr m)
    rw[eA,eO,hf];rfl
   .obtain⟨eA,eO⟩:=tI (c:=c) k (.inr m)
    rw[eA,eO,hf];rfl
  .have hf:b7 f c=f:=qA4 (λn=>by rw[ot]at w;exact DT.1 n w)
   refine⟨λm=>⟨λi=>?_,λi=>⟨λt=>⟨rfl,λr=>?_,λr=>⟨mq,o5 _ _,?_⟩⟩,λt=>⟨mq,o5 _ _,?_⟩⟩⟩,λm=>⟨λi=>?_,λi=>?_⟩⟩
   .obtain⟨eA,eO⟩:=tI (c:=c) k (.inl (by have i:(!gC f.ma (t7 f c))=true:=i;simpa using i))
    rw[eA,eO,hf];rfl
   .have i:(!gC f.ma (t7 f c))=false:=i
    have m:iL f.ma (t7 f c) (r9 f c)=true:=m;obtain⟨eA,eO⟩:=JH (c:=c) k (λn=>by rcases n with n|n;rw[n]at i;cases i;rw[m]at n;cases n) ⟨bG t,bG r⟩;rw[eA,eO,hf];rfl
   .have i:(!gC f.ma (t7 f c))=false:=i
    exact out _ hf (by simpa using i) m λn=>absurd n.2 (cO r)
   .have i:(!gC f.ma (t7 f c))=false:=i
    exact out _ hf (by simpa using i) m λn=>absurd n.1 (cO t)
   .obtain⟨eA,eO⟩:=tI (c:=c) k (.inr m)
    rw[eA,eO,hf];rfl
   .obtain⟨eA,eO⟩:=tI (c:=c) k (.inr m)
    rw[eA,eO,hf];rfl
end
noncomputable def uq:iY:=vO 146 λf rest=>match rest with
 |[.int .i64 line,.agg [.int .i64 a0,.int .i64 a1,.int .i64 a2,.int .i64 a3,.int .i64 a4,.int .i64 a5,.int .i64 a6,.int .i64 a7]] =>some (.aj (u9 f) (.aj (Gc.C.valid ⟨a0,a1,a2,a3,a4,a5,a6,a7⟩) (.ai (J (gG f line ⟨a0,a1,a2,a3,a4,a5,a6,a7⟩),oG f line ⟨a0,a1,a2,a3,a4,a5,a6,a7⟩))))
 |_=>none
def Yv:uq.ok pP:=Ad λf rest t ht=>by
 split at ht<;>cases ht;exact λh hc=>xO5 (c:=⟨_,_,_,_,_,_,_,_⟩) h hc
def qP2:ax:=let z0:ax:=.ah .all .all;.ah .all (.ah .all (.ah (.ln 5 (.ah (.ah pA pA) (.ah z0 z0))) (.ln 6 (.ah z0 z0))))
def vT(f:Fw)(line:Int)(c:Gc.C):fU (Env.cq pP (j9 [vC,xF,zG]) (d9 []) (f0 [bF.toP jJ]) (b9 [jJ]) (j6 []) (j6 []) (j6 []) (j6 [])) 1000 (x9 pP 148) 1 (x6 148 [0,115,116]) (v7 pP 148) qP2 (v6 pP 148 [.ptr 0 0,J line,c.sv]) [some (.cells f.cells)] =(let y1:=x7 148 [(0,.ptr 0 0),(115,.agg [J 0,J 0,J f.pos.2.2.1,J 0,J f.pos.1,J f.pos.2.1,J 0,J 0]),(116,J 0)];let y2:=x7 148 [(0,.ptr 0 0),(115,.agg [J 0,J 0,J f.ret.2.2.1,J 0,J f.ret.1,J f.ret.2.1,J 0,J 0]),(116,J 0)];let y3:=(0,0,0,f.pos.2.2.2);let y4:=x8 pP 148 0;let y5:=dY (cA f.ma 3) f.pos.2.2.2;let y0:ak eW:=rT (rT (rT (.ag (e7 f.ma f.pos.2.2.2) (.ag (!f.back) (.ai (.fin (.ret (J 0) [some (.cells (Fw.cells {f with bf:=true,pos:=y3,loc:=(0,0,0),e:=y5}))]))) (rT (rT (rT (.ai (.at y4 148 y2 [some (.cells (Fw.cells {f with bf:=true,pos:=y3,loc:=(0,0,0),e:=y5,back:=false}))])))))) (.ag (!f.back) (.ai (.fin (.ret (J 0) [some (.cells (Fw.cells {f with bf:=true,pos:=y3,loc:=(0,0,0),e:=0}))]))) (rT (rT (rT (.ai (.at y4 148 y2 [some (.cells (Fw.cells {f with bf:=true,pos:=y3,loc:=(0,0,0),e:=0,back:=false}))]))))))))); .ag (!eF f) (.ai (.fin (.ret (J 18) [some (.cells (Fw.cells f))]))) (.ag (f.mode != 1) (.ai (.fin (.ret (J 14) [some (.cells (Fw.cells f))]))) (.ag (line==0) (.ag (f.bf) (rT (rT (rT (.ag (e7 f.ma f.pos.2.2.2) (rT (rT (rT (.ai (.at y4 148 y1 [some (.cells (Fw.cells {f with bf:=true,pos:=y3,loc:=(0,0,0),e:=y5,back:=false,ret:=f.pos}))]))))) (rT (rT (rT (.ai (.at y4 148 y1 [some (.cells (Fw.cells {f with bf:=true,pos:=y3,loc:=(0,0,0),e:=0,back:=false,ret:=f.pos}))]))))))))) y0) y0))):=by kernel_rfl
def qP3:ax:=.ar (.ah (.all) (.ah pA pA))
def M6(g:Fw)(c d:V4):fU (Env.cq pP (j9 [vC,xF,zG]) (d9 []) (f0 [bF.toP jJ]) (b9 [jJ]) (j6 []) (j6 []) (j6 []) (j6 [])) 1000 (x9 pP 148) 1 (x6 148 [0,115,116]) (x8 pP 148 0) qP3 (x7 148 [(0,.ptr 0 0),(115,.agg (V4.cells c++V4.cells d)),(116,J 0)]) [some (.cells g.cells)] =(let y0:=x7 148 [(0,.ptr 0 0),(115,.agg [J c.1,J c.2.1,J c.2.2.1,J c.2.2.2,J d.1,J d.2.1,J d.2.2.1,J d.2.2.2]),(116,J 1)]; rT (.ag (c.1==0&& (c.2.1==0&& (c.2.2.1==0&& (c.2.2.2==0&&true)))) (.ai (.at (x8 pP 148 0) 148 y0 [some (.cells (Fw.cells g))])) (.aj (dm g c 0) (.ag (dt g c 0) (.ai (.at (x8 pP 148 0) 148 y0 [some (.cells (Fw.cells (p8 g c 0 0)))])) (.ai (.fin (.ret (J 2) [some (.cells (Fw.cells g))]))))))):=by kernel_rfl
def qP5:ax:=.ar (.ah (.all) (.ah pA pA))
def kZ(g:Fw)(c d:V4):fU (Env.cq pP (j9 [vC,xF,zG]) (d9 []) (f0 [bF.toP jJ]) (b9 [jJ]) (j6 []) (j6 []) (j6 []) (j6 [])) 1000 (x9 pP 148) 1 (x6 148 [0,115,116]) (x8 pP 148 0) qP5 (x7 148 [(0,.ptr 0 0),(115,.agg (V4.cells c++V4.cells d)),(116,J 1)]) [some (.cells g.cells)] =(let y0:=x7 148 [(0,.ptr 0 0),(115,.agg [J c.1,J c.2.1,J c.2.2.1,J c.2.2.2,J d.1,J d.2.1,J d.2.2.1,J d.2.2.2]),(116,J 2)]; rT (.ag (d.1==0&& (d.2.1==0&& (d.2.2.1==0&& (d.2.2.2==0&&true)))) (.ai (.at (x8 pP 148 0) 148 y0 [some (.cells (Fw.cells g))])) (.aj (dm g d 0) (.ag (dt g d 0) (.ai (.at (x8 pP 148 0) 148 y0 [some (.cells (Fw.cells (p8 g d 0 0)))])) (.ai (.fin (.ret (J 2) [some (.cells (Fw.cells g))]))))))):=by kernel_rfl
def qP7:ax:=.ar (.all)
def hm3(g:Fw)(c d:V4):fU (Env.cq pP (j9 [vC,xF,zG]) (d9 []) (f0 [bF.toP jJ]) (b9 [jJ]) (j6 []) (j6 []) (j6 []) (j6 [])) 1000 (x9 pP 148) 1 (x6 148 [0,115,116]) (x8 pP 148 0) qP7 (x7 148 [(0,.ptr 0 0),(115,.agg (V4.cells c++V4.cells d)),(116,J 2)]) [some (.cells g.cells)] =(.aj (g.ma.ok&&u7 g.ret) (.ai (.fin (.ret (J 0) [some (.cells (Fw.cells {g with loc:=((dh g.ma g.ret).1,(dh g.ma g.ret).2.1,(dh g.ma g.ret).2.2.1)}))])))):=by kernel_rfl
end Go.Proofs.YtnkaepnblikcdaaGreat
