/-
  Evaluator, contracts, plain law.
-/
import Derived.Test.YtnkaepnblikcdaaGreatVC6
import Derived.Test.YtnkaepnblikcdaaGreatVC3
import Derived.Shelf.RegionOpenPlain
import Derived.Lib.Walk
import Derived.Lib.ConvBytes
import Derived.Laws.IdiomStrings
import Derived.Laws.AppendOwn
import Derived.WalkKit
import Derived.Test.YtnkaepnblikcdaaGreatVC4
import Derived.Shelf.SlSortCmp.WholeK
import Derived.Shelf.SlicesG.Cmp
import Derived.Ground.SlsfProg
import Derived.Ground.SlgcProg
import Derived.Test.YtnkaepnblikcdaaGreatVC5
set_option maxRecDepth 100000
set_option linter.unusedVariables false
set_option linter.unusedSimpArgs false
open Go.IntKind (i64 u64 u8)
namespace Go.Proofs.YtnkaepnblikcdaaGreat
open Go.Sx
abbrev eL:SV:=.list Ty.unit []
def zD3:Plan:=.fork (.fork (.all) (.all)) (.fork (.all) (.all))
noncomputable def zD4(f:Fw):Tree Stop:= .node (f.queue.isEmpty) (.node (f.lines.isEmpty) (.leaf (.done (.agg [J f.ma.x.num,J f.ma.x.den,J f.ma.x.speed,J f.ma.x.accel,J f.ma.x.jerk,J f.ma.x.min,J f.ma.x.max,J f.ma.y.num,J f.ma.y.den,J f.ma.y.speed,J f.ma.y.accel,J f.ma.y.jerk,J f.ma.y.min,J f.ma.y.max,J f.ma.z.num,J f.ma.z.den,J f.ma.z.speed,J f.ma.z.accel,J f.ma.z.jerk,J f.ma.z.min,J f.ma.z.max,J f.ma.e.num,J f.ma.e.den,J f.ma.e.speed,J f.ma.e.accel,J f.ma.e.jerk,J f.ma.e.min,J f.ma.e.max,.bool f.ma.xy,J f.ma.ticks,J f.mode,.bool f.homed,J f.pos.1,J f.pos.2.1,J f.pos.2.2.1,J f.pos.2.2.2,J f.loc.1,J f.loc.2.1,J f.loc.2.2,J f.e,J f.feed,eL,eL,J f.mo.1.1.1,J f.mo.1.1.2.1,J f.mo.1.1.2.2.1,J f.mo.1.1.2.2.2,J f.mo.1.2.1,J f.mo.1.2.2.1,J f.mo.1.2.2.2.1,J f.mo.1.2.2.2.2,J f.mo.2.1,J f.mo.2.2,.bool f.moving,J f.active,.bool f.back,J f.ret.1,J f.ret.2.1,J f.ret.2.2.1,J f.ret.2.2.2,J f.dwell,J f.waits,J f.c0.target,J f.c0.kp,J f.c0.ki,J f.c0.scale,J f.c0.sum,J f.c0.limit,J f.c1.target,J f.c1.kp,J f.c1.ki,J f.c1.scale,J f.c1.sum,J f.c1.limit,J f.g0.low,J f.g0.high,J f.g0.watch,J f.g0.rise,J f.g0.band,J f.g0.base,J f.g0.count,J f.g0.idle,J f.g0.quiet,J f.g0.fault,.bool f.g0.door,J f.g1.low,J f.g1.high,J f.g1.watch,J f.g1.rise,J f.g1.band,J f.g1.base,J f.g1.count,J f.g1.idle,J f.g1.quiet,J f.g1.fault,.bool f.g1.door,J f.fan,J f.line,J f.ticks,J f.cold,J f.r0,J f.r1]))) (.req (decide ((0+f.lines.length)*8<=140737488355328)) (.leaf (.done (.agg [J f.ma.x.num,J f.ma.x.den,J f.ma.x.speed,J f.ma.x.accel,J f.ma.x.jerk,J f.ma.x.min,J f.ma.x.max,J f.ma.y.num,J f.ma.y.den,J f.ma.y.speed,J f.ma.y.accel,J f.ma.y.jerk,J f.ma.y.min,J f.ma.y.max,J f.ma.z.num,J f.ma.z.den,J f.ma.z.speed,J f.ma.z.accel,J f.ma.z.jerk,J f.ma.z.min,J f.ma.z.max,J f.ma.e.num,J f.ma.e.den,J f.ma.e.speed,J f.ma.e.accel,J f.ma.e.jerk,J f.ma.e.min,J f.ma.e.max,.bool f.ma.xy,J f.ma.ticks,J f.mode,.bool f.homed,J f.pos.1,J f.pos.2.1,J f.pos.2.2.1,J f.pos.2.2.2,J f.loc.1,J f.loc.2.1,J f.loc.2.2,J f.e,J f.feed,eL,.list (Ty.int IntKind.i64) f.lines,J f.mo.1.1.1,J f.mo.1.1.2.1,J f.mo.1.1.2.2.1,J f.mo.1.1.2.2.2,J f.mo.1.2.1,J f.mo.1.2.2.1,J f.mo.1.2.2.2.1,J f.mo.1.2.2.2.2,J f.mo.2.1,J f.mo.2.2,.bool f.moving,J f.active,.bool f.back,J f.ret.1,J f.ret.2.1,J f.ret.2.2.1,J f.ret.2.2.2,J f.dwell,J f.waits,J f.c0.target,J f.c0.kp,J f.c0.ki,J f.c0.scale,J f.c0.sum,J f.c0.limit,J f.c1.target,J f.c1.kp,J f.c1.ki,J f.c1.scale,J f.c1.sum,J f.c1.limit,J f.g0.low,J f.g0.high,J f.g0.watch,J f.g0.rise,J f.g0.band,J f.g0.base,J f.g0.count,J f.g0.idle,J f.g0.quiet,J f.g0.fault,.bool f.g0.door,J f.g1.low,J f.g1.high,J f.g1.watch,J f.g1.rise,J f.g1.band,J f.g1.base,J f.g1.count,J f.g1.idle,J f.g1.quiet,J f.g1.fault,.bool f.g1.door,J f.fan,J f.line,J f.ticks,J f.cold,J f.r0,J f.r1]))))) (.req (decide ((0+f.queue.length)*64<=140737488355328)) (.node (f.lines.isEmpty) (.leaf (.done (.agg [J f.ma.x.num,J f.ma.x.den,J f.ma.x.speed,J f.ma.x.accel,J f.ma.x.jerk,J f.ma.x.min,J f.ma.x.max,J f.ma.y.num,J f.ma.y.den,J f.ma.y.speed,J f.ma.y.accel,J f.ma.y.jerk,J f.ma.y.min,J f.ma.y.max,J f.ma.z.num,J f.ma.z.den,J f.ma.z.speed,J f.ma.z.accel,J f.ma.z.jerk,J f.ma.z.min,J f.ma.z.max,J f.ma.e.num,J f.ma.e.den,J f.ma.e.speed,J f.ma.e.accel,J f.ma.e.jerk,J f.ma.e.min,J f.ma.e.max,.bool f.ma.xy,J f.ma.ticks,J f.mode,.bool f.homed,J f.pos.1,J f.pos.2.1,J f.pos.2.2.1,J f.pos.2.2.2,J f.loc.1,J f.loc.2.1,J f.loc.2.2,J f.e,J f.feed,.list o9 f.queue,eL,J f.mo.1.1.1,J f.mo.1.1.2.1,J f.mo.1.1.2.2.1,J f.mo.1.1.2.2.2,J f.mo.1.2.1,J f.mo.1.2.2.1,J f.mo.1.2.2.2.1,J f.mo.1.2.2.2.2,J f.mo.2.1,J f.mo.2.2,.bool f.moving,J f.active,.bool f.back,J f.ret.1,J f.ret.2.1,J f.ret.2.2.1,J f.ret.2.2.2,J f.dwell,J f.waits,J f.c0.target,J f.c0.kp,J f.c0.ki,J f.c0.scale,J f.c0.sum,J f.c0.limit,J f.c1.target,J f.c1.kp,J f.c1.ki,J f.c1.scale,J f.c1.sum,J f.c1.limit,J f.g0.low,J f.g0.high,J f.g0.watch,J f.g0.rise,J f.g0.band,J f.g0.base,J f.g0.count,J f.g0.idle,J f.g0.quiet,J f.g0.fault,.bool f.g0.door,J f.g1.low,J f.g1.high,J f.g1.watch,J f.g1.rise,J f.g1.band,J f.g1.base,J f.g1.count,J f.g1.idle,J f.g1.quiet,J f.g1.fault,.bool f.g1.door,J f.fan,J f.line,J f.ticks,J f.cold,J f.r0,J f.r1]))) (.req (decide ((0+f.lines.length)*8<=140737488355328)) (.leaf (.done (.agg [J f.ma.x.num,J f.ma.x.den,J f.ma.x.speed,J f.ma.x.accel,J f.ma.x.jerk,J f.ma.x.min,J f.ma.x.max,J f.ma.y.num,J f.ma.y.den,J f.ma.y.speed,J f.ma.y.accel,J f.ma.y.jerk,J f.ma.y.min,J f.ma.y.max,J f.ma.z.num,J f.ma.z.den,J f.ma.z.speed,J f.ma.z.accel,J f.ma.z.jerk,J f.ma.z.min,J f.ma.z.max,J f.ma.e.num,J f.ma.e.den,J f.ma.e.speed,J f.ma.e.accel,J f.ma.e.jerk,J f.ma.e.min,J f.ma.e.max,.bool f.ma.xy,J f.ma.ticks,J f.mode,.bool f.homed,J f.pos.1,J f.pos.2.1,J f.pos.2.2.1,J f.pos.2.2.2,J f.loc.1,J f.loc.2.1,J f.loc.2.2,J f.e,J f.feed,.list o9 f.queue,.list (Ty.int IntKind.i64) f.lines,J f.mo.1.1.1,J f.mo.1.1.2.1,J f.mo.1.1.2.2.1,J f.mo.1.1.2.2.2,J f.mo.1.2.1,J f.mo.1.2.2.1,J f.mo.1.2.2.2.1,J f.mo.1.2.2.2.2,J f.mo.2.1,J f.mo.2.2,.bool f.moving,J f.active,.bool f.back,J f.ret.1,J f.ret.2.1,J f.ret.2.2.1,J f.ret.2.2.2,J f.dwell,J f.waits,J f.c0.target,J f.c0.kp,J f.c0.ki,J f.c0.scale,J f.c0.sum,J f.c0.limit,J f.c1.target,J f.c1.kp,J f.c1.ki,J f.c1.scale,J f.c1.sum,J f.c1.limit,J f.g0.low,J f.g0.high,J f.g0.watch,J f.g0.rise,J f.g0.band,J f.g0.base,J f.g0.count,J f.g0.idle,J f.g0.quiet,J f.g0.fault,.bool f.g0.door,J f.g1.low,J f.g1.high,J f.g1.watch,J f.g1.rise,J f.g1.band,J f.g1.base,J f.g1.count,J f.g1.idle,J f.g1.quiet,J f.g1.fault,.bool f.g1.door,J f.fan,J f.line,J f.ticks,J f.cold,J f.r0,J f.r1]))))))
theorem cln(f:Fw):o7 (Env.of pP (j9 [])) 1000 (x9 pP 104) .unit (x6 14 []) (v7 pP 104) zD3 (v6 pP 104 [f.sv]) [] =zD4 f:=by kernel_rfl
inductive EmpL:SV->SV->Prop where
 |same (x:SV):EmpL x x
 |emp (t:Ty):EmpL eL (.list t [])
def zb0:List SV->List SV->Prop
 |[],[] =>True
 |x::xs,y::ys=>EmpL x y/\zb0 xs ys
 |_,_=>False
theorem EmpL.rep{R:Nat->Prop}{I:Rho}{n:Nat}{w:World}{x y:SV}{v:Value}(h:EmpL x y)(hr:Rep R I n w x v):Rep R I n w y v:=by
 cases h with
 |same=>exact hr
 |emp t=>
  obtain⟨A,cap,h1,h2,_⟩:=hr;exact⟨A,cap,h1,h2,λh=>absurd h (Nat.lt_irrefl _)⟩
theorem zb0.rep{R:Nat->Prop}{I:Rho}{n:Nat}{w:World}:∀{xs ys:List SV} {vs:List Value},zb0 xs ys->j7 R I n w xs vs->j7 R I n w ys vs
 |[],[],_,_,hr=>hr
 |x::xs,y::ys,_,h,hr=>by
  obtain⟨u,us,rfl,h1,h2⟩:=hr;exact⟨u,us,rfl,h.1.rep h1,h.2.rep h2⟩
def zD1(f:Fw)(q l:SV):List SV:=f.cells.take 41++(q::l::f.cells.drop 43)
theorem zD2(f:Fw){q l:SV}(hq:EmpL q (LB f.queue))(hl:EmpL l (LI f.lines)):zb0 (zD1 f q l) f.cells:=by
 obtain⟨⟩:=f;dsimp only at hq hl
 repeat(first|exact trivial|refine⟨.same _,?_⟩|refine⟨hq,?_⟩|refine⟨hl,?_⟩)
theorem xb7(f:Fw)(h:shF f=true):SCall pP 104 [f.sv] f.sv:=by
 have h1:f.queue.length<=1000:=of_decide_eq_true ((Bool.and_eq_true _ _).mp h).1;have h2:f.lines.length<=1000:=of_decide_eq_true ((Bool.and_eq_true _ _).mp h).2
 have key:∀q l:SV,(zD1 f q l).length=102->f6 (zD1 f q l)=true->EmpL q (LB f.queue)->EmpL l (LI f.lines)->(zD4 f).holds (λo=>match o with
   |.done v'=>v'=.agg (zD1 f q l)
   |.at items' size slots' boxes'=>slots'.length=size/\t8 pP (x9 pP 104) (.agg (zD1 f q l)) items' slots' boxes')->SCall pP 104 [f.sv] f.sv:=λq l _ hd hq hl ht=>by
  refine xD2 (v:=.agg (zD1 f q l)) (s7 rfl hd (by kernel_rfl) (o5 qM9 (n:=1000) (hint:=.unit) (keep:=x6 14 []) (p:=zD3) (boxes:=[]) hd ?_)) λR I n w u hu=>?_
  .have e:=cln f
   unfold v6 v7 at e;erw [e];exact ht
  .obtain⟨ws,hu1,hu2⟩:=hu
   exact⟨ws,hu1,(zD2 f hq hl).rep hu2⟩
 by_cases a:f.queue=[]
 .have ea:EmpL eL (LB f.queue):=by rw[a];exact .emp _
  by_cases b:f.lines=[]
  .have eb:EmpL eL (LI f.lines):=by rw[b];exact .emp _
   refine key eL eL rfl rfl ea eb ?_;unfold zD4
   exact p7 (λ_=>p7 (λ_=>rfl) λk=>absurd k (by rw[b];simp)) λk=>absurd k (by rw[a];simp)
  .refine key eL (LI f.lines) rfl rfl ea (.same _) ?_
   unfold zD4
   exact p7 (λ_=>p7 (λk=>absurd (List.isEmpty_iff.1 k) b) λ_=>x0 (decide_eq_true (by omega)) rfl) λk=>absurd k (by rw[a];simp)
 .by_cases b:f.lines=[]
  .have eb:EmpL eL (LI f.lines):=by rw[b];exact .emp _
   refine key (LB f.queue) eL rfl rfl (.same _) eb ?_;unfold zD4
   exact p7 (λk=>absurd (List.isEmpty_iff.1 k) a) λ_=>x0 (decide_eq_true (by omega)) (p7 (λ_=>rfl) λk=>absurd k (by rw[b];simp))
  .refine key (LB f.queue) (LI f.lines) rfl rfl (.same _) (.same _) ?_
   unfold zD4
   exact p7 (λk=>absurd (List.isEmpty_iff.1 k) a) λ_=>x0 (decide_eq_true (by omega)) (p7 (λk=>absurd (List.isEmpty_iff.1 k) b) λ_=>x0 (decide_eq_true (by omega)) rfl)
theorem yN3(f:Fw)(hl:f.lines.length<=1000)(hn:0<=f.line/\f.line<=1099511627776):∀ (k i:Nat) (v:Int),i+k=f.lines.length->v=qp7 (f.lines.drop i) (f.line+1)->
  t8 pP (x9 pP 203) (J v) (x8 pP 203 0) (x7 28 [(1,.ptr 0 0),(15,LI f.lines),(16,J f.lines.length),(17,J i)]) [some (.cells f.cells)]
 |k,i,v,hi,hv=>by
  refine o5 qM9 (n:=1000) (hint:=.unit) (keep:=x6 28 [1,15,16,17]) (p:=yN2) rfl ?_;erw [po1 f i]
  have t0:(i:Int).toNat=i:=by omega
  have w1:i64.wrap ((i:Int)+1)=((i+1:Nat):Int):=by rw[w64 (by omega) (by omega)];omega
  have w2:i64.wrap (f.line+1)=f.line+1:=w64 (by omega) (by omega);rw[t0,w1,w2]
  match k,hi with
  |0,hi=>
   rw[List.drop_eq_nil_of_le (by omega)]at hv;subst hv
   exact o4 (λa=>absurd a (by omega)) λ_=>rfl
  |k+1,hi=>
   rw[zN6 (d:=(0:Int)) (by omega:i<f.lines.length)]at hv;unfold qp7 at hv
   refine o4 (λ_=>x0 (by simp;omega) (o4 (λc=>?_) λc=>?_)) λa=>absurd (by omega) a
   .rw[if_pos c]at hv;subst hv;rfl
   .rw[if_neg c]at hv
    exact⟨u7 _ _,yN3 f hl hn k (i+1) v (by omega) hv⟩
theorem xp1(f:Fw)(h:xE9 f=true):SCall pP 203 [f.sv] (J (n7 f)):=by
 obtain⟨s1,s2,s3,s4,s5,s6⟩:=xF0.1 h;refine s7 rfl rfl (by kernel_rfl) (o5 qM9 (n:=1000) (hint:=.unit) (keep:=x6 28 [1,15,16,17]) (p:=yN1) (boxes:=[]) rfl ?_);have e:=po0 f;unfold v6 v7 at e;erw [e]
 have go:∀v,n7 f=v->v=qp7 f.lines (f.line+1)->t8 pP (x9 pP 203) (J (n7 f)) (x8 pP 203 0) (x7 28 [(1,.ptr 0 0),(15,LI f.lines),(16,J f.lines.length),(17,J (0:Nat))]) [some (.cells f.cells)] :=λv h1 h2=>by
  rw[h1];exact yN3 f (by omega) s4 f.lines.length 0 v (by omega) (by rw[List.drop_zero];exact h2)
 refine p7 (λm=>o4 (λa=>?_) λa=>⟨u7 _ _,?_⟩) λm=>⟨u7 _ _,?_⟩
 .have:n7 f=f.active:=if_pos ⟨m,a⟩
  rw[this];rfl
 .exact go _ rfl (if_neg (λk=>a k.2))
 .exact go _ rfl (if_neg (λk=>by rw[m]at k;cases k.1))
def zX7:Fact:=qg2 104 λf=>.req (shF f) (.leaf f.sv)
theorem yb8:zX7.ok pP:=qg3 λf h=>xb7 f h
def z73:Fact:=qg2 203 λf=>.req (xE9 f) (.leaf (J (n7 f)))
theorem yk8:z73.ok pP:=qg3 λf h=>xp1 f h
def z74:Fact:=qg2 204 λf=>.req (qS2 f) (.leaf (.bool (y32 f)))
theorem yl0:z74.ok pP:=qg3 λf h=>xp6 f (qS3.1 h)
def z75:Fact:=qm0 105 λc=>.leaf (.bool (v9 c))
theorem yl1:z75.ok pP:=qm5 xp7
def fPP:Fact:=⟨106,λargs=>match args with
 |[.agg [.int .i64 a0,.int .i64 a1,.int .i64 a2,.int .i64 a3],.agg [.int .i64 b0,.int .i64 b1,.int .i64 b2,.int .i64 b3],.int .i64 s] =>match s==1 with
  |true=>some (.leaf (V4.sv (x16 (a0,a1,a2,a3) (b0,b1,b2,b3))))
  |false=>match s== -1 with
   |true=>some (.leaf (V4.sv (wsub4 (a0,a1,a2,a3) (b0,b1,b2,b3))))
   |false=>none
 |_=>none⟩
theorem yk9:fPP.ok pP:=λargs t ht=>by
 simp only[fPP]at ht
 split at ht
 .split at ht
  .rename_i hs
   have hs:=beq_iff_eq.1 hs;subst hs;injection ht with ht;subst ht;exact xp5 (_,_,_,_) (_,_,_,_)
  .split at ht
   .rename_i hs
    have hs:=beq_iff_eq.1 hs;subst hs;injection ht with ht;subst ht;exact xp0 (_,_,_,_) (_,_,_,_)
   .cases ht
 .cases ht
def zJ8(s:List UInt8):Rc:=⟨tk s 6 1,tk s 0 6,tk s 7 6,tk s 13 4,(sg (tk s 17 4),sg (tk s 21 4),sg (tk s 25 4),sg (tk s 29 4)),(sg (tk s 33 4),sg (tk s 37 4),sg (tk s 41 4),sg (tk s 45 4))⟩
def rcZ:Rc:=⟨0,0,0,0,(0,0,0,0),(0,0,0,0)⟩
def zJ6(s:List UInt8):Bool:=rcB (zJ8 s)&&s==enc (zJ8 s)
def zK1(s:List UInt8):SV:=match decide (s.length<64)with
 |true=>.tuple [rcZ.sv,J 6]
 |false=>match zJ6 s with
  |true=>.tuple [(zJ8 s).sv,J 0]
  |false=>.tuple [rcZ.sv,J 19]
theorem zK2(s:List UInt8):(zK1 s).data=true:=by unfold zK1;split<;>(try split)<;>rfl
theorem xc5(s:List UInt8)(h:s.length<=100000):SCall pP 263 [.str s] (zK1 s):=
 v8 mix [z59,z06,zZ3] ⟨yj2,ye3,yd1,trivial⟩ 1000 (.fork .all (.fork (.ln 4 (.fork .all .all)) (.ln 4 (.lit .all))))
  (t:=let y0:=Rc.mk (tk s 6 1) (tk s 0 6) (tk s 7 6) (tk s 13 4) (sg (tk s 17 4),sg (tk s 21 4),sg (tk s 25 4),sg (tk s 29 4)) (sg (tk s 33 4),sg (tk s 37 4),sg (tk s 41 4),sg (tk s 45 4));let y1:Tree SV:=.leaf (.tuple [.agg [J 0,J 0,J 0,J 0,J 0,J 0,J 0,J 0,J 0,J 0,J 0,J 0],J 19]);let y2:=(↑s.length:Int);let y3:=s.length<=100000;.node (decide (y2<64)) (.leaf (.tuple [.agg [J 0,J 0,J 0,J 0,J 0,J 0,J 0,J 0,J 0,J 0,J 0,J 0],J 6])) (.req (decide (6<=y2)&&decide y3) (.req (decide (7<=y2)&&decide y3) (.req (decide (13<=y2)&&decide y3) (.req (decide (17<=y2)&&decide y3) (.req (decide (33<=y2)&&decide y3) (.req (decide (49<=y2)&&decide y3) (.node (rcB y0) (.node (!s==enc y0) y1 (.leaf (.tuple [.agg [J (tk s 6 1),J (tk s 0 6),J (tk s 7 6),J (tk s 13 4),J (sg (tk s 17 4)),J (sg (tk s 21 4)),J (sg (tk s 25 4)),J (sg (tk s 29 4)),J (sg (tk s 33 4)),J (sg (tk s 37 4)),J (sg (tk s 41 4)),J (sg (tk s 45 4))],J 0]))) y1))))))))
  (by kernel_rfl) (by
   have qq:∀x:Int,x<=49->64<=s.length->(decide (x<=(s.length:Int))&&decide (s.length<=100000))=true:=λx a b=>by simp;omega
   unfold zK1;refine o4 (λa=>?_) (λa=>?_)
   .rw[decide_eq_true (show s.length<64 by omega)];rfl
   .rw[decide_eq_false (show ¬s.length<64 by omega)]
    have b:64<=s.length:=by omega
    have e:zJ6 s=(rcB (zJ8 s)&&s==enc (zJ8 s)):=rfl;refine x0 (qq _ (by decide) b) (x0 (qq _ (by decide) b) (x0 (qq _ (by decide) b) (x0 (qq _ (by decide) b) (x0 (qq _ (by decide) b) (x0 (qq _ (by decide) b) (p7 (λv=>?_) λv=>?_))))))
    .have v:rcB (zJ8 s)=true:=v
     refine f7 (λw=>?_) λw=>?_
     .have w:(s==enc (zJ8 s))=false:=w
      rw[e,v,w];rfl
     .have w:(s==enc (zJ8 s))=true:=w
      rw[e,v,w];rfl
    .have v:rcB (zJ8 s)=false:=v
     rw[e,v];rfl) (by kernel_rfl) (by exact zK2 s)
variable{s:List UInt8}
theorem zJ7:zJ6 s=true↔rcB (zJ8 s)=true/\s=enc (zJ8 s):=by
 simp only[zJ6,Bool.and_eq_true,beq_iff_eq]
def yU5(n:Int)(i:Nat)(s:List UInt8):Option Rc:=match zJ6 s&& (zJ8 s).seq.tmod n==(i:Int)with
 |true=>some (zJ8 s)
 |false=>none
variable{n:Int}
theorem yU6{i:Nat}{r:Rc}:yU5 n i s=some r↔zJ6 s=true/\(zJ8 s).seq.tmod n=(i:Int)/\zJ8 s=r:=by
 unfold yU5
 split
 .rename_i h;rw[Bool.and_eq_true,beq_iff_eq]at h;simp[h]
 .rename_i h
  rw[Bool.and_eq_false_iff]at h;simp only[reduceCtorEq,false_iff,not_and];intro h1 h2;rcases h with h|h
  .rw[h1]at h;cases h
  .rw[h2]at h;simp at h
def yV4(n:Int):Nat->List (List UInt8)->List Rc
 |_,[] =>[]
 |i,s::l=>match yU5 n i s with
  |some r=>r::yV4 n (i+1) l
  |none=>yV4 n (i+1) l
theorem yV5{i:Nat}{l:List (List UInt8)}:yV4 n i (s::l)=match yU5 n i s with
  |some r=>r::yV4 n (i+1) l
  |none=>yV4 n (i+1) l:=rfl
theorem qX0{n:Int}{r:Rc}:∀{l:List (List UInt8)} {i:Nat},r∈yV4 n i l↔∃j,j<l.length/\yU5 n (i+j) (l.getD j [])=some r
 |[],i=>by simp[yV4]
 |s::l,i=>by
  have ih:=@qX0 n r l (i+1)
  have key:(∃j,j< (s::l).length/\yU5 n (i+j) ((s::l).getD j [])=some r)↔yU5 n i s=some r\/∃j,j<l.length/\yU5 n (i+1+j) (l.getD j [])=some r:=by
   constructor
   .rintro ⟨j,hj,h⟩
    cases j with
    |zero=>exact .inl h
    |succ j=>exact .inr ⟨j,by simpa using hj,by rw[show i+1+j=i+(j+1) by omega];simpa using h⟩
   .rintro (h|⟨j,hj,h⟩)
    .exact⟨0,by simp,h⟩
    .exact⟨j+1,by simpa using hj,by rw[show i+(j+1)=i+1+j by omega];simpa using h⟩
  rw[key,<-ih,yV5]
  split
  .rename_i r' h;rw[h,List.mem_cons];simp[eq_comm]
  .rename_i h;rw[h];simp
def zL9:List Rc->Prop
 |[] =>True
 |r::l=>(∀x∈l,x.seq≠r.seq)/\zL9 l
theorem yV6:∀{l:List (List UInt8)} {i:Nat},zL9 (yV4 n i l)
 |[],i=>trivial
 |s::l,i=>by
  unfold yV4
  split
  .rename_i r h
   refine⟨λx hx e=>?_,yV6⟩;obtain⟨j,_,hj⟩:=qX0.1 hx;obtain⟨_,h1,rfl⟩:=yU6.1 hj;obtain⟨_,h2,rfl⟩:=yU6.1 h;rw[e]at h1;omega
  .exact yV6
def qH6(r:Rc):List Rc->List Rc
 |[] =>[r]
 |x::l=>match decide (r.seq<x.seq)with
  |true=>r::x::l
  |false=>x::qH6 r l
def xG3(l:List Rc):List Rc:=l.foldl (λacc r=>qH6 r acc) []
def zp1:List Rc->Prop
 |[] =>True
 |r::l=>(∀x∈l,r.seq<=x.seq)/\zp1 l
theorem qH9(r:Rc):∀l:List Rc,(qH6 r l).Perm (r::l)
 |[] =>.refl _
 |x::l=>by
  unfold qH6
  split
  .exact .refl _
  .exact((qH9 r l).cons x).trans (List.Perm.swap r x l)
theorem qH7(r:Rc):∀l:List Rc,zp1 l->zp1 (qH6 r l)
 |[],_=>⟨λx hx=>(by cases hx),trivial⟩
 |x::l,h=>by
  unfold qH6
  split
  .rename_i hd
   have hd:=of_decide_eq_true hd;refine⟨λy hy=>?_,h⟩;rcases List.mem_cons.1 hy with rfl|hy
   .omega
   .have:=h.1 y hy;omega
  .rename_i hd
   have hd:=of_decide_eq_false hd;refine⟨λy hy=>?_,qH7 r l h.2⟩;rcases List.mem_cons.1 ((qH9 r l).mem_iff.1 hy)with rfl|hy
   .omega
   .exact h.1 y hy
theorem xG6(l:List Rc):(xG3 l).Perm l:=by
 have:∀ (l acc:List Rc),(l.foldl (λacc r=>qH6 r acc) acc).Perm (l.reverse++acc):=by
  intro l
  induction l with
  |nil=>intro acc;exact .refl _
  |cons x l ih=>
   intro acc;rw[List.foldl_cons,List.reverse_cons,List.append_assoc];exact(ih (qH6 x acc)).trans ((qH9 x acc).append_left l.reverse)
 have h:=this l [];rw[List.append_nil]at h;exact h.trans (List.reverse_perm l)
theorem xG4(l:List Rc):zp1 (xG3 l):=by
 have:∀ (l acc:List Rc),zp1 acc->zp1 (l.foldl (λacc r=>qH6 r acc) acc):=by
  intro l
  induction l with
  |nil=>intro acc h;exact h
  |cons x l ih=>intro acc h;exact ih _ (qH7 x acc h)
 exact this l [] trivial
theorem zM0:∀{l:List Rc},zL9 l↔(l.map (·.seq)).Nodup
 |[] =>by simp[zL9]
 |r::l=>by
  simp only[zL9,List.map_cons,List.nodup_cons,zM0 (l:=l),List.mem_map,not_exists,not_and]
theorem zM1{a b:List Rc}(h:a.Perm b)(d:zL9 a):zL9 b:=zM0.2 ((h.map _).nodup_iff.1 (zM0.1 d))
theorem xH0:∀{a b:List Rc},a.Perm b->zp1 a->zp1 b->zL9 a->a=b
 |[],b,h,_,_,_=>(List.Perm.nil_eq h)
 |x::a,[],h,_,_,_=>absurd h.symm (by simp)
 |x::a,y::b,h,ha,hb,d=>by
  have hx:x∈y::b:=h.mem_iff.1 List.mem_cons_self;have hy:y∈x::a:=h.mem_iff.2 List.mem_cons_self
  have e:x=y:=by
   rcases List.mem_cons.1 hx with e|hx
   .exact e
   .rcases List.mem_cons.1 hy with e|hy
    .exact e.symm
    .have h1:=ha.1 y hy
     have h2:=hb.1 x hx;exact absurd (by omega) (d.1 y hy)
  subst e;rw[xH0 h.cons_inv ha.2 hb.2 d.2]
theorem xG5{l l':List Rc}(d:zL9 l)(p:l'.Perm l)(h:zp1 l'):l'=xG3 l:=
 xH0 (p.trans (xG6 l).symm) h (xG4 l) (zM1 p.symm d)
theorem qH8{r:Rc}:∀{a b:List Rc},zp1 (a++b)->(∀x∈a,x.seq<=r.seq)->(∀x∈b,r.seq<x.seq)->qH6 r (a++b)=a++r::b
 |[],[],_,_,_=>rfl
 |[],y::b,_,_,h=>by
  show qH6 r (y::b)=_;unfold qH6;rw[decide_eq_true (h y List.mem_cons_self)];rfl
 |x::a,b,h,h1,h2=>by
  show qH6 r (x::(a++b))=_;unfold qH6;have:=h1 x List.mem_cons_self;rw[decide_eq_false (by omega)];show x::qH6 r (a++b)=_;rw[qH8 h.2 (λy hy=>h1 y (List.mem_cons_of_mem _ hy)) h2];rfl
def wrE(f:Fl)(i:Int)(data:List UInt8):Int:=match qz4 f i&&decide (data.length=64)with
 |false=>1
 |true=>match f.dead||f.fuse==1 with
  |true=>17
  |false=>0
def wrF(f:Fl)(i:Int)(data:List UInt8):Fl:=match qz4 f i&&decide (data.length=64)&&!f.dead with
 |false=>f
 |true=>match f.fuse==1 with
  |true=>⟨f.pages.set i.toNat (data.take f.keep.toNat++(f.pages.getD i.toNat []).drop f.keep.toNat),0,true,0⟩
  |false=>⟨f.pages.set i.toNat data,if f.fuse-1>0 then f.fuse-1 else 0,f.dead,f.keep⟩
def m6(f:Fl):List Rc:=match flB f&&!f.dead with
 |true=>xG3 (yV4 f.pages.length 0 f.pages)
 |false=>[]
def lastO(f:Fl):Option Rc:=(m6 f).getLast?
def qP5(f:Fl):Int:=match lastO f with
 |some r=>r.seq
 |none=>0
def apE(f:Fl)(r:Rc):Int:=match rcB r&&flB f with
 |false=>1
 |true=>match f.dead with
  |true=>17
  |false=>match r.seq==qP5 f+1 with
   |false=>11
   |true=>wrE f (r.seq.tmod f.pages.length) (enc r)
def apF(f:Fl)(r:Rc):Fl:=match rcB r&&flB f&&!f.dead&&r.seq==qP5 f+1 with
 |true=>wrF f (r.seq.tmod f.pages.length) (enc r)
 |false=>f
def q40(f:Fl)(r:Rc):Rc:={r with seq:=qP5 f+1}
def yU7(f:Fl)(r:Rc):Int:=apE f (q40 f r)
def b7(f:Fl)(r:Rc):Fl:=apF f (q40 f r)
end Go.Proofs.YtnkaepnblikcdaaGreat
namespace Go.Sx
open Go.RowKit
theorem xC6 {P : Program} {f : FuncId} {fn : Func} {args : List SV} {v : SV} (hd : f6 args = true) (hv : v.data = true) (hf : P.funcs[f]? = some fn) (hb : fn.body.isSome = true) (hn : (fn.name == "runtime.NumGoroutine") = false)
  (h:∀ (R:Nat->Prop) (w:World) (vs:List Value),(∀b,R b->b<w.heap.size)->Gnd w->j7 R (λ_=>(0,0,0)) 0 w args vs->
    Calls P f vs.toArray w λe w'=>∃u,e=.returned u/\Below w.heap.size w w'/\Rep (λb=>R b\/(w.heap.size<=b/\b<w'.heap.size)) (λ_=>(0,0,0)) 0 w' v u):SCall P f args v:=by
 intro m w0 R0 I w vs hm hvs;obtain⟨body,hb⟩:=Option.isSome_iff_exists.1 hb;rw[zz2 hf hb hn];obtain⟨o1,o2⟩:=yF6 hm I;have hvs':=j7.data (R':=RO w0 R0 I w m) (I':=λ_=>(0,0,0)) (n':=0) (λb hb=>hb) args vs hd hvs
 refine Calls.mono (h (RO w0 R0 I w m) w vs (λb hb=>hm.ro_lt hb) hm.gnd hvs') λe w' ⟨u,he,g1,g3⟩=>⟨u,he,?_⟩
 have g:MRel w (RS w0 R0 I w m) I w' ⟨0,.e⟩:=⟨⟨g1,hm.gnd⟩,λid B h=>(by cases h),λid B h=>(by cases h),λid B h=>(by cases h),λid id' B B' h=>(by cases h),λid B h=>(by cases h),λb hb=>⟨Nat.lt_of_lt_of_le (hm.ro_lt hb) g1.size,g1.block b (hm.ro_lt hb)⟩,λid B h=>(by cases h)⟩;have hst:=Hand.start hm g;obtain⟨k1,k2⟩:=hst.finish hm g;refine⟨I,k1,k2,Rep.data (λb hb=>?_) v u hv g3⟩;rcases hb with hb|hb
 .exact hst.ro b (.inr (.inl ⟨hb,hm.ro_lt hb⟩))
 .exact hst.ro b (.inr (.inr ⟨hb.1,hb.2,(λid B h=>by cases h),λhr=>by have:=hm.ro_lt hr;omega⟩))
end Go.Sx
namespace Go.Proofs.YtnkaepnblikcdaaGreat
open Go.Sx Go.RowKit Go.Lib
theorem xN0:Tryz.t5.bytes=1:=by kernel_rfl
def yH8(w:World)(s:List UInt8)(k:Nat):Array Value:=
 ⟨s.map λb=>Value.int .u8 b.toNat⟩++(Builtin.zeroCells #[Value.int .u8 0] k++Builtin.zeroCells #[Value.int .u8 0] (grownCap (bytesWorld w 5 ⟨⟨s⟩⟩) (s.length+k) s.length 5-(s.length+k)))
def yI2(w:World)(s:List UInt8)(k:Nat):World:=((bytesWorld w 5 ⟨⟨s⟩⟩).alloc (.cells (yH8 w s k) 5)).drew
theorem x68(k:Nat):Builtin.zeroCells #[Value.int .u8 0] k=⟨List.replicate k (.int .u8 0)⟩:=by
 unfold Builtin.zeroCells;apply Array.ext
 .simp
 .intro i h1 h2
  simp[Nat.mod_one]
theorem yI6(w:World)(s:List UInt8):(loadCellsFrom ⟨w.heap.size,0,none⟩ 0 s.length #[]).run pP (bytesWorld w 5 ⟨⟨s⟩⟩).drew=.ok ⟨s.map λb=>Value.int .u8 b.toNat⟩ (bytesWorld w 5 ⟨⟨s⟩⟩).drew:=by
 have h:=run_loadCells_list (P:=pP) (bytesWorld w 5 ⟨⟨s⟩⟩).drew ⟨w.heap.size,0,none⟩ (s.map λb=>Value.int .u8 b.toNat) (λj v hj=>by
  have hj':j<s.length:=by
   have:=(List.getElem?_eq_some_iff.1 hj).1
   simpa using this
  have h1:(bytesWorld w 5 ⟨⟨s⟩⟩).drew.cell? ((⟨w.heap.size,0,none⟩:Addr).add j)=(bytesWorld w 5 ⟨⟨s⟩⟩).cell? ⟨w.heap.size,j,none⟩:=by rw[Addr.add_lit,Nat.zero_add];rfl
  rw[h1,bytesWorld_cell w 5 ⟨⟨s⟩⟩ j hj'];rw[List.getElem?_map,List.getElem?_eq_getElem hj']at hj;simp only[Option.map_some,Option.some.injEq]at hj;rw[<-hj]
  simp[List.getD_eq_getElem?_getD,List.getElem?_eq_getElem hj'])
 rw[List.length_map]at h;exact h
theorem yI4(w:World)(s:List UInt8)(k:Nat)(cap:Nat):(convert 154 9 (.slice (some ⟨(bytesWorld w 5 ⟨⟨s⟩⟩).heap.size,0,none⟩) (s.length+k) cap)).run pP (yI2 w s k)=.ok (.string ⟨⟨s++List.replicate k 0⟩⟩) (yI2 w s k):=by
 have h:=run_convert_bytes_back (P:=pP) (yI2 w s k) 154 9 5 ⟨(bytesWorld w 5 ⟨⟨s⟩⟩).heap.size,0,none⟩ cap (s++List.replicate k 0) Tryz.underlying154 Tryz.underlying5 Tryz.underlying9 (λj hj=>by
  rw[Addr.add_lit,Nat.zero_add];show((bytesWorld w 5 ⟨⟨s⟩⟩).alloc (.cells (yH8 w s k) 5)).cell? _=_;rw[World.cell?_alloc_mark];unfold yH8;rw[x68,x68]
  by_cases h:j<s.length
  .rw[Array.getElem?_append_left (by simpa using h),List.getElem_append_left h,<-Array.getElem?_toList]
   simp[List.getElem?_eq_getElem h]
  .rw[List.length_append,List.length_replicate]at hj
   rw[Array.getElem?_append_right (by simpa using h),Array.getElem?_append_left (by simp;omega),List.getElem_append_right (by omega),<-Array.getElem?_toList]
   simp[List.getElem?_replicate];omega)
 rw[List.length_append,List.length_replicate]at h;exact h
theorem yI3(w:World)(s:List UInt8)(k:Nat):Below w.heap.size w (yI2 w s k):=by
 refine⟨rfl,rfl,rfl,?_,λj hj=>?_⟩
 .show w.heap.size<=((bytesWorld w 5 ⟨⟨s⟩⟩).heap.push _).size
  rw[Array.size_push,bytesWorld_size];omega
 .show((bytesWorld w 5 ⟨⟨s⟩⟩).heap.push _)[j]? =_
  rw[Array.getElem?_push,if_neg (by rw[bytesWorld_size];omega)];exact bytesWorld_at_old w 5 _ j hj
set_option maxHeartbeats 4000000 in
theorem yI7(s:List UInt8)(k:Nat)(w:World)(h0:0<s.length)(hk:0<k)(hn:s.length+k<=65536):
  Calls pP 301 #[.string ⟨⟨s⟩⟩,.int .i64 ((s.length+k:Nat):Int)] w λe w'=>e=.returned (.tuple #[.string ⟨⟨s++List.replicate k 0⟩⟩,.int .i64 0])/\w'=yI2 w s k:=by
 obtain⟨n,hnn⟩:∃n,n=s.length+k:=⟨_,rfl⟩;rw[<-hnn]
 have h1:s.length<n:=by omega
 have h2:n<=65536:=by omega
 have hsub:(n:Int)-(s.length:Int)=(k:Int):=by omega
 have hN:Hid (n=s.length+k):=hnn;have hk2:Hid (s.length+k<=65536):=hn;clear hnn hn;have hC2:Hid (s.length<=grownCap w s.length 0 5):=grownCap_ge _ _ _ _;have hL:=yI6 w s;have hV:=yI4 w s k
 have hq:Hid (¬(281474976710656<Builtin.nextslicecap (s.length+k) s.length)):=by
  have:Builtin.nextslicecap (s.length+k) s.length*1<=281474976710656:=growslice_fits (by omega) (by have:=hk2.out;omega);show ¬_;omega
 go_enter Tryz.func301,Tryz.ntmps301
 go_wp2
 rw[Lib.run_convert_string_bytes w 9 154 5 ⟨⟨s⟩⟩ Tryz.underlying9 Tryz.underlying154 Tryz.underlying5];simp only[Result.andThen];rw[Oper.upon_value]
 go_wp2
 .rename_i h1 h2;exfalso;rw[xN0]at h1;have:=hk2.out;omega
 .rename_i h1 h2;exfalso;rw[xN0]at h1;have:=hk2.out;omega
 .rename_i h1 h2 h3 h4;exfalso;rw[xN0]at h1;have:=hq.out;omega
 .erw [hV]
  simp only[Result.andThen];rw[Oper.upon_value]
  go_wp2
  go_ret2
  exact⟨rfl,rfl⟩
theorem xn4(s:List UInt8)(n:Int)(h0:0<s.length)(h:(s.length:Int)<n)(hn:n<=65536):SCall pP 301 [.str s,J n] (.tuple [.str (yI1 s n),J 0]):=by
 refine xC6 (fn:=Tryz.f301) rfl rfl Tryz.func301 (by kernel_rfl) (by kernel_rfl) λR w vs hR hg hvs=>?_
 obtain⟨u,us,rfl,h1,u2,us2,rfl,h2,h3⟩:=hvs;rw[show us2=[]from h3,show u=_ from h1,show u2=_ from h2];obtain⟨k,hk⟩:∃k:Nat,n=((s.length+k:Nat):Int):=⟨(n-s.length).toNat,by omega⟩;subst hk
 refine(yI7 s k w h0 (by omega) (by omega)).mono λe w' ⟨he,hw⟩=>⟨_,he,by rw[hw];exact yI3 w s k,?_⟩
 refine⟨_,rfl,_,_,rfl,?_,_,_,rfl,rfl,rfl⟩;show Value.string _=Value.string _
 have:(((s.length+k:Nat):Int)-(s.length:Int)).toNat=k:=by omega
 simp only[yI1,this]
def z76:Fact:=⟨301,λargs=>match args with
 |[.str s,.int .i64 n] =>some (.req (decide (0<s.length)&& (decide ((s.length:Int)<n)&&decide (n<=65536))) (.leaf (.tuple [.str (yI1 s n),J 0])))
 |_=>none⟩
theorem yl2:z76.ok pP:=λargs t ht=>by
 simp only[z76]at ht
 split at ht
 .injection ht with ht;subst ht
  intro h;simp only[Bool.and_eq_true,decide_eq_true_eq]at h;exact xn4 _ _ h.1 h.2.1 h.2.2
 .cases ht
open Go.Sx
def x45:Plan:=let z0:Plan:=.fork (.ln 3 (.lit .all)) (.ln 3 (.fork .all (.fork .all (.fork .all .all))));.fork z0 z0
theorem wrp(f:Fl)(i:Int)(d:List UInt8):o7 (Env.ofB pP (j9 [z18]) (s8 []) (p9 []) (p8 []) (j6 []) (j6 [130]) (j6 []) (j6 [])) 1000 (x9 pP 267) .str (x6 65 []) (v7 pP 267) x45 (v6 pP 267 [f.sv,J i,.str d]) [] =(.node (f.pages.isEmpty) (.req (w9 f) (.node (!qz4 f i) (.leaf (.done (.tuple [.agg [.list Ty.str [],J f.fuse,.bool f.dead,J f.keep],J 1]))) (.node ((↑d.length:Int) != 64) (.leaf (.done (.tuple [.agg [.list Ty.str [],J f.fuse,.bool f.dead,J f.keep],J 1]))) (.node (f.dead) (.leaf (.done (.tuple [.agg [.list Ty.str [],J f.fuse,.bool f.dead,J f.keep],J 17]))) (.req (decide (0<=i)&&decide (i< (↑f.pages.length:Int))) (.node (f.fuse==1) (.req (decide (0<=f.keep)&&decide (f.keep<=(↑d.length:Int))) (.req (decide ((List.map (λb=>(↑b.toNat:Int)) (List.take f.keep.toNat d)).length<=(List.map (λb=>(↑b.toNat:Int)) (f.pages.getD i.toNat ([] :List UInt8))).length)&&!(List.map (λb=>(↑b.toNat:Int)) (f.pages.getD i.toNat ([] :List UInt8))).isEmpty) (.req (decide (0<=i)&&decide (i<0)) (.fail 6)))) (.req (decide ((List.map (λb=>(↑b.toNat:Int)) d).length<=(List.map (λb=>(↑b.toNat:Int)) (f.pages.getD i.toNat ([] :List UInt8))).length)&&!(List.map (λb=>(↑b.toNat:Int)) (f.pages.getD i.toNat ([] :List UInt8))).isEmpty) (.req (decide (0<=i)&&decide (i<0)) (.fail 6))))))))) (.req (decide ((0+f.pages.length)*16<=140737488355328)) (.req (w9 f) (.node (!qz4 f i) (.leaf (.done (.tuple [.agg [.list Ty.str f.pages,J f.fuse,.bool f.dead,J f.keep],J 1]))) (.node ((↑d.length:Int) != 64) (.leaf (.done (.tuple [.agg [.list Ty.str f.pages,J f.fuse,.bool f.dead,J f.keep],J 1]))) (.node (f.dead) (.leaf (.done (.tuple [.agg [.list Ty.str f.pages,J f.fuse,.bool f.dead,J f.keep],J 17]))) (.req (decide (0<=i)&&decide (i< (↑f.pages.length:Int))) (.node (f.fuse==1) (.req (decide (0<=f.keep)&&decide (f.keep<=(↑d.length:Int))) (.req (decide ((List.map (λb=>(↑b.toNat:Int)) (List.take f.keep.toNat d)).length<=(List.map (λb=>(↑b.toNat:Int)) (f.pages.getD i.toNat ([] :List UInt8))).length)&&!(List.map (λb=>(↑b.toNat:Int)) (f.pages.getD i.toNat ([] :List UInt8))).isEmpty) (.req (decide (0<=i)&&decide (i< (↑f.pages.length:Int))) (.req (decide (i.toNat<f.pages.length)) (.leaf (.done (.tuple [.agg [.list Ty.str (f.pages.set i.toNat (List.map (λn=>UInt8.ofNat (Int.toNat n)) (List.map (λb=>(↑b.toNat:Int)) (List.take f.keep.toNat d)++List.drop (List.map (λb=>(↑b.toNat:Int)) (List.take f.keep.toNat d)).length (List.map (λb=>(↑b.toNat:Int)) (f.pages.getD i.toNat ([] :List UInt8)))))),J 0,.bool true,J 0],J 17]))))))) (.req (decide ((List.map (λb=>(↑b.toNat:Int)) d).length<=(List.map (λb=>(↑b.toNat:Int)) (f.pages.getD i.toNat ([] :List UInt8))).length)&&!(List.map (λb=>(↑b.toNat:Int)) (f.pages.getD i.toNat ([] :List UInt8))).isEmpty) (.req (decide (0<=i)&&decide (i< (↑f.pages.length:Int))) (.req (decide (i.toNat<f.pages.length)) (.leaf (.done (.tuple [.agg [.list Ty.str (f.pages.set i.toNat (List.map (λn=>UInt8.ofNat (Int.toNat n)) (List.map (λb=>(↑b.toNat:Int)) d++List.drop (List.map (λb=>(↑b.toNat:Int)) d).length (List.map (λb=>(↑b.toNat:Int)) (f.pages.getD i.toNat ([] :List UInt8)))))),J (if i64.wrap (f.fuse-1)>0 then i64.wrap (f.fuse-1)else 0),.bool f.dead,J f.keep],J 0])))))))))))))):=by kernel_rfl
def x46:Plan:=let z0:Plan:=.fork (.ln 12 (.lit .all)) (.lit (.lit (.fork (.ln 9 (.lit .all)) (.ln 5 (.fork (.ln 3 (.lit .all)) (.ln 3 (.fork .all (.fork .all (.fork .all .all)))))))));.fork z0 z0
theorem wrr(f:Fl)(i:Int)(d:List UInt8):o7 (Env.ofB pP (j9 [zZ9]) (s8 []) (p9 []) (p8 []) (j6 []) (j6 [131]) (j6 []) (j6 [])) 1000 (x9 pP 190) .str (x6 69 []) (v7 pP 190) x46 (v6 pP 190 [f.sv,J i,.str d]) [] =(.node (f.pages.isEmpty) (.req (w9 f) (.node (!flB f) (.leaf (.done (.tuple [.agg [.list Ty.str [],J f.fuse,.bool f.dead,J f.keep],J 1]))) (.node (decide (i<0)) (.leaf (.done (.tuple [.agg [.list Ty.str [],J f.fuse,.bool f.dead,J f.keep],J 1]))) (.node (decide (i>=(↑f.pages.length:Int))) (.leaf (.done (.tuple [.agg [.list Ty.str [],J f.fuse,.bool f.dead,J f.keep],J 1]))) (.node ((↑d.length:Int) != 64) (.leaf (.done (.tuple [.agg [.list Ty.str [],J f.fuse,.bool f.dead,J f.keep],J 1]))) (.node (f.dead) (.leaf (.done (.tuple [.agg [.list Ty.str [],J f.fuse,.bool f.dead,J f.keep],J 17]))) (.node (f.fuse==1) (.req (decide (0<=f.keep)&&decide (f.keep<=(↑d.length:Int))) (.req (decide (0<=i)&&decide (i< (↑f.pages.length:Int))) (.req (decide (0<=f.keep)&&decide (f.keep<=((List.length (f.pages.getD i.toNat ([] :List UInt8)):Nat):Int))) (.req (decide ((((List.take f.keep.toNat d).length+(List.drop f.keep.toNat (f.pages.getD i.toNat ([] :List UInt8))).length:Nat):Int)<=(9223372036854775807:Int))) (.req (decide (0<=i)&&decide (i<0)) (.fail 6)))))) (.req (decide (0<=i)&&decide (i<0)) (.fail 6))))))))) (.req (decide ((0+f.pages.length)*16<=140737488355328)) (.req (w9 f) (.node (!flB f) (.leaf (.done (.tuple [.agg [.list Ty.str f.pages,J f.fuse,.bool f.dead,J f.keep],J 1]))) (.node (decide (i<0)) (.leaf (.done (.tuple [.agg [.list Ty.str f.pages,J f.fuse,.bool f.dead,J f.keep],J 1]))) (.node (decide (i>=(↑f.pages.length:Int))) (.leaf (.done (.tuple [.agg [.list Ty.str f.pages,J f.fuse,.bool f.dead,J f.keep],J 1]))) (.node ((↑d.length:Int) != 64) (.leaf (.done (.tuple [.agg [.list Ty.str f.pages,J f.fuse,.bool f.dead,J f.keep],J 1]))) (.node (f.dead) (.leaf (.done (.tuple [.agg [.list Ty.str f.pages,J f.fuse,.bool f.dead,J f.keep],J 17]))) (.node (f.fuse==1) (.req (decide (0<=f.keep)&&decide (f.keep<=(↑d.length:Int))) (.req (decide (0<=i)&&decide (i< (↑f.pages.length:Int))) (.req (decide (0<=f.keep)&&decide (f.keep<=((List.length (f.pages.getD i.toNat ([] :List UInt8)):Nat):Int))) (.req (decide ((((List.take f.keep.toNat d).length+(List.drop f.keep.toNat (f.pages.getD i.toNat ([] :List UInt8))).length:Nat):Int)<=(9223372036854775807:Int))) (.req (decide (0<=i)&&decide (i< (↑f.pages.length:Int))) (.req (decide (i.toNat<f.pages.length)) (.leaf (.done (.tuple [.agg [.list Ty.str (f.pages.set i.toNat (List.take f.keep.toNat d++List.drop f.keep.toNat (f.pages.getD i.toNat ([] :List UInt8)))),J 0,.bool true,J 0],J 17]))))))))) (.req (decide (0<=i)&&decide (i< (↑f.pages.length:Int))) (.req (decide (i.toNat<f.pages.length)) (.leaf (.done (.tuple [.agg [.list Ty.str (f.pages.set i.toNat d),J (if i64.wrap (f.fuse-1)>0 then i64.wrap (f.fuse-1)else 0),.bool f.dead,J f.keep],J 0])))))))))))))):=by kernel_rfl
open Go.Sx
def zQ9(r:Rc):List UInt8:=beN r.seq 6++beN r.kind 1++beN r.line 6++beN r.done 4++beN r.src.fst 4++beN r.src.snd.fst 4++beN r.src.snd.snd.fst 4++beN r.src.snd.snd.snd 4++beN r.dst.fst 4++beN r.dst.snd.fst 4++beN r.dst.snd.snd.fst 4++beN r.dst.snd.snd.snd 4
theorem zR0(r:Rc):zQ9 r=zR1 r:=by simp only[zQ9,zR1,List.append_assoc]
theorem xd4(r:Rc):SCall pP 266 [r.sv] (zR5 r):=
 v8 mix [z93,fUi,fIi,zY4,z76] ⟨ym9,yr8,yf8,yc3,yl2,trivial⟩ 1000 (.fork (.all) (.go (.lit (.go (.lit (.go (.lit (.go (.lit (.go (.lit (.go (.lit (.go (.lit (.go (.lit (.go (.lit (.go (.lit (.go (.lit (.go (.lit (.go (.lit (.all))))))))))))))))))))))))))))
  (t:=let y0:=(9223372036854775807:Int);let y1:=zQ9 r++beN ((crc (zQ9 r):Nat):Int) 2;.node (!rcB r) (.leaf (.tuple [SV.str [],J 1])) (.req (inR r.seq 0 281474976710655) (.req (decide (((0+(beN r.seq 6).length:Nat):Int)<=y0)) (.req (inR r.kind 0 255) (.req (decide ((((beN r.seq 6).length+(beN r.kind 1).length:Nat):Int)<=y0)) (.req (inR r.line 0 281474976710655) (.req (decide ((((beN r.seq 6++beN r.kind 1).length+(beN r.line 6).length:Nat):Int)<=y0)) (.req (inR r.done 0 4294967295) (.req (decide ((((beN r.seq 6++beN r.kind 1++beN r.line 6).length+(beN r.done 4).length:Nat):Int)<=y0)) (.req true (.req (true) (.req (inR r.src.1 (-2147483648) 2147483647) (.req (decide ((((beN r.seq 6++beN r.kind 1++beN r.line 6++beN r.done 4).length+(beN r.src.1 4).length:Nat):Int)<=y0)) (.req true (.req (inR r.src.2.1 (-2147483648) 2147483647) (.req (decide ((((beN r.seq 6++beN r.kind 1++beN r.line 6++beN r.done 4++beN r.src.1 4).length+(beN r.src.2.1 4).length:Nat):Int)<=y0)) (.req true (.req (inR r.src.2.2.1 (-2147483648) 2147483647) (.req (decide ((((beN r.seq 6++beN r.kind 1++beN r.line 6++beN r.done 4++beN r.src.1 4++beN r.src.2.1 4).length+(beN r.src.2.2.1 4).length:Nat):Int)<=y0)) (.req true (.req (inR r.src.2.2.2 (-2147483648) 2147483647) (.req (decide ((((beN r.seq 6++beN r.kind 1++beN r.line 6++beN r.done 4++beN r.src.1 4++beN r.src.2.1 4++beN r.src.2.2.1 4).length+(beN r.src.2.2.2 4).length:Nat):Int)<=y0)) (.req true (.req (true) (.req (inR r.dst.1 (-2147483648) 2147483647) (.req (decide ((((beN r.seq 6++beN r.kind 1++beN r.line 6++beN r.done 4++beN r.src.1 4++beN r.src.2.1 4++beN r.src.2.2.1 4++beN r.src.2.2.2 4).length+(beN r.dst.1 4).length:Nat):Int)<=y0)) (.req true (.req (inR r.dst.2.1 (-2147483648) 2147483647) (.req (decide ((((beN r.seq 6++beN r.kind 1++beN r.line 6++beN r.done 4++beN r.src.1 4++beN r.src.2.1 4++beN r.src.2.2.1 4++beN r.src.2.2.2 4++beN r.dst.1 4).length+(beN r.dst.2.1 4).length:Nat):Int)<=y0)) (.req true (.req (inR r.dst.2.2.1 (-2147483648) 2147483647) (.req (decide ((((beN r.seq 6++beN r.kind 1++beN r.line 6++beN r.done 4++beN r.src.1 4++beN r.src.2.1 4++beN r.src.2.2.1 4++beN r.src.2.2.2 4++beN r.dst.1 4++beN r.dst.2.1 4).length+(beN r.dst.2.2.1 4).length:Nat):Int)<=y0)) (.req true (.req (inR r.dst.2.2.2 (-2147483648) 2147483647) (.req (decide ((((beN r.seq 6++beN r.kind 1++beN r.line 6++beN r.done 4++beN r.src.1 4++beN r.src.2.1 4++beN r.src.2.2.1 4++beN r.src.2.2.2 4++beN r.dst.1 4++beN r.dst.2.1 4++beN r.dst.2.2.1 4).length+(beN r.dst.2.2.2 4).length:Nat):Int)<=y0)) (.req (decide ((zQ9 r).length<=100000)) (.req (inR ((crc (zQ9 r):Nat):Int) 0 65535) (.req (decide ((((zQ9 r).length+(beN ((crc (zQ9 r):Nat):Int) 2).length:Nat):Int)<=y0)) (.req (decide (0<y1.length)&& (decide ((↑y1.length:Int)<58)&&true)) (.req (inR r.seq 0 281474976710655) (.req (decide ((((yI1 y1 58).length+(beN r.seq 6).length:Nat):Int)<=y0)) (.leaf (.tuple [SV.str (yI1 y1 58++beN r.seq 6),J 0])))))))))))))))))))))))))))))))))))))))))))
  (by kernel_rfl) (by
   unfold zR5
   refine f7 (λv=>by rw[v];rfl) λv=>?_
   rw[v];have q:=yT1.1 v;have c:=zG4 (zR1 r);have l:=zR2 r;rw[zR0]
   have R:∀{x lo hi:Int},lo<=x->x<=hi->inR x lo hi=true:=λa b=>j8.2 ⟨a,b⟩
   have D:∀{x:Nat},x<=100000->decide (((x:Nat):Int)<=(9223372036854775807:Int))=true:=λh=>decide_eq_true (by omega)
   have hl:∀n w,(beN n w).length=w:=zt5
   have p58:(yI1 (zR1 r++beN ((crc (zR1 r):Nat):Int) 2) 58).length=58:=by
    simp only[yI1,List.length_append,hl,l,List.length_replicate];omega
   refine x0 (R (by omega) (by omega)) ?_;refine x0 (D (by simp only[List.length_append,hl,List.length_nil];omega)) ?_;refine x0 (R (by omega) (by omega)) ?_;refine x0 (D (by simp only[List.length_append,hl,List.length_nil];omega)) ?_;refine x0 (R (by omega) (by omega)) ?_;refine x0 (D (by simp only[List.length_append,hl,List.length_nil];omega)) ?_;refine x0 (R (by omega) (by omega)) ?_;refine x0 (D (by simp only[List.length_append,hl,List.length_nil];omega)) ?_;refine x0 rfl ?_;refine x0 rfl ?_;refine x0 (R (by omega) (by omega)) ?_;refine x0 (D (by simp only[List.length_append,hl,List.length_nil];omega)) ?_;refine x0 rfl ?_;refine x0 (R (by omega) (by omega)) ?_;refine x0 (D (by simp only[List.length_append,hl,List.length_nil];omega)) ?_;refine x0 rfl ?_;refine x0 (R (by omega) (by omega)) ?_;refine x0 (D (by simp only[List.length_append,hl,List.length_nil];omega)) ?_;refine x0 rfl ?_;refine x0 (R (by omega) (by omega)) ?_;refine x0 (D (by simp only[List.length_append,hl,List.length_nil];omega)) ?_;refine x0 rfl ?_;refine x0 rfl ?_;refine x0 (R (by omega) (by omega)) ?_;refine x0 (D (by simp only[List.length_append,hl,List.length_nil];omega)) ?_;refine x0 rfl ?_;refine x0 (R (by omega) (by omega)) ?_;refine x0 (D (by simp only[List.length_append,hl,List.length_nil];omega)) ?_;refine x0 rfl ?_;refine x0 (R (by omega) (by omega)) ?_;refine x0 (D (by simp only[List.length_append,hl,List.length_nil];omega)) ?_;refine x0 rfl ?_;refine x0 (R (by omega) (by omega)) ?_;refine x0 (D (by simp only[List.length_append,hl,List.length_nil];omega)) ?_;refine x0 (decide_eq_true (by rw[l];omega)) ?_;refine x0 (R (by omega) (by omega)) ?_;refine x0 (D (by rw[l,hl];omega)) ?_
   refine x0 (by
    have e:(zR1 r++beN ((crc (zR1 r):Nat):Int) 2).length=51:=by rw[List.length_append,hl,l]
    rw[e];rfl) ?_
   refine x0 (R (by omega) (by omega)) ?_;refine x0 (D (by rw[p58,hl];omega)) ?_
   rfl) (by kernel_rfl) (by exact zR6 r)
open Go.Sx
def q82:Plan:=.lit (.all)
theorem q81(s:List UInt8)(a:Int):xD3 (Env.ofB pP (j9 [fTu,fTi]) (s8 []) (p9 []) (p8 []) (j6 []) (j6 []) (j6 []) (j6 [])) 1000 (x9 pP 283) 1 (x6 34 []) (v7 pP 283) q82 (v6 pP 283 [.ptr 0 0]) [some (.cells [.str s,J a,J 6,.fn 282 [] []])] =(.req (decide (0<=a)&& (decide (a+6<=(↑s.length:Int))&&decide (s.length<=100000))) (.leaf (.fin (.ret (J (tk s a.toNat 6)) [some (.cells [SV.str s,J (a+6),J 6,SV.fn 282 [] []])])))):=by kernel_rfl
theorem zr7(s:List UInt8)(a:Int)(h0:0<=a)(h1:a+6<=(s.length:Int))(h2:s.length<=100000):za1 pP 283 [] (.cells [.str s,J a,J 6,.fn 282 [] []]) (false,J (tk s a.toNat 6),.cells [.str s,J (a+6),J 6,.fn 282 [] []]):=by
 refine zt3 (r:=.ret (J (tk s a.toNat 6)) [some (.cells [.str s,J (a+6),J 6,.fn 282 [] []])]) (by kernel_rfl) (y83 (hB (l:=[fTu,fTi]) (k:=[]) (j:=[]) (i:=[]) ([] :List Nat) ([] :List Nat) ([] :List Nat) ([] :List Nat) (⟨yr6,yr1,trivial⟩) u9 u9 u9) (n:=1000) (keep:=(x6 34 [])) (p:=q82) (Nat.le_refl _) ?_) rfl rfl rfl rfl rfl;erw [q81 s a];exact⟨by simp only[Bool.and_eq_true,decide_eq_true_eq];exact⟨h0,h1,h2⟩,rfl⟩
def q78:Plan:=.lit (.all)
theorem q77(s:List UInt8)(a:Int):xD3 (Env.ofB pP (j9 [fTu,fTi]) (s8 []) (p9 []) (p8 []) (j6 []) (j6 []) (j6 []) (j6 [])) 1000 (x9 pP 283) 1 (x6 34 []) (v7 pP 283) q78 (v6 pP 283 [.ptr 0 0]) [some (.cells [.str s,J a,J 1,.fn 282 [] []])] =(.req (decide (0<=a)&& (decide (a+1<=(↑s.length:Int))&&decide (s.length<=100000))) (.leaf (.fin (.ret (J (tk s a.toNat 1)) [some (.cells [SV.str s,J (a+1),J 1,SV.fn 282 [] []])])))):=by kernel_rfl
theorem zr5(s:List UInt8)(a:Int)(h0:0<=a)(h1:a+1<=(s.length:Int))(h2:s.length<=100000):za1 pP 283 [] (.cells [.str s,J a,J 1,.fn 282 [] []]) (false,J (tk s a.toNat 1),.cells [.str s,J (a+1),J 1,.fn 282 [] []]):=by
 refine zt3 (r:=.ret (J (tk s a.toNat 1)) [some (.cells [.str s,J (a+1),J 1,.fn 282 [] []])]) (by kernel_rfl) (y83 (hB (l:=[fTu,fTi]) (k:=[]) (j:=[]) (i:=[]) ([] :List Nat) ([] :List Nat) ([] :List Nat) ([] :List Nat) (⟨yr6,yr1,trivial⟩) u9 u9 u9) (n:=1000) (keep:=(x6 34 [])) (p:=q78) (Nat.le_refl _) ?_) rfl rfl rfl rfl rfl;erw [q77 s a];exact⟨by simp only[Bool.and_eq_true,decide_eq_true_eq];exact⟨h0,h1,h2⟩,rfl⟩
def q80:Plan:=.lit (.all)
theorem q79(s:List UInt8)(a:Int):xD3 (Env.ofB pP (j9 [fTu,fTi]) (s8 []) (p9 []) (p8 []) (j6 []) (j6 []) (j6 []) (j6 [])) 1000 (x9 pP 283) 1 (x6 34 []) (v7 pP 283) q80 (v6 pP 283 [.ptr 0 0]) [some (.cells [.str s,J a,J 4,.fn 282 [] []])] =(.req (decide (0<=a)&& (decide (a+4<=(↑s.length:Int))&&decide (s.length<=100000))) (.leaf (.fin (.ret (J (tk s a.toNat 4)) [some (.cells [SV.str s,J (a+4),J 4,SV.fn 282 [] []])])))):=by kernel_rfl
theorem zr6(s:List UInt8)(a:Int)(h0:0<=a)(h1:a+4<=(s.length:Int))(h2:s.length<=100000):za1 pP 283 [] (.cells [.str s,J a,J 4,.fn 282 [] []]) (false,J (tk s a.toNat 4),.cells [.str s,J (a+4),J 4,.fn 282 [] []]):=by
 refine zt3 (r:=.ret (J (tk s a.toNat 4)) [some (.cells [.str s,J (a+4),J 4,.fn 282 [] []])]) (by kernel_rfl) (y83 (hB (l:=[fTu,fTi]) (k:=[]) (j:=[]) (i:=[]) ([] :List Nat) ([] :List Nat) ([] :List Nat) ([] :List Nat) (⟨yr6,yr1,trivial⟩) u9 u9 u9) (n:=1000) (keep:=(x6 34 [])) (p:=q80) (Nat.le_refl _) ?_) rfl rfl rfl rfl rfl;erw [q79 s a];exact⟨by simp only[Bool.and_eq_true,decide_eq_true_eq];exact⟨h0,h1,h2⟩,rfl⟩
def q76:Plan:=.lit (.all)
theorem q75(s:List UInt8)(a:Int):xD3 (Env.ofB pP (j9 [fTu,fTi]) (s8 []) (p9 []) (p8 []) (j6 []) (j6 []) (j6 []) (j6 [])) 1000 (x9 pP 283) 1 (x6 34 []) (v7 pP 283) q76 (v6 pP 283 [.ptr 0 0]) [some (.cells [.str s,J a,J 4,.fn 284 [] []])] =(.req (decide (0<=a)&& (decide (a+4<=(↑s.length:Int))&&decide (s.length<=100000))) (.leaf (.fin (.ret (J (sg (tk s a.toNat 4))) [some (.cells [SV.str s,J (a+4),J 4,SV.fn 284 [] []])])))):=by kernel_rfl
theorem zr4(s:List UInt8)(a:Int)(h0:0<=a)(h1:a+4<=(s.length:Int))(h2:s.length<=100000):za1 pP 283 [] (.cells [.str s,J a,J 4,.fn 284 [] []]) (false,J (sg (tk s a.toNat 4)),.cells [.str s,J (a+4),J 4,.fn 284 [] []]):=by
 refine zt3 (r:=.ret (J (sg (tk s a.toNat 4))) [some (.cells [.str s,J (a+4),J 4,.fn 284 [] []])]) (by kernel_rfl) (y83 (hB (l:=[fTu,fTi]) (k:=[]) (j:=[]) (i:=[]) ([] :List Nat) ([] :List Nat) ([] :List Nat) ([] :List Nat) (⟨yr6,yr1,trivial⟩) u9 u9 u9) (n:=1000) (keep:=(x6 34 [])) (p:=q76) (Nat.le_refl _) ?_) rfl rfl rfl rfl rfl;erw [q75 s a];exact⟨by simp only[Bool.and_eq_true,decide_eq_true_eq];exact⟨h0,h1,h2⟩,rfl⟩
def zr0:BFact:=⟨283,λargs B=>match args with
 |[] =>match B with
  |.cells [.str s,.int .i64 a,.int .i64 w,.fn g [] []] =>match Nat.beq g 282 with
   |true=>match w==6 with
    |true=>some (.req (decide (0<=a)&& (decide (a+6<=(s.length:Int))&&decide (s.length<=100000))) (.leaf (false,J (tk s a.toNat 6),.cells [.str s,J (a+6),J 6,.fn 282 [] []])))
    |false=>match w==1 with
     |true=>some (.req (decide (0<=a)&& (decide (a+1<=(s.length:Int))&&decide (s.length<=100000))) (.leaf (false,J (tk s a.toNat 1),.cells [.str s,J (a+1),J 1,.fn 282 [] []])))
     |false=>match w==4 with
      |true=>some (.req (decide (0<=a)&& (decide (a+4<=(s.length:Int))&&decide (s.length<=100000))) (.leaf (false,J (tk s a.toNat 4),.cells [.str s,J (a+4),J 4,.fn 282 [] []])))
      |false=>none
   |false=>match Nat.beq g 284 with
    |true=>match w==4 with
     |true=>some (.req (decide (0<=a)&& (decide (a+4<=(s.length:Int))&&decide (s.length<=100000))) (.leaf (false,J (sg (tk s a.toNat 4)),.cells [.str s,J (a+4),J 4,.fn 284 [] []])))
     |false=>none
    |false=>none
  |_=>none
 |_=>none⟩
theorem yj6:zr0.ok pP:=λargs B t ht=>by
 simp only[zr0]at ht
 split at ht
 .split at ht
  .rename_i s a w g
   have sp:∀{x:Int} {k:Nat},(decide (0<=a)&& (decide (a+x<=(s.length:Int))&&decide (s.length<=100000)))=true->0<=a/\a+x<=(s.length:Int)/\s.length<=100000:=λh=>by simpa using h
   split at ht
   .rename_i hg
    have hg:=Nat.eq_of_beq_eq_true hg;subst hg
    split at ht
    .rename_i hw
     have hw:=beq_iff_eq.1 hw;subst hw;injection ht with ht;subst ht;intro h;obtain⟨h0,h1,h2⟩:=sp (k:=0) h;exact zr7 s a h0 h1 h2
    .split at ht
     .rename_i hw
      have hw:=beq_iff_eq.1 hw;subst hw;injection ht with ht;subst ht;intro h;obtain⟨h0,h1,h2⟩:=sp (k:=0) h;exact zr5 s a h0 h1 h2
     .split at ht
      .rename_i hw
       have hw:=beq_iff_eq.1 hw;subst hw;injection ht with ht;subst ht;intro h;obtain⟨h0,h1,h2⟩:=sp (k:=0) h;exact zr6 s a h0 h1 h2
      .cases ht
   .split at ht
    .rename_i hg
     have hg:=Nat.eq_of_beq_eq_true hg;subst hg
     split at ht
     .rename_i hw
      have hw:=beq_iff_eq.1 hw;subst hw;injection ht with ht;subst ht;intro h;obtain⟨h0,h1,h2⟩:=sp (k:=0) h;exact zr4 s a h0 h1 h2
     .cases ht
    .cases ht
  .cases ht
 .cases ht
def zZ2:Fact:=ql0 266 λr=>.node (rcB r) (.leaf (.tuple [.str (enc r),J 0])) (.leaf (.tuple [.str [],J 1]))
theorem yd0:zZ2.ok pP:=ql1 λr=>by
 have q:=xd4 r;unfold zR5 at q;exact⟨λv=>by rw[v]at q;exact q,λv=>by rw[v]at q;exact q⟩
open Go.Sx
theorem xc4(s:List UInt8)(h:s.length<=100000):SCall pP 255 [.str s] (zK1 s):=
 xD1 (hB (l:=[zZ2]) (k:=[]) (j:=[BFact.toP zr0]) (i:=[zr0]) ([] :List Nat) ([] :List Nat) ([] :List Nat) ([] :List Nat) (⟨yd0,trivial⟩) u9 (allQ.all (p:=PFact.ok pP) (l:=[BFact.toP zr0]) ⟨BFact.toP_ok yj6,trivial⟩) (allQ.all (p:=BFact.ok pP) (l:=[zr0]) ⟨yj6,trivial⟩)) 1000 (.fork .all (.go (.lit (.go (.lit (.go (.lit (.go (.lit (.go (.lit (.go (.lit (.go (.lit (.go (.lit (.go (.lit (.go (.lit (.go (.lit (.go (.lit (.go (.lit (.fork (.ln 4 (.fork .all .all)) (.ln 4 (.lit .all))))))))))))))))))))))))))))))
  (t:=let y0:=s.length<=100000;let y1:=(↑s.length:Int);let y2:=Rc.mk (tk s 6 1) (tk s 0 6) (tk s 7 6) (tk s 13 4) (sg (tk s 17 4),sg (tk s 21 4),sg (tk s 25 4),sg (tk s 29 4)) (sg (tk s 33 4),sg (tk s 37 4),sg (tk s 41 4),sg (tk s 45 4));let y3:Tree SV:=.leaf (.tuple [.agg [J 0,J 0,J 0,J 0,J 0,J 0,J 0,J 0,J 0,J 0,J 0,J 0],J 19]);.node (decide (y1<64)) (.leaf (.tuple [.agg [J 0,J 0,J 0,J 0,J 0,J 0,J 0,J 0,J 0,J 0,J 0,J 0],J 6])) (.req (decide (6<=y1)&&decide y0) (.req (decide (7<=y1)&&decide y0) (.req (decide (13<=y1)&&decide y0) (.req (decide (17<=y1)&&decide y0) (.req true (.req (decide (21<=y1)&&decide y0) (.req (decide (21<=y1)&&decide y0) (.req true (.req (decide (25<=y1)&&decide y0) (.req (decide (25<=y1)&&decide y0) (.req true (.req (decide (29<=y1)&&decide y0) (.req (decide (29<=y1)&&decide y0) (.req true (.req (decide (33<=y1)&&decide y0) (.req (decide (33<=y1)&&decide y0) (.req true (.req (true) (.req (decide (37<=y1)&&decide y0) (.req (decide (37<=y1)&&decide y0) (.req true (.req (decide (41<=y1)&&decide y0) (.req (decide (41<=y1)&&decide y0) (.req true (.req (decide (45<=y1)&&decide y0) (.req (decide (45<=y1)&&decide y0) (.req true (.req (decide (49<=y1)&&decide y0) (.req (decide (49<=y1)&&decide y0) (.req true (.node (rcB y2) (.node (!enc y2==s) y3 (.leaf (.tuple [.agg [J (tk s 6 1),J (tk s 0 6),J (tk s 7 6),J (tk s 13 4),J (sg (tk s 17 4)),J (sg (tk s 21 4)),J (sg (tk s 25 4)),J (sg (tk s 29 4)),J (sg (tk s 33 4)),J (sg (tk s 37 4)),J (sg (tk s 41 4)),J (sg (tk s 45 4))],J 0]))) y3))))))))))))))))))))))))))))))))
  (by kernel_rfl) (by
   have qq:∀x:Int,x<=49->64<=s.length->(decide (x<=(s.length:Int))&&decide (s.length<=100000))=true:=λx a b=>by simp;omega
   unfold zK1;refine o4 (λa=>?_) (λa=>?_)
   .rw[decide_eq_true (show s.length<64 by omega)];rfl
   .rw[decide_eq_false (show ¬s.length<64 by omega)]
    have b:64<=s.length:=by omega
    have e:zJ6 s=(rcB (zJ8 s)&&s==enc (zJ8 s)):=rfl;refine x0 (qq _ (by decide) b) ?_;refine x0 (qq _ (by decide) b) ?_;refine x0 (qq _ (by decide) b) ?_;refine x0 (qq _ (by decide) b) ?_;refine x0 rfl ?_;refine x0 (qq _ (by decide) b) ?_;refine x0 (qq _ (by decide) b) ?_;refine x0 rfl ?_;refine x0 (qq _ (by decide) b) ?_;refine x0 (qq _ (by decide) b) ?_;refine x0 rfl ?_;refine x0 (qq _ (by decide) b) ?_;refine x0 (qq _ (by decide) b) ?_;refine x0 rfl ?_;refine x0 (qq _ (by decide) b) ?_;refine x0 (qq _ (by decide) b) ?_;refine x0 rfl ?_;refine x0 rfl ?_;refine x0 (qq _ (by decide) b) ?_;refine x0 (qq _ (by decide) b) ?_;refine x0 rfl ?_;refine x0 (qq _ (by decide) b) ?_;refine x0 (qq _ (by decide) b) ?_;refine x0 rfl ?_;refine x0 (qq _ (by decide) b) ?_;refine x0 (qq _ (by decide) b) ?_;refine x0 rfl ?_;refine x0 (qq _ (by decide) b) ?_;refine x0 (qq _ (by decide) b) ?_;refine x0 rfl ?_
    refine p7 (λv=>?_) λv=>?_
    .have v:rcB (zJ8 s)=true:=v
     refine f7 (λw=>?_) λw=>?_
     .have w:(enc (zJ8 s)==s)=false:=w
      have w:(s==enc (zJ8 s))=false:=by
       rw[beq_eq_false_iff_ne]at w ⊢;exact λh=>w h.symm
      rw[e,v,w];rfl
     .have w:(enc (zJ8 s)==s)=true:=w
      have w:(s==enc (zJ8 s))=true:=by
       rw[beq_iff_eq]at w ⊢;exact w.symm
      rw[e,v,w];rfl
    .have v:rcB (zJ8 s)=false:=v
     rw[e,v];rfl) (by kernel_rfl) (by exact zK2 s)
open Go.Sx
def wrV(f:Fl)(i:Int)(d:List UInt8):SV:=.tuple [(wrF f i d).sv,J (wrE f i d)]
variable{f:Fl}{i:Int}{d:List UInt8}
theorem x38(h:qz4 f i=false\/¬d.length=64):wrV f i d=.tuple [f.sv,J 1] :=by
 have e:(qz4 f i&&decide (d.length=64))=false:=by rcases h with h|h<;>simp[h]
 unfold wrV wrF wrE;rw[e];rfl
theorem x39(h:qz4 f i=true)(hd:d.length=64)(hf:f.dead=true):wrV f i d=.tuple [f.sv,J 17] :=by
 unfold wrV wrF wrE;rw[h,hd,hf];rfl
theorem x41(h:qz4 f i=true)(hd:d.length=64)(hf:f.dead=false)(hu:f.fuse=1):wrV f i d=.tuple [.agg [.list .str (f.pages.set i.toNat (d.take f.keep.toNat++(f.pages.getD i.toNat []).drop f.keep.toNat)),J 0,.bool true,J 0],J 17] :=by
 have e:(f.fuse==1)=true:=by simpa using hu
 unfold wrV wrF wrE;rw[h,hd,hf,e];rfl
theorem x40(h:qz4 f i=true)(hd:d.length=64)(hf:f.dead=false)(hu:¬f.fuse=1):wrV f i d=.tuple [.agg [.list .str (f.pages.set i.toNat d),J (if f.fuse-1>0 then f.fuse-1 else 0),.bool f.dead,J f.keep],J 0] :=by
 have e:(f.fuse==1)=false:=by simpa using hu
 unfold wrV wrF wrE;rw[h,hd,hf,e];rfl
theorem xU6(x:List UInt8):(x.map λb=>(b.toNat:Int)).map (λn=>UInt8.ofNat (Int.toNat n))=x:=by
 rw[List.map_map];exact(List.map_congr_left λb _=>by simp).trans (List.map_id x)
theorem qz5:qz4 f i=true↔flB f=true/\0<=i/\i<=(f.pages.length:Int)-1:=by simp only[qz4,Bool.and_eq_true,j8]
theorem yI9(h:qz4 f i=true):(f.pages.getD i.toNat []).length=64/\0<=i/\i< (f.pages.length:Int)/\i.toNat<f.pages.length/\(0<=f.keep/\f.keep<=64)/\0<=f.fuse/\f.fuse<=1048576:=by
 obtain⟨h1,h2,h3⟩:=qz5.1 h;have fb:=qq1.1 h1
 have hi:i.toNat<f.pages.length:=by omega
 refine⟨?_,h2,by omega,hi,fb.2.2.2.2,fb.2.2.2.1⟩;rw[List.getD_eq_getElem?_getD,List.getElem?_eq_getElem hi];exact fb.1 _ (List.getElem_mem hi)
theorem x37(f:Fl)(i:Int)(d:List UInt8):(wrV f i d).data=true:=rfl
theorem kWr:Known pP (Env.ofB pP (j9 [z18]) (s8 []) (p9 []) (p8 []) (j6 []) (j6 [130]) (j6 []) (j6 [])):=hB (l:=[z18]) (k:=[]) (j:=[]) (i:=[]) [] [130] [] [] ⟨yf2,trivial⟩ u9 u9 u9
theorem qO1:Known pP (Env.ofB pP (j9 [zZ9]) (s8 []) (p9 []) (p8 []) (j6 []) (j6 [131]) (j6 []) (j6 [])):=hB (l:=[zZ9]) (k:=[]) (j:=[]) (i:=[]) [] [131] [] [] ⟨yd6,trivial⟩ u9 u9 u9
theorem qQ5:((d.length:Int)=64)↔d.length=64:=by omega
theorem q58(e:f.pages.isEmpty=true):qz4 f i=false:=by
 have e:=List.isEmpty_iff.1 e;rw[Bool.eq_false_iff];intro h;have:=(yI9 h).2.1;have:=(yI9 h).2.2.1;rw[e]at this;simp at this;omega
theorem zQ8(e:f.pages.isEmpty=true):f.sv=.agg [.list .str [],J f.fuse,.bool f.dead,J f.keep] :=by
 have e:=List.isEmpty_iff.1 e;show SV.agg f.cells=_;unfold Fl.cells;rw[e];rfl
theorem xA3(f:Fl)(i:Int)(d:List UInt8)(h:w9 f=true):SCall pP 267 [f.sv,J i,.str d] (wrV f i d):=by
 have hl:f.pages.length<=1000:=of_decide_eq_true h;refine s7 rfl (x37 f i d) (by kernel_rfl) (o5 kWr (n:=1000) (hint:=.str) (keep:=x6 65 []) (p:=x45) (boxes:=[]) (x37 f i d) ?_);have q:=wrp f i d;unfold v6 v7 at q;erw [q]
 refine p7 (λe=>x0 h (f7 (λb=>?_) λb=>?_)) λe=>x0 (decide_eq_true (by omega)) (x0 h (f7 (λb=>?_) λb=>q24 (λk=>?_) λk=>p7 (λdd=>?_) λdd=>x0 ?_ (q23 (λu=>x0 ?_ (x0 ?_ (x0 ?_ (x0 ?_ ?_)))) λu=>x0 ?_ (x0 ?_ (x0 ?_ ?_)))))
 .exact((x38 (.inl b)).trans (by rw[zQ8 e];try rfl)).symm
 .rw[q58 e]at b;cases b
 .exact(x38 (.inl b)).symm
 .exact(x38 (.inr λk'=>k (qQ5.2 k'))).symm
 .exact(x39 b (qQ5.1 k) dd).symm
 all_goals
  obtain⟨p1,p2,p3,p4,p5,p6⟩:=yI9 b;have k:=qQ5.1 k
 .simp;omega
 .simp[k];omega
 .rw[List.length_map,List.length_map,List.length_take,p1]
  cases hp:f.pages.getD i.toNat ([] :List UInt8)with
  |nil=>rw[hp]at p1;simp at p1
  |cons x l=>simp;omega
 .simp;omega
 .exact decide_eq_true p4
 .rw[<-List.map_drop,<-List.map_append,xU6,List.length_map,List.length_take,k,show min f.keep.toNat 64=f.keep.toNat by omega]
  exact(x41 b k dd u).symm
 .rw[List.length_map,List.length_map,p1,k]
  cases hp:f.pages.getD i.toNat ([] :List UInt8)with
  |nil=>rw[hp]at p1;simp at p1
  |cons x l=>simp
 .simp;omega
 .exact decide_eq_true p4
 .rw[<-List.map_drop,<-List.map_append,xU6,List.length_map,k,List.drop_eq_nil_of_le (Nat.le_of_eq p1),List.append_nil,w64 (by omega) (by omega)]
  exact(x40 b k dd u).symm
theorem xA4(f:Fl)(i:Int)(d:List UInt8)(h:w9 f=true)(hd:d.length<=100000):SCall pP 190 [f.sv,J i,.str d] (wrV f i d):=by
 have hl:f.pages.length<=1000:=of_decide_eq_true h;refine s7 rfl (x37 f i d) (by kernel_rfl) (o5 qO1 (n:=1000) (hint:=.str) (keep:=x6 69 []) (p:=x46) (boxes:=[]) (x37 f i d) ?_);have q:=wrr f i d;unfold v6 v7 at q;erw [q]
 have nb:∀{x:Bool},flB f=x->(x=false\/i<0\/i>=(f.pages.length:Int))->qz4 f i=false:=λhx hy=>by
  rw[Bool.eq_false_iff];intro hh;obtain⟨h1,h2,h3⟩:=qz5.1 hh;rw[h1]at hx;subst hx;rcases hy with hy|hy|hy
  .cases hy
  .omega
  .omega
 have yb:flB f=true->¬i<0->¬i>=(f.pages.length:Int)->qz4 f i=true:=λh1 h2 h3=>qz5.2 ⟨h1,by omega,by omega⟩
 refine p7 (λe=>x0 h (f7 (λb=>?_) λb=>o4 (λb1=>?_) λb1=>o4 (λb2=>?_) λb2=>?_)) λe=>x0 (decide_eq_true (by omega)) (x0 h (f7 (λb=>?_) λb=>o4 (λb1=>?_) λb1=>o4 (λb2=>?_) λb2=>q24 (λk=>?_) λk=>p7 (λdd=>?_) λdd=>(q23 (λu=>x0 ?_ (x0 ?_ (x0 ?_ (x0 ?_ (x0 ?_ (x0 ?_ ?_)))))) λu=>x0 ?_ (x0 ?_ ?_))))
 .exact((x38 (.inl (nb b (.inl rfl)))).trans (by rw[zQ8 e];try rfl)).symm
 .exact((x38 (.inl (nb b (.inr (.inl b1))))).trans (by rw[zQ8 e];try rfl)).symm
 .exact((x38 (.inl (nb b (.inr (.inr b2))))).trans (by rw[zQ8 e];try rfl)).symm
 .have:=q58 (i:=i) e
  rw[yb b b1 b2]at this;cases this
 .exact(x38 (.inl (nb b (.inl rfl)))).symm
 .exact(x38 (.inl (nb b (.inr (.inl b1))))).symm
 .exact(x38 (.inl (nb b (.inr (.inr b2))))).symm
 .exact(x38 (.inr λk'=>k (qQ5.2 k'))).symm
 .exact(x39 (yb b b1 b2) (qQ5.1 k) dd).symm
 all_goals
  have hb:=yb b b1 b2;obtain⟨p1,p2,p3,p4,p5,p6⟩:=yI9 hb;have k:=qQ5.1 k
 .simp[k];omega
 .simp;omega
 .rw[p1];simp;omega
 .refine decide_eq_true ?_
  rw[List.length_take,List.length_drop,p1,k];omega
 .simp;omega
 .exact decide_eq_true p4
 .exact(x41 hb k dd u).symm
 .simp;omega
 .exact decide_eq_true p4
 .rw[w64 (by omega) (by omega)]
  exact(x40 hb k dd u).symm
def qg6(f:FuncId)(h:Fl->Int->List UInt8->Tree SV):Fact:=⟨f,λargs=>match args with
 |[.agg [.list .str p,.int .i64 a,.bool d,.int .i64 k],.int .i64 i,.str s] =>some (h ⟨p,a,d,k⟩ i s)
 |_=>none⟩
variable{P:Program}
theorem qg7{f:FuncId}{h:Fl->Int->List UInt8->Tree SV}(k:∀c i s,(h c i s).says (SCall P f [c.sv,J i,.str s])):(qg6 f h).ok P:=λargs t ht=>by
 simp only[qg6]at ht
 split at ht
 .injection ht with ht;subst ht;exact k ⟨_,_,_,_⟩ _ _
 .cases ht
def fWr:Fact:=qg6 267 λf i s=>.req (w9 f) (.leaf (wrV f i s))
theorem yt7:fWr.ok pP:=qg7 λf i s h=>xA3 f i s h
def qe9:Fact:=qg6 190 λf i s=>.req (w9 f) (.req (decide (s.length<=100000)) (.leaf (wrV f i s)))
theorem yt8:qe9.ok pP:=qg7 λf i s h hd=>xA4 f i s h (of_decide_eq_true hd)
def zJ9(s:List UInt8):Tree SV:=.req (decide (s.length<=100000)) (.node (decide (s.length<64)) (.leaf (.tuple [rcZ.sv,J 6])) (.node (zJ6 s) (.leaf (.tuple [(zJ8 s).sv,J 0])) (.leaf (.tuple [rcZ.sv,J 19]))))
variable{s:List UInt8}
theorem zK0{g:FuncId}(k:s.length<=100000->SCall P g [.str s] (zK1 s)):(zJ9 s).says (SCall P g [.str s]):=λh=>by
 have q:=k (of_decide_eq_true h);unfold zK1 at q;exact⟨λa=>by rw[a]at q;exact q,λa=>⟨λb=>by rw[a,b]at q;exact q,λb=>by rw[a,b]at q;exact q⟩⟩
def zY7:Fact:=ql2 255 zJ9
theorem yc5:zY7.ok pP:=ql3 λs=>zK0 (xc4 s)
def zY8:Fact:=ql2 263 zJ9
theorem yc6:zY8.ok pP:=ql3 λs=>zK0 (xc5 s)
open Go.Sx
abbrev e9:Ty:=.pair (.int .i64) (.pair (.int .i64) (.pair (.int .i64) (.pair (.int .i64) (.pair (.pair (.int .i64) (.pair (.int .i64) (.pair (.int .i64) (.int .i64)))) (.pair (.int .i64) (.pair (.int .i64) (.pair (.int .i64) (.int .i64))))))))
abbrev RT:=Int×Int×Int×Int×V4×V4
def Rc.t(r:Rc):RT:=(r.kind,r.seq,r.line,r.done,r.src,r.dst)
def yT2(x:RT):Rc:=⟨x.1,x.2.1,x.2.2.1,x.2.2.2.1,x.2.2.2.2.1,x.2.2.2.2.2⟩
theorem yT3(r:Rc):yT2 r.t=r:=rfl
theorem xN2(x:RT):(yT2 x).t=x:=rfl
theorem yT9(l:List Rc):(l.map Rc.t).map yT2=l:=by rw[List.map_map];exact(List.map_congr_left λx _=>yT3 x).trans (List.map_id l)
theorem xN3(l:List RT):(l.map yT2).map Rc.t=l:=by rw[List.map_map];exact(List.map_congr_left λx _=>xN2 x).trans (List.map_id l)
abbrev LR(l:List Rc):SV:=.list e9 (l.map Rc.t)
def zL7:List Rc->Bool
 |[] =>true
 |r::l=>(l.all λx=>!(x.seq==r.seq))&&zL7 l
theorem zL8:∀{l:List Rc},zL7 l=true↔zL9 l
 |[] =>by simp[zL7,zL9]
 |r::l=>by simp[zL7,zL9,zL8 (l:=l)]
open Go.Sx
def yS1:Plan:=.fork (.lit (.lit (.lit .all))) (.lit (.lit (.fork .all .all)))
theorem ra0(f:Fl):o7 (Env.of pP (j9 [zZ9])) 1000 (x9 pP 196) e9 (x6 88 [1,3,4,7]) (v7 pP 196) yS1 (v6 pP 196 [f.sv]) [] =(.req (w9 f) (.node (!flB f) (.leaf (.done (.list e9 []))) (.node (f.dead) (.leaf (.done (.list e9 []))) (.leaf (.at (x8 pP 196 0) 88 (x7 88 [(1,.ptr 0 0),(3,SV.nilS),(4,J 0),(7,SV.undef)]) [some (.cells f.cells)]))))):=by kernel_rfl
def yS2:Plan:=.fork (.fork (.ln 9 (.lit .all)) (.fork (.ln 9 (.fork .all .all)) (.ln 9 (.lit .all)))) .all
theorem ra1(f:Fl)(l:List RT)(i:Int):o7 (Env.of pP (j9 [zY8])) 1000 (x9 pP 196) e9 (x6 88 [1,3,4,7]) (x8 pP 196 0) yS2 (x7 88 [(1,.ptr 0 0),(3,.row 1),(4,J i)]) [some (.cells f.cells),some (.rows e9 l)] =(.node (decide (i< (↑f.pages.length:Int))) (.req (decide (0<=i)&&decide (i< (↑f.pages.length:Int))) (.req (decide (List.length (f.pages.getD i.toNat ([] :List UInt8))<=100000)) (.node (decide (List.length (f.pages.getD i.toNat ([] :List UInt8))<64)) (.leaf (.at (x8 pP 196 0) 88 (x7 88 [(1,.ptr 0 0),(3,SV.row 1),(4,J (i64.wrap (i+1)))]) [some (.cells f.cells),some (.rows e9 l)])) (.node (zJ6 (f.pages.getD i.toNat ([] :List UInt8))) (.req (!(↑f.pages.length:Int)==0) (.node ((zJ8 (f.pages.getD i.toNat ([] :List UInt8))).seq.tmod (↑f.pages.length:Int) != i) (.leaf (.at (x8 pP 196 0) 88 (x7 88 [(1,.ptr 0 0),(3,SV.row 1),(4,J (i64.wrap (i+1)))]) [some (.cells f.cells),some (.rows e9 l)])) (.req (decide ((l.length+ [(zJ8 (f.pages.getD i.toNat ([] :List UInt8))).t].length)*96<=140737488355328)) (.leaf (.at (x8 pP 196 1) 88 (x7 88 [(1,.ptr 0 0),(3,SV.row 1),(4,J i),(7,J (i64.wrap ((↑(l++[(zJ8 (f.pages.getD i.toNat ([] :List UInt8))).t]).length:Int)-1)))]) [some (.cells f.cells),some (.rows e9 (l++[(zJ8 (f.pages.getD i.toNat ([] :List UInt8))).t]))]))))) (.leaf (.at (x8 pP 196 0) 88 (x7 88 [(1,.ptr 0 0),(3,SV.row 1),(4,J (i64.wrap (i+1)))]) [some (.cells f.cells),some (.rows e9 l)])))))) (.leaf (.done (.list e9 l)))):=by kernel_rfl
def yS3:Plan:=.fork (.ln 12 (.fork .all .all)) (.ln 12 (.lit .all))
theorem ra2(f:Fl)(l:List RT)(i k:Int):o7 (Env.of pP (j9 [])) 1000 (x9 pP 196) e9 (x6 88 [1,3,4,7]) (x8 pP 196 1) yS3 (x7 88 [(1,.ptr 0 0),(3,.row 1),(4,J i),(7,J k)]) [some (.cells f.cells),some (.rows e9 l)] =(.node (decide (k>0)) (.req (decide (0<=k)&&decide (k< (↑l.length:Int))) (.req (decide (k.toNat<l.length)) (.req (decide (0<=i64.wrap (k-1))&&decide (i64.wrap (k-1)< (↑l.length:Int))) (.req (decide ((i64.wrap (k-1)).toNat<l.length)) (.node (decide ((l.getD k.toNat rcZ.t).2.1< (l.getD (i64.wrap (k-1)).toNat rcZ.t).2.1)) (.req (decide (0<=k)&&decide (k< (↑l.length:Int))) (.req (decide (k.toNat<l.length)) (.req (decide (0<=i64.wrap (k-1))&&decide (i64.wrap (k-1)< (↑l.length:Int))) (.req (decide ((i64.wrap (k-1)).toNat<l.length)) (.req (decide (0<=k)&&decide (k< (↑l.length:Int))) (.req (decide (k.toNat<l.length)) (.req (decide (0<=i64.wrap (k-1))&&decide (i64.wrap (k-1)< (↑(l.set k.toNat (l.getD (i64.wrap (k-1)).toNat rcZ.t)).length:Int))) (.req (decide ((i64.wrap (k-1)).toNat< (l.set k.toNat (l.getD (i64.wrap (k-1)).toNat rcZ.t)).length)) (.leaf (.at (x8 pP 196 1) 88 (x7 88 [(1,.ptr 0 0),(3,SV.row 1),(4,J i),(7,J (i64.wrap (k-1)))]) [some (.cells f.cells),some (.rows e9 ((l.set k.toNat (l.getD (i64.wrap (k-1)).toNat rcZ.t)).set (i64.wrap (k-1)).toNat (l.getD k.toNat rcZ.t)))])))))))))) (.leaf (.at (x8 pP 196 0) 88 (x7 88 [(1,.ptr 0 0),(3,SV.row 1),(4,J (i64.wrap (i+1))),(7,J k)]) [some (.cells f.cells),some (.rows e9 l)]))))))) (.leaf (.at (x8 pP 196 0) 88 (x7 88 [(1,.ptr 0 0),(3,SV.row 1),(4,J (i64.wrap (i+1))),(7,J k)]) [some (.cells f.cells),some (.rows e9 l)]))):=by kernel_rfl
open Go.Sx
theorem qN6:Known pP (Env.of pP (j9 [zY8])):=kW (l:=[zY8]) ⟨yc6,trivial⟩
theorem qN8:Known pP (Env.of pP (j9 [zZ9])):=kW (l:=[zZ9]) ⟨yd6,trivial⟩
abbrev slA(i:Int):List SV:=x7 88 [(1,.ptr 0 0),(3,.row 1),(4,J i)]
abbrev bxA(f:Fl)(l:List Rc):List (Option Box):=[some (.cells f.cells),some (.rows e9 (l.map Rc.t))]
theorem qV3{l:List Rc}{i:Nat}(h:i<l.length):(l.map Rc.t).getD i rcZ.t=(l.getD i rcZ).t:=by
 rw[List.getD_eq_getElem?_getD,List.getElem?_map,List.getD_eq_getElem?_getD,List.getElem?_eq_getElem h];rfl
theorem xE2{O:Type}:∀ (A:List O) (x y:O) (B:List O),(A++x::B).set A.length y=A++y::B
 |[],_,_,_=>rfl
 |a::A,x,y,B=>congrArg (a::·) (xE2 A x y B)
theorem qr6{v:SV}{l:List Rc}{k:Int}(h:t8 pP (x9 pP 196) v (x8 pP 196 0) (slA i) (bxA f l)):t8 pP (x9 pP 196) v (x8 pP 196 0) (x7 88 [(1,.ptr 0 0),(3,.row 1),(4,J i),(7,J k)]) (bxA f l):=by
 have e:x7 88 [(1,.ptr 0 0),(3,.row 1),(4,J i),(7,.top)] =slA i:=rfl;rw[<-e]at h;exact y82 false [] (slots':=x7 88 [(1,.ptr 0 0),(3,.row 1),(4,J i),(7,.top)]) (boxes':=bxA f l) (xF7 ⟨rfl,.same _,rfl,.same _,rfl,.same _,rfl,.top _,trivial⟩) ⟨by simp,.same _,by simp,.same _,rfl⟩ h
theorem yS4(f:Fl)(v:SV)(hv:v.data=true)(r:Rc)(i:Int)(hi:0<=i/\i<=1000):∀ (n:Nat) (A B:List Rc),A.length=n->n<=1000->zp1 (A++B)->(∀x∈B,r.seq<x.seq)->
  t8 pP (x9 pP 196) v (x8 pP 196 0) (slA (i+1)) (bxA f (qH6 r (A++B)))->
  t8 pP (x9 pP 196) v (x8 pP 196 1) (x7 88 [(1,.ptr 0 0),(3,.row 1),(4,J i),(7,J n)]) (bxA f (A++r::B))
 |n,A,B,hn,hl,ha,hb,h=>by
  have w1:i64.wrap (i+1)=i+1:=w64 (by omega) (by omega);refine o5 qM9 (n:=1000) (hint:=e9) (keep:=x6 88 [1,3,4,7]) (p:=yS3) hv ?_;erw [ra2 f ((A++r::B).map Rc.t) i n];rw[w1]
  match n,hn with
  |0,hn=>
   have:A=[] :=List.length_eq_zero_iff.1 hn;subst this
   refine o4 (λk=>absurd k (by omega)) λ_=>⟨u7 _ _,qr6 ?_⟩
   have e:qH6 r ([] ++B)=[] ++r::B:=qH8 (a:=[]) (b:=B) ha (λx hx=>by cases hx) hb;rw[e]at h;exact h
  |m+1,hn=>
   obtain⟨A',x,rfl⟩:∃A' x,A=A'++[x] :=⟨A.dropLast,A.getLast (by intro e;rw[e]at hn;cases hn),(List.dropLast_concat_getLast _).symm⟩
   have hA:A'.length=m:=by simpa using hn
   have w2:i64.wrap (((m+1:Nat):Int)-1)=(m:Int):=by rw[w64 (by omega) (by omega)];omega
   have t1:(((m+1:Nat):Int)).toNat=m+1:=by omega
   have t2:((m:Int)).toNat=m:=by omega
   have len:(A'++[x] ++r::B).length=m+1+1+B.length:=by simp[hA];omega
   have g1:(A'++[x] ++r::B).getD (m+1) rcZ=r:=by
    rw[List.getD_eq_getElem?_getD,List.getElem?_append_right (by simp;omega)];simp[hA]
   have g2:(A'++[x] ++r::B).getD m rcZ=x:=by
    rw[List.append_assoc,List.getD_eq_getElem?_getD,List.getElem?_append_right (by omega)];simp[hA]
   have G:∀j,j< (A'++[x] ++r::B).length->((A'++[x] ++r::B).map Rc.t).getD j rcZ.t=((A'++[x] ++r::B).getD j rcZ).t:=λj hj=>qV3 hj
   have L:((A'++[x] ++r::B).map Rc.t).length=m+1+1+B.length:=by rw[List.length_map,len]
   rw[w2,t1,t2,G _ (by omega),G _ (by omega),g1,g2]
   have sets:(((A'++[x] ++r::B).map Rc.t).set (m+1) x.t).set m r.t=(A'++r::(x::B)).map Rc.t:=by
    rw[<-List.map_set,<-List.map_set]
    congr 1
    have e1:=xE2 (A'++[x]) r x B;rw[show(A'++[x]).length=m+1 by simp[hA]]at e1;have e2:=xE2 A' x r (x::B);rw[hA]at e2;rw[e1,show A'++[x] ++x::B=A'++x::x::B by simp,e2]
   have q:∀b:Nat,b<m+1+1+B.length->(decide (0<=((b:Nat):Int))&&decide (((b:Nat):Int)< (((A'++[x] ++r::B).map Rc.t).length:Int)))=true:=λb hb=>by rw[L];simp;omega
   have q2:∀b:Nat,b<m+1+1+B.length->decide (b< ((A'++[x] ++r::B).map Rc.t).length)=true:=λb hb=>decide_eq_true (by rw[L];exact hb)
   refine o4 (λ_=>x0 (q _ (by omega)) (x0 (q2 _ (by omega)) (x0 (q _ (by omega)) (x0 (q2 _ (by omega)) (o4 (λc=>?_) λc=>?_))))) λk=>absurd (by omega) k
   .refine x0 (q _ (by omega)) (x0 (q2 _ (by omega)) (x0 (q _ (by omega)) (x0 (q2 _ (by omega)) (x0 (q _ (by omega)) (x0 (q2 _ (by omega)) (x0 ?_ (x0 ?_ ⟨u7 _ _,?_⟩)))))))
    .rw[List.length_set];exact q _ (by omega)
    .rw[List.length_set];exact q2 _ (by omega)
    .rw[sets]
     refine yS4 f v hv r i hi m A' (x::B) hA (by omega) (by simpa using ha) (λy hy=>?_) (by simpa using h);rcases List.mem_cons.1 hy with rfl|hy
     .exact c
     .exact hb y hy
   .refine⟨u7 _ _,qr6 ?_⟩
    have le:∀y∈A'++[x],y.seq<=r.seq:=λy hy=>by
     have c':¬r.seq<x.seq:=c
     have asc:∀ (a b:List Rc),zp1 (a++b)->∀y∈a,∀z∈b,y.seq<=z.seq:=by
      intro a b
      induction a with
      |nil=>intro _ y hy;cases hy
      |cons w a ih=>
       intro h y hy z hz;rcases List.mem_cons.1 hy with rfl|hy
       .exact h.1 z (List.mem_append_right _ hz)
       .exact ih h.2 y hy z hz
     rcases List.mem_append.1 hy with hy|hy
     .have:=asc A' ([x] ++B) (by simpa using ha) y hy x (by simp)
      omega
     .rcases List.mem_cons.1 hy with rfl|hy
      .omega
      .cases hy
    rw[qH8 ha le hb]at h;exact h
def zm2(n:Int)(acc:List Rc)(i:Nat)(l:List (List UInt8)):List Rc:=(yV4 n i l).foldl (λacc r=>qH6 r acc) acc
theorem zm3{n:Int}{acc:List Rc}{i:Nat}{l:List (List UInt8)}(h:yU5 n i s=none):zm2 n acc i (s::l)=zm2 n acc (i+1) l:=by
 unfold zm2;rw[yV5,h]
variable{r:Rc}
theorem zm4{n:Int}{acc:List Rc}{i:Nat}{l:List (List UInt8)}(h:yU5 n i s=some r):zm2 n acc i (s::l)=zm2 n (qH6 r acc) (i+1) l:=by
 unfold zm2;rw[yV5,h];rfl
theorem yS5(f:Fl)(hl:f.pages.length<=1000)(hp:∀p∈f.pages,p.length=64):∀ (k i:Nat) (acc L:List Rc),i+k=f.pages.length->zp1 acc->acc.length<=i->L=zm2 f.pages.length acc i (f.pages.drop i)->
  t8 pP (x9 pP 196) (LR L) (x8 pP 196 0) (slA i) (bxA f acc)
 |k,i,acc,L,hi,ha,hn,hL=>by
  have w1:i64.wrap ((i:Int)+1)=(i:Int)+1:=w64 (by omega) (by omega)
  have t0:(i:Int).toNat=i:=by omega
  refine o5 qN6 (n:=1000) (hint:=e9) (keep:=x6 88 [1,3,4,7]) (p:=yS2) rfl ?_;erw [ra1 f (acc.map Rc.t) i];rw[w1,t0]
  match k,hi with
  |0,hi=>
   refine o4 (λa=>absurd a (by omega)) λ_=>?_
   have z:f.pages.drop i=[] :=List.drop_eq_nil_of_le (by omega);rw[z]at hL;have hL:L=acc:=hL;subst hL;rfl
  |k+1,hi=>
   have hip:i<f.pages.length:=by omega
   have p64:(f.pages.getD i ([] :List UInt8)).length=64:=by
    rw[List.getD_eq_getElem?_getD,List.getElem?_eq_getElem hip];exact hp _ (List.getElem_mem hip)
   rw[zN6 (d:=([] :List UInt8)) hip]at hL
   have nx:((i:Int)+1)=((i+1:Nat):Int):=by omega
   have skip:yU5 f.pages.length i (f.pages.getD i ([] :List UInt8))=none->t8 pP (x9 pP 196) (LR L) (x8 pP 196 0) (slA ((i:Int)+1)) (bxA f acc):=λe=>by
    rw[zm3 e]at hL;rw[nx];exact yS5 f hl hp k (i+1) acc L (by omega) ha (by omega) hL
   have nz:(!(((f.pages.length:Nat):Int)==0))=true:=by
    rw[Bool.not_eq_true',beq_eq_false_iff_ne];omega
   refine o4 (λ_=>x0 (by simp;omega) (x0 (decide_eq_true (by rw[p64];omega)) (o4 (λc=>absurd c (by rw[p64];omega)) λ_=>p7 (λb=>x0 nz (q24 (λc=>?_) λc=>x0 (decide_eq_true ?_) ?_)) λb=>?_))) λa=>absurd (by omega) a
   .refine⟨u7 _ _,skip ?_⟩
    cases e:yU5 f.pages.length i (f.pages.getD i ([] :List UInt8))with
    |none=>rfl
    |some r=>exact absurd (yU6.1 e).2.1 c
   .rw[List.length_map]
    show(acc.length+1)*96<=_;omega
   .have e:yU5 f.pages.length i (f.pages.getD i ([] :List UInt8))=some (zJ8 (f.pages.getD i ([] :List UInt8))):=yU6.2 ⟨b,c,rfl⟩
    rw[zm4 e]at hL
    have el:(acc.map Rc.t)++[(zJ8 (f.pages.getD i ([] :List UInt8))).t] =(acc++zJ8 (f.pages.getD i ([] :List UInt8))::[]).map Rc.t:=by rw[List.map_append];rfl
    have len:(((acc.map Rc.t++[(zJ8 (f.pages.getD i ([] :List UInt8))).t]).length:Nat):Int)-1=(acc.length:Int):=by
     rw[List.length_append,List.length_map];show(((acc.length+1:Nat)):Int)-1=_;omega
    rw[len,w64 (by omega) (by omega),el];refine⟨u7 _ _,?_⟩;refine yS4 f (LR L) rfl (zJ8 (f.pages.getD i ([] :List UInt8))) i (by omega) acc.length acc [] rfl (by omega) (by rw[List.append_nil];exact ha) (λx hx=>by cases hx) ?_;rw[List.append_nil,nx];refine yS5 f hl hp k (i+1) (qH6 (zJ8 (f.pages.getD i ([] :List UInt8))) acc) L (by omega) (qH7 _ _ ha) ?_ hL;rw[(qH9 _ acc).length_eq,List.length_cons];omega
   .refine⟨u7 _ _,skip ?_⟩
    cases e:yU5 f.pages.length i (f.pages.getD i ([] :List UInt8))with
    |none=>rfl
    |some r=>have:=(yU6.1 e).1;rw[this]at b;cases b
theorem xa2(f:Fl)(h:w9 f=true):SCall pP 196 [f.sv] (LR (m6 f)):=by
 have hl:f.pages.length<=1000:=of_decide_eq_true h;refine s7 rfl rfl (by kernel_rfl) (o5 qN8 (n:=1000) (hint:=e9) (keep:=x6 88 [1,3,4,7]) (p:=yS1) (boxes:=[]) rfl ?_);have q:=ra0 f;unfold v6 v7 at q;erw [q];refine x0 h (f7 (λb=>?_) λb=>p7 (λd=>?_) λd=>⟨u7 _ _,?_⟩)
 .have:m6 f=[] :=by unfold m6;rw[b];rfl
  rw[this];rfl
 .have:m6 f=[] :=by unfold m6;rw[b,d];rfl
  rw[this];rfl
 .have e:m6 f=zm2 f.pages.length [] 0 (f.pages.drop 0):=by unfold m6;rw[b,d];rfl
  have r:=yS5 f hl (qq1.1 b).1 f.pages.length 0 [] (m6 f) (by omega) trivial (Nat.le_refl _) e;exact y82 true [] (slots':=x7 88 [(1,.ptr 0 0),(3,.row 1),(4,J 0),(7,.top)]) (boxes':=bxA f []) (xF7 ⟨rfl,.same _,rfl,.nil rfl,rfl,.same _,rfl,.top _,trivial⟩) ⟨by simp,.same _,trivial⟩ r
def zW4:Fact:=qg4 196 λf=>.req (w9 f) (.leaf (LR (m6 f)))
theorem ya0:zW4.ok pP:=qh1 λf h=>xa2 f h
open Go.Sx
def qP3(f:Fl):Rc:=(lastO f).getD rcZ
def qP7(f:Fl):SV:=.tuple [(qP3 f).sv,.bool (lastO f).isSome]
def apV(f:Fl)(r:Rc):SV:=.tuple [(apF f r).sv,J (apE f r)]
theorem qP6(f:Fl):qP5 f=(qP3 f).seq:=by unfold qP5 qP3;cases lastO f<;>rfl
def qg9(g:FuncId)(h:Fl->Rc->Tree SV):Fact:=⟨g,λargs=>match args with
 |[.agg [.list .str p,.int .i64 a,.bool d,.int .i64 k],.agg [.int .i64 r0,.int .i64 r1,.int .i64 r2,.int .i64 r3,.int .i64 p0,.int .i64 p1,.int .i64 p2,.int .i64 p3,.int .i64 q0,.int .i64 q1,.int .i64 q2,.int .i64 q3]] =>some (h ⟨p,a,d,k⟩ ⟨r0,r1,r2,r3,(p0,p1,p2,p3),(q0,q1,q2,q3)⟩)
 |_=>none⟩
theorem qh0{g:FuncId}{h:Fl->Rc->Tree SV}(k:∀c r,(h c r).says (SCall P g [c.sv,r.sv])):(qg9 g h).ok P:=λargs t ht=>by
 simp only[qg9]at ht
 split at ht
 .injection ht with ht;subst ht;exact k ⟨_,_,_,_⟩ ⟨_,_,_,_,(_,_,_,_),(_,_,_,_)⟩
 .cases ht
def z38:Fact:=qg4 103 λf=>.req (w9 f) (.leaf (qP7 f))
def z39:Fact:=qg4 110 λf=>.req (w9 f) (.leaf (qP7 f))
def fAp:Fact:=qg9 202 λf r=>.req (w9 f) (.leaf (apV f r))
def zW6:Fact:=qg9 101 λf r=>.req (w9 f) (.leaf (apV f r))
theorem yV7{n:Int}:∀{l:List (List UInt8)} {i:Nat},(yV4 n i l).length<=l.length
 |[],i=>Nat.le_refl _
 |s::l,i=>by
  have:=@yV7 n l (i+1);rw[yV5]
  split<;>simp<;>omega
theorem zm5(f:Fl):(m6 f).length<=f.pages.length:=by
 unfold m6
 split
 .rw[(xG6 _).length_eq];exact yV7
 .simp
theorem zm6(h:r∈m6 f):rcB r=true:=by
 unfold m6 at h
 split at h
 .obtain⟨j,_,hj⟩:=qX0.1 ((xG6 _).mem_iff.1 h)
  obtain⟨h1,_,rfl⟩:=yU6.1 hj;exact(zJ7.1 h1).1
 .cases h
theorem qP4(f:Fl):0<=(qP3 f).seq/\(qP3 f).seq<=1099511627776:=by
 unfold qP3
 cases h:lastO f with
 |none=>exact⟨Int.le_refl _,by decide⟩
 |some r=>
  have:=yT1.1 (zm6 (List.mem_of_getLast? h));exact⟨by show 0<=r.seq;omega,this.2.1.2⟩
theorem qP8(h:m6 f=[]):qP7 f=.tuple [rcZ.sv,.bool false] :=by
 unfold qP7 qP3 lastO;rw[h];rfl
theorem qP9{A:List Rc}{x:Rc}(h:m6 f=A++[x]):qP7 f=.tuple [x.sv,.bool true] :=by
 unfold qP7 qP3 lastO;rw[h,List.getLast?_concat];rfl
theorem zn3(h:rcB r=false\/flB f=false):apV f r=.tuple [f.sv,J 1] :=by
 have e:(rcB r&&flB f)=false:=by rcases h with h|h<;>simp[h]
 unfold apV apF apE;rw[e];rfl
theorem zn4(h:rcB r=true)(k:flB f=true)(d:f.dead=true):apV f r=.tuple [f.sv,J 17] :=by
 unfold apV apF apE;rw[h,k,d];rfl
theorem zn6(h:rcB r=true)(k:flB f=true)(d:f.dead=false)(s:¬r.seq=qP5 f+1):apV f r=.tuple [f.sv,J 11] :=by
 have e:(r.seq==qP5 f+1)=false:=by simpa using s
 unfold apV apF apE;rw[h,k,d,e];rfl
theorem zn5(h:rcB r=true)(k:flB f=true)(d:f.dead=false)(s:r.seq=qP5 f+1):apV f r=wrV f (r.seq.tmod f.pages.length) (enc r):=by
 have e:(r.seq==qP5 f+1)=true:=by simpa using s
 unfold apV apF apE wrV;rw[h,k,d,e];rfl
theorem xi4(f:Fl)(h:w9 f=true):SCall pP 110 [f.sv] (qP7 f):=
 v8 mix [zW4] ⟨ya0,trivial⟩ 1000 (.fork (.all) (.all))
  (t:=let y1:=(↑(List.map Rc.t (m6 f)).length:Int);let y0:=(List.map Rc.t (m6 f)).getD (i64.wrap (y1-1)).toNat rcZ.t;.req (w9 f) (.node (y1==0) (.leaf (.tuple [.agg [J 0,J 0,J 0,J 0,J 0,J 0,J 0,J 0,J 0,J 0,J 0,J 0],.bool false])) (.req (decide (0<=i64.wrap (y1-1))&&decide (i64.wrap (y1-1)<y1)) (.leaf (.tuple [.agg [J y0.1,J y0.2.1,J y0.2.2.1,J y0.2.2.2.1,J y0.2.2.2.2.1.1,J y0.2.2.2.2.1.2.1,J y0.2.2.2.2.1.2.2.1,J y0.2.2.2.2.1.2.2.2,J y0.2.2.2.2.2.1,J y0.2.2.2.2.2.2.1,J y0.2.2.2.2.2.2.2.1,J y0.2.2.2.2.2.2.2.2],.bool true])))))
  (by kernel_rfl) (by
   refine x0 h (q23 (λe=>?_) λe=>?_)
   .have e:m6 f=[] :=by
     rw[List.length_map]at e;exact List.eq_nil_of_length_eq_zero (by omega)
    rw[qP8 e];rfl
   .have hl:f.pages.length<=1000:=of_decide_eq_true h
    have len:=zm5 f;rw[List.length_map]at e ⊢;have w:i64.wrap (((m6 f).length:Int)-1)=((m6 f).length:Int)-1:=w64 (by omega) (by omega);rw[w];obtain⟨A,x,hA⟩:∃A x,m6 f=A++[x] :=⟨(m6 f).dropLast,(m6 f).getLast (by intro k;rw[k]at e;exact e rfl),(List.dropLast_concat_getLast _).symm⟩
    have g:((m6 f).map Rc.t).getD (((m6 f).length:Int)-1).toNat rcZ.t=x.t:=by
     rw[qV3 (by omega),hA]
     have:((((A++[x]).length:Nat):Int)-1).toNat=A.length:=by simp
     rw[this,List.getD_eq_getElem?_getD,List.getElem?_append_right (Nat.le_refl _)];simp
    rw[g,qP9 hA]
    exact x0 (by simp;omega) rfl) (by kernel_rfl) (by kernel_rfl)
theorem yh0:z39.ok pP:=qh1 λf h=>xi4 f h
theorem xa5(f:Fl)(r:Rc)(h:w9 f=true):SCall pP 101 [f.sv,r.sv] (apV f r):=
 v8 mix [zZ3,zZ9,z39,qe9] ⟨yd1,yd6,yh0,yt8,trivial⟩ 1000 (.fork (.ln 4 (.fork .all (.fork .all (.fork .all .all)))) (.ln 4 (.lit .all)))
  (t:=let y0:=wrF f (r.seq.tmod (↑f.pages.length:Int)) (enc r);.node (rcB r) (.req (w9 f) (.node (!flB f) (.leaf (.tuple [.agg f.cells,J 1])) (.node (f.dead) (.leaf (.tuple [.agg f.cells,J 17])) (.req (w9 f) (.node (r.seq != i64.wrap ((qP3 f).seq+1)) (.leaf (.tuple [.agg f.cells,J 11])) (.req (!(↑f.pages.length:Int)==0) (.req (w9 f) (.req (decide ((enc r).length<=100000)) (.leaf (.tuple [.agg [.list Ty.str y0.pages,J y0.fuse,.bool y0.dead,J y0.keep],J (wrE f (r.seq.tmod (↑f.pages.length:Int)) (enc r))])))))))))) (.leaf (.tuple [.agg f.cells,J 1])))
  (by kernel_rfl) (by
   have w:i64.wrap ((qP3 f).seq+1)=qP5 f+1:=by rw[qP6,w64 (by have:=qP4 f;omega) (by have:=qP4 f;omega)]
   rw[w]
   refine p7 (λa=>x0 h (f7 (λb=>(zn3 (.inr b)).symm) λb=>p7 (λd=>(zn4 a b d).symm) λd=>x0 h (q24 (λs=>(zn6 a b d s).symm) λs=>x0 ?_ (x0 h (x0 (by rw[zR7];rfl) ?_))))) λa=>(zn3 (.inl a)).symm
   .have:=(qq1.1 b).2.1
    rw[Bool.not_eq_true',beq_eq_false_iff_ne];omega
   .rw[zn5 a b d s];rfl) (by kernel_rfl) (by kernel_rfl)
theorem ya3:zW6.ok pP:=qh0 λf r h=>xa5 f r h
open Go.Sx
def yV2(f:Fl)(r:Rc):SV:=.tuple [(b7 f r).sv,.bool (yU7 f r==0)]
def z98:Fact:=qg9 121 λf r=>.req (w9 f) (.leaf (yV2 f r))
theorem xq9(f:Fl)(r:Rc)(h:w9 f=true):SCall pP 121 [f.sv,r.sv] (yV2 f r):=
 v8 mix [z39,zW6] ⟨yh0,ya3,trivial⟩ 1000 (.fork (.all) (.all))
  (t:=let y0:=Rc.mk r.kind (i64.wrap ((qP3 f).seq+1)) r.line r.done r.src r.dst;let y1:=Rc.mk r.kind 1 r.line r.done r.src r.dst;.req (w9 f) (.node ((lastO f).isSome) (.req (w9 f) (.leaf (.tuple [.agg [.list Ty.str (apF f y0).pages,J (apF f y0).fuse,.bool (apF f y0).dead,J (apF f y0).keep],.bool (apE f y0==0)]))) (.req (w9 f) (.leaf (.tuple [.agg [.list Ty.str (apF f y1).pages,J (apF f y1).fuse,.bool (apF f y1).dead,J (apF f y1).keep],.bool (apE f y1==0)])))))
  (by kernel_rfl) (by
   have w:i64.wrap ((qP3 f).seq+1)=qP5 f+1:=by rw[qP6,w64 (by have:=qP4 f;omega) (by have:=qP4 f;omega)]
   have e0:(lastO f).isSome=false->Rc.mk r.kind 1 r.line r.done r.src r.dst=q40 f r:=λk=>by
    have:lastO f=none:=by cases q:lastO f with
     |none=>rfl
     |some x=>rw[q]at k;cases k
    unfold q40 qP5;rw[this];rfl
   refine x0 h (p7 (λk=>x0 h ?_) λk=>x0 h ?_)
   .rw[w];rfl
   .rw[e0 k];rfl) (by kernel_rfl) (by kernel_rfl)
def yT4:Plan:=.fork (.all) (.all)
theorem rcX(f:Fl)(r:Rc):xD3 (Env.ofB pP (j9 [z38,fAp]) (s8 []) (p9 []) (p8 []) (j6 []) (j6 []) (j6 []) (j6 [])) 1000 (x9 pP 119) 1 (x6 37 []) (v7 pP 119) yT4 (v6 pP 119 [.ptr 0 0,r.sv]) [some (.cells f.cells)] =(.req (w9 f) (.req (w9 f) (.node (apE f (Rc.mk r.kind (i64.wrap ((qP3 f).seq+1)) r.line r.done r.src r.dst) != 0) (.leaf (.fin (.pan (SV.raw (Value.iface 200 (Value.agg (Array.mk [])))) [some (.cells [.list Ty.str (apF f (Rc.mk r.kind (i64.wrap ((qP3 f).seq+1)) r.line r.done r.src r.dst)).pages,J (apF f (Rc.mk r.kind (i64.wrap ((qP3 f).seq+1)) r.line r.done r.src r.dst)).fuse,.bool (apF f (Rc.mk r.kind (i64.wrap ((qP3 f).seq+1)) r.line r.done r.src r.dst)).dead,J (apF f (Rc.mk r.kind (i64.wrap ((qP3 f).seq+1)) r.line r.done r.src r.dst)).keep])]))) (.leaf (.fin (.ret (.tuple []) [some (.cells [.list Ty.str (apF f (Rc.mk r.kind (i64.wrap ((qP3 f).seq+1)) r.line r.done r.src r.dst)).pages,J (apF f (Rc.mk r.kind (i64.wrap ((qP3 f).seq+1)) r.line r.done r.src r.dst)).fuse,.bool (apF f (Rc.mk r.kind (i64.wrap ((qP3 f).seq+1)) r.line r.done r.src r.dst)).dead,J (apF f (Rc.mk r.kind (i64.wrap ((qP3 f).seq+1)) r.line r.done r.src r.dst)).keep])])))))):=by kernel_rfl
abbrev qm8:SV:=.raw (.iface 200 (.agg (Array.mk [])))
def zr2:BFact:=⟨119,λargs B=>match args with
 |[.agg [.int .i64 r0,.int .i64 r1,.int .i64 r2,.int .i64 r3,.int .i64 p0,.int .i64 p1,.int .i64 p2,.int .i64 p3,.int .i64 q0,.int .i64 q1,.int .i64 q2,.int .i64 q3]] =>match B with
  |.cells [.list .str p,.int .i64 a,.bool d,.int .i64 k] =>some (.req (w9 ⟨p,a,d,k⟩) (.node (yU7 ⟨p,a,d,k⟩ ⟨r0,r1,r2,r3,(p0,p1,p2,p3),(q0,q1,q2,q3)⟩==0)
    (.leaf (false,.tuple [],.cells (b7 ⟨p,a,d,k⟩ ⟨r0,r1,r2,r3,(p0,p1,p2,p3),(q0,q1,q2,q3)⟩).cells))
    (.leaf (true,qm8,.cells (b7 ⟨p,a,d,k⟩ ⟨r0,r1,r2,r3,(p0,p1,p2,p3),(q0,q1,q2,q3)⟩).cells))))
  |_=>none
 |_=>none⟩
theorem yn5:z98.ok pP:=qh0 λf r h=>xq9 f r h
end Go.Proofs.YtnkaepnblikcdaaGreat
namespace Go.Sx
open Go.RowKit
theorem xC4{β:Type}{Φ:β->Prop}:∀ (t:Tree β),(∀x,t.holds (λy=>y=x)->Φ x)->t.says Φ
 |.leaf a,h=>h a rfl
 |.node b t f,h=>⟨λhb=>xC4 t λx hx=>h x ⟨λ_=>hx,λhb'=>by rw[hb]at hb';cases hb'⟩,λhb=>xC4 f λx hx=>h x ⟨λhb'=>(by rw[hb]at hb';cases hb'),λ_=>hx⟩⟩
 |.req b t,h=>λhb=>xC4 t λx hx=>h x ⟨hb,hx⟩
 |.fail _,_=>trivial
noncomputable def goS(E:Env)(n:Nat)(f:FuncId)(args:List SV)(m:Mem):Tree Ex:=
 match E.fn f with
 |some fn=>match fn.body with
  | some body => match fn.name == "runtime.NumGoroutine" with
    |false=>Fr.make fn.ntmps args λfr=>exec E n [.code body] .all fr m λo=>match o with
     |.ret _ fr m=>results E fn m fr λv=>.leaf (.ok v m)
     |.pan v _ m=>.leaf (.pan v m)
     |.stop _ _ _=>.fail 200
    |true=>.fail 143
  |none=>.fail 144
 |none=>.fail 145
noncomputable def goP(E:Env)(n:Nat)(f:FuncId):PFact:=⟨f,λargs m=>some (goS E n f args m)⟩
variable{P:Program}
theorem qw4{E:Env}(hK:Known P E)(n:Nat)(f:FuncId):(goP E n f).ok P:=by
 intro args m t ht;injection ht with ht;subst ht
 refine xC4 _ λx h=>?_
 unfold goS at h
 split at h
 .rename_i fn hfn
  have hf:=hK.e.fn f fn hfn
  split at h
  .rename_i body hb
   split at h
   .rename_i hn
    obtain⟨fr,h1,h2,h3,h4⟩:=qV1 h;obtain⟨out,h5,h6⟩:=zV6 hK.e hK.s hK.mix n _ _ _ _ _ _ h1
    cases out with
    |stop it fr' m'=>exact h5.elim
    |ret p' fr' mc=>
     dsimp only at h5;obtain⟨v',h7,h8⟩:=yZ8 hK.e h5;have h7:Ex.ok v' mc=x:=h7;subst h7;intro w0 R0 I w vs hm hvs;show zc1 P _ ((Go.callFunc f vs.toArray).run P w);rw[zz2 hf hb hn];exact zA0 hf hb h6 h8 hm (qs1 h2 h3 h4 hvs)
    |pan v' fr' mc=>
     have h5:Ex.pan v' mc=x:=h5;subst h5;intro w0 R0 I w vs hm hvs;show zc7 P _ ((Go.callFunc f vs.toArray).run P w);rw[zz2 hf hb hn];have hfr:=qs1 h2 h3 h4 hvs;intro cs
     let b:Frame:={ (default:Frame)with fn:=f,kind:=.normal}
     have henter:Frame.enter P f vs.toArray .normal=b.at {tmps:=vs.toArray++Array.replicate (fn.ntmps-vs.toArray.size) Go.undef,defers:=[]} [.code body] :=by
      simp[Frame.enter,Frame.at,hf,hb,b]
     obtain⟨I',w',a',todo,u,g1,g2,g3,g4⟩:=h6 w0 R0 I w {tmps:=vs.toArray++Array.replicate (fn.ntmps-vs.toArray.size) Go.undef,defers:=[]} ⟨hm,hfr,rfl⟩ b cs;exact⟨.panicked [{v:=u,recovered:=false}],w',_,⟨u,rfl,I',g1.1,g2,g3⟩,by rw[henter];exact g4,rfl,rfl,g1.2.2,_,hf⟩
   .exact h.elim
  .exact h.elim
 .exact h.elim
def qJ2(d:Tmp)(c:Call):Bool:=match c.callee with
 |.value g=>match g with
  |.tmp t=>Nat.beq t d&&c.args.toList.isEmpty
  |_=>false
 |_=>false
def qQ3(ops:List Oper):Option (Tmp×FuncId×List Operand):=match ops with
 |[o1,o2] =>match o1.guard,o2.guard,o2.dst with
  |none,none,none=>match o1.dst with
   |some d=>match o1.op with
    |.makeFunc (.func g) first cap=>match o2.op with
     |.defer c=>match first.toList.isEmpty&&qJ2 d c with
      |true=>some (d,g,cap.toList)
      |false=>none
     |_=>none
    |_=>none
   |none=>none
  |_,_,_=>none
 |_=>none
theorem qQ4{ops:List Oper}{x:Tmp×FuncId×List Operand}(h:qQ3 ops=some x):∃o1 o2 cap c,ops=[o1,o2] /\o1.op=.makeFunc (.func x.2.1) #[] cap/\o1.guard=none/\o1.dst=some x.1/\o2.op=.defer c/\c.callee=.value (.tmp x.1)/\c.args=#[] /\o2.guard=none/\o2.dst=none/\cap.toList=x.2.2:=by
 unfold qQ3 at h
 split at h
 .rename_i o1 o2
  split at h
  .rename_i g1 g2 g3
   split at h
   .rename_i d hd
    split at h
    .rename_i g first cap hop
     split at h
     .rename_i c hc
      split at h
      .rename_i hb
       injection h with h;subst h;rw[Bool.and_eq_true]at hb
       have e1:first=#[] :=by
        have:=hb.1;apply Array.ext'
        simpa using this
       subst e1;have h2:=hb.2;unfold qJ2 at h2
       split at h2
       .rename_i g' hg'
        split at h2
        .rename_i t
         rw[Bool.and_eq_true]at h2;have e2:=Nat.eq_of_beq_eq_true h2.1;subst e2;refine⟨o1,o2,cap,c,rfl,hop,g1,hd,hc,hg',?_,g2,g3,rfl⟩;apply Array.ext'
         simpa using h2.2
        .cases h2
       .cases h2
      .cases h
     .cases h
    .cases h
   .cases h
  .cases h
 .cases h
def yU8(ops:List Oper):Option Tmp:=match ops with
 |o::_=>match o.guard with
  |none=>match o.op with
   |.call c=>match c.callee with
    |.builtin .recover=>o.dst
    |_=>none
   |_=>none
  |some _=>none
 |[] =>none
theorem yU9{ops:List Oper}{d:Tmp}(h:yU8 ops=some d):∃o rest,ops=o::rest/\o.guard=none/\o.dst=some d/\∀ev w,(Go.execOp ev o).run P w=.ok .recover w:=by
 unfold yU8 at h
 split at h
 .rename_i o rest
  split at h
  .rename_i hg
   split at h
   .rename_i c hop
    split at h
    .rename_i hc
     refine⟨o,rest,rfl,hg,h,λev w=>?_⟩;obtain⟨dst,op,ty,pos,after,guard⟩:=o;dsimp only at hop;subst hop;simp[Go.execOp,resolve,invoke,builtin,hc]
    .cases h
   .cases h
  .cases h
 .cases h
section
variable {O:Type}
noncomputable def yV0(Ec Eb:Env)(n:Nat)(g:FuncId)(caps:List SV)(hand:SV)(m:Mem)(k:Mem->Tree O):Tree O:=
 match Eb.fn g with
 |some fg=>match fg.body with
  | some cg => match fg.name == "runtime.NumGoroutine" with
    |false=>Fr.make fg.ntmps caps λfr=>exec Ec n [.code cg] .all fr m λo=>match o with
     |.stop items fr m=>match items with
      |.code c::kg=>match c with
       |.region _ ops false=>match yU8 ops.toList with
        |some d=>yP4 fr (some d) hand λfr=>exec Eb n (.inRegion ops (List.range' 1 (ops.size-1))::kg) .all fr m λo=>match o with
         |.ret _ fr m=>results Eb fg m fr λ_=>k m
         |_=>.fail 204
        |none=>.fail 203
       |_=>.fail 203
      |_=>.fail 203
     |_=>.fail 203
    |true=>.fail 143
  |none=>.fail 144
 |none=>.fail 145
noncomputable def zK4(Ea Eb Ec:Env)(n:Nat)(f:FuncId)(args:List SV)(m:Mem):Tree (SV×Mem):=
 match Eb.fn f with
 |some fn=>match fn.body with
  | some body => match fn.name == "runtime.NumGoroutine" with
    |false=>Fr.make fn.ntmps args λfr=>exec Ea n [.code body] .all fr m λo=>match o with
     |.stop items fr1 m=>match items with
      |.code c::k=>match c with
       |.region _ ops false=>match qQ3 ops.toList with
        |some x=>yP4 fr1 (some x.1) .top λfr=>exec Eb n k .all fr m λo=>match o with
         |.ret _ fr m=>yV0 Ec Eb n x.2.1 (x.2.2.map (o8 fr1)) (.raw .nilIface) m λm=>results Eb fn m fr λv=>.leaf (v,m)
         |.pan u fr m=>yV0 Ec Eb n x.2.1 (x.2.2.map (o8 fr1)) u m λm=>results Eb fn m fr λv=>.leaf (v,m)
         |_=>.fail 202
        |none=>.fail 201
       |_=>.fail 201
      |_=>.fail 201
     |_=>.fail 201
    |true=>.fail 143
  |none=>.fail 144
 |none=>.fail 145
end
noncomputable def zK5(Ea Eb Ec:Env)(n:Nat)(f:FuncId):WFact:=⟨f,λargs m=>some (zK4 Ea Eb Ec n f args m)⟩
theorem yV1{Ec Eb:Env}(hc:Known P Ec)(hb:Known P Eb){n:Nat}{g:FuncId}{caps:List SV}{m:Mem}{O:Type}{k:Mem->Tree O}{L:O->Prop}{r:Fin}(h:(yV0 Ec Eb n g caps r.hand m k).holds L):
  ∃m',(k m').holds L/\∀w0 R0 I w (a:Act) (b:Frame) (cs:List Frame) (todo:List Item) (u:Value) (cap:Array Value),MRel w0 R0 I w m->j7 (RO w0 R0 I w m) I m.next w caps cap.toList->a.defers=[{target:=.fn (.func g) cap,args:=#[]}] ->
   Rep (RO w0 R0 I w m) I m.next w r.hand (r.got u)->∃I' w',MRel w0 R0 I' w' m'/\b8 w0 R0 I w m I' w' m'/\Steps P (lone {b.at a todo with mode:=r.mode u} cs w) (lone {b.at {a with defers:=[]} todo with mode:=.returning} cs w'):=by
 unfold yV0 at h
 split at h
 case h_2=>exact h.elim
 rename_i fg hfg;have hfg:=hb.e.fn g fg hfg
 split at h
 case h_2=>exact h.elim
 rename_i cg hbg
 split at h
 case h_2=>exact h.elim
 rename_i hng;obtain⟨frg,h1,h2,h3,h4⟩:=qV1 h;obtain⟨out,h5,h6⟩:=zV6 hc.e hc.s hc.mix n _ _ _ _ _ _ h1
 cases out with
 |ret p fr' m'=>exact h5.elim
 |pan v fr' m'=>exact h5.elim
 |stop items fr1 m1=>
  dsimp only at h5
  split at h5
  case h_2=>exact h5.elim
  rename_i c kg
  split at h5
  case h_2=>exact h5.elim
  rename_i i0 opsg
  split at h5
  case h_2=>exact h5.elim
  rename_i d0 hrec;obtain⟨o0,rest,hops,hog,hod,hrun⟩:=yU9 (P:=P) hrec;obtain⟨fr2,h7,h8⟩:=yP5 h5;obtain⟨out2,h9,h10⟩:=zV6 hb.e hb.s hb.mix n _ _ _ _ _ _ h8
  cases out2 with
  |stop it fr' m'=>exact h9.elim
  |pan v fr' m'=>exact h9.elim
  |ret p3 fr3 m3=>
   dsimp only at h9;obtain⟨vg,h11,h12⟩:=yZ8 hb.e h9;refine⟨m3,h11,λw0 R0 I w a b cs todo u cap hm hcap hdef hhand=>?_⟩
   have hop:opsg[0]? =some o0:=by rw[<-Array.getElem?_toList,hops];rfl
   have hszg:0<opsg.size:=by rw[<-Array.length_toList,hops];simp
   have hMrun:r.mode u≠.run:=by cases r<;>simp[Fin.mode]
   have hstep2:=step_defer (P:=P) (fr:={b.at a todo with mode:=r.mode u}) (cs:=cs) (w:=w) (d:={target:=.fn (.func g) cap,args:=#[]}) (ds:=[]) (fv:=.func g) (cap:=cap) (f:=g) (args:=cap) hMrun hdef rfl (by
    show(Go.callFunc g (#[] ++cap)).run P w=_;rw[Array.empty_append]
    exact zz2 hfg hbg hng _ _)
   let bg:Frame:={ (default:Frame)with fn:=g,kind:=.deferred}
   have henter:Frame.enter P g cap .deferred=bg.at {tmps:=cap.toList.toArray++Array.replicate (fg.ntmps-cap.toList.toArray.size) Go.undef,defers:=[]} [.code cg] :=by
    simp[Frame.enter,Frame.at,hfg,hbg,bg]
   obtain⟨ρ1,w1,a1,s1,x1,st1⟩:=h6 w0 R0 I w {tmps:=cap.toList.toArray++Array.replicate (fg.ntmps-cap.toList.toArray.size) Go.undef,defers:=[]} ⟨hm,qs1 h2 h3 h4 hcap,rfl⟩ bg ({{b.at a todo with mode:=r.mode u} with defers:=[]}::cs)
   have hrange:List.range opsg.size=0::List.range' 1 (opsg.size-1):=by
    rw[List.range_eq_range',show opsg.size=(opsg.size-1)+1 by omega,List.range'_succ];simp
   have hstep3:=step_region (P:=P) (b:=bg) (a:=a1) (k:=kg) (cs:={{b.at a todo with mode:=r.mode u} with defers:=[]}::cs) (w:=w1) (ops:=opsg) (id:=i0);rw[hrange]at hstep3
   have hstep4:=yV3 (P:=P) (b:=bg) (a:=a1) (k:=kg) (cs:={{b.at a todo with mode:=r.mode u} with defers:=[]}::cs) (cs':={{b.at a todo with mode:=r.mode2 u} with defers:=[]}::cs) (w:=w1) (ops:=opsg) (i:=0) (rest:=List.range' 1 (opsg.size-1)) (v:=r.got u) rfl hop hog (hrun _ _) (by
    cases r with
    |ret v0 bs=>exact .inr ⟨rfl,rfl,rfl⟩
    |pan v0 bs=>exact .inl rfl)
   rw[hod]at hstep4;have s2:m8 [] w0 R0 ρ1 w1 fr2 m1 (a1.put (some d0) (r.got u)):=⟨s1.1,zb4.put s1.2.1 h7 (Rep.mono x1 _ _ hhand),by rw[yP6];exact s1.2.2⟩;obtain⟨ρ2,w2,a2,todo2,g1,g2,g3⟩:=h10 w0 R0 ρ1 w1 _ s2 bg ({{b.at a todo with mode:=r.mode2 u} with defers:=[]}::cs);obtain⟨u3,r1,r2⟩:=h12 w0 R0 ρ2 w2 a2 g1;have hstep5:=step_going_returned (P:=P) (fr:={bg.at a2 todo2 with mode:=.returning}) (c:={{b.at a todo with mode:=r.mode2 u} with defers:=[]}) (cs:=cs) (w:=w2) (v:=u3) rfl ⟨rfl,g1.2.2,fg,hfg,r1⟩
   have hsettle:settle (r.mode2 u)=.returning:=by cases r<;>rfl
   refine⟨ρ2,w2,g1.1,x1.trans g2,?_⟩;rw[henter]at hstep2;refine .head hstep2 (Steps.trans st1 (.head hstep3 (.head hstep4 (Steps.trans g3 (.one ?_)))));rw[hstep5];dsimp only;rw[hsettle];rfl
theorem zK6{Ea Eb Ec:Env}(ha:Known P Ea)(hb:Known P Eb)(hc:Known P Ec)(n:Nat)(f:FuncId):(zK5 Ea Eb Ec n f).ok P:=by
 intro args m t ht;injection ht with ht;subst ht
 refine xC4 _ λy h=>?_
 unfold zK4 at h
 split at h
 case h_2=>exact h.elim
 rename_i fn hfn;have hf:=hb.e.fn f fn hfn
 split at h
 case h_2=>exact h.elim
 rename_i body hbd
 split at h
 case h_2=>exact h.elim
 rename_i hn;obtain⟨fr,h1,h2,h3,h4⟩:=qV1 h;obtain⟨out,h5,h6⟩:=zV6 ha.e ha.s ha.mix n _ _ _ _ _ _ h1
 cases out with
 |ret p fr' m'=>exact h5.elim
 |pan v fr' m'=>exact h5.elim
 |stop items fr1 m1=>
  dsimp only at h5
  split at h5
  case h_2=>exact h5.elim
  rename_i c k
  split at h5
  case h_2=>exact h5.elim
  rename_i id ops
  split at h5
  case h_2=>exact h5.elim
  rename_i x hlay;obtain⟨o1,o2,cap,c,hops,g1,g1g,g1d,g2,g2c,g2a,g2g,g2d,hcap⟩:=qQ4 hlay;obtain⟨fr2,h7,h8⟩:=yP5 h5;obtain⟨out2,h9,h10⟩:=zV6 hb.e hb.s hb.mix n _ _ _ _ _ _ h8
  -- all that is left, for both ends
  have fin:∀ (r:Fin) (fr3:Fr) (m2:Mem),(yV0 Ec Eb n x.2.1 (x.2.2.map (o8 fr1)) r.hand m2 λm=>results Eb fn m fr3 λv=>.leaf (v,m)).holds (λz=>z=y)->
    (∀ds w0 R0 I w a,m8 ds w0 R0 I w fr2 m1 a->∀ (b:Frame) (cs:List Frame),∃I' w' a' todo u,m8 ds w0 R0 I' w' fr3 m2 a'/\b8 w0 R0 I w m1 I' w' m2/\Rep (RO w0 R0 I' w' m2) I' m2.next w' r.hand (r.got u)/\Steps P (lone (b.at a k) cs w) (lone {b.at a' todo with mode:=r.mode u} cs w'))->ze4 P f args m y:=by
   intro r fr3 m2 hr hgo;obtain⟨m3,h11,h12⟩:=yV1 hc hb hr;obtain⟨v,h13,h14⟩:=yZ8 hb.e h11;have h13:(v,m3)=y:=h13;subst h13;intro w0 R0 I w vs hm hvs;show zc1 P _ ((Go.callFunc f vs.toArray).run P w);rw[zz2 hf hbd hn];have hfr:=qs1 h2 h3 h4 hvs;intro cs
   let b:Frame:={ (default:Frame)with fn:=f,kind:=.normal}
   have henter:Frame.enter P f vs.toArray .normal=b.at {tmps:=vs.toArray++Array.replicate (fn.ntmps-vs.toArray.size) Go.undef,defers:=[]} [.code body] :=by
    simp[Frame.enter,Frame.at,hf,hbd,b]
   obtain⟨ρ1,w1,a1,s1,x1,st1⟩:=h6 w0 R0 I w {tmps:=vs.toArray++Array.replicate (fn.ntmps-vs.toArray.size) Go.undef,defers:=[]} ⟨hm,hfr,rfl⟩ b cs
   have hda:x.1<a1.tmps.size:=by rw[<-s1.2.1.1];exact h7.2.1 _ rfl
   obtain⟨e,a2,w2,⟨rfl,rfl,rfl⟩,harr⟩:=zK7 (P:=P) (id:=id) hops g1 g1g g1d g2 g2c g2a g2g g2d a1 w1 hda b k cs
   have s2:m8 [{target:=.fn (.func x.2.1) (cap.map a1.eval),args:=#[]}] w0 R0 ρ1 w2 fr2 m1 {tmps:=a1.tmps.setIfInBounds x.1 (.func (.func x.2.1) #[] (cap.map a1.eval)),defers:={target:=.fn (.func x.2.1) (cap.map a1.eval),args:=#[]}::a1.defers}:=
    ⟨s1.1,zb4.put (d:=some x.1) (u:=.func (.func x.2.1) #[] (cap.map a1.eval)) s1.2.1 h7 trivial,by rw[s1.2.2]⟩
   obtain⟨ρ3,w3,a3,todo,u,s3,x3,hu,st3⟩:=hgo _ w0 R0 ρ1 w2 _ s2 b cs
   have hcv:j7 (RO w0 R0 ρ3 w3 m2) ρ3 m2.next w3 (x.2.2.map (o8 fr1)) (cap.map a1.eval).toList:=by
    rw[Array.toList_map,hcap];exact j7.mono x3 _ _ (j7.map _ _ _ λz _=>s1.2.1.eval z)
   obtain⟨ρ4,w4,g5,g6,st4⟩:=h12 w0 R0 ρ3 w3 a3 b cs todo u (cap.map a1.eval) s3.1 hcv s3.2.2 hu;obtain⟨uv,r1,r2⟩:=h14 w0 R0 ρ4 w4 {a3 with defers:=[]} (⟨g5,s3.2.1.mono g6,rfl⟩:m8 [] w0 R0 ρ4 w4 fr3 m3 {a3 with defers:=[]});exact⟨.returned uv,w4,_,⟨uv,rfl,ρ4,g5,x1.trans (x3.trans g6),r2⟩,by rw[henter];exact Steps.trans st1 (Steps.trans harr (Steps.trans st3 st4)),rfl,rfl,rfl,rfl,fn,hf,r1⟩
  cases out2 with
  |stop it fr' m'=>exact h9.elim
  |ret p3 fr3 m2=>
   dsimp only at h9
   refine fin (.ret .undef []) fr3 m2 h9 λds w0 R0 I w a hs b cs=>?_
   obtain⟨I',w',a',todo,q1,q2,q3⟩:=h10 w0 R0 I w a hs b cs;exact⟨I',w',a',todo,.nilIface,q1,q2,rfl,q3⟩
  |pan v fr3 m2=>
   dsimp only at h9
   refine fin (.pan v []) fr3 m2 h9 λds w0 R0 I w a hs b cs=>?_
   obtain⟨I',w',a',todo,u,q1,q2,q3,q4⟩:=h10 w0 R0 I w a hs b cs;exact⟨I',w',a',todo,u,q1,q2,q3,q4⟩
end Go.Sx
namespace Go.Proofs
open Go.Shelf Go.RowKit Go.Lib Go.Sort
def Tryz.sortRc_ren:Ren:=⟨fun|6=>256|15=>286|14=>285|28=>317|29=>318|20=>309|21=>310|22=>311|23=>312|24=>313|25=>314|26=>315|27=>316|46=>326|47=>327|48=>328|49=>329|50=>330|57=>336|n=>n,fun|22=>190|24=>134|25=>239|3=>3|39=>170|0=>0|53=>281|55=>225|4=>4|46=>274|45=>273|50=>278|5=>5|9=>9|66=>287|70=>161|76=>295|77=>164|n=>n,fun|n=>n⟩
theorem Tryz.sortRc:SlLaysF0.n6 Tryz.prog Tryz.sortRc_ren:={
 mixed:=by kernel_rfl
 f6:=⟨Tryz.f256.name,by decide,Tryz.func256.trans (congrArg some (by kernel_rfl))⟩
 f14:=⟨Tryz.f285.name,by decide,Tryz.func285.trans (congrArg some (by kernel_rfl))⟩
 f15:=Tryz.func286.trans (congrArg some (by kernel_rfl))
 f20:=⟨Tryz.f309.name,by decide,Tryz.func309.trans (congrArg some (by kernel_rfl))⟩
 f21:=⟨Tryz.f310.name,by decide,Tryz.func310.trans (congrArg some (by kernel_rfl))⟩
 f22:=⟨Tryz.f311.name,by decide,Tryz.func311.trans (congrArg some (by kernel_rfl))⟩
 f23:=⟨Tryz.f312.name,by decide,Tryz.func312.trans (congrArg some (by kernel_rfl))⟩
 f24:=⟨Tryz.f313.name,by decide,Tryz.func313.trans (congrArg some (by kernel_rfl))⟩
 f25:=⟨Tryz.f314.name,by decide,Tryz.func314.trans (congrArg some (by kernel_rfl))⟩
 f26:=⟨Tryz.f315.name,by decide,Tryz.func315.trans (congrArg some (by kernel_rfl))⟩
 f27:=⟨Tryz.f316.name,by decide,Tryz.func316.trans (congrArg some (by kernel_rfl))⟩
 f28:=Tryz.func317.trans (congrArg some (by kernel_rfl))
 f29:=Tryz.func318.trans (congrArg some (by kernel_rfl))
 f46:=⟨Tryz.f326.name,by decide,Tryz.func326.trans (congrArg some (by kernel_rfl))⟩
 f47:=Tryz.func327.trans (congrArg some (by kernel_rfl))
 f48:=Tryz.func328.trans (congrArg some (by kernel_rfl))
 f49:=⟨Tryz.f329.name,by decide,Tryz.func329.trans (congrArg some (by kernel_rfl))⟩
 f50:=⟨Tryz.f330.name,by decide,Tryz.func330.trans (congrArg some (by kernel_rfl))⟩
 f57:=⟨Tryz.f336.name,by decide,Tryz.func336.trans (congrArg some (by kernel_rfl))⟩
 t0:=Tryz.underlying0
 a0:=Tryz.isAgg0
 z0:=Tryz.sizeOf0
 v0:=Tryz.zeroValue0
 t3:=Tryz.underlying3
 a3:=Tryz.isAgg3
 z3:=Tryz.sizeOf3
 v3:=Tryz.zeroValue3
 t4:=Tryz.underlying4
 a4:=Tryz.isAgg4
 z4:=Tryz.sizeOf4
 v4:=Tryz.zeroValue4
 t5:=Tryz.underlying5
 a5:=Tryz.isAgg5
 z5:=Tryz.sizeOf5
 v5:=Tryz.zeroValue5
 t9:=Tryz.underlying9
 a9:=Tryz.isAgg9
 z9:=Tryz.sizeOf9
 v9:=Tryz.zeroValue9
 t22:=Tryz.underlying190
 a22:=Tryz.isAgg190
 z22:=Tryz.sizeOf190
 v22:=Tryz.zeroValue190
 t25:=Tryz.underlying239
 a25:=Tryz.isAgg239
 z25:=Tryz.sizeOf239
 v25:=Tryz.zeroValue239
 t39:=Tryz.underlying170
 a39:=Tryz.isAgg170
 z39:=Tryz.sizeOf170
 v39:=Tryz.zeroValue170
 t45:=Tryz.underlying273
 a45:=Tryz.isAgg273
 z45:=Tryz.sizeOf273
 v45:=Tryz.zeroValue273
 t46:=Tryz.underlying274
 a46:=Tryz.isAgg274
 z46:=Tryz.sizeOf274
 v46:=Tryz.zeroValue274
 t50:=Tryz.underlying278
 a50:=Tryz.isAgg278
 z50:=Tryz.sizeOf278
 v50:=Tryz.zeroValue278
 t53:=Tryz.underlying281
 a53:=Tryz.isAgg281
 z53:=Tryz.sizeOf281
 v53:=Tryz.zeroValue281
 t55:=Tryz.underlying225
 a55:=Tryz.isAgg225
 z55:=Tryz.sizeOf225
 v55:=Tryz.zeroValue225
 t66:=Tryz.underlying287
 a66:=Tryz.isAgg287
 z66:=Tryz.sizeOf287
 v66:=Tryz.zeroValue287
 t70:=Tryz.underlying161
 a70:=Tryz.isAgg161
 z70:=Tryz.sizeOf161
 v70:=Tryz.zeroValue161
 t76:=Tryz.underlying295
 a76:=Tryz.isAgg295
 z76:=Tryz.sizeOf295
 v76:=Tryz.zeroValue295
 t77:=Tryz.underlying164
 a77:=Tryz.isAgg164
 z77:=Tryz.sizeOf164
 v77:=Tryz.zeroValue164 }
def Tryz.cmpInt_ren:Ren:=⟨fun|5=>258|7=>287|n=>n,fun|22=>3|3=>3|4=>4|n=>n,fun|n=>n⟩
theorem Tryz.cmpInt:SlLaysC2.n5 Tryz.prog Tryz.cmpInt_ren:={
 mixed:=by kernel_rfl
 f5:=⟨Tryz.f258.name,by decide,Tryz.func258.trans (congrArg some (by kernel_rfl))⟩
 f7:=⟨Tryz.f287.name,by decide,Tryz.func287.trans (congrArg some (by kernel_rfl))⟩
 t3:=Tryz.underlying3
 a3:=Tryz.isAgg3
 z3:=Tryz.sizeOf3
 v3:=Tryz.zeroValue3
 t4:=Tryz.underlying4
 a4:=Tryz.isAgg4
 z4:=Tryz.sizeOf4
 v4:=Tryz.zeroValue4
 t22:=Tryz.underlying3
 a22:=Tryz.isAgg3
 z22:=Tryz.sizeOf3
 v22:=Tryz.zeroValue3 }
end Go.Proofs
namespace Go.Proofs.YtnkaepnblikcdaaGreat
open Go.Sx Go.RowKit Go.Lib Go.Sort
def zR3(x:RT):List Value:=[.int .i64 x.1,.int .i64 x.2.1,.int .i64 x.2.2.1,.int .i64 x.2.2.2.1,.int .i64 x.2.2.2.2.1.1,.int .i64 x.2.2.2.2.1.2.1,.int .i64 x.2.2.2.2.1.2.2.1,.int .i64 x.2.2.2.2.1.2.2.2,.int .i64 x.2.2.2.2.2.1,.int .i64 x.2.2.2.2.2.2.1,.int .i64 x.2.2.2.2.2.2.2.1,.int .i64 x.2.2.2.2.2.2.2.2]
theorem zR4(x:RT):∀v∈zR3 x,v.oneCell'=true:=by
 intro v hv;simp only[zR3,List.mem_cons,List.not_mem_nil,or_false]at hv
 rcases hv with rfl|rfl|rfl|rfl|rfl|rfl|rfl|rfl|rfl|rfl|rfl|rfl<;>rfl
set_option maxHeartbeats 1000000 in
theorem zm8(x y:RT)(W:World):Calls pP 257 #[.agg (zR3 x).toArray,.agg (zR3 y).toArray] W λe w'=>e=.returned (.int .i64 (Lib.compareInt x.2.1 y.2.1))/\∃q os',w'=grow (W.drewN q) os':=by
 have hcon:=λW'=>AnyG.cmp_Compare_int Tryz.cmpInt x.2.1 y.2.1 W'
 change ∀W',Calls pP 258 _ _ _ at hcon
 generalize Lib.compareInt x.2.1 y.2.1=r at hcon ⊢;unfold zR3
 go_enter Tryz.func257,Tryz.ntmps257
 go_wp2_with (go_at_call 258;refine(hcon _).mono ?_;rintro e w' ⟨rfl,rfl⟩)
 go_ret
 exact⟨rfl,0,_,by rw[alloc_eq_grow,alloc_eq_grow,grow_grow];rfl⟩
theorem qU3(x y:RT):ltOf (λx y:RT=>Lib.compareInt x.2.1 y.2.1) x y=decide (x.2.1<y.2.1):=by
 unfold ltOf Lib.compareInt
 by_cases h1:x.2.1<y.2.1
 .simp[h1]
 .by_cases h2:y.2.1<x.2.1<;>simp[h1,h2]
theorem xM7:SWO (ltOf λx y:RT=>Lib.compareInt x.2.1 y.2.1) where
 irrefl x:=by rw[qU3];simp
 trans x y z h1 h2:=by rw[qU3]at *;simp at *;omega
 ntrans x y z h1 h2:=by rw[qU3]at *;simp at *;omega
theorem qJ0(w:World):(isAgg 134).run pP w=.ok true w:=by
 simp[isAgg,run_underlying Tryz.underlying134]
theorem qH3:(pP.info? 134).map (λi=>(i.zero,i.size,i.bytes))=some (some (.agg #[.int .i64 0,.int .i64 0,.int .i64 0,.int .i64 0,.int .i64 0,.int .i64 0,.int .i64 0,.int .i64 0,.int .i64 0,.int .i64 0,.int .i64 0,.int .i64 0]),12,96):=by kernel_rfl
theorem xF5(w:World):(Go.sizeOf 134).run pP w=.ok 12 w:=by
 obtain⟨i0,hi0,hz0,hz1,hz2⟩:=info_parts qH3;simp[Go.sizeOf,typeInfo,hi0,hz1]
theorem xG8(blk cap:Nat)(d:Array RT)(w:World)(hH:HoldsK zR3 12 w blk 0 d)(hblk:blk<w.heap.size)(hsz:d.size<4611686018427387904):
  Calls pP 256 #[.slice (some ⟨blk,0,none⟩) d.size cap,.func (.func 257) #[] #[]] w λe w'=>e=.returned (.tuple #[])/\∃d' n os,PermIn 0 d.size d d'/\SortedIn (ltOf λx y:RT=>Lib.compareInt x.2.1 y.2.1) 0 d.size d'/\w'=sortWorldK zR3 12 w blk 0 n d' os:=by
 have eg:∀args w,(Go.callFunc 257 args).run pP w=.ok (.enter 257 args) w:=enters_of Tryz.func257 (by kernel_rfl) rfl;have hcon:=AnyQ.slices_SortFunc Tryz.sortRc 12 qJ0 xF5 zR3 (λ_=>rfl) zR4 (λx y=>Lib.compareInt x.2.1 y.2.1) xM7 257 #[] blk 0 cap d w eg (λ_ _ _ _ x y=>zm8 x y _) hH hblk hsz;exact hcon
open Go.Sx
theorem xt8 :SCall pP 256 [.list e9 [],.fn 257 [] []] (.tuple []):=
 v8 mix [] trivial 2000 (.auto)
  (t:=.req (true) (.leaf (SV.tuple [])))
  (by kernel_rfl) (by exact⟨rfl,rfl⟩) (by kernel_rfl) (by kernel_rfl)
theorem MRel.grown{w0:World}{R0:RSet}{I:Rho}{w w':World}{m:Mem}(h:MRel w0 R0 I w m)(hos:w'.os=w.os)(ht:w'.tape=w.tape)(hp:w'.output=w.output)(hsz:w.heap.size<=w'.heap.size)(hold:∀k,k<w.heap.size->w'.heap[k]? =w.heap[k]?):MRel w0 R0 I w' m/\b8 w0 R0 I w m I w' m:=by
 have hro:∀b,RO w0 R0 I w m b->RO w0 R0 I w' m b:=λb hb=>by
  rcases hb with hb|⟨h1,h2,h3⟩
  .exact .inl hb
  .exact .inr ⟨h1,by omega,h3⟩
 have e:b8 w0 R0 I w m I w' m:=⟨Nat.le_refl _,λ_ _=>rfl,λb hb=>⟨hro b hb,hold b (h.ro_lt hb)⟩⟩;have hs0:=h.size_le;exact⟨⟨h.below.trans ⟨hos,ht,hp,hsz,λk hk=>hold k (by omega)⟩,h.lt,h.lo,λk C hk hs=>Nat.lt_of_lt_of_le (h.hi k C hk hs) hsz,h.inj,λk C hk=>za2.mono e C (λhs=>hold _ (h.hi k C hk hs)) (h.box k C hk),λb hb=>⟨by have:=(h.hid.1 b hb).1;omega,(hold b (h.hid.1 b hb).1).trans (h.hid.1 b hb).2⟩,h.hid.2⟩,e⟩
theorem yW2{R:Nat->Prop}{w:World}{x:RT}{v:List Value}:r8 R w e9 x v↔v=zR3 x:=by
 constructor
 .intro h
  simp only[e9,r8]at h;obtain⟨_,_,rfl,rfl,_,_,rfl,rfl,_,_,rfl,rfl,_,_,rfl,rfl,_,_,rfl,⟨_,_,rfl,rfl,_,_,rfl,rfl,_,_,rfl,rfl,rfl⟩,_,_,rfl,rfl,_,_,rfl,rfl,_,_,rfl,rfl,rfl⟩:=h;rfl
 .rintro rfl
  simp only[e9,r8];exact⟨[_],_,rfl,rfl,[_],_,rfl,rfl,[_],_,rfl,rfl,[_],_,rfl,rfl,[_,_,_,_],_,rfl,⟨[_],_,rfl,rfl,[_],_,rfl,rfl,[_],_,rfl,rfl,rfl⟩,[_],_,rfl,rfl,[_],_,rfl,rfl,[_],_,rfl,rfl,rfl⟩
theorem xG9{l:List RT}{d':Array RT}(hd:zL9 (l.map yT2))(hp:PermIn 0 l.toArray.size l.toArray d')(hs:SortedIn (ltOf λx y:RT=>Lib.compareInt x.2.1 y.2.1) 0 l.toArray.size d'):d'.toList=(xG3 (l.map yT2)).map Rc.t:=by
 obtain⟨p1,p2,p3⟩:=hp
 have e1:(d'.extract 0 l.toArray.size).toList=d'.toList:=by rw[<-p1];simp
 have e2:(l.toArray.extract 0 l.toArray.size).toList=l:=by simp
 rw[e1,e2]at p3
 have asc:∀ (k:List RT),(∀i j,i<j->j<k.length->¬(k.getD j default).2.1< (k.getD i default).2.1)->zp1 (k.map yT2):=by
  intro k
  induction k with
  |nil=>intro _;trivial
  |cons x k ih=>
   intro h;refine⟨λy hy=>?_,ih λi j hij hj=>?_⟩
   .obtain⟨z,hz,rfl⟩:=List.mem_map.1 hy
    obtain⟨j,hj,rfl⟩:=List.getElem_of_mem hz;have:=h 0 (j+1) (by omega) (by simpa using hj);simp only[List.getD_cons_zero,List.getD_cons_succ]at this;rw[List.getD_eq_getElem?_getD,List.getElem?_eq_getElem hj]at this;show x.2.1<=k[j].2.1;simp only[Option.getD_some]at this;omega
   .have:=h (i+1) (j+1) (by omega) (by simpa using hj)
    simpa using this
 have key:=xG5 hd (p3.map yT2) (asc d'.toList λi j hij hj=>by
  have hj':j<l.toArray.size:=by rw[<-p1];simpa using hj
  have:=hs i j (Nat.zero_le _) hij hj';rw[qU3]at this;have:=of_decide_eq_false this
  have g:∀t,t<d'.size->d'.toList.getD t default=d'[t]! :=λt ht=>by
   rw[List.getD_eq_getElem?_getD,Array.getElem?_toList,Array.getElem?_eq_getElem ht,getElem!_pos d' t ht];rfl
  have hjs:j<d'.size:=by simpa using hj
  rw[g j hjs,g i (by omega)]
  exact this)
 rw[<-key,xN3]
theorem qq5(d:Array RT)(t:Nat)(h:t<d.size*12):(flatK zR3 12 d)[t]? =(zR3 d[t / 12]!)[t % 12]? :=by
 have h1:t< (flatK zR3 12 d).size:=by rw[size_flatK];exact h
 have h2:t % 12< (zR3 d[t / 12]!).length:=by show t % 12<12;omega
 rw[Array.getElem?_eq_getElem h1,List.getElem?_eq_getElem h2];have:=get_flatK zR3 12 d t h;rw[getElem!_pos (flatK zR3 12 d) t h1,getElem!_pos (zR3 d[t / 12]!) (t % 12) h2]at this;rw[this]
noncomputable def x13:WFact:=⟨256,λargs m=>match args with
 |[x,y] =>match x with
  |.row id=>match y with
   |.fn g first cap=>match Nat.beq g 257&& (first.isEmpty&&cap.isEmpty)with
    |true=>match m.get id with
     |some B=>match B with
      |.rows t l=>if h:t=e9 then some (.req (decide (l.length<=1000)&&zL7 ((h▸l:List e9.T).map yT2)) (m.set id (some (.rows e9 ((xG3 ((h▸l:List e9.T).map yT2)).map Rc.t))) λm=>.leaf (.tuple [],m)))else none
      |_=>none
     |none=>none
    |false=>none
   |_=>none
  |_=>none
 |_=>none⟩
theorem xG7{m m':Mem}{id:Nat}{l:List RT}(hg:m.get id=some (.rows e9 l))(hl:l.length<=1000)(hd:zL9 (l.map yT2))(hm':zc0 m id (some (.rows e9 ((xG3 (l.map yT2)).map Rc.t))) m'):ze4 pP 256 [.row id,.fn 257 [] []] m (.tuple [],m'):=by
 intro w0 R0 I w vs hm hvs;obtain⟨a,us,rfl,hra,b,us2,rfl,hrb,hnil⟩:=hvs;rw[show us2=[]from hnil];obtain⟨hid,ad,rfl,had⟩:=hra;obtain⟨fv,fu,rfl,h5,h6⟩:=hrb;rw[show fv=[]from h5,show fu=[]from h6];obtain⟨b1,b2,b3⟩:=hm.box id _ hg;have b1:l.length=(I id).2.1:=b1;have b2:l.length<=(I id).2.2:=b2
 by_cases h0:l=[]
 .subst h0
  have q:=xt8 m w0 R0 I w [.slice ad (I id).2.1 (I id).2.2,.func (.func 257) #[] #[]] hm ⟨_,_,rfl,⟨ad,(I id).2.2,by rw[<-b1];rfl,Nat.zero_le _,λhp=>absurd hp (Nat.lt_irrefl 0)⟩,_,_,rfl,⟨[],[],rfl,rfl,rfl⟩,rfl⟩
  have eg:∀k,m'.get k=m.get k:=λk=>by
   rw[hm'.1 k]
   split
   .rename_i e;rw[e,hg];rfl
   .rfl
  refine zc1.mono (λu w' hu=>?_) q;obtain⟨I',g1,g2,g3⟩:=hu;refine⟨I',g1.congr eg hm'.2,⟨by rw[hm'.2];exact g2.le,g2.same,λb hb=>?_⟩,g3⟩;obtain⟨k1,k2⟩:=g2.keep b hb;exact⟨by rw[RO.congr eg];exact k1,k2⟩
 .have hpos:0<l.length:=List.length_pos_iff.2 h0
  have hc0:0< (I id).2.2:=by omega
  obtain⟨arr,e,fr,q1,q2,q3,q4⟩:=b3 hc0;have q3:arr.size=(I id).2.2*12:=q3;have blk:=hm.hi id _ hg hc0;rw[had hc0,<-b1]
  have cells:∀i (hi:i<l.length) j,j<12->arr[i*12+j]? =(zR3 l[i])[j]? :=λi hi j hj=>by
   obtain⟨cs,k1,k2,k3⟩:=q4 i hi;rw[show cs=zR3 l[i]from yW2.1 k3]at k2;exact k2 j hj
  have hH:HoldsK zR3 12 w (I id).1 0 l.toArray:=by
   intro j hj;rw[size_flatK]at hj
   have hj:j<l.length*12:=by simpa using hj
   have hi:j / 12<l.length:=by omega
   have hlt:j<arr.size:=by rw[q3];have:=Nat.mul_le_mul_right 12 b2;omega
   rw[Nat.zero_add];refine⟨?_,q59 q1 q2.1 (by omega)⟩;rw[cell_of_row w _ _ arr e fr q1];have c:=cells (j / 12) hi (j % 12) (by omega);rw[show j / 12*12+j % 12=j by omega]at c;rw[c];have f:=qq5 l.toArray j (by simpa using hj)
   have hsz:j< (flatK zR3 12 l.toArray).size:=by rw[size_flatK];simpa using hj
   rw[Array.getElem?_eq_getElem hsz]at f;rw[getElem!_pos (flatK zR3 12 l.toArray) j hsz];show _=some (_root_.id (flatK zR3 12 l.toArray)[j]);rw[show(l.toArray[j / 12]! :RT)=l[j / 12] by simp[hi]]at f;exact f.symm
  have hrun:=xG8 (I id).1 (I id).2.2 l.toArray w hH blk (by simp;omega);dsimp only;rw[zz2 (P:=pP) Tryz.func256 (body:=_) rfl (by kernel_rfl)]
  refine Calls.mono hrun λex w' ⟨he,d',n,os,hp,hs,hw⟩=>⟨_,he,?_⟩
  have hd':=xG9 hd hp hs
  have hsz':d'.size=l.length:=by have:=hp.1;simpa using this
  -- the world grown
  have gw:(grow (Sort.ahead w n) os).heap.size=w.heap.size+os.size:=by simp[grow,Sort.ahead]
  obtain⟨m1,m2⟩:=MRel.grown (w':=grow (Sort.ahead w n) os) hm rfl rfl rfl (by rw[gw];omega) (λk hk=>heap_grow_old (Sort.ahead w n) os hk)
  have hw2:w'=putRowK zR3 12 (grow (Sort.ahead w n) os) (I id).1 0 d':=by
   rw[hw];unfold sortWorldK;exact(putRowK_grow zR3 12 (Sort.ahead w n) os (I id).1 0 d' blk).symm
  have hq1:(grow (Sort.ahead w n) os).heap[(I id).1]? =some (.cells arr e fr):=(heap_grow_old (Sort.ahead w n) os blk).trans q1
  have hheap:w'.heap[(I id).1]? =some (.cells (putCells _root_.id 0 (flatK zR3 12 d') arr) e fr):=by
   rw[hw2];show((grow (Sort.ahead w n) os).heap.modify (I id).1 _)[(I id).1]? =_;rw[Array.getElem?_modify,if_pos rfl,hq1];rfl
  have hoth:∀k,k≠(I id).1->w'.heap[k]? =(grow (Sort.ahead w n) os).heap[k]? :=λk hk=>by
   rw[hw2];show((grow (Sort.ahead w n) os).heap.modify (I id).1 _)[k]? =_;rw[Array.getElem?_modify,if_neg (Ne.symm hk)]
  have hs1:w'.heap.size=(grow (Sort.ahead w n) os).heap.size:=by
   rw[hw2];show((grow (Sort.ahead w n) os).heap.modify (I id).1 _).size=_;rw[Array.size_modify]
  have ho:w'.os=(grow (Sort.ahead w n) os).os:=by rw[hw2];rfl
  have ht:w'.tape=(grow (Sort.ahead w n) os).tape:=by rw[hw2];rfl
  have hpt:w'.output=(grow (Sort.ahead w n) os).output:=by rw[hw2];rfl
  have lenS:((xG3 (l.map yT2)).map Rc.t).length=l.length:=by rw[List.length_map,(xG6 _).length_eq,List.length_map]
  obtain⟨g1,g2⟩:=m1.setBox (B':=.rows e9 ((xG3 (l.map yT2)).map Rc.t)) hg hc0 hm' ho ht hpt hs1 hoth λR e'=>by
   refine⟨lenS.trans b1,Nat.le_trans (Nat.le_of_eq lenS) b2,λ_=>⟨_,_,_,hheap,⟨λi hi=>q2.1 i (by simpa[putCells]using hi),q2.2⟩,(show(putCells _root_.id 0 (flatK zR3 12 d') arr).size=arr.size by simp[putCells]).trans q3,λi hi=>⟨zR3 ((xG3 (l.map yT2)).map Rc.t)[i],rfl,λj hj=>?_,yW2.2 rfl⟩⟩⟩;have hi:i<l.length:=Nat.lt_of_lt_of_eq hi lenS;have hj:j<12:=hj
   have hlt:i*12+j<arr.size:=by rw[q3];have:=Nat.mul_le_mul_right 12 b2;omega
   have hk:i*12+j< (flatK zR3 12 d').size:=by rw[size_flatK,hsz'];omega
   show(putCells _root_.id 0 (flatK zR3 12 d') arr)[i*12+j]? =_;unfold putCells;rw[Array.getElem?_mapIdx,Array.getElem?_eq_getElem hlt];simp only[Option.map_some];rw[if_pos (by omega),Nat.sub_zero];have f:=qq5 d' (i*12+j) (by rw[hsz'];omega);rw[show(i*12+j) / 12=i by omega,show(i*12+j) % 12=j by omega,Array.getElem?_eq_getElem hk]at f;rw[getElem!_pos (flatK zR3 12 d') (i*12+j) hk];show some (flatK zR3 12 d')[i*12+j] =_;rw[f]
   have:(d'[i]! :RT)=((xG3 (l.map yT2)).map Rc.t)[i] :=by
    have hi':i<d'.size:=by omega
    rw[getElem!_pos d' i hi'];simp only[<-hd',Array.getElem_toList]
   rw[this]
  exact⟨I,g1,m2.trans g2,[],rfl,rfl⟩
theorem yu0:x13.ok pP:=by
 intro args m t ht;simp only[x13]at ht
 split at ht
 .split at ht
  .rename_i id
   split at ht
   .rename_i g first cap
    split at ht
    .rename_i hb
     rw[Bool.and_eq_true,Bool.and_eq_true]at hb;have e1:=Nat.eq_of_beq_eq_true hb.1
     have e2:first=[] :=by simpa using hb.2.1
     have e3:cap=[] :=by simpa using hb.2.2
     subst e1 e2 e3
     split at ht
     .rename_i B hB
      split at ht
      .rename_i ty l
       split at ht
       .rename_i hty
        subst hty;injection ht with ht;subst ht;intro h;rw[Bool.and_eq_true]at h
        exact Mem.set_says λm' hm'=>xG7 hB (of_decide_eq_true h.1) (zL8.1 h.2) hm'
       .cases ht
      .cases ht
     .cases ht
    .cases ht
   .cases ht
  .cases ht
 .cases ht
open Go.Sx
def ze8:Plan:=.fork (.lit (.lit (.lit .all))) (.lit (.lit (.fork .all .all)))
theorem aa0(f:Fl):o7 (Env.of pP (j9 [zZ8])) 1000 (x9 pP 191) e9 (x6 48 [1,3,16,17,18]) (v7 pP 191) ze8 (v6 pP 191 [f.sv]) [] =(.req (w9 f) (.node (!flB f) (.leaf (.done (.list e9 []))) (.node (f.dead) (.leaf (.done (.list e9 []))) (.leaf (.at (x8 pP 191 0) 48 (x7 48 [(1,.ptr 0 0),(3,SV.nilS),(16,.list Ty.str f.pages),(17,J (↑f.pages.length:Int)),(18,J 0)]) [some (.cells f.cells)]))))):=by kernel_rfl
def ze9:Plan:=.fork (.fork (.ln 9 (.lit .all)) (.fork (.ln 9 (.fork .all .all)) (.ln 9 (.lit .all)))) .all
theorem aa1(f:Fl)(l:List RT)(i:Int):o7 (Env.ofW pP (j9 [zY7]) (s8 [x13])) 1000 (x9 pP 191) e9 (x6 48 [1,3,16,17,18]) (x8 pP 191 0) ze9 (x7 48 [(1,.ptr 0 0),(3,.row 1),(16,.list .str f.pages),(17,J f.pages.length),(18,J i)]) [some (.cells f.cells),some (.rows e9 l)] =(.node (decide (i< (↑f.pages.length:Int))) (.req (decide (0<=i)&&decide (i< (↑f.pages.length:Int))) (.req (decide (List.length (f.pages.getD i.toNat ([] :List UInt8))<=100000)) (.node (decide (List.length (f.pages.getD i.toNat ([] :List UInt8))<64)) (.leaf (.at (x8 pP 191 0) 48 (x7 48 [(1,.ptr 0 0),(3,SV.row 1),(16,.list Ty.str f.pages),(17,J (↑f.pages.length:Int)),(18,J (i64.wrap (i+1)))]) [some (.cells f.cells),some (.rows e9 l)])) (.node (zJ6 (f.pages.getD i.toNat ([] :List UInt8))) (.req (!(↑f.pages.length:Int)==0) (.node ((zJ8 (f.pages.getD i.toNat ([] :List UInt8))).seq.tmod (↑f.pages.length:Int)==i) (.req (decide ((l.length+ [(zJ8 (f.pages.getD i.toNat ([] :List UInt8))).t].length)*96<=140737488355328)) (.leaf (.at (x8 pP 191 0) 48 (x7 48 [(1,.ptr 0 0),(3,SV.row 1),(16,.list Ty.str f.pages),(17,J (↑f.pages.length:Int)),(18,J (i64.wrap (i+1)))]) [some (.cells f.cells),some (.rows e9 (l++[(zJ8 (f.pages.getD i.toNat ([] :List UInt8))).t]))]))) (.leaf (.at (x8 pP 191 0) 48 (x7 48 [(1,.ptr 0 0),(3,SV.row 1),(16,.list Ty.str f.pages),(17,J (↑f.pages.length:Int)),(18,J (i64.wrap (i+1)))]) [some (.cells f.cells),some (.rows e9 l)])))) (.leaf (.at (x8 pP 191 0) 48 (x7 48 [(1,.ptr 0 0),(3,SV.row 1),(16,.list Ty.str f.pages),(17,J (↑f.pages.length:Int)),(18,J (i64.wrap (i+1)))]) [some (.cells f.cells),some (.rows e9 l)])))))) (.req (decide (l.length<=1000)&&zL7 (List.map yT2 l)) (.leaf (.done (.list e9 (List.map Rc.t (xG3 (List.map yT2 l)))))))):=by kernel_rfl
open Go.Sx
theorem qN7:Known pP (Env.of pP (j9 [zZ8])):=kW (l:=[zZ8]) ⟨yd5,trivial⟩
theorem qN1:Known pP (Env.ofW pP (j9 [zY7]) (s8 [x13])):=qP0 mix (l:=[zY7]) (k:=[x13]) (by intro x hx;rcases List.mem_cons.1 hx with rfl|hx;exact yc5;cases hx) (by intro x hx;rcases List.mem_cons.1 hx with rfl|hx;exact yu0;cases hx)
abbrev slP(f:Fl)(i:Int):List SV:=x7 48 [(1,.ptr 0 0),(3,.row 1),(16,.list .str f.pages),(17,J f.pages.length),(18,J i)]
abbrev bxP(f:Fl)(l:List Rc):List (Option Box):=[some (.cells f.cells),some (.rows e9 (l.map Rc.t))]
theorem zf0(f:Fl)(hl:f.pages.length<=1000)(hp:∀p∈f.pages,p.length=64)(R:List Rc)(hR:zL9 R):∀ (k i:Nat) (acc:List Rc),i+k=f.pages.length->acc.length<=i->R=acc++yV4 f.pages.length i (f.pages.drop i)->
  t8 pP (x9 pP 191) (LR (xG3 R)) (x8 pP 191 0) (slP f i) (bxP f acc)
 |k,i,acc,hi,hn,hL=>by
  have w1:i64.wrap ((i:Int)+1)=(i:Int)+1:=w64 (by omega) (by omega)
  have t0:(i:Int).toNat=i:=by omega
  refine o5 qN1 (n:=1000) (hint:=e9) (keep:=x6 48 [1,3,16,17,18]) (p:=ze9) rfl ?_;erw [aa1 f (acc.map Rc.t) i];rw[w1,t0]
  match k,hi with
  |0,hi=>
   refine o4 (λa=>absurd a (by omega)) λ_=>?_
   have z:f.pages.drop i=[] :=List.drop_eq_nil_of_le (by omega);rw[z,show yV4 f.pages.length i [] =[]from rfl,List.append_nil]at hL;subst hL;rw[yT9,List.length_map];exact x0 (by rw[Bool.and_eq_true];exact⟨decide_eq_true (by omega),zL8.2 hR⟩) rfl
  |k+1,hi=>
   have hip:i<f.pages.length:=by omega
   have p64:(f.pages.getD i ([] :List UInt8)).length=64:=by
    rw[List.getD_eq_getElem?_getD,List.getElem?_eq_getElem hip];exact hp _ (List.getElem_mem hip)
   rw[zN6 (d:=([] :List UInt8)) hip,yV5]at hL
   have nx:((i:Int)+1)=((i+1:Nat):Int):=by omega
   have skip:yU5 f.pages.length i (f.pages.getD i ([] :List UInt8))=none->t8 pP (x9 pP 191) (LR (xG3 R)) (x8 pP 191 0) (slP f ((i:Int)+1)) (bxP f acc):=λe=>by
    rw[e]at hL;rw[nx];exact zf0 f hl hp R hR k (i+1) acc (by omega) (by omega) hL
   have nz:(!(((f.pages.length:Nat):Int)==0))=true:=by
    rw[Bool.not_eq_true',beq_eq_false_iff_ne];omega
   refine o4 (λ_=>x0 (by simp;omega) (x0 (decide_eq_true (by rw[p64];omega)) (o4 (λc=>absurd c (by rw[p64];omega)) λ_=>p7 (λb=>x0 nz (q23 (λc=>x0 (decide_eq_true ?_) ?_) λc=>?_)) λb=>?_))) λa=>absurd (by omega) a
   .rw[List.length_map]
    show(acc.length+1)*96<=_;omega
   .have e:yU5 f.pages.length i (f.pages.getD i ([] :List UInt8))=some (zJ8 (f.pages.getD i ([] :List UInt8))):=yU6.2 ⟨b,c,rfl⟩
    rw[e]at hL
    have el:(acc.map Rc.t)++[(zJ8 (f.pages.getD i ([] :List UInt8))).t] =(acc++[zJ8 (f.pages.getD i ([] :List UInt8))]).map Rc.t:=by rw[List.map_append];rfl
    rw[el,nx];refine⟨u7 _ _,?_⟩;refine zf0 f hl hp R hR k (i+1) (acc++[zJ8 (f.pages.getD i ([] :List UInt8))]) (by omega) (by rw[List.length_append];show acc.length+1<=_;omega) ?_;rw[hL,List.append_assoc];rfl
   .refine⟨u7 _ _,skip ?_⟩
    cases e:yU5 f.pages.length i (f.pages.getD i ([] :List UInt8))with
    |none=>rfl
    |some r=>exact absurd (yU6.1 e).2.1 c
   .refine⟨u7 _ _,skip ?_⟩
    cases e:yU5 f.pages.length i (f.pages.getD i ([] :List UInt8))with
    |none=>rfl
    |some r=>have:=(yU6.1 e).1;rw[this]at b;cases b
theorem xa1(f:Fl)(h:w9 f=true):SCall pP 191 [f.sv] (LR (m6 f)):=by
 have hl:f.pages.length<=1000:=of_decide_eq_true h;refine s7 rfl rfl (by kernel_rfl) (o5 qN7 (n:=1000) (hint:=e9) (keep:=x6 48 [1,3,16,17,18]) (p:=ze8) (boxes:=[]) rfl ?_);have q:=aa0 f;unfold v6 v7 at q;erw [q];refine x0 h (f7 (λb=>?_) λb=>p7 (λd=>?_) λd=>⟨u7 _ _,?_⟩)
 .have:m6 f=[] :=by unfold m6;rw[b];rfl
  rw[this];rfl
 .have:m6 f=[] :=by unfold m6;rw[b,d];rfl
  rw[this];rfl
 .have e:m6 f=xG3 (yV4 f.pages.length 0 f.pages):=by unfold m6;rw[b,d];rfl
  rw[e];have r:=zf0 f hl (qq1.1 b).1 (yV4 f.pages.length 0 f.pages) yV6 f.pages.length 0 [] (by omega) (Nat.le_refl _) rfl;exact y82 true [] (slots':=slP f 0) (boxes':=bxP f []) (xF7 ⟨rfl,.same _,rfl,.nil rfl,rfl,.same _,rfl,.same _,rfl,.same _,trivial⟩) ⟨by simp,.same _,trivial⟩ r
def zW3:Fact:=qg4 191 λf=>.req (w9 f) (.leaf (LR (m6 f)))
theorem q99:zW3.ok pP:=qh1 λf h=>xa1 f h
open Go.Sx
theorem xi3(f:Fl)(h:w9 f=true):SCall pP 103 [f.sv] (qP7 f):=
 v8 mix [zW3] ⟨q99,trivial⟩ 1000 (.fork (.all) (.all))
  (t:=let y1:=(↑(List.map Rc.t (m6 f)).length:Int);let y0:=(List.map Rc.t (m6 f)).getD (i64.wrap (y1-1)).toNat rcZ.t;.req (w9 f) (.node (y1==0) (.leaf (.tuple [.agg [J 0,J 0,J 0,J 0,J 0,J 0,J 0,J 0,J 0,J 0,J 0,J 0],.bool false])) (.req (decide (0<=i64.wrap (y1-1))&&decide (i64.wrap (y1-1)<y1)) (.leaf (.tuple [.agg [J y0.1,J y0.2.1,J y0.2.2.1,J y0.2.2.2.1,J y0.2.2.2.2.1.1,J y0.2.2.2.2.1.2.1,J y0.2.2.2.2.1.2.2.1,J y0.2.2.2.2.1.2.2.2,J y0.2.2.2.2.2.1,J y0.2.2.2.2.2.2.1,J y0.2.2.2.2.2.2.2.1,J y0.2.2.2.2.2.2.2.2],.bool true])))))
  (by kernel_rfl) (by
   refine x0 h (q23 (λe=>?_) λe=>?_)
   .have e:m6 f=[] :=by
     rw[List.length_map]at e;exact List.eq_nil_of_length_eq_zero (by omega)
    rw[qP8 e];rfl
   .have hl:f.pages.length<=1000:=of_decide_eq_true h
    have len:=zm5 f;rw[List.length_map]at e ⊢;have w:i64.wrap (((m6 f).length:Int)-1)=((m6 f).length:Int)-1:=w64 (by omega) (by omega);rw[w];obtain⟨A,x,hA⟩:∃A x,m6 f=A++[x] :=⟨(m6 f).dropLast,(m6 f).getLast (by intro k;rw[k]at e;exact e rfl),(List.dropLast_concat_getLast _).symm⟩
    have g:((m6 f).map Rc.t).getD (((m6 f).length:Int)-1).toNat rcZ.t=x.t:=by
     rw[qV3 (by omega),hA]
     have:((((A++[x]).length:Nat):Int)-1).toNat=A.length:=by simp
     rw[this,List.getD_eq_getElem?_getD,List.getElem?_append_right (Nat.le_refl _)];simp
    rw[g,qP9 hA]
    exact x0 (by simp;omega) rfl) (by kernel_rfl) (by kernel_rfl)
theorem yg9:z38.ok pP:=qh1 λf h=>xi3 f h
theorem xa4(f:Fl)(r:Rc)(h:w9 f=true):SCall pP 202 [f.sv,r.sv] (apV f r):=
 v8 mix [zZ2,zZ8,z38,fWr] ⟨yd0,yd5,yg9,yt7,trivial⟩ 1000 (.fork (.ln 4 (.fork .all (.fork .all (.fork .all .all)))) (.ln 4 (.lit .all)))
  (t:=let y0:=wrF f (r.seq.tmod (↑f.pages.length:Int)) (enc r);.node (rcB r) (.req (w9 f) (.req (w9 f) (.node (!flB f) (.leaf (.tuple [.agg f.cells,J 1])) (.node (f.dead) (.leaf (.tuple [.agg f.cells,J 17])) (.node (r.seq != i64.wrap ((qP3 f).seq+1)) (.leaf (.tuple [.agg f.cells,J 11])) (.req (!(↑f.pages.length:Int)==0) (.req (w9 f) (.leaf (.tuple [.agg [.list Ty.str y0.pages,J y0.fuse,.bool y0.dead,J y0.keep],J (wrE f (r.seq.tmod (↑f.pages.length:Int)) (enc r))]))))))))) (.req (w9 f) (.leaf (.tuple [.agg f.cells,J 1]))))
  (by kernel_rfl) (by
   have w:i64.wrap ((qP3 f).seq+1)=qP5 f+1:=by rw[qP6,w64 (by have:=qP4 f;omega) (by have:=qP4 f;omega)]
   rw[w]
   refine p7 (λa=>x0 h (x0 h (f7 (λb=>(zn3 (.inr b)).symm) λb=>p7 (λd=>(zn4 a b d).symm) λd=>q24 (λs=>(zn6 a b d s).symm) λs=>x0 ?_ (x0 h ?_)))) λa=>x0 h (zn3 (.inl a)).symm
   .have:=(qq1.1 b).2.1
    rw[Bool.not_eq_true',beq_eq_false_iff_ne];omega
   .rw[zn5 a b d s];rfl) (by kernel_rfl) (by kernel_rfl)
theorem ya2:fAp.ok pP:=qh0 λf r h=>xa4 f r h
open Go.Sx
theorem qO0:Known pP (Env.ofB pP (j9 [z38,fAp]) (s8 []) (p9 []) (p8 []) (j6 []) (j6 []) (j6 []) (j6 [])):=hB (l:=[z38,fAp]) (k:=[]) (j:=[]) (i:=[]) [] [] [] [] ⟨yg9,ya2,trivial⟩ u9 u9 u9
theorem q46(f:Fl):i64.wrap ((qP3 f).seq+1)=qP5 f+1:=by rw[qP6,w64 (by have:=qP4 f;omega) (by have:=qP4 f;omega)]
theorem zr8(f:Fl)(r:Rc)(h:w9 f=true)(e:yU7 f r=0):za1 pP 119 [r.sv] (.cells f.cells) (false,.tuple [],.cells (b7 f r).cells):=by
 refine zt3 (r:=.ret (.tuple []) [some (.cells (b7 f r).cells)]) (by kernel_rfl) (y83 qO0 (n:=1000) (keep:=x6 37 []) (p:=yT4) (Nat.le_refl _) ?_) rfl rfl rfl rfl rfl;erw [rcX f r];rw[q46];exact x0 h (x0 h (q24 (λk=>absurd e k) λ_=>rfl))
theorem zr9(f:Fl)(r:Rc)(h:w9 f=true)(e:¬yU7 f r=0):za1 pP 119 [r.sv] (.cells f.cells) (true,qm8,.cells (b7 f r).cells):=by
 refine zt3 (r:=.pan qm8 [some (.cells (b7 f r).cells)]) (by kernel_rfl) (y83 qO0 (n:=1000) (keep:=x6 37 []) (p:=yT4) (Nat.le_refl _) ?_) rfl rfl rfl rfl rfl;erw [rcX f r];rw[q46];exact x0 h (x0 h (q24 (λ_=>rfl) λk=>absurd k e))
theorem yn4:zr2.ok pP:=λargs B t ht=>by
 simp only[zr2]at ht
 split at ht
 .split at ht
  .injection ht with ht;subst ht
   intro h;exact⟨λe=>zr8 ⟨_,_,_,_⟩ ⟨_,_,_,_,(_,_,_,_),(_,_,_,_)⟩ h (beq_iff_eq.1 e),λe=>zr9 ⟨_,_,_,_⟩ ⟨_,_,_,_,(_,_,_,_),(_,_,_,_)⟩ h (beq_eq_false_iff_ne.1 e)⟩
  .cases ht
 .cases ht
open Go.Sx
def zt9(f:Fw):Rc:=match qB1 f.lines with
 |true=>⟨1,0,n7 f,0,f.ret,f.ret⟩
 |false=>⟨1,0,n7 f,0,f.pos,x16 f.pos (f.queue.getD 0 dBk).1⟩
def zt7(f:Fw):Bool:=xE9 f&& (!f.moving&&decide (0<f.lines.length))
def qm7(f:Fw):Rc:=match y32 f with
 |true=>⟨3,0,n7 f-1,0,f.pos,(f.ret.1,f.ret.2.1,f.ret.2.2.1,f.pos.2.2.2)⟩
 |false=>match f.moving with
  |true=>⟨2,0,f.active,f.mo.2.1,f.pos,x16 (wsub4 f.pos (qU5 f.mo)) f.mo.1.1⟩
  |false=>⟨2,0,n7 f-1,0,f.pos,f.pos⟩
def zs7(f:Fw)(line:Int):V4:=if line=0/\f.homed=true then f.pos else if f.back=true then(f.ret.1,f.ret.2.1,f.ret.2.2.1,f.pos.2.2.2)else(0,0,0,f.pos.2.2.2)
variable{f:Fw}
theorem zt8:zt7 f=true↔xE9 f=true/\f.moving=false/\0<f.lines.length:=by simp[zt7]
theorem zu1(h:0<f.lines.length)(k:f.lines.getD 0 0=0):zt9 f=⟨1,0,n7 f,0,f.ret,f.ret⟩:=by
 have e:qB1 f.lines=true:=qB2.2 ⟨h,k⟩;unfold zt9;rw[e]
theorem zu0(k:¬f.lines.getD 0 0=0):zt9 f=⟨1,0,n7 f,0,f.pos,x16 f.pos (f.queue.getD 0 dBk).1⟩:=by
 have e:qB1 f.lines=false:=by rw[Bool.eq_false_iff];intro h;exact k (qB2.1 h).2
 unfold zt9;rw[e]
theorem qn1(a:y32 f=true):qm7 f=⟨3,0,n7 f-1,0,f.pos,(f.ret.1,f.ret.2.1,f.ret.2.2.1,f.pos.2.2.2)⟩:=by unfold qm7;rw[a]
theorem qm9(a:y32 f=false)(m:f.moving=true):qm7 f=⟨2,0,f.active,f.mo.2.1,f.pos,x16 (wsub4 f.pos (qU5 f.mo)) f.mo.1.1⟩:=by unfold qm7;rw[a,m]
theorem qn0(a:y32 f=false)(m:f.moving=false):qm7 f=⟨2,0,n7 f-1,0,f.pos,f.pos⟩:=by unfold qm7;rw[a,m]
theorem yC6(h:xE9 f=true):i64.wrap (n7 f-1)=n7 f-1:=w64 (by have:=yC5 h;omega) (by have:=yC5 h;omega)
variable{n:Int}
theorem zs9(a:n=0)(b:f.homed=true):zs7 f n=f.pos:=if_pos ⟨a,b⟩
theorem zt0(a:¬(n=0/\f.homed=true))(b:f.back=true):zs7 f n=(f.ret.1,f.ret.2.1,f.ret.2.2.1,f.pos.2.2.2):=by unfold zs7;rw[if_neg a,if_pos b]
theorem zt1(a:¬(n=0/\f.homed=true))(b:f.back=false):zs7 f n=(0,0,0,f.pos.2.2.2):=by unfold zs7;rw[if_neg a,if_neg (by rw[b];exact Bool.false_ne_true)]
theorem xb1(f:Fw)(h:zt7 f=true):SCall pP 120 [f.sv] ((zt9 f).sv):=
 v8 mix [z73,fPP,z74,z47] ⟨yk8,yk9,yl0,yh9,trivial⟩ 1000 (.fork (.all) (.all))
  (t:=let y0:=x16 f.pos (f.queue.getD 0 dBk).1;.req (decide (0< (↑f.lines.length:Int))) (.node (f.lines.getD 0 0==0) (.req (xE9 f) (.leaf (.agg [J 1,J 0,J (n7 f),J 0,J f.ret.1,J f.ret.2.1,J f.ret.2.2.1,J f.ret.2.2.2,J f.ret.1,J f.ret.2.1,J f.ret.2.2.1,J f.ret.2.2.2]))) (.req (xE9 f) (.req (decide (0< (↑f.queue.length:Int))) (.leaf (.agg [J 1,J 0,J (n7 f),J 0,J f.pos.1,J f.pos.2.1,J f.pos.2.2.1,J f.pos.2.2.2,J y0.1,J y0.2.1,J y0.2.2.1,J y0.2.2.2]))))))
  (by kernel_rfl) (by
   obtain⟨sh,nm,ln⟩:=zt8.1 h;have lens:=(xF0.1 sh).2.1
   refine x0 (decide_eq_true (by omega)) (q23 (λk=>x0 sh (by rw[zu1 ln k];rfl)) λk=>x0 sh (x0 (decide_eq_true (by omega)) (by rw[zu0 k];rfl)))) (by kernel_rfl) (by kernel_rfl)
theorem xf4(f:Fw)(h:xE9 f=true):SCall pP 124 [f.sv] ((qm7 f).sv):=
 v8 mix [z73,fPP,z74,z47] ⟨yk8,yk9,yl0,yh9,trivial⟩ 1000 (.fork (.all) (.fork (.all) (.all)))
  (t:=let y0:=x16 (wsub4 f.pos (qU5 f.mo)) f.mo.1.1;.req (xE9 f) (.req (qS2 f) (.node (y32 f) (.req true (.req (true) (.leaf (.agg [J 3,J 0,J (i64.wrap (n7 f-1)),J 0,J f.pos.1,J f.pos.2.1,J f.pos.2.2.1,J f.pos.2.2.2,J f.ret.1,J f.ret.2.1,J f.ret.2.2.1,J f.pos.2.2.2])))) (.node (f.moving) (.leaf (.agg [J 2,J 0,J f.active,J f.mo.2.1,J f.pos.1,J f.pos.2.1,J f.pos.2.2.1,J f.pos.2.2.2,J y0.1,J y0.2.1,J y0.2.2.1,J y0.2.2.2])) (.leaf (.agg [J 2,J 0,J (i64.wrap (n7 f-1)),J 0,J f.pos.1,J f.pos.2.1,J f.pos.2.2.1,J f.pos.2.2.2,J f.pos.1,J f.pos.2.1,J f.pos.2.2.1,J f.pos.2.2.2]))))))
  (by kernel_rfl) (by
   have lens:=(xF0.1 h).2.1
   exact x0 h (x0 (qS3.2 lens) (p7 (λa=>x0 rfl (x0 rfl (by rw[qn1 a,yC6 h];rfl))) λa=>p7 (λm=>by rw[qm9 a m];rfl) λm=>by rw[qn0 a m,yC6 h];rfl))) (by kernel_rfl) (by kernel_rfl)
theorem xa8(f:Fw)(n:Int):SCall pP 126 [f.sv,J n] (V4.sv (zs7 f n)):=
 v8 mix [] trivial 1000 (.fork (.lit (.lit (.fork .all (.fork .all .all)))) (.ln 3 (.fork .all .all)))
  (t:=let y0:Tree SV:=.node (f.back) (.req true (.req (true) (.leaf (.agg [J f.ret.1,J f.ret.2.1,J f.ret.2.2.1,J f.pos.2.2.2])))) (.req true (.req (true) (.leaf (.agg [J 0,J 0,J 0,J f.pos.2.2.2]))));.node (n==0) (.node (f.homed) (.leaf (.agg [J f.pos.1,J f.pos.2.1,J f.pos.2.2.1,J f.pos.2.2.2])) y0) y0)
  (by kernel_rfl) (by
   exact q23 (λa=>p7 (λb=>by rw[zs9 a b];rfl) λb=>p7 (λc=>x0 rfl (x0 rfl ((by rw[zt0 (λq=>by rw[b]at q;cases q.2) c];rfl)))) λc=>x0 rfl (x0 rfl ((by rw[zt1 (λq=>by rw[b]at q;cases q.2) c];rfl)))) λa=>p7 (λc=>x0 rfl (x0 rfl ((by rw[zt0 (λq=>a q.1) c];rfl)))) λc=>x0 rfl (x0 rfl ((by rw[zt1 (λq=>a q.1) c];rfl)))) (by kernel_rfl) (by kernel_rfl)
def zX1:Fact:=qg2 120 λf=>.req (zt7 f) (.leaf (zt9 f).sv)
def z05:Fact:=qg2 124 λf=>.req (xE9 f) (.leaf (qm7 f).sv)
def zW8:Fact:=qh2 126 λf rest=>match rest with
 |[.int .i64 n] =>some (.leaf (V4.sv (zs7 f n)))
 |_=>none
theorem yb1:zX1.ok pP:=qg3 λf h=>xb1 f h
theorem ye2:z05.ok pP:=qg3 λf h=>xf4 f h
theorem ya8:zW8.ok pP:=qh3 λf rest t ht=>by
 split at ht
 .injection ht with ht;subst ht;exact xa8 f _
 .cases ht
theorem xa9(f:Fw)(n:Int):SCall pP 128 [f.sv,J n] (V4.sv (zs7 f n)):=
 v8 mix [] trivial 1000 (.fork (.lit (.lit (.fork .all (.fork .all .all)))) (.ln 3 (.fork .all .all)))
  (t:=let y0:Tree SV:=.node (f.back) (.req true (.req (true) (.req true (.req (true) (.leaf (.agg [J f.ret.1,J f.ret.2.1,J f.ret.2.2.1,J f.pos.2.2.2])))))) (.req true (.leaf (.agg [J 0,J 0,J 0,J f.pos.2.2.2])));.node (n==0) (.node (f.homed) (.leaf (.agg [J f.pos.1,J f.pos.2.1,J f.pos.2.2.1,J f.pos.2.2.2])) y0) y0)
  (by kernel_rfl) (by
   exact q23 (λa=>p7 (λb=>by rw[zs9 a b];rfl) λb=>p7 (λc=>x0 rfl (x0 rfl (x0 rfl (x0 rfl ((by rw[zt0 (λq=>by rw[b]at q;cases q.2) c];rfl)))))) λc=>x0 rfl ((by rw[zt1 (λq=>by rw[b]at q;cases q.2) c];rfl))) λa=>p7 (λc=>x0 rfl (x0 rfl (x0 rfl (x0 rfl ((by rw[zt0 (λq=>a q.1) c];rfl)))))) λc=>x0 rfl ((by rw[zt1 (λq=>a q.1) c];rfl))) (by kernel_rfl) (by kernel_rfl)
def zW9:Fact:=qh2 128 λf rest=>match rest with
 |[.int .i64 n] =>some (.leaf (V4.sv (zs7 f n)))
 |_=>none
theorem ya9:zW9.ok pP:=qh3 λf rest t ht=>by
 split at ht
 .injection ht with ht;subst ht;exact xa9 f _
 .cases ht
open Go.Sx
def q28(r:Rc):Bool:=v9 r.src&& (v9 r.dst&&v9 (wsub4 r.dst r.src))
def yR7(f:Fw)(r:Rc):Fw:={f with line:=if r.line-1>0 then r.line-1 else 0,pos:=r.src,e:=xW0 f.ma.e r.src.2.2.2,back:=true,ret:=r.src}
def yR8(f:Fw)(r:Rc):Fw:={f with homed:=true,pos:=r.src,loc:=yN6 f.ma r.dst,e:=(yN7 f.ma r.dst).2.2.2,line:=r.line}
def yR9(f:Fw)(r:Rc):Fw:={yR8 f r with ret:=r.dst}
def rsF(f:Fw)(r:Rc):Fw:=if r.kind=3 then y02 (yR9 f r) (wsub4 r.dst r.src)else if r.src=r.dst then yR8 f r else s9 (yR8 f r) (wsub4 r.dst r.src) 0 r.line
def rgE(r:Rc):Int:=if q28 r=true then 0 else 19
def rgF(f:Fw)(r:Rc):Fw:=if r.kind=1 then yR7 f r else rsF f r
def rvB(f:Fw)(l:Fl):Bool:=xX9 f&& (qF6 f&& (flB l&&!f.homed))
def rvE(f:Fw)(l:Fl):Int:=if rvB f l=false then 1 else if l.dead=true then 17 else match lastO l with
 |none=>0
 |some r=>rgE r
def rvF(f:Fw)(l:Fl):Fw:=match lastO l with
 |none=>f
 |some r=>rgF f r
def rvS(f:Fw)(l:Fl):SV:=if rvE f l=0 then .tuple [(rvF f l).sv,J 0]else .tuple [.agg (o6 fw0),J (rvE f l)]
theorem zk2{c:V4}{len:Int}(h:zj3 f c len=true)(e:b9 f=0):zj1 f c len=true:=by
 have p:=zk4 h;have ql:=zj5 f c len;rw[zj2,e];rw[e]at p;have g:=qu3 p (i:=0) (Nat.zero_le _)
 have k:gL (t4 f c len) (zB0 f.ma (t4 f c len)) 0 0<=0:=by
  rw[qu4 (by omega)];exact Int.le_trans (Int.min_le_left _ _) (Int.le_refl _)
 exact⟨(p.crR 0).1,by omega⟩
variable{g:Fw}
theorem yZ6(v:VF f)(hi:qF6 f=true)(e1:g.ma=f.ma)(e2:g.feed=f.feed)(e3:g.queue=f.queue)(e4:g.lines=f.lines)(e5:g.moving=f.moving){c:V4}(hn:v9 c=true)(hz:nz4 c=true):zj3 g c 0=true/\b9 g=0:=by
 obtain⟨i1,i2,i3⟩:=qF7.1 hi;have n:=v.nums
 have en:b9 g=0:=by
  unfold b9;rw[if_neg (show ¬g.moving=true by rw[e5,i1];exact Bool.false_ne_true),if_pos (show g.queue.length=0 by rw[e3];exact i2)]
 exact⟨zj4.2 ⟨by rw[e1];exact yv5 v.ma hn hz,by decide,by rw[e2];exact yu7.2 (by omega),by rw[e3];exact v.sound,by rw[e3,e4];exact v.lens,by rw[e3];omega,by omega,by omega⟩,en⟩
variable{d:V4}
theorem yZ9(h:v9 d=true):v9 (f0 d)=true:=by have:=q26.1 h;exact q26.2 (by unfold f0;dsimp only;omega)
theorem y01(h:v9 d=true):v9 (y00 d)=true:=by have:=q26.1 h;exact q26.2 (by unfold y00;dsimp only;omega)
theorem y31(v:VF f)(hi:qF6 f=true)(e1:g.ma=f.ma)(e2:g.feed=f.feed)(e3:g.queue=f.queue)(e4:g.lines=f.lines)(e5:g.moving=f.moving)(hn:v9 d=true):
  y04 g d=true/\b9 g=0/\b9 (zs0 g (f0 d))=0/\y03 g d=true:=by
 obtain⟨i1,i2,i3⟩:=qF7.1 hi
 have en:b9 g=0:=by
  unfold b9;rw[if_neg (show ¬g.moving=true by rw[e5,i1];exact Bool.false_ne_true),if_pos (show g.queue.length=0 by rw[e3];exact i2)]
 have p1:nz4 (f0 d)=true->zj3 g (f0 d) 0=true:=λz=>(yZ6 v hi e1 e2 e3 e4 e5 (yZ9 hn) z).1
 have o1:backOk g (f0 d)=true:=by
  cases z:nz4 (f0 d)with
  |false=>exact zs5 z
  |true=>rw[zs6 z];exact zk2 (p1 z) en
 have en2:b9 (zs0 g (f0 d))=0:=by
  cases z:nz4 (f0 d)with
  |false=>rw[zs2 z];exact en
  |true=>
   rw[zs4 z,zi1 (by rw[<-zs6 z];exact o1)];exact en
 have p2:nz4 (y00 d)=true->zj3 (zs0 g (f0 d)) (y00 d) 0=true:=λy=>by
  cases z:nz4 (f0 d)with
  |false=>rw[zs2 z];exact(yZ6 v hi e1 e2 e3 e4 e5 (y01 hn) y).1
  |true=>
   rw[zs4 z];exact zi5 (p1 z) (by rw[<-zs6 z];exact o1) (by rw[e1];exact yv5 v.ma (y01 hn) y) (by decide) (by rw[e3];omega)
 have o2:backOk (zs0 g (f0 d)) (y00 d)=true:=by
  cases y:nz4 (y00 d)with
  |false=>exact zs5 y
  |true=>rw[zs6 y];exact zk2 (p2 y) en2
 exact⟨y05.2 ⟨p1,λ_=>p2⟩,en,en2,by unfold y03;rw[o1,o2];rfl⟩
open Go.Sx
section
variable {f:Fw} {r s line:Int} {c:Gc.C}
end
section
variable {kd:Int} {nb:Bool} {c:Gc.C} {n r s:Int}
end
open Go.Sx
open Go.Sx
section
variable {f:Fw} {line:Int} {c:Gc.C}
end
open Go.Sx
section
variable {f:Fw}
structure Rec (r:Rc) (real:V4):Prop where
 near:q28 r=true
 kd:1<=r.kind/\r.kind<=3
 ln:0<=r.line/\r.line<=1099511627776
 real:¬r.kind=1->r.src=real
 blk:r.kind=2->¬r.src=r.dst->1<=r.line
end
open Go.Sx
noncomputable def zP1:Env:=Env.ofB pP (j9 [zX1,z05]) (s8 []) (p9 [BFact.toP zr2]) (p8 [zr2]) (j6 []) (j6 []) (j6 []) (j6 [])
theorem qN5:Known pP zP1:=hB (l:=[zX1,z05]) (k:=[]) (j:=[BFact.toP zr2]) (i:=[zr2]) [] [] [] [] ⟨yb1,ye2,trivial⟩ u9 (allQ.all (p:=PFact.ok pP) (l:=[BFact.toP zr2]) ⟨BFact.toP_ok yn4,trivial⟩) (allQ.all (p:=BFact.ok pP) (l:=[zr2]) ⟨yn4,trivial⟩)
noncomputable def yG2:PFact:=goP zP1 1000 118
noncomputable def yG1:PFact:=goP zP1 1000 123
noncomputable def yG0:PFact:=goP zP1 1000 127
noncomputable def zO8:Env:=Env.ofB pP (j9 []) (s8 []) (p9 []) (p8 []) (j6 []) (j6 []) (j6 []) (j6 [1])
noncomputable def zO9:Env:=Env.ofB pP (j9 []) (s8 []) (p9 [yG2,yG1,yG0]) (p8 []) (j6 []) (j6 []) (j6 []) (j6 [])
noncomputable def zP0:Env:=Env.ofB pP (j9 []) (s8 []) (p9 []) (p8 []) (j6 []) (j6 []) (j6 []) (j6 [0])
theorem qN2:Known pP zO8:=hB (l:=[]) (k:=[]) (j:=[]) (i:=[]) [] [] [] [1] trivial u9 u9 u9
theorem qN3:Known pP zO9:=hB (l:=[]) (k:=[]) (j:=[yG2,yG1,yG0]) (i:=[]) [] [] [] [] trivial u9 (allQ.all (p:=PFact.ok pP) (l:=[yG2,yG1,yG0]) ⟨qw4 qN5 1000 _,qw4 qN5 1000 _,qw4 qN5 1000 _,trivial⟩) u9
theorem qN4:Known pP zP0:=hB (l:=[]) (k:=[]) (j:=[]) (i:=[]) [] [] [] [0] trivial u9 u9 u9
noncomputable def x05:WFact:=zK5 zO8 zO9 zP0 1000 117
theorem yt0:x05.ok pP:=zK6 qN2 qN3 qN4 1000 _
open Go.Sx
section
variable {f g:Fw} {r s:Int}
end
open Go.Sx
def qm6(f:Fw)(l:Fl):Fl:=match xX9 f&&f.homed with
 |true=>b7 l (qm7 f)
 |false=>l
def qC2(f:Fw)(n:Int):Rc:=⟨1,0,f.line+1,0,zs7 f n,zs7 f n⟩
def qC3(f:Fw)(n:Int)(c:Gc.C):Rc:=⟨3,0,(zg0 f n c).line,0,(zg0 f n c).pos,zs7 f n⟩
def axE(f:Fw)(l:Fl)(n:Int)(c:Gc.C):Int:=if zf8 f n c=0 then(if c.code=28 then(if yU7 l (qC2 f n)=0/\yU7 (b7 l (qC2 f n)) (qC3 f n c)=0 then 0 else 17)else 0)else zf8 f n c
def axL(f:Fw)(l:Fl)(n:Int)(c:Gc.C):Fl:=if zf8 f n c=0/\c.code=28 then(if yU7 l (qC2 f n)=0 then b7 (b7 l (qC2 f n)) (qC3 f n c)else b7 l (qC2 f n))else l
def axF(f:Fw)(l:Fl)(n:Int)(c:Gc.C):Fw:=if axE f l n c=0 then zg0 f n c else f
def axH(f:Fw)(l:Fl)(n:Int)(c:Gc.C):Bool:=decide (zf8 f n c=0)&& (decide (c.code=28)&&decide (yU7 l (qC2 f n)=0))
def axV(f:Fw)(l:Fl)(n:Int)(c:Gc.C):SV:=.tuple [(axF f l n c).sv,(axL f l n c).sv,.bool (axH f l n c),J (axE f l n c)]
variable{l:Fl}{r:Rc}
theorem qo4(h:w9 l=true):w9 (b7 l r)=true:=by
 have h:=of_decide_eq_true h;refine decide_eq_true ?_;unfold b7 apF wrF
 repeat' split
 all_goals(first|exact h|(show(List.set _ _ _).length<=1000;rw[List.length_set];exact h))
variable{c:Gc.C}
theorem zq1(e:¬zf8 f n c=0):SV.tuple [.agg f.cells,.agg l.cells,.bool false,.int .i64 (zf8 f n c)] =axV f l n c:=by
 have a1:axE f l n c=zf8 f n c:=if_neg e;have a2:axL f l n c=l:=if_neg (λk=>e k.1);have a3:axF f l n c=f:=if_neg (by rw[a1];exact e)
 have a4:axH f l n c=false:=by unfold axH;rw[decide_eq_false e];rfl
 unfold axV;rw[a1,a2,a3,a4];rfl
theorem zq4(e:zf8 f n c=0)(k:¬c.code=28):SV.tuple [.agg (zg0 f n c).cells,.agg l.cells,.bool false,.int .i64 0] =axV f l n c:=by
 have a1:axE f l n c=0:=by unfold axE;rw[if_pos e,if_neg k]
 have a2:axL f l n c=l:=if_neg (λq=>k q.2);have a3:axF f l n c=zg0 f n c:=if_pos a1
 have a4:axH f l n c=false:=by unfold axH;rw[decide_eq_false k,Bool.false_and,Bool.and_false]
 unfold axV;rw[a1,a2,a3,a4];rfl
theorem zp6(e:zf8 f n c=0)(k:c.code=28)(a:(yU7 l (qC2 f n)==0)=false):SV.tuple [.agg f.cells,.agg (b7 l (qC2 f n)).cells,.bool false,.int .i64 17] =axV f l n c:=by
 have a:=beq_eq_false_iff_ne.1 a
 have a1:axE f l n c=17:=by unfold axE;rw[if_pos e,if_pos k,if_neg (λq=>a q.1)]
 have a2:axL f l n c=b7 l (qC2 f n):=by unfold axL;rw[if_pos ⟨e,k⟩,if_neg a]
 have a3:axF f l n c=f:=if_neg (by rw[a1];decide)
 have a4:axH f l n c=false:=by unfold axH;rw[decide_eq_false a,Bool.and_false,Bool.and_false]
 unfold axV;rw[a1,a2,a3,a4];rfl
theorem zp7(e:zf8 f n c=0)(k:c.code=28)(a:(yU7 l (qC2 f n)==0)=true)(b:(yU7 (b7 l (qC2 f n)) (qC3 f n c)==0)=false):SV.tuple [.agg f.cells,.agg (b7 (b7 l (qC2 f n)) (qC3 f n c)).cells,.bool true,.int .i64 17] =axV f l n c:=by
 have a:=beq_iff_eq.1 a;have b:=beq_eq_false_iff_ne.1 b
 have a1:axE f l n c=17:=by unfold axE;rw[if_pos e,if_pos k,if_neg (λq=>b q.2)]
 have a2:axL f l n c=b7 (b7 l (qC2 f n)) (qC3 f n c):=by unfold axL;rw[if_pos ⟨e,k⟩,if_pos a]
 have a3:axF f l n c=f:=if_neg (by rw[a1];decide)
 have a4:axH f l n c=true:=by unfold axH;rw[decide_eq_true a,decide_eq_true e,decide_eq_true k];rfl
 unfold axV;rw[a1,a2,a3,a4];rfl
theorem zp8(e:zf8 f n c=0)(k:c.code=28)(a:(yU7 l (qC2 f n)==0)=true)(b:(yU7 (b7 l (qC2 f n)) (qC3 f n c)==0)=true):SV.tuple [.agg (zg0 f n c).cells,.agg (b7 (b7 l (qC2 f n)) (qC3 f n c)).cells,.bool true,.int .i64 0] =axV f l n c:=by
 have a:=beq_iff_eq.1 a;have b:=beq_iff_eq.1 b
 have a1:axE f l n c=0:=by unfold axE;rw[if_pos e,if_pos k,if_pos ⟨a,b⟩]
 have a2:axL f l n c=b7 (b7 l (qC2 f n)) (qC3 f n c):=by unfold axL;rw[if_pos ⟨e,k⟩,if_pos a]
 have a3:axF f l n c=zg0 f n c:=if_pos a1
 have a4:axH f l n c=true:=by unfold axH;rw[decide_eq_true a,decide_eq_true e,decide_eq_true k];rfl
 unfold axV;rw[a1,a2,a3,a4];rfl
theorem qC6(e:zf8 f n c=0):Rc.mk 1 0 (i64.wrap (f.line+1)) 0 (zs7 f n) (zs7 f n)=qC2 f n:=by
 have k:=(x00 (zf9 e).1).nums.2.2.2.2.2.2.2.2.1;unfold qC2;rw[w64 (by omega) (by omega)]
theorem xn2(f:Fw)(l:Fl)(n:Int)(c:Gc.C)(h:w9 l=true)(k:shF f=true):SCall pP 48 [f.sv,l.sv,J n,c.sv] (axV f l n c):=
 xD1 (hB (l:=[z01,zX7,zV9,zW8]) (k:=[x05]) (j:=[]) (i:=[]) ([] :List Nat) ([] :List Nat) ([] :List Nat) ([] :List Nat) (⟨yd8,yb8,q95,ya8,trivial⟩) (allQ.all (p:=WFact.ok pP) (l:=[x05]) ⟨yt0,trivial⟩) u9 u9) 1000 (.fork (.lit (.fork .all (.fork (.fork (.ln 4 (.lit .all)) (.ln 4 (.lit .all))) (.ln 4 (.lit .all))))) (.fork .all (.fork .all (.fork (.fork (.ln 4 (.lit .all)) (.ln 4 (.lit .all))) (.ln 4 (.lit .all))))))
  (t:=let y0:=Rc.mk 1 0 (i64.wrap (f.line+1)) 0 (zs7 f n) (zs7 f n);let y1:=Rc.mk 3 0 (zg0 f n c).line 0 (zg0 f n c).pos (zs7 f n);let y2:Tree SV:=.req (shF f) (.leaf (.tuple [.agg (Fw.cells f),.agg (Fl.cells (b7 l y0)),.bool false,J 17]));let y3:=Rc.mk 3 0 0 0 (0,0,fw0.pos.2.2) (zs7 f n);.node (decide (zf8 f n c=0)) (.node (c.code != 28) (.req (w9 l) (.leaf (.tuple [.agg (Fw.cells (zg0 f n c)),.agg (Fl.cells l),.bool false,J 0]))) (.req (w9 l) (.req (w9 l) (.node (yU7 l y0==0) (.req (w9 (b7 l y0)) (.node (yU7 (b7 l y0) y1==0) (.leaf (.tuple [.agg (Fw.cells (zg0 f n c)),.agg (Fl.cells (b7 (b7 l y0) y1)),.bool true,J 0])) (.req (shF f) (.leaf (.tuple [.agg (Fw.cells f),.agg (Fl.cells (b7 (b7 l y0) y1)),.bool true,J 17]))))) y2)))) (.node (zf8 f n c != 0) (.req (shF f) (.req (w9 l) (.leaf (.tuple [.agg (Fw.cells f),.agg (Fl.cells l),.bool false,J (zf8 f n c)])))) (.node (c.code != 28) (.req (w9 l) (.leaf (.tuple [.agg (Fw.cells fw0),.agg (Fl.cells l),.bool false,J 0]))) (.req (w9 l) (.req (w9 l) (.node (yU7 l y0==0) (.req (w9 (b7 l y0)) (.node (yU7 (b7 l y0) y3==0) (.leaf (.tuple [.agg (Fw.cells fw0),.agg (Fl.cells (b7 (b7 l y0) y3)),.bool true,J 0])) (.req (shF f) (.leaf (.tuple [.agg (Fw.cells f),.agg (Fl.cells (b7 (b7 l y0) y3)),.bool true,J 17]))))) y2))))))
  (by kernel_rfl) (by
   refine o4 (λe=>q24 (λa=>x0 h (zq4 e a)) λa=>?_) λe=>q24 (λ_=>x0 k (x0 h (zq1 e))) λq=>absurd q e
   rw[qC6 e]
   exact x0 h (x0 h (p7 (λx=>x0 (qo4 h) (p7 (λy=>zp8 e a x y) λy=>x0 k (zp7 e a x y))) λx=>x0 k (zp6 e a x)))) (by kernel_rfl) (by kernel_rfl)
theorem xn3(f:Fw)(l:Fl)(n:Int)(c:Gc.C)(h:w9 l=true)(o:m7 c.has=true):SCall pP 49 [f.sv,l.sv,J n,c.sv] (axV f l n c):=
 v8 mix [zW0,z98,zW9] ⟨q96,yn5,ya9,trivial⟩ 1000 (.fork (.lit (.fork (.all) (.fork (.all) (.fork (.all) (.all))))) (.fork (.all) (.fork (.all) (.fork (.all) (.fork (.all) (.all))))))
  (t:=let y0:=Rc.mk 1 0 (i64.wrap (f.line+1)) 0 (zs7 f n) (zs7 f n);let y1:=Rc.mk 3 0 (zg0 f n c).line 0 (zg0 f n c).pos (zs7 f n);let y2:=Rc.mk 3 0 0 0 (0,0,fw0.pos.2.2) (zs7 f n);let y3:Tree SV:=.leaf (.tuple [.agg (Fw.cells f),.agg (Fl.cells (b7 l y0)),.bool false,J 17]);.req (m7 c.has) (.node (decide (zf8 f n c=0)) (.node (c.code != 28) (.leaf (.tuple [.agg (Fw.cells (zg0 f n c)),.agg (Fl.cells l),.bool false,J 0])) (.req (w9 l) (.node (!yU7 l y0==0) y3 (.req (w9 (b7 l y0)) (.node (!yU7 (b7 l y0) y1==0) (.leaf (.tuple [.agg (Fw.cells f),.agg (Fl.cells (b7 (b7 l y0) y1)),.bool true,J 17])) (.leaf (.tuple [.agg (Fw.cells (zg0 f n c)),.agg (Fl.cells (b7 (b7 l y0) y1)),.bool true,J 0]))))))) (.node (zf8 f n c != 0) (.leaf (.tuple [.agg (Fw.cells f),.agg (Fl.cells l),.bool false,J (zf8 f n c)])) (.node (c.code != 28) (.leaf (.tuple [.agg (Fw.cells fw0),.agg (Fl.cells l),.bool false,J 0])) (.req (w9 l) (.node (!yU7 l y0==0) y3 (.req (w9 (b7 l y0)) (.node (!yU7 (b7 l y0) y2==0) (.leaf (.tuple [.agg (Fw.cells f),.agg (Fl.cells (b7 (b7 l y0) y2)),.bool true,J 17])) (.leaf (.tuple [.agg (Fw.cells fw0),.agg (Fl.cells (b7 (b7 l y0) y2)),.bool true,J 0]))))))))))
  (by kernel_rfl) (by
   refine x0 o (o4 (λe=>q24 (λa=>zq4 e a) λa=>?_) λe=>q24 (λ_=>zq1 e) λq=>absurd q e);rw[qC6 e]
   exact x0 h (f7 (λx=>zp6 e a x) λx=>x0 (qo4 h) (f7 (λy=>zp7 e a x y) λy=>zp8 e a x y))) (by kernel_rfl) (by kernel_rfl)
open Go.Sx
open Go.Sx
def q39(f:Fw)(c:V4):Bk:=(c,zg5 f.ma c,0,i64.wrap (n8 f.ma c 0 f.feed*n8 f.ma c 0 f.feed),0)
def yK3:Plan:=.fork (.lit (.all)) (.all)
theorem pd0(f:Fw)(c:V4)(line:Int):o7 (Env.ofB pP (j9 [qb7,zV7,z33]) (s8 [z82.frz]) (p9 []) (p8 []) (j6 []) (j6 []) (j6 []) (j6 [])) 1000 (x9 pP 195) .unit (x6 85 [2,3,6,9,10,11]) (v7 pP 195) yK3 (v6 pP 195 [f.sv,V4.sv c,J line]) [] =(.req (m7 f.feed) (.node (f.queue.isEmpty) (.req (decide ((0+ [q39 f c].length)*64<=140737488355328)) (.req (decide (0<=(↑[q39 f c].length:Int))&& (↑[q39 f c].length:Int)==(↑[q39 f c].length:Int)&&decide (8*(↑[q39 f c].length:Int)<=140737488355328)&&decide ((↑[q39 f c].length:Int)<=(9223372036854775807:Int))) (.leaf (.at (x8 pP 195 0) 85 (x7 85 [(2,J line),(3,.ptr 0 0),(6,.ptr 1 0),(9,SV.row 2),(10,SV.row 3),(11,J 1)]) [some (.cells (Fw.cells f)),some (.cells (o6 fw0)),some (.rows o9 [q39 f c]),some (.rows (Ty.int IntKind.i64) (List.replicate (↑[q39 f c].length:Int).toNat (0:Int)))])))) (.req (decide ((0+f.queue.length)*64<=140737488355328)) (.req (decide ((f.queue.length+ [q39 f c].length)*64<=140737488355328)) (.req (decide (0<=(↑(f.queue++[q39 f c]).length:Int))&& (↑(f.queue++[q39 f c]).length:Int)==(↑(f.queue++[q39 f c]).length:Int)&&decide (8*(↑(f.queue++[q39 f c]).length:Int)<=140737488355328)&&decide ((↑(f.queue++[q39 f c]).length:Int)<=(9223372036854775807:Int))) (.leaf (.at (x8 pP 195 0) 85 (x7 85 [(2,J line),(3,.ptr 0 0),(6,.ptr 1 0),(9,SV.row 2),(10,SV.row 3),(11,J 1)]) [some (.cells (Fw.cells f)),some (.cells (o6 fw0)),some (.rows o9 (f.queue++[q39 f c])),some (.rows (Ty.int IntKind.i64) (List.replicate (↑(f.queue++[q39 f c]).length:Int).toNat (0:Int)))]))))))):=by kernel_rfl
def yK5:Plan:=.fork (.all) (.fork (.fork (.lit (.fork (.lit (.all)) (.all))) (.lit (.all))) (.lit (.all)))
theorem pd1(f:Fw)(line:Int)(q:List Bk)(s:List Int)(i:Int):o7 (Env.ofB pP (j9 [qb7,zV7,z33]) (s8 [z82.frz]) (p9 []) (p8 []) (j6 []) (j6 []) (j6 []) (j6 [])) 1000 (x9 pP 195) .unit (x6 85 [2,3,6,9,10,11]) (x8 pP 195 0) yK5 (x7 85 [(2,J line),(3,.ptr 0 0),(6,.ptr 1 0),(9,.row 2),(10,.row 3),(11,J i)]) [some (.cells f.cells),some (.cells (o6 fw0)),some (.rows o9 q),some (.rows (.int .i64) s)] =(.node (decide (i< (↑q.length:Int))) (.req (decide (0<=i64.wrap (i-1))&&decide (i64.wrap (i-1)< (↑q.length:Int))) (.req (decide ((i64.wrap (i-1)).toNat<q.length)) (.req (decide (0<=i)&&decide (i< (↑q.length:Int))) (.req (decide (i.toNat<q.length)) (.req (decide (0<=i)&&decide (i< (↑s.length:Int))) (.req (decide (i.toNat<s.length)) (.leaf (.at (x8 pP 195 0) 85 (x7 85 [(2,J line),(3,.ptr 0 0),(6,.ptr 1 0),(9,SV.row 2),(10,SV.row 3),(11,J (i64.wrap (i+1)))]) [some (.cells (Fw.cells f)),some (.cells (o6 fw0)),some (.rows o9 q),some (.rows (Ty.int IntKind.i64) (s.set i.toNat (i64.wrap (qM5 f.ma (q.getD (i64.wrap (i-1)).toNat dBk).1 (q.getD i.toNat dBk).1*qM5 f.ma (q.getD (i64.wrap (i-1)).toNat dBk).1 (q.getD i.toNat dBk).1))))])))))))) (.req (yv8 q s 0) (.node (decide (0<=crL q 0)) (.node (decide (gL q s 0 0=0)) (.node (f.lines.isEmpty) (.req (decide ((0+ [line].length)*8<=140737488355328)) (.leaf (.done (.tuple [.agg (Fw.cells {f with queue:=(plB q (gL q s 0)),lines:=[line]}),J 0])))) (.req (decide ((0+f.lines.length)*8<=140737488355328)) (.req (decide ((f.lines.length+ [line].length)*8<=140737488355328)) (.leaf (.done (.tuple [.agg (Fw.cells {f with queue:=(plB q (gL q s 0)),lines:=(f.lines++[line])}),J 0])))))) (.leaf (.done (.tuple [.agg (o6 fw0),J 2])))) (.leaf (.done (.tuple [.agg (o6 fw0),J 2])))))):=by kernel_rfl
open Go.Sx
def yI8(f:Fw)(c:V4)(line:Int):SV:=.tuple [(s9 f c 0 line).sv,J 0]
theorem kPA:Known pP (Env.ofB pP (j9 [qb7,zV7,z33]) (s8 [z82.frz]) (p9 []) (p8 []) (j6 []) (j6 []) (j6 []) (j6 [])):=
 hB (l:=[qb7,zV7,z33]) (k:=[z82.frz]) (j:=[]) (i:=[]) [] [] [] [] ⟨yp6,q93,yg6,trivial⟩ wrA u9 u9
theorem yK4{c:V4}(line:Int)(h:zj3 f c 0=true)(en:b9 f=0):∀ (k i:Nat) (s:List Int),i+k=f.queue.length+1->1<=i->s.length=f.queue.length+1->(∀t,t<i->s.getD t 0=zA4 f.ma (t4 f c 0) t)->
  t8 pP (x9 pP 195) (yI8 f c line) (x8 pP 195 0) (x7 85 [(2,J line),(3,.ptr 0 0),(6,.ptr 1 0),(9,.row 2),(10,.row 3),(11,J i)]) [some (.cells f.cells),some (.cells (o6 fw0)),some (.rows o9 (t4 f c 0)),some (.rows (.int .i64) s)]
 |k,i,s,hi,h1,hs,hc=>by
  have p:=zj4.1 h;have pl:=zk3 h;have ok:=zj2.1 (zk2 h en);rw[en]at pl ok;have ql:=zj5 f c 0;refine o5 kPA (n:=1000) (hint:=.unit) (keep:=x6 85 [2,3,6,9,10,11]) (p:=yK5) rfl ?_;erw [pd1 f line (t4 f c 0) s i]
  have t0:(i:Int).toNat=i:=by omega
  have wm:i64.wrap ((i:Int)-1)=((i-1:Nat):Int):=by rw[w64 (by omega) (by omega)];omega
  have tm:((i-1:Nat):Int).toNat=i-1:=by omega
  have w1:i64.wrap ((i:Int)+1)=((i+1:Nat):Int):=by rw[w64 (by omega) (by omega)];omega
  have jr:=qM7 f.ma ((t4 f c 0).getD (i-1) dBk).1 ((t4 f c 0).getD i dBk).1
  have an:∀{a b:Bool},a=true->b=true->(a&&b)=true:=λha hb=>by rw[ha,hb];rfl
  match k,hi with
  |k+1,hi=>
   have ih:=yK4 line h en k (i+1) (s.set i (zA4 f.ma (t4 f c 0) i)) (by omega) (by omega) (by simpa using hs) (λt ht=>by
    rw[xE3 (by omega)]
    split
    .rename_i e;rw[e]
    .exact hc t (by omega))
   rw[zA6 f.ma (t4 f c 0) h1]at ih;rw[wm,tm,t0,wsq jr,w1]
   exact o4 (λ_=>x0 (an (decide_eq_true (by omega)) (decide_eq_true (by omega))) (x0 (decide_eq_true (by omega)) (x0 (an (decide_eq_true (by omega)) (decide_eq_true (by omega))) (x0 (decide_eq_true (by omega)) (x0 (an (decide_eq_true (by omega)) (decide_eq_true (by omega))) (x0 (decide_eq_true (by omega)) ⟨u7 _ _,ih⟩)))))) λa=>absurd (by omega) a
  |0,hi=>
   have es:s=zB0 f.ma (t4 f c 0):=zB2 (by omega) λt ht=>hc t (by omega)
   subst es
   have fin:SV.tuple [SV.agg (Fw.cells {f with queue:=plB (t4 f c 0) (gL (t4 f c 0) (zB0 f.ma (t4 f c 0)) 0),lines:=f.lines++[line]}),SV.int IntKind.i64 0] =yI8 f c line:=by
    unfold yI8 s9;rw[en];rfl
   refine o4 (λa=>absurd a (by omega)) λ_=>x0 pl (o4 (λ_=>o4 (λ_=>p7 (λe=>x0 rfl ?_) λe=>x0 (decide_eq_true (by omega)) (x0 (decide_eq_true (by simp;omega)) fin)) λa=>absurd ok.2 a) λa=>absurd ok.1 a)
   have e0:f.lines=[] :=by simpa using e
   rw[e0]at fin;exact fin
theorem xn6(f:Fw)(c:V4)(line:Int)(h:zj3 f c 0=true)(en:b9 f=0):SCall pP 195 [f.sv,V4.sv c,J line] (yI8 f c line):=by
 have p:=zj4.1 h;have ql:=zj5 f c 0;have sr:=xH5 p.1 (l:=0) (f:=f.feed) (yu7.1 p.2.1).2 (yu7.1 p.2.2.1).2;have w:=wsq (v:=n8 f.ma c 0 f.feed) (by omega)
 have nw:q39 f c=q31 f.ma c 0 f.feed:=by unfold q39 q31;rw[w]
 refine s7 rfl rfl (by kernel_rfl) (o5 kPA (n:=1000) (hint:=.unit) (keep:=x6 85 [2,3,6,9,10,11]) (p:=yK3) (boxes:=[]) rfl ?_);have q:=pd0 f c line;unfold v6 v7 at q;erw [q];rw[nw]
 have an:∀{a b:Bool},a=true->b=true->(a&&b)=true:=λha hb=>by rw[ha,hb];rfl
 have lp:=yK4 line h en f.queue.length 1 (List.replicate (t4 f c 0).length 0) (by omega) (by omega) (by simp[ql]) (λt ht=>by
  have:t=0:=by omega
  subst this
  rw[ql];rfl)
 refine x0 p.2.2.1 (p7 (λe=>?_) λe=>?_)
 .have e0:f.queue=[] :=by simpa using e
  have aq:t4 f c 0=[q31 f.ma c 0 f.feed] :=by unfold t4;rw[e0];rfl
  rw[aq]at lp;exact x0 rfl (x0 rfl ⟨u7 _ _,lp⟩)
 .have aq:f.queue++[q31 f.ma c 0 f.feed] =t4 f c 0:=rfl
  rw[aq]
  have tn:((t4 f c 0).length:Int).toNat=(t4 f c 0).length:=by omega
  rw[tn];exact x0 (decide_eq_true (by omega)) (x0 (decide_eq_true (by simp;omega)) (x0 (an (an (an (decide_eq_true (by omega)) (beq_self_eq_true _)) (decide_eq_true (by omega))) (decide_eq_true (by omega))) ⟨u7 _ _,lp⟩))
open Go.Sx
def qF1(f:Fw)(p:V4):Bool:=y04 f (wsub4 p f.pos)&& (decide (b9 f=0)&& (decide (b9 (zs0 f (f0 (wsub4 p f.pos)))=0)&&y03 f (wsub4 p f.pos)))
theorem qF2{p:V4}:qF1 f p=true↔y04 f (wsub4 p f.pos)=true/\b9 f=0/\b9 (zs0 f (f0 (wsub4 p f.pos)))=0/\y03 f (wsub4 p f.pos)=true:=by simp only[qF1,Bool.and_eq_true,decide_eq_true_eq]
def qT0(f:Fw)(r:Rc):Bool:=f.ma.ok&& (v9 r.src&&inR r.line 0 1099511627776)
def yU1(f:Fw)(r:Rc):Bool:=xX9 f&& (qF6 f&&q28 r)
def yH6(f:Fw)(c:V4):Bool:=zj3 f c 0&&decide (b9 f=0)
theorem yH7{c:V4}:yH6 f c=true↔zj3 f c 0=true/\b9 f=0:=by simp only[yH6,Bool.and_eq_true,decide_eq_true_eq]
def z71:Fact:=qh2 195 λf rest=>match rest with
 |[.agg [.int .i64 a,.int .i64 b,.int .i64 c,.int .i64 d],.int .i64 line] =>some (.req (yH6 f (a,b,c,d)) (.leaf (.tuple [(s9 f (a,b,c,d) 0 line).sv,J 0])))
 |_=>none
theorem yk7:z71.ok pP:=qh3 λf rest t ht=>by
 split at ht
 .injection ht with ht;subst ht;exact λh=>xn6 f (_,_,_,_) _ (yH7.1 h).1 (yH7.1 h).2
 .cases ht
theorem qT1:qT0 f r=true↔f.ma.ok=true/\v9 r.src=true/\0<=r.line/\r.line<=1099511627776:=by simp only[qT0,Bool.and_eq_true,j8]
theorem yU2:yU1 f r=true↔xX9 f=true/\qF6 f=true/\q28 r=true:=by simp only[yU1,Bool.and_eq_true]
theorem q27:q28 r=true↔v9 r.src=true/\v9 r.dst=true/\v9 (wsub4 r.dst r.src)=true:=by simp only[q28,Bool.and_eq_true]
theorem xW7{a b:V4}(h:(a.1==b.1&& (a.2.1==b.2.1&& (a.2.2.1==b.2.2.1&& (a.2.2.2==b.2.2.2&&true))))=true):a=b:=by
 simp only[Bool.and_eq_true,beq_iff_eq]at h;obtain⟨a1,a2,a3,a4⟩:=a;obtain⟨b1,b2,b3,b4⟩:=b;simp only[Prod.mk.injEq];exact⟨h.1,h.2.1,h.2.2.1,h.2.2.2.1⟩
theorem x48{a b:V4}(ha:v9 a=true)(hb:v9 b=true)(ne:¬a=b):nz4 (wsub4 b a)=true:=by
 rw[x47 (q29 hb) (q29 ha),q83];unfold xL6;intro h;refine ne ?_;obtain⟨a1,a2,a3,a4⟩:=a;obtain⟨b1,b2,b3,b4⟩:=b;dsimp only at h;simp only[Prod.mk.injEq];omega
theorem y85(b:rvB f l=false):SV.tuple [SV.agg (o6 fw0),SV.int IntKind.i64 1] =rvS f l:=by
 have e:rvE f l=1:=if_pos b;unfold rvS;rw[e];rfl
theorem y86(b:rvB f l=true)(d:l.dead=true):SV.tuple [SV.agg (o6 fw0),SV.int IntKind.i64 17] =rvS f l:=by
 have e:rvE f l=17:=by unfold rvE;rw[b,d];rfl
 unfold rvS;rw[e];rfl
theorem y90(b:rvB f l=true)(d:l.dead=false)(o:(lastO l).isSome=false):SV.tuple [SV.agg f.cells,SV.int IntKind.i64 0] =rvS f l:=by
 have n:lastO l=none:=by simpa using o
 have e:rvE f l=0:=by unfold rvE;rw[b,d,n];rfl
 have g:rvF f l=f:=by unfold rvF;rw[n]
 unfold rvS;rw[e,g];rfl
theorem qQ1(o:(lastO l).isSome=true):lastO l=some (qP3 l):=by
 unfold qP3
 cases q:lastO l with
 |none=>rw[q]at o;cases o
 |some r=>rfl
theorem y87(b:rvB f l=true)(d:l.dead=false)(o:(lastO l).isSome=true)(n:q28 (qP3 l)=false):SV.tuple [SV.agg (o6 fw0),SV.int IntKind.i64 19] =rvS f l:=by
 have e:rvE f l=19:=by unfold rvE;rw[b,d,qQ1 o];show rgE (qP3 l)=19;unfold rgE;rw[n];rfl
 unfold rvS;rw[e];rfl
theorem y91(b:rvB f l=true)(d:l.dead=false)(o:(lastO l).isSome=true)(n:q28 (qP3 l)=true)(h:rgF f (qP3 l)=g):SV.tuple [SV.agg g.cells,SV.int IntKind.i64 0] =rvS f l:=by
 have e:rvE f l=0:=by unfold rvE;rw[b,d,qQ1 o];show rgE (qP3 l)=0;unfold rgE;rw[n];rfl
 have q:rvF f l=g:=by unfold rvF;rw[qQ1 o];exact h
 unfold rvS;rw[e,q];rfl
theorem qQ0(o:(lastO l).isSome=true):rcB (qP3 l)=true:=zm6 (List.mem_of_getLast? (qQ1 o))
theorem y88(h:xX9 f=false\/zb7 f=false\/flB l=false\/f.homed=true):rvB f l=false:=by
 unfold zb7 at h;unfold rvB;rcases h with h|h|h|h
 .rw[h];rfl
 .cases v:xX9 f
  .rfl
  .rw[v,Bool.true_and]at h;rw[h];rfl
 .rw[h,Bool.false_and,Bool.and_false,Bool.and_false]
 .rw[h,Bool.not_true,Bool.and_false,Bool.and_false,Bool.and_false]
theorem qF5(h:zb7 f=true):xX9 f=true/\qF6 f=true:=by
 unfold zb7 at h;exact(Bool.and_eq_true _ _).mp h
theorem y89(i:zb7 f=true)(b:flB l=true)(h:f.homed=false):rvB f l=true:=by
 obtain⟨v,i⟩:=qF5 i;unfold rvB;rw[v,i,b,h];rfl
theorem q30(h:v9 r.src=false\/v9 r.dst=false\/v9 (wsub4 r.dst r.src)=false):q28 r=false:=by
 unfold q28
 rcases h with h|h|h<;>rw[h]<;>simp
theorem xh0(f:Fw)(p:V4)(h:qF1 f p=true):SCall pP 194 [f.sv,V4.sv p] (.tuple [(y02 f (wsub4 p f.pos)).sv,J 0]):=
 xD1 (hB (l:=[fPP,z71]) (k:=[]) (j:=[]) (i:=[]) ([] :List Nat) ([] :List Nat) ([] :List Nat) ([] :List Nat) (⟨yk9,yk7,trivial⟩) u9 u9 u9) 1000 (.fork (.ln 4 (.fork (.ln 5 (.lit .all)) (.ln 5 (.fork .all .all)))) (.ln 4 (.fork (.ln 5 (.lit .all)) (.ln 5 (.fork .all .all)))))
  (t:=let y0:=wsub4 p f.pos;let y3:=s9 f (0,0,y0.2.2.1,0) 0 0;let y4:=(y0.1,y0.2.1,0,0);let y1:Tree SV:=.req true (.req (true) (.req (yH6 y3 y4) (.leaf (.tuple [.agg (Fw.cells (s9 y3 y4 0 0)),J 0]))));let y2:Tree SV:=.req true (.req (true) (.req (yH6 f y4) (.leaf (.tuple [.agg (Fw.cells (s9 f y4 0 0)),J 0]))));.req (true) (.node (y0.2.2.1 != 0) (.req true (.req (yH6 f (0,0,y0.2.2.1,0)) (.req true (.node (y0.1 != 0) y1 (.req true (.node (y0.2.1 != 0) y1 (.leaf (.tuple [.agg (Fw.cells y3),J 0])))))))) (.req true (.node (y0.1 != 0) y2 (.req true (.node (y0.2.1 != 0) y2 (.leaf (.tuple [.agg (Fw.cells f),J 0]))))))))
  (by kernel_rfl) (by
   obtain⟨p0,en,en2,ok⟩:=qF2.1 h;obtain⟨p1,p2⟩:=y05.1 p0;unfold y03 at ok;obtain⟨o1,_⟩:=(Bool.and_eq_true _ _).mp ok;generalize wsub4 p f.pos=d at p1 p2 en2 o1 ⊢;have p2:=p2 o1
   have fin:∀g:Fw,y02 f d=g->SV.tuple [SV.agg g.cells,SV.int IntKind.i64 0] =SV.tuple [(y02 f d).sv,J 0] :=λg e=>by rw[e];rfl
   refine x0 rfl (q24 (λa=>?_) λa=>?_)
   .have z:=nzC.2 a
    rw[zs4 z]at p2 en2;refine x0 rfl (x0 (yH7.2 ⟨p1 z,en⟩) (x0 rfl (q24 (λb=>?_) λb=>x0 rfl (q24 (λc=>?_) λc=>?_))))
    .have y:=nzD.2 (.inl b)
     exact x0 rfl (x0 rfl (x0 (yH7.2 ⟨p2 y,en2⟩) (fin _ (by unfold y02;rw[zs4 z,zs4 y];rfl))))
    .have y:=nzD.2 (.inr c)
     exact x0 rfl (x0 rfl (x0 (yH7.2 ⟨p2 y,en2⟩) (fin _ (by unfold y02;rw[zs4 z,zs4 y];rfl))))
    .exact fin _ (by unfold y02;rw[zs4 z,zs2 (Bool.eq_false_iff.2 λy=>by have:=nzD.1 y;omega)];rfl)
   .have z:nz4 (f0 d)=false:=Bool.eq_false_iff.2 λy=>nzC.1 y a
    rw[zs2 z]at p2 en2;refine x0 rfl (q24 (λb=>?_) λb=>x0 rfl (q24 (λc=>?_) λc=>?_))
    .have y:=nzD.2 (.inl b)
     exact x0 rfl (x0 rfl (x0 (yH7.2 ⟨p2 y,en2⟩) (fin _ (by unfold y02;rw[zs2 z,zs4 y];rfl))))
    .have y:=nzD.2 (.inr c)
     exact x0 rfl (x0 rfl (x0 (yH7.2 ⟨p2 y,en2⟩) (fin _ (by unfold y02;rw[zs2 z,zs4 y];rfl))))
    .exact fin _ (by unfold y02;rw[zs2 z,zs2 (Bool.eq_false_iff.2 λy=>by have:=nzD.1 y;omega)])) (by kernel_rfl) (by kernel_rfl)
def z20:Fact:=qh2 194 λf rest=>match rest with
 |[.agg [.int .i64 a,.int .i64 b,.int .i64 c,.int .i64 d]] =>some (.req (qF1 f (a,b,c,d)) (.leaf (.tuple [(y02 f (wsub4 (a,b,c,d) f.pos)).sv,J 0])))
 |_=>none
theorem yf4:z20.ok pP:=qh3 λf rest t ht=>by
 split at ht
 .injection ht with ht;subst ht;exact λh=>xh0 f (_,_,_,_) h
 .cases ht
theorem xj7(f:Fw)(r:Rc)(h:qT0 f r=true):SCall pP 107 [f.sv,r.sv] (.tuple [(yR7 f r).sv,J 0]):=
 xD1 (hB (l:=[qe0]) (k:=[]) (j:=[]) (i:=[]) ([] :List Nat) ([] :List Nat) ([] :List Nat) ([] :List Nat) (⟨ys1,trivial⟩) u9 u9 u9) 1000 (.fork (.lit (.all)) (.lit (.all)))
  (t:=.req (true) (.req true (.node (f9 f.ma r.src.2.2.2) (.leaf (.tuple [.agg (Fw.cells {f with pos:=r.src,e:=(xW0 (axM f.ma 3) r.src.2.2.2),back:=true,ret:=r.src,line:=(if i64.wrap (r.line-1)>0 then i64.wrap (r.line-1)else 0)}),J 0])) (.leaf (.tuple [.agg (o6 fw0),J 1])))))
  (by kernel_rfl) (by
   obtain⟨h1,h2,h3⟩:=qT1.1 h;have n:=q26.1 h2;have u:f9 f.ma r.src.2.2.2=true:=xV1.2 ⟨h1,by omega⟩;have w:i64.wrap (r.line-1)=r.line-1:=w64 (by omega) (by omega);rw[w]
   exact x0 rfl (x0 rfl (p7 (λ_=>rfl) λq=>by rw[u]at q;cases q))) (by kernel_rfl) (by kernel_rfl)
def z43:Fact:=qh2 107 λf rest=>match rest with
 |[.agg [.int .i64 r0,.int .i64 r1,.int .i64 r2,.int .i64 r3,.int .i64 p0,.int .i64 p1,.int .i64 p2,.int .i64 p3,.int .i64 q0,.int .i64 q1,.int .i64 q2,.int .i64 q3]] =>some (.req (qT0 f ⟨r0,r1,r2,r3,(p0,p1,p2,p3),(q0,q1,q2,q3)⟩) (.leaf (.tuple [(yR7 f ⟨r0,r1,r2,r3,(p0,p1,p2,p3),(q0,q1,q2,q3)⟩).sv,J 0])))
 |_=>none
theorem yh4:z43.ok pP:=qh3 λf rest t ht=>by
 split at ht
 .injection ht with ht;subst ht;exact λh=>xj7 f ⟨_,_,_,_,(_,_,_,_),(_,_,_,_)⟩ h
 .cases ht
theorem xr5(f:Fw)(r:Rc)(h:yU1 f r=true):SCall pP 108 [f.sv,r.sv] (.tuple [(rsF f r).sv,J 0]):=
 xD1 (hB (l:=[z86,fPP,z20,z71]) (k:=[]) (j:=[]) (i:=[]) ([] :List Nat) ([] :List Nat) ([] :List Nat) ([] :List Nat) (⟨ym2,yk9,yf4,yk7,trivial⟩) u9 u9 u9) 1000 (.lit (.fork (.all) (.fork (.all) (.all))))
  (t:=let y0:=yN7 f.ma r.dst;let y1:={f with homed:=true,pos:=r.src,loc:=(y0.1,y0.2.1,y0.2.2.1),e:=y0.2.2.2,ret:=r.dst,line:=r.line};let y2:={f with homed:=true,pos:=r.src,loc:=(y0.1,y0.2.1,y0.2.2.1),e:=y0.2.2.2,line:=r.line};.req (f.ma.ok&&v9 r.dst) (.node (r.kind==3) (.req (qF1 y1 r.dst) (.leaf (.tuple [.agg (Fw.cells (y02 y1 (wsub4 r.dst r.src))),J 0]))) (.node (!(r.src.1==r.dst.1&& (r.src.2.1==r.dst.2.1&& (r.src.2.2.1==r.dst.2.2.1&& (r.src.2.2.2==r.dst.2.2.2&&true))))) (.req (yH6 y2 (wsub4 r.dst r.src)) (.leaf (.tuple [.agg (Fw.cells (s9 y2 (wsub4 r.dst r.src) 0 r.line)),J 0]))) (.leaf (.tuple [.agg (Fw.cells {f with homed:=true,pos:=r.src,loc:=(y0.1,y0.2.1,y0.2.2.1),e:=y0.2.2.2,line:=r.line}),J 0])))))
  (by kernel_rfl) (by
   obtain⟨v,i,n⟩:=yU2.1 h;have hv:=x00 v;obtain⟨n1,n2,n3⟩:=q27.1 n;refine x0 (by rw[hv.ma,n2];rfl) (q23 (λk=>?_) λk=>f7 (λe=>?_) λe=>?_)
   .obtain⟨p,e1,e2,o⟩:=y31 (g:=yR9 f r) hv i rfl rfl rfl rfl rfl n3
    exact x0 (qF2.2 ⟨p,e1,e2,o⟩) (by unfold rsF;rw[if_pos k];rfl)
   .have ne:¬r.src=r.dst:=λq=>by rw[q]at e;simp at e
    have z:nz4 (wsub4 r.dst r.src)=true:=x48 n1 n2 ne;obtain⟨p,e1⟩:=yZ6 (g:=yR8 f r) hv i rfl rfl rfl rfl rfl n3 z;exact x0 (yH7.2 ⟨p,e1⟩) (by unfold rsF;rw[if_neg k,if_neg ne];rfl)
   .have eq:r.src=r.dst:=xW7 e
    show SV.tuple [(yR8 f r).sv,J 0] =_
    unfold rsF;rw[if_neg k,if_pos eq]) (by kernel_rfl) (by kernel_rfl)
def qa3:Fact:=qh2 108 λf rest=>match rest with
 |[.agg [.int .i64 r0,.int .i64 r1,.int .i64 r2,.int .i64 r3,.int .i64 p0,.int .i64 p1,.int .i64 p2,.int .i64 p3,.int .i64 q0,.int .i64 q1,.int .i64 q2,.int .i64 q3]] =>some (.req (yU1 f ⟨r0,r1,r2,r3,(p0,p1,p2,p3),(q0,q1,q2,q3)⟩) (.leaf (.tuple [(rsF f ⟨r0,r1,r2,r3,(p0,p1,p2,p3),(q0,q1,q2,q3)⟩).sv,J 0])))
 |_=>none
theorem yo0:qa3.ok pP:=qh3 λf rest t ht=>by
 split at ht
 .injection ht with ht;subst ht;exact λh=>xr5 f ⟨_,_,_,_,(_,_,_,_),(_,_,_,_)⟩ h
 .cases ht
theorem xq5(f:Fw)(l:Fl)(h:w9 l=true)(k:shF f=true):SCall pP 41 [f.sv,l.sv] (rvS f l):=
 xD1 (hB (l:=[qe2,z23,zZ8,z38,z75,fPP,zX7,z43,qa3]) (k:=[]) (j:=[]) (i:=[]) ([] :List Nat) ([] :List Nat) ([] :List Nat) ([] :List Nat) (⟨ys3,yf7,yd5,yg9,yl1,yk9,yb8,yh4,yo0,trivial⟩) u9 u9 u9) 1000 (.fork (.ln 10 (.lit .all)) (.ln 3 (.fork (.ln 6 (.lit .all)) (.ln 3 (.fork (.lit (.lit (.lit .all))) (.lit (.lit (.fork .all (.fork .all (.fork .all (.fork (.ln 12 (.lit .all)) (.ln 4 (.fork (.ln 7 (.lit .all)) (.ln 7 (.fork .all (.fork .all .all))))))))))))))))
  (t:=let y0:Tree SV:=.leaf (.tuple [.agg (o6 fw0),J 1]);let y1:Tree SV:=.leaf (.tuple [.agg (o6 fw0),J 19]);.node (!xX9 f) y0 (.node (!zb7 f) y0 (.req (w9 l) (.node (!flB l) y0 (.node (f.homed) y0 (.node (l.dead) (.leaf (.tuple [.agg (o6 fw0),J 17])) (.req (w9 l) (.node (!(lastO l).isSome) (.req (shF f) (.leaf (.tuple [.agg (Fw.cells f),J 0]))) (.node (!v9 (qP3 l).src) y1 (.node (!v9 (qP3 l).dst) y1 (.node (!v9 (wsub4 (qP3 l).dst (qP3 l).src)) y1 (.node ((qP3 l).kind==1) (.req (shF f) (.req (qT0 f (qP3 l)) (.leaf (.tuple [.agg (Fw.cells (yR7 f (qP3 l))),J 0])))) (.req (shF f) (.req (yU1 f (qP3 l)) (.leaf (.tuple [.agg (Fw.cells (rsF f (qP3 l))),J 0]))))))))))))))))
  (by kernel_rfl) (by
   refine f7 (λv=>y85 (y88 (.inl v))) λv=>f7 (λi=>y85 (y88 (.inr (.inl i)))) λi=>x0 h (f7 (λb=>y85 (y88 (.inr (.inr (.inl b))))) λb=>p7 (λhh=>y85 (y88 (.inr (.inr (.inr hh))))) λhh=>?_)
   have B:=y89 i b hh;obtain⟨_,i2⟩:=qF5 i
   refine p7 (λd=>y86 B d) λd=>x0 h (f7 (λo=>x0 k (y90 B d o)) λo=>f7 (λn=>y87 B d o (q30 (.inl n))) λn1=>f7 (λn=>y87 B d o (q30 (.inr (.inl n)))) λn2=>f7 (λn=>y87 B d o (q30 (.inr (.inr n)))) λn3=>?_)
   have N:q28 (qP3 l)=true:=q27.2 ⟨n1,n2,n3⟩;have rb:=yT1.1 (qQ0 o)
   exact q23 (λq=>x0 k (x0 (qT1.2 ⟨(x00 v).ma,n1,rb.2.2.1⟩) (y91 B d o N (if_pos q)))) λq=>x0 k (x0 (yU2.2 ⟨v,i2,N⟩) (y91 B d o N (if_neg q)))) (by kernel_rfl) (by unfold rvS;split<;>rfl)
open Go.Sx
def z69:Fact:=qh2 48 λf rest=>match rest with
 |[.agg [.list .str p,.int .i64 a,.bool d,.int .i64 k],.int .i64 n,.agg [.int .i64 c0,.int .i64 c1,.int .i64 c2,.int .i64 c3,.int .i64 c4,.int .i64 c5,.int .i64 c6,.int .i64 c7]] =>some (.req (w9 ⟨p,a,d,k⟩) (.req (shF f) (.leaf (axV f ⟨p,a,d,k⟩ n ⟨c0,c1,c2,c3,c4,c5,c6,c7⟩))))
 |_=>none
def z70:Fact:=qh2 49 λf rest=>match rest with
 |[.agg [.list .str p,.int .i64 a,.bool d,.int .i64 k],.int .i64 n,.agg [.int .i64 c0,.int .i64 c1,.int .i64 c2,.int .i64 c3,.int .i64 c4,.int .i64 c5,.int .i64 c6,.int .i64 c7]] =>some (.req (w9 ⟨p,a,d,k⟩) (.req (m7 c1) (.leaf (axV f ⟨p,a,d,k⟩ n ⟨c0,c1,c2,c3,c4,c5,c6,c7⟩))))
 |_=>none
def z72:Fact:=qh2 46 λf rest=>match rest with
 |[.agg [.list .str p,.int .i64 a,.bool d,.int .i64 k]] =>some (.req (w9 ⟨p,a,d,k⟩) (.leaf (qm6 f ⟨p,a,d,k⟩).sv))
 |_=>none
def z95:Fact:=qh2 41 λf rest=>match rest with
 |[.agg [.list .str p,.int .i64 a,.bool d,.int .i64 k]] =>some (.req (w9 ⟨p,a,d,k⟩) (.req (shF f) (.node (decide (rvE f ⟨p,a,d,k⟩=0)) (.leaf (.tuple [(rvF f ⟨p,a,d,k⟩).sv,J 0])) (.leaf (.tuple [fw0.sv,J (rvE f ⟨p,a,d,k⟩)])))))
 |_=>none
def qe8:Fact:=⟨40,λargs=>match args with
 |[] =>some (.leaf (.bool true))
 |_=>none⟩
def z02:Fact:=⟨51,λargs=>match args with
 |[.int .i64 n] =>match n==6 with
  |true=>some (.leaf (.tuple [(flN 6).sv,J 0]))
  |false=>match n==4 with
   |true=>some (.leaf (.tuple [(flN 4).sv,J 0]))
   |false=>none
 |_=>none⟩
open Go.Sx
theorem xE8{x:Fw}:shF x=true↔x.queue.length<=1000/\x.lines.length<=1000:=by
 unfold shF shB shI;rw[Bool.and_eq_true,decide_eq_true_eq,decide_eq_true_eq]
theorem xE7(a:¬(f.queue.length:Int)>40)(b:¬(f.lines.length:Int)>40):shF f=true:=xE8.2 (by omega)
theorem qo3:w9 l=true↔l.pages.length<=1000:=by unfold w9;rw[decide_eq_true_eq]
theorem yL0(h:yL2 l=true):w9 l=true:=qo3.2 (by have:=(yL3.1 h).2;omega)
section
variable {f:Fw} {l:Fl} {r s n:Int} {c:Gc.C}
theorem zi4{g:Fw}{d:V4}{len m:Int}:(s9 g d len m).queue.length=g.queue.length+1/\(s9 g d len m).lines.length=g.lines.length+1:=⟨zi2,by show(g.lines++[m]).length=_;simp⟩
theorem zs8{g:Fw}{d:V4}:(zs0 g d).queue.length<=g.queue.length+1/\(zs0 g d).lines.length<=g.lines.length+1:=by
 unfold zs0
 split
 .have:=zi4 (g:=g) (d:=d) (len:=0) (m:=0);omega
 .omega
theorem zM7:(doF f n c).queue.length<=f.queue.length+2/\(doF f n c).lines.length<=f.lines.length+2:=by
 have z:(0:Nat)<=f.queue.length+2/\(0:Nat)<=f.lines.length+2:=⟨Nat.zero_le _,Nat.zero_le _⟩
 have e:f.queue.length<=f.queue.length+2/\f.lines.length<=f.lines.length+2:=by omega
 have ff:(d8 f c).queue=f.queue/\(d8 f c).lines=f.lines:=by unfold d8;split<;>exact⟨rfl,rfl⟩
 have mv:(qZ9 f n c).queue.length<=f.queue.length+2/\(qZ9 f n c).lines.length<=f.lines.length+2:=by
  have a:=zi4 (g:=d8 f c) (d:=qZ7 f c) (len:=qR3 (d8 f c) (t6 f c) (s0 f c)) (m:=n);rw[ff.1,ff.2]at a;unfold qZ9 tlF
  split
  .show(d8 f c).queue.length<=_/\(d8 f c).lines.length<=_
   rw[ff.1,ff.2];exact e
  .show(s9 (d8 f c) (qZ7 f c) (qR3 (d8 f c) (t6 f c) (s0 f c)) n).queue.length<=_/\(s9 (d8 f c) (qZ7 f c) (qR3 (d8 f c) (t6 f c) (s0 f c)) n).lines.length<=_
   omega
 have hm:(qE4 f n).queue.length<=f.queue.length+2/\(qE4 f n).lines.length<=f.lines.length+2:=by
  have a:=zs8 (g:=qD2 f n) (d:=qD7 f n);have b:=zs8 (g:=zs0 (qD2 f n) (qD7 f n)) (d:=qE0 f n);have q1:(qD2 f n).queue.length=f.queue.length:=rfl;have q2:(qD2 f n).lines.length=f.lines.length:=rfl;unfold qE4
  split
  .exact e
  .show(zs0 (zs0 (qD2 f n) (qD7 f n)) (qE0 f n)).queue.length<=_/\(zs0 (zs0 (qD2 f n) (qD7 f n)) (qE0 f n)).lines.length<=_
   omega
 unfold doF
 by_cases k0:c.code=1112
 .rw[if_pos k0];exact z
 rw[if_neg k0]
 by_cases k1:c.code=1999
 .rw[if_pos k1];exact e
 rw[if_neg k1]
 by_cases k2:c.code=1025
 .rw[if_pos k2];exact e
 rw[if_neg k2]
 by_cases k3:c.code=1024
 .rw[if_pos k3];exact e
 rw[if_neg k3]
 by_cases k4:c.code=0\/c.code=1
 .rw[if_pos k4];exact mv
 rw[if_neg k4]
 by_cases k5:c.code=4
 .rw[if_pos k5];exact e
 rw[if_neg k5]
 by_cases k6:c.code=28
 .rw[if_pos k6];exact hm
 rw[if_neg k6]
 by_cases k7:c.code=1104
 .rw[if_pos k7];exact e
 rw[if_neg k7]
 by_cases k8:c.code=1109
 .rw[if_pos k8];exact e
 rw[if_neg k8]
 by_cases k9:c.code=1140
 .rw[if_pos k9];exact e
 rw[if_neg k9]
 by_cases k10:c.code=1190
 .rw[if_pos k10];exact e
 rw[if_neg k10];exact e
theorem zh3(h:zf8 f n c=0):shF (zg0 f n c)=true:=by
 have v:xX9 f=true:=by
  cases v:xX9 f with
  |true=>rfl
  |false=>unfold zf8 at h;rw[if_pos (.inl v)]at h;omega
 have hv:=x00 v;have d:=zM7 (f:=f) (n:=n) (c:=c);have l:=hv.len;have k:=hv.lens
 have t:∀g:Fw,g.queue.length<=f.queue.length+2/\g.lines.length<=f.lines.length+2->shF (xS5 (qS4 g n))=true:=λg hg=>by
  have s:(xS5 (qS4 g n)).queue=g.queue/\(xS5 (qS4 g n)).lines=g.lines:=by unfold qS4;split<;>exact⟨rfl,rfl⟩
  refine xE8.2 ?_;rw[s.1,s.2];omega
 unfold zg0
 split
 .exact xE8.2 (by show(doF f n c).queue.length<=1000/\(doF f n c).lines.length<=1000;omega)
 .exact t _ d
theorem zq5(k:shF f=true):shF (axF f l n c)=true:=by
 unfold axF;split
 .rename_i e
  have e0:zf8 f n c=0:=by
   by_cases q:zf8 f n c=0
   .exact q
   .unfold axE at e;rw[if_neg q]at e;exact absurd e q
  exact zh3 e0
 .exact k
theorem zq2(h:w9 l=true):w9 (axL f l n c)=true:=by
 unfold axL;split
 .split
  .exact qo4 (qo4 h)
  .exact qo4 h
 .exact h
end
open Go.Sx
theorem yk5:z69.ok pP:=qh3 λf rest t ht=>by
 split at ht
 .injection ht with ht;subst ht;exact λh k=>xn2 f ⟨_,_,_,_⟩ _ ⟨_,_,_,_,_,_,_,_⟩ h k
 .cases ht
theorem yk6:z70.ok pP:=qh3 λf rest t ht=>by
 split at ht
 .injection ht with ht;subst ht;exact λh o=>xn3 f ⟨_,_,_,_⟩ _ ⟨_,_,_,_,_,_,_,_⟩ h o
 .cases ht
theorem y84{g:FuncId}{args:List SV}(h:SCall pP g args (rvS f l)):(Tree.node (decide (rvE f l=0)) (.leaf (.tuple [(rvF f l).sv,J 0])) (.leaf (.tuple [fw0.sv,J (rvE f l)]))).says (SCall pP g args):=by
 refine⟨λe=>?_,λe=>?_⟩
 .have e:=of_decide_eq_true e
  unfold rvS at h;rw[if_pos e]at h;exact h
 .have e:=of_decide_eq_false e
  unfold rvS at h;rw[if_neg e]at h;exact xD2 h (q51 (q47 _ rfl rfl))
theorem yn1:z95.ok pP:=qh3 λf rest t ht=>by
 split at ht
 .injection ht with ht;subst ht;exact λh k=>y84 (xq5 f ⟨_,_,_,_⟩ h k)
 .cases ht
theorem xf0:SCall pP 51 [J 6] (.tuple [(flN 6).sv,J 0]):=by
 refine s7 rfl rfl (by kernel_rfl) (o5 k00 (n:=1000) (hint:=.str) (keep:=x6 25 []) (p:=qq9) (boxes:=[]) rfl ?_);have q:=fn6 ();unfold v6 v7 at q;erw [q]
 repeat' first
  |refine x0 rfl ?_
  |rfl
theorem xe9:SCall pP 51 [J 4] (.tuple [(flN 4).sv,J 0]):=by
 refine s7 rfl rfl (by kernel_rfl) (o5 k00 (n:=1000) (hint:=.str) (keep:=x6 25 []) (p:=qq8) (boxes:=[]) rfl ?_);have q:=fn4 ();unfold v6 v7 at q;erw [q]
 repeat' first
  |refine x0 rfl ?_
  |rfl
theorem yd9:z02.ok pP:=λargs t ht=>by
 simp only[z02]at ht
 split at ht
 .split at ht
  .rename_i h
   have h:=beq_iff_eq.1 h;subst h;injection ht with ht;subst ht;exact xf0
  .split at ht
   .rename_i h
    have h:=beq_iff_eq.1 h;subst h;injection ht with ht;subst ht;exact xe9
   .cases ht
 .cases ht
section
variable {kd:Int} {nb:Bool} {c:Gc.C} {n r s:Int}
end
open Go.Sx
theorem xA2 :SCall pP 40 [] (.bool true):=
 v8 mix [z62,z02,zW6,z95] ⟨yj5,yd9,ya3,yn1,trivial⟩ 40000 (.auto)
  (t:=.req (true) (.req (true) (.req (true) (.req (true) (.req (true) (.req (true) (.req (true) (.leaf (SV.bool true)))))))))
  (by kernel_rfl) (by trivial) (by kernel_rfl) (by kernel_rfl)
theorem yt5:qe8.ok pP:=λargs t ht=>by
 simp only[qe8]at ht
 split at ht
 .injection ht with ht;subst ht;exact xA2
 .cases ht
open Go.Sx
open Go.Sx
open Go.Sx
open Go.Sx
theorem s_lawPAccepts0(f:Fw)(l:Fl)(c:Gc.C)(ho:m7 c.has=true):SCall pP 12 [f.sv,l.sv,c.sv] (.bool true):=
 xD1 (hB (l:=[z78,qe8,qb0,qb1,z69,z70]) (k:=[]) (j:=[]) (i:=[]) ([] :List Nat) ([] :List Nat) ([] :List Nat) ([] :List Nat) (⟨yl4,yt5,yo9,yp0,yk5,yk6,trivial⟩) u9 u9 u9) 1000 (let z1:Plan:=.ln 3 (.lit .all);let z0:Plan:=.ln 9 (.fork z1 (.ln 3 (.fork .all (.go (.lit .all)))));.fork (.ln 8 (.lit .all)) (.ln 4 (.fork z1 (.ln 3 (.fork .all (.go (.ln 15 (.fork z1 (.ln 3 (.fork .all (.go (.ln 5 (.fork z0 z0)))))))))))))
  (t:=let y0:=i64.wrap (f.line+1);let y1:Tree SV:=.leaf (.bool false);let y2:Tree SV:=.leaf (.bool true);let y3:=axF f l 0 c;let y4:=axL f l 0 c;.node (decide ((↑f.queue.length:Int)>40)) y2 (.node (decide ((↑f.lines.length:Int)>40)) y2 (.node (!yL2 l) y2 (.req (w9 l) (.req (shF f) (.req (w9 l) (.req (m7 c.has) (.req (zS9 y3 y3) (.req (shF y3) (.req (zS6 y4 y4) (.req (w9 y4) (.node (!axH f l 0 c==axH f l 0 c) y1 (.node (axE f l 0 c != axE f l 0 c) y1 (.node (decide (f.line<1099511627776)) (.req (w9 l) (.req (shF f) (.req (w9 l) (.req (m7 c.has) (.req (zS9 (axF f l y0 c) (axF f l y0 c)) (.req (shF (axF f l y0 c)) (.req (zS6 (axL f l y0 c) (axL f l y0 c)) (.req (w9 (axL f l y0 c)) (.node (!axH f l y0 c==axH f l y0 c) y1 (.node (axE f l y0 c != axE f l y0 c) y1 y2)))))))))) (.req (w9 l) (.req (shF f) (.req (w9 l) (.req (m7 c.has) (.req (zS9 y3 y3) (.req (shF y3) (.req (zS6 y4 y4) (.req (w9 y4) (.node (!axH f l 0 c==axH f l 0 c) y1 (.node (axE f l 0 c != axE f l 0 c) y1 y2))))))))))))))))))))))))
  (by kernel_rfl) (by
   refine o4 (λ_=>rfl) λa=>o4 (λ_=>rfl) λb=>f7 (λ_=>rfl) λp=>?_
   have h:=yL0 p;have k:=xE7 a b
   repeat' first
    |exact rfl
    |exact h
    |exact k
    |exact ho
    |exact zT1 _
    |exact zq5 k
    |exact zS8 _
    |exact zq2 h
    |refine x0 ?_ ?_
    |refine f7 (λq=>absurd q (by simp)) λ_=>?_
    |refine q24 (λq=>absurd rfl q) λ_=>?_
    |refine o4 (λ_=>?_) λ_=>?_) (by kernel_rfl) (by kernel_rfl)
theorem s_lawPAccepts(f:Fw)(l:Fl)(c:Gc.C)(hh:(Lit.int .i64 c.has).wf=true):SCall pP 12 [f.sv,l.sv,c.sv] (.bool true):=s_lawPAccepts0 f l c (yu7.2 (x30 hh))
end Go.Proofs.YtnkaepnblikcdaaGreat
