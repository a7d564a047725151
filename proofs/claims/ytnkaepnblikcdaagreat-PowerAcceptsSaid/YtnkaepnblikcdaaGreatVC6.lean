/-
  Evaluator, contracts, plain law.
-/
import Derived.Test.YtnkaepnblikcdaaGreatVC5
import Derived.Test.YtnkaepnblikcdaaGreatVC3
import Derived.Laws.IdiomCopy
import Derived.Tactics
set_option maxRecDepth 100000
set_option linter.unusedVariables false
set_option linter.unusedSimpArgs false
open Go.IntKind (i64 u64 u8)
namespace Go.Proofs.YtnkaepnblikcdaaGreat
open Go.Sx
variable{k:Int}
theorem q23{O:Type}{L:O->Prop}{a:Int}{T F:Tree O}(h:a=k->T.holds L)(h':¬a=k->F.holds L):(Tree.node (a==k) T F).holds L:=⟨λe=>h (beq_iff_eq.1 e),λe=>h' (beq_eq_false_iff_ne.1 e)⟩
theorem q24{O:Type}{L:O->Prop}{a:Int}{T F:Tree O}(h:¬a=k->T.holds L)(h':a=k->F.holds L):(Tree.node (a != k) T F).holds L:=⟨λe=>h (bne_iff_ne.1 e),λe=>h' (bne_eq_false_iff_eq.1 e)⟩
variable{b:Bool}
theorem p7{O:Type}{L:O->Prop}{T F:Tree O}(h:b=true->T.holds L)(h':b=false->F.holds L):(Tree.node b T F).holds L:=⟨h,h'⟩
theorem f7{O:Type}{L:O->Prop}{T F:Tree O}(h:b=false->T.holds L)(h':b=true->F.holds L):(Tree.node (!b) T F).holds L:=⟨λe=>h (by simpa using e),λe=>h' (by simpa using e)⟩
theorem o4{O:Type}{L:O->Prop}{p:Prop}[Decidable p]{T F:Tree O}(h:p->T.holds L)(h':¬p->F.holds L):(Tree.node (decide p) T F).holds L:=⟨λe=>h (of_decide_eq_true e),λe=>h' (of_decide_eq_false e)⟩
theorem x0{O:Type}{L:O->Prop}{T:Tree O}(h:b=true)(h':T.holds L):(Tree.req b T).holds L:=⟨h,h'⟩
section
variable {f:Fw} {line:Int} {c:Gc.C}
theorem zP9(a:c.code=1999):doE f line c=resE f:=by unfold doE;rw[if_neg (by omega),if_pos a]
theorem zP3(a:¬c.code=1112)(b:¬c.code=1999)(m:f.mode=3):doE f line c=16:=by unfold doE;rw[if_neg a,if_neg b,if_pos m]
theorem zP8(a:c.code=1024\/c.code=1025)(m:¬f.mode=3):doE f line c=yJ9 f c:=by
 unfold doE yJ9;rw[if_neg (by omega),if_neg (by omega),if_neg m]
 by_cases h:c.code=1024
 .rw[if_neg (by omega),if_pos h,if_pos h]
 .rw[if_pos (by omega),if_neg h]
theorem zQ0(a:¬c.code=1112/\¬c.code=1999/\¬c.code=1024/\¬c.code=1025)(m:¬f.mode=3)(w:¬f.waits=0\/¬f.dwell=0):doE f line c=18:=by
 unfold doE;rw[if_neg a.1,if_neg a.2.1,if_neg m,if_neg a.2.2.2,if_neg a.2.2.1,if_pos w]
theorem zP5(a:¬c.code=1112/\¬c.code=1999/\¬c.code=1024/\¬c.code=1025)(m:¬f.mode=3)(w:f.waits=0/\f.dwell=0):doE f line c=if c.code=0\/c.code=1 then qZ6 f line c else if c.code=4 then(if qF6 f=true then 0 else 18)else if c.code=28 then qD4 f line else 0:=by
 unfold doE;rw[if_neg a.1,if_neg a.2.1,if_neg m,if_neg a.2.2.2,if_neg a.2.2.1,if_neg (by omega)]
theorem zP6(k:c.code=0\/c.code=1)(m:¬f.mode=3)(w:f.waits=0/\f.dwell=0):doE f line c=qZ6 f line c:=by rw[zP5 (by omega) m w,if_pos k]
theorem zP2(k:c.code=4)(m:¬f.mode=3)(w:f.waits=0/\f.dwell=0):doE f line c=zO5 f:=by rw[zP5 (by omega) m w,if_neg (by omega),if_pos k];rfl
theorem zP4(k:c.code=28)(m:¬f.mode=3)(w:f.waits=0/\f.dwell=0):doE f line c=qD4 f line:=by rw[zP5 (by omega) m w,if_neg (by omega),if_neg (by omega),if_pos k]
theorem zP7(k:¬c.code=0/\¬c.code=1/\¬c.code=4/\¬c.code=28)(a:¬c.code=1112/\¬c.code=1999/\¬c.code=1024/\¬c.code=1025)(m:¬f.mode=3)(w:f.waits=0/\f.dwell=0):doE f line c=0:=by rw[zP5 a m w,if_neg (by omega),if_neg (by omega),if_neg (by omega)]
theorem zI4(a:¬c.code=1112/\¬c.code=1999/\¬c.code=1024/\¬c.code=1025):doF f line c=if c.code=0\/c.code=1 then qZ9 f line c else if c.code=4 then {f with dwell:=c.s} else if c.code=28 then qE4 f line else if c.code=1104 then {f with c0:=f.c0.aim c.s} else if c.code=1109 then {f with c0:=f.c0.aim c.s,waits:=orB f.waits 1} else if c.code=1140 then {f with c1:=f.c1.aim c.s} else if c.code=1190 then {f with c1:=f.c1.aim c.s,waits:=orB f.waits 2} else {f with fan:=c.s}:=by
 unfold doF;rw[if_neg a.1,if_neg a.2.1,if_neg a.2.2.2,if_neg a.2.2.1]
theorem zI5(k:c.code=0\/c.code=1)(h:qZ6 f line c=0):doF f line c=q00 f line c:=by rw[zI4 (by omega),if_pos k,qZ5 h]
theorem zI0(k:c.code=4)(h:zO5 f=0):doF f line c=zO6 f c:=by rw[zI4 (by omega),if_neg (by omega),if_pos k,zO7 h]
theorem zI3(k:c.code=28)(h:qD4 f line=0):doF f line c=qE5 f line:=by rw[zI4 (by omega),if_neg (by omega),if_neg (by omega),if_pos k,qD1 h]
theorem zI7(k:c.code=1999)(h:resE f=0):doF f line c=yX8 f:=by unfold doF;rw[if_neg (by omega),if_pos k,y64 h]
theorem zI6(k:c.code=1024\/c.code=1025)(h:yJ9 f c=0):doF f line c=yK0 f c:=by
 unfold doF;rw[if_neg (by omega),if_neg (by omega)]
 by_cases a:c.code=1024
 .rw[if_neg (by omega),if_pos a,(yK2 a).2 h]
 .rw[if_pos (by omega),(yK1 (by omega)).2 h]
theorem zI1(k:c.code=1106\/c.code=1107):doF f line c={f with fan:=c.s}:=by rw[zI4 (by omega),if_neg (by omega),if_neg (by omega),if_neg (by omega),if_neg (by omega),if_neg (by omega),if_neg (by omega),if_neg (by omega)]
theorem zI2(v:VF f)(hc:c.valid=true)(k:c.code=1104\/c.code=1109\/c.code=1140\/c.code=1190):doF f line c=qA3 f c:=by
 rw[zI4 (by omega),if_neg (by omega),if_neg (by omega),if_neg (by omega),(qB0 v hc (by omega)).2];rcases k with k|k|k|k
 .rw[if_pos k,qA6 k]
 .rw[if_neg (by omega),if_pos k,qA7 k]
 .rw[if_neg (by omega),if_neg (by omega),if_pos k,qA8 k]
 .rw[if_neg (by omega),if_neg (by omega),if_neg (by omega),if_pos k,qA9 k]
theorem zE4(hc:c.valid=true)(h:¬c.code=0/\¬c.code=1/\¬c.code=4/\¬c.code=28/\¬c.code=1024/\¬c.code=1025/\¬c.code=1106/\¬c.code=1107/\¬c.code=1112/\¬c.code=1999):c.code=1104\/c.code=1109\/c.code=1140\/c.code=1190:=by
 have:=zE5 hc;omega
set_option maxHeartbeats 4000000 in
theorem zf6(v:xX9 f=true)(hc:c.valid=true)(hs:xK5 f line=true):t8 pP (x9 pP 24) (doS f line c) qK8 (x7 114 [(1,J line),(3,.ptr 0 0),(5,.ptr 1 0),(6,.ptr 2 0)]) [some (.cells f.cells),some (.cells c.cells),some (.cells (o6 fw0))] :=by
 refine o5 kAc (n:=1000) (hint:=.unit) (keep:=x6 114 [1,5,6,11,80]) (p:=zf5) zM4 ?_;erw [acT f line c];have vf:=x00 v
 repeat' first
  |refine q23 (λ_=>?_) (λ_=>?_)
  |refine q24 (λ_=>?_) (λ_=>?_)
  |refine x0 hs ?_
  |refine x0 v ?_
  |refine x0 hc ?_
 all_goals first
  |(exfalso;omega)
  |exact zM5 (zP3 (by omega) (by omega) (by assumption)) (by omega)
  |exact zM5 (zQ0 (by omega) (by assumption) (by omega)) (by omega)
  |exact zM5 (zP9 (by assumption)) (by assumption)
  |exact zM5 (zP8 (by omega) (by assumption)) (by assumption)
  |exact zM5 (zP6 (by omega) (by assumption) (by omega)) (by assumption)
  |exact zM5 (zP2 (by omega) (by assumption) (by omega)) (by assumption)
  |exact zM5 (zP4 (by omega) (by assumption) (by omega)) (by assumption)
  |exact absurd (qB0 vf hc (by omega)).1 (by assumption)
  |exact⟨rfl,zp5 (zM2 (by assumption)) (zM3 (by assumption))⟩
  |exact⟨rfl,zp5 ((zP9 (by assumption)).trans (by assumption)) (zI7 (by assumption) (by assumption))⟩
  |exact⟨rfl,zp5 ((zP8 (by omega) (by assumption)).trans (by assumption)) (zI6 (by omega) (by assumption))⟩
  |exact⟨rfl,zp5 ((zP6 (by omega) (by assumption) (by omega)).trans (by assumption)) (zI5 (by omega) (by assumption))⟩
  |exact⟨rfl,zp5 ((zP2 (by omega) (by assumption) (by omega)).trans (by assumption)) (zI0 (by omega) (by assumption))⟩
  |exact⟨rfl,zp5 ((zP4 (by omega) (by assumption) (by omega)).trans (by assumption)) (zI3 (by omega) (by assumption))⟩
  |exact⟨rfl,zp5 (zP7 (by omega) (by omega) (by assumption) (by omega)) (zI1 (by omega))⟩
  |exact⟨rfl,zp5 (zP7 (by omega) (by omega) (by assumption) (by omega)) (zI2 vf hc (zE4 hc (by omega)))⟩
end
def yY3(e:Int)(g:Fw):SV:=if e=0 then .tuple [g.sv,J 0]else .tuple [.agg (o6 fw0),J e]
theorem yY4(e:Int)(g:Fw):(yY3 e g).data=true:=by unfold yY3;split<;>rfl
variable{e:Int}{g:Fw}
theorem yY5(h:e=k)(n:¬k=0):SV.tuple [.agg (o6 fw0),.int .i64 k] =yY3 e g:=by subst h;unfold yY3;rw[if_neg n];rfl
theorem yY6{g':Fw}(h:e=0)(k:g=g'):SV.tuple [.agg g'.cells,.int .i64 0] =yY3 e g:=by subst k;unfold yY3;rw[if_pos h];rfl
variable{P:Program}
theorem yY7{x:FuncId}{args:List SV}(k:SCall P x args (yY3 e g)):(Tree.node (decide (e=0)) (.leaf (.tuple [g.sv,J 0])) (.leaf (.tuple [.agg (o6 fw0),J e]))).says (SCall P x args):=by
 unfold yY3 at k;refine⟨λh=>?_,λh=>?_⟩
 .rw[if_pos (of_decide_eq_true h)]at k;exact k
 .rw[if_neg (of_decide_eq_false h)]at k;exact k
abbrev za7:=Int×Int×Int×Int×Int×Int×Int×Int
abbrev OpT:=Int×Bool×za7×Int×Int×Int
abbrev xU2:Ty:=.pair (.int .i64) (.pair .bool (.pair (.pair (.int .i64) (.pair (.int .i64) (.pair (.int .i64) (.pair (.int .i64) (.pair (.int .i64) (.pair (.int .i64) (.pair (.int .i64) (.int .i64)))))))) (.pair (.int .i64) (.pair (.int .i64) (.int .i64)))))
abbrev LO(l:List OpT):SV:=.list xU2 l
def opN(x:OpT):Int:=x.2.2.2.1
theorem k00:Known pP (Env.of pP (j9 [])):=kW trivial
section
variable {l:List Bk} {caps:List Int} {e:Int}
end
section
variable {g:Fw} {d:V4} {len line:Int}
end
theorem xX1{c:Gc.C}(h:c.valid=true):Gc.okW c 5=true:=by
 unfold Gc.C.valid at h;rw[Bool.and_eq_true]at h;have r:=h.2;simp only[Gc.rest,Bool.and_eq_true]at r;exact r.2.2.2.2.2.1
theorem q71(c:Gc.C):c.num 5=c.s:=by unfold Gc.C.num;simp
section
variable {f:Fw} {line:Int} {c:Gc.C}
theorem zf9(h:zf8 f line c=0):xX9 f=true/\c.valid=true/\(line=0\/line=f.line+1)/\line<=1099511627776/\doE f line c=0:=by
 unfold zf8 at h
 split at h
 .omega
 .rename_i n
  refine⟨by simpa using λk=>n (.inl k),by simpa using λk=>n (.inr (.inl k)),?_,?_,h⟩
  .by_cases k:line=0
   .exact .inl k
   .by_cases q:line=f.line+1
    .exact .inr q
    .exact absurd (.inr (.inr (.inl ⟨k,q⟩))) n
  .rcases Int.lt_or_le 1099511627776 line with k|k
   .exact absurd (.inr (.inr (.inr k))) n
   .exact k
end
section
variable {f:Fw} {r s:Int}
end
section
variable {f:Fw} {line:Int} {c:Gc.C}
theorem zg3:(zg2 f line c).data=true:=by unfold zg2;split<;>rfl
theorem zg1:zg0 f line c=zS0 (doF f line c) line c:=by
 unfold zg0 zS0 qS4
 by_cases h:c.code=1112
 .rw[if_pos h,if_pos (.inr h)]
 .rw[if_neg h]
  by_cases k:line=0
  .rw[if_pos k,if_pos (.inl k)]
  .rw[if_neg k,if_neg (by omega)];rfl
theorem zg9(h:xX9 f=false\/c.valid=false\/(¬line=0/\¬line=f.line+1)\/1099511627776<line):SV.tuple [.agg (o6 fw0),.int .i64 1] =zg2 f line c:=by
 have e:zf8 f line c=1:=if_pos h;unfold zg2;rw[e,if_neg (by omega)];rfl
theorem zh1(v:xX9 f=true)(hc:c.valid=true)(hl:line=0\/line=f.line+1)(hm:line<=1099511627776):zg2 f line c=doS f line c:=by
 have e:zf8 f line c=doE f line c:=if_neg (by rw[v,hc];simp only[Bool.true_eq_false,false_or];omega);unfold zg2 doS;rw[e,zg1]
theorem qN0:Known pP (Env.ofB pP (j9 [qe2,fGv,qd1]) (s8 [x14,x12,x11,x10,x06,x09,x07,x08]) (p9 []) (p8 []) (j6 []) (j6 []) (j6 []) (j6 [3])):=
 hB (l:=[qe2,fGv,qd1]) (k:=[x14,x12,x11,x10,x06,x09,x07,x08]) (j:=[]) (i:=[]) [] [] [] [3] ⟨ys3,yf0,yr4,trivial⟩ (allQ.all (p:=WFact.ok pP) (l:=[x14,x12,x11,x10,x06,x09,x07,x08]) ⟨yu1,yt9,yt6,ys9,yt1,ys8,yt2,yt3,trivial⟩) u9 u9
set_option maxHeartbeats 4000000 in
theorem y95(f:Fw)(line:Int)(c:Gc.C):SCall pP 24 [f.sv,J line,c.sv] (zg2 f line c):=by
 refine s7 rfl zg3 (by kernel_rfl) (o5 qN0 (n:=1000) (hint:=.unit) (keep:=x6 114 [1,3,5,6]) (p:=zf1) (boxes:=[]) zg3 ?_);have q:=ac0 f line c;unfold v6 v7 at q;erw [q]
 have go:xX9 f=true->c.valid=true->(line=0\/line=f.line+1)->line<=1099511627776->t8 pP (x9 pP 24) (zg2 f line c) qK8 (x7 114 [(1,J line),(3,.ptr 0 0),(5,.ptr 1 0),(6,.ptr 2 0)]) [some (.cells f.cells),some (.cells c.cells),some (.cells (o6 fw0))] :=λv hc hl hm=>by
  have n:=(x00 v).nums;rw[zh1 v hc hl hm];exact zf6 v hc (xK6.2 ⟨(x00 v).shape,by omega,hm⟩)
 refine f7 (λv=>zg9 (.inl v)) λv=>f7 (λhc=>zg9 (.inr (.inl hc))) λhc=>?_
 have n:=(x00 v).nums;have w:i64.wrap (f.line+1)=f.line+1:=w64 (by omega) (by omega);rw[w]
 refine q24 (λh0=>q24 (λh1=>zg9 (.inr (.inr (.inl ⟨h0,h1⟩)))) λh1=>o4 (λh2=>zg9 (.inr (.inr (.inr (by omega))))) λh2=>?_) λh0=>o4 (λh2=>zg9 (.inr (.inr (.inr (by omega))))) λh2=>?_
 .exact⟨u7 _ _,go v hc (.inr h1) (by omega)⟩
 .exact⟨u7 _ _,go v hc (.inl h0) (by omega)⟩
end
def zV9:Fact:=qh2 24 λf rest=>match rest with
 |[.int .i64 line,.agg [.int .i64 a0,.int .i64 a1,.int .i64 a2,.int .i64 a3,.int .i64 a4,.int .i64 a5,.int .i64 a6,.int .i64 a7]] =>some (.node (decide (zf8 f line ⟨a0,a1,a2,a3,a4,a5,a6,a7⟩=0)) (.leaf (.tuple [(zg0 f line ⟨a0,a1,a2,a3,a4,a5,a6,a7⟩).sv,J 0])) (.leaf (.tuple [fw0.sv,J (zf8 f line ⟨a0,a1,a2,a3,a4,a5,a6,a7⟩)])))
 |_=>none
theorem zg4{g:FuncId}{args:List SV}{f:Fw}{line:Int}{c:Gc.C}(k:SCall P g args (zg2 f line c)):(Tree.node (decide (zf8 f line c=0)) (.leaf (.tuple [(zg0 f line c).sv,J 0])) (.leaf (.tuple [fw0.sv,J (zf8 f line c)]))).says (SCall P g args):=by
 unfold zg2 at k;refine⟨λh=>?_,λh=>?_⟩
 .rw[if_pos (of_decide_eq_true h)]at k;exact k
 .rw[if_neg (of_decide_eq_false h)]at k;exact xD2 k (q51 (q47 _ rfl rfl))
theorem q95:zV9.ok pP:=qh3 λf rest t ht=>by
 split at ht
 .injection ht with ht;subst ht;exact zg4 (y95 f _ ⟨_,_,_,_,_,_,_,_⟩)
 .cases ht
def zo9:List SV->Option Ma
 |[.int .i64 a0,.int .i64 a1,.int .i64 a2,.int .i64 a3,.int .i64 a4,.int .i64 a5,.int .i64 a6,.int .i64 a7,.int .i64 a8,.int .i64 a9,.int .i64 a10,.int .i64 a11,.int .i64 a12,.int .i64 a13,.int .i64 a14,.int .i64 a15,.int .i64 a16,.int .i64 a17,.int .i64 a18,.int .i64 a19,.int .i64 a20,.int .i64 a21,.int .i64 a22,.int .i64 a23,.int .i64 a24,.int .i64 a25,.int .i64 a26,.int .i64 a27,.bool xy,.int .i64 t] =>some ⟨⟨a0,a1,a2,a3,a4,a5,a6⟩,⟨a7,a8,a9,a10,a11,a12,a13⟩,⟨a14,a15,a16,a17,a18,a19,a20⟩,⟨a21,a22,a23,a24,a25,a26,a27⟩,xy,t⟩
 |_=>none
variable{l:List SV}
theorem zp0{m:Ma}(h:zo9 l=some m):l=m.cells:=by
 unfold zo9 at h
 split at h
 .injection h with h;subst h;rfl
 .cases h
def zo3:List SV->Option (Co×Co)
 |[.int .i64 c0,.int .i64 c1,.int .i64 c2,.int .i64 c3,.int .i64 c4,.int .i64 c5,.int .i64 c6,.int .i64 c7,.int .i64 c8,.int .i64 c9,.int .i64 c10,.int .i64 c11] =>some (⟨c0,c1,c2,c3,c4,c5⟩,⟨c6,c7,c8,c9,c10,c11⟩)
 |_=>none
theorem zo4{m:(Co×Co)}(h:zo3 l=some m):l=m.1.cells++m.2.cells:=by
 unfold zo3 at h
 split at h
 .injection h with h;subst h;rfl
 .cases h
def zo7:List SV->Option (Gu×Gu)
 |[.int .i64 g0,.int .i64 g1,.int .i64 g2,.int .i64 g3,.int .i64 g4,.int .i64 g5,.int .i64 g6,.int .i64 g7,.int .i64 g8,.int .i64 g9,.bool u,.int .i64 h0,.int .i64 h1,.int .i64 h2,.int .i64 h3,.int .i64 h4,.int .i64 h5,.int .i64 h6,.int .i64 h7,.int .i64 h8,.int .i64 h9,.bool v] =>some (⟨g0,g1,g2,g3,g4,g5,g6,g7,g8,g9,u⟩,⟨h0,h1,h2,h3,h4,h5,h6,h7,h8,h9,v⟩)
 |_=>none
theorem zo8{m:(Gu×Gu)}(h:zo7 l=some m):l=m.1.cells++m.2.cells:=by
 unfold zo7 at h
 split at h
 .injection h with h;subst h;rfl
 .cases h
def qk6(f:FuncId):Fact:=⟨f,λargs=>match args with
 |[.agg lm,.agg lc,.agg lg,.int .i64 cold] =>match zo9 lm with
  |some m=>match zo3 lc with
   |some c=>match zo7 lg with
    |some g=>some (.node (q34 m c.1 c.2 g.1 g.2 cold) (.leaf (.tuple [(q33 m c.1 c.2 g.1 g.2 cold).sv,J 0])) (.leaf (.tuple [fw0.sv,J 1])))
    |none=>none
   |none=>none
  |none=>none
 |_=>none⟩
def z62:Fact:=qk6 61
variable{f:FuncId}
theorem qk7(k:∀m c d g h cold,SCall pP f [Ma.sv m,.agg (Co.cells c++Co.cells d),.agg (Gu.cells g++Gu.cells h),J cold] (q36 m c d g h cold)):(qk6 f).ok pP:=λargs t ht=>by
 simp only[qk6]at ht
 split at ht
 .split at ht
  .rename_i hm
   split at ht
   .rename_i hc
    split at ht
    .rename_i hg
     injection ht with ht;subst ht;rw[zp0 hm,zo4 hc,zo8 hg];refine⟨λh1=>?_,λh1=>?_⟩
     .refine xD2 (v:=q36 _ _ _ _ _ _) (k _ _ _ _ _ _) ?_
      rw[q38 h1];exact q51 (q47 _ rfl rfl)
     .refine xD2 (v:=q36 _ _ _ _ _ _) (k _ _ _ _ _ _) ?_
      rw[q37 h1];exact q51 (q47 _ rfl rfl)
    .cases ht
   .cases ht
  .cases ht
 .cases ht
theorem yj5:z62.ok pP:=qk7 xm4
section
variable {f:Fw} {ex:Int} {cn:V4}
end
section
variable {f:Fw} {line:Int} {c:Gc.C} {ex:Int} {cn:V4}
end
section
variable {f:Fw} {r s ex:Int} {cn:V4}
end
section
variable {f:Fw} {line:Int} {c:Gc.C} {a b:Int×Int}
end
section
variable {f:Fw} {r s:Int} {a b:Int×Int}
end
def zT6(a b:List Int):Bool:=decide (a=b)
def zT4(a b:List Bk):Bool:=decide (a=b)
theorem zT7{a b:List Int}(h:zT6 a b=true):a=b:=of_decide_eq_true h
theorem zT5{a b:List Bk}(h:zT4 a b=true):a=b:=of_decide_eq_true h
def shI(a:List Int):Bool:=decide (a.length<=1000)
def shB(a:List Bk):Bool:=decide (a.length<=1000)
def qa9:Fact:=⟨70,λargs=>match args with
 |[.list (.int .i64) a,.list (.int .i64) b] =>some (.req (zT6 a b) (.req (shI a) (.leaf (.bool true))))
 |_=>none⟩
def qa8:Fact:=⟨69,λargs=>match args with
 |[.list (.pair (.pair (.int .i64) (.pair (.int .i64) (.pair (.int .i64) (.int .i64)))) (.pair (.int .i64) (.pair (.int .i64) (.pair (.int .i64) (.int .i64))))) a,.list (.pair (.pair (.int .i64) (.pair (.int .i64) (.pair (.int .i64) (.int .i64)))) (.pair (.int .i64) (.pair (.int .i64) (.pair (.int .i64) (.int .i64))))) b] =>some (.req (zT4 a b) (.req (shB a) (.leaf (.bool true))))
 |_=>none⟩
def xB9:Plan:=.fork (.all) (.all)
theorem xB8(l:List Int):o7 (Env.of pP (j9 [])) 1000 (x9 pP 70) .unit (x6 26 [0,1,5]) (v7 pP 70) xB9 (v6 pP 70 [LI l,LI l]) [] =(.node ((↑l.length:Int) !=(↑l.length:Int)) (.leaf (.done (.bool false))) (.leaf (.at (x8 pP 70 0) 26 (x7 26 [(0,.list (Ty.int IntKind.i64) l),(1,.list (Ty.int IntKind.i64) l),(5,J 0)]) []))):=by kernel_rfl
def xC1:Plan:=.fork (.fork (.all) (.all)) (.all)
theorem xC0(l:List Int)(i:Int):o7 (Env.of pP (j9 [])) 1000 (x9 pP 70) .unit (x6 26 [0,1,5]) (x8 pP 70 0) xC1 (x7 26 [(0,LI l),(1,LI l),(5,J i)]) [] =(.node (decide (i< (↑l.length:Int))) (.req (decide (0<=i)&&decide (i< (↑l.length:Int))) (.req (decide (0<=i)&&decide (i< (↑l.length:Int))) (.node (l.getD i.toNat 0 != l.getD i.toNat 0) (.leaf (.done (.bool false))) (.leaf (.at (x8 pP 70 0) 26 (x7 26 [(0,.list (Ty.int IntKind.i64) l),(1,.list (Ty.int IntKind.i64) l),(5,J (i64.wrap (i+1)))]) []))))) (.leaf (.done (.bool true)))):=by kernel_rfl
def xB4:Plan:=.fork (.all) (.all)
theorem xB3(l:List Bk):o7 (Env.of pP (j9 [])) 1000 (x9 pP 69) .unit (x6 26 [0,1,5]) (v7 pP 69) xB4 (v6 pP 69 [LB l,LB l]) [] =(.node ((↑l.length:Int) !=(↑l.length:Int)) (.leaf (.done (.bool false))) (.leaf (.at (x8 pP 69 0) 26 (x7 26 [(0,.list o9 l),(1,.list o9 l),(5,J 0)]) []))):=by kernel_rfl
def xB6:Plan:=.fork (.fork (.all) (.all)) (.all)
theorem xB5(l:List Bk)(i:Int):o7 (Env.of pP (j9 [])) 1000 (x9 pP 69) .unit (x6 26 [0,1,5]) (x8 pP 69 0) xB6 (x7 26 [(0,LB l),(1,LB l),(5,J i)]) [] =(let y0:=l.getD i.toNat dBk; .node (decide (i< (↑l.length:Int))) (.req (decide (0<=i)&&decide (i< (↑l.length:Int))) (.req (decide (0<=i)&&decide (i< (↑l.length:Int))) (.node (!(y0.1.1==y0.1.1&& (y0.1.2.1==y0.1.2.1&& (y0.1.2.2.1==y0.1.2.2.1&& (y0.1.2.2.2==y0.1.2.2.2&&true)))&& (y0.2.1==y0.2.1&& (y0.2.2.1==y0.2.2.1&& (y0.2.2.2.1==y0.2.2.2.1&& (y0.2.2.2.2==y0.2.2.2.2&&true)))))) (.leaf (.done (.bool false))) (.leaf (.at (x8 pP 69 0) 26 (x7 26 [(0,.list o9 l),(1,.list o9 l),(5,J (i64.wrap (i+1)))]) []))))) (.leaf (.done (.bool true)))):=by kernel_rfl
structure Fl where
 pages:List (List UInt8)
 fuse:Int
 dead:Bool
 keep:Int
def Fl.cells(f:Fl):List SV:=[.list .str f.pages,J f.fuse,.bool f.dead,J f.keep]
def Fl.sv(f:Fl):SV:=.agg f.cells
def qg4(f:FuncId)(h:Fl->Tree SV):Fact:=⟨f,λargs=>match args with
 |[.agg [.list .str p,.int .i64 a,.bool d,.int .i64 k]] =>some (h ⟨p,a,d,k⟩)
 |_=>none⟩
theorem qh1{h:Fl->Tree SV}(k:∀c,(h c).says (SCall P f [c.sv])):(qg4 f h).ok P:=λargs t ht=>by
 simp only[qg4]at ht
 split at ht
 .injection ht with ht;subst ht;exact k ⟨_,_,_,_⟩
 .cases ht
def xZ1:Plan:=.all
theorem xZ0(f:Fl):o7 (Env.of pP (j9 [])) 1000 (x9 pP 102) .unit (x6 46 [1,6,7,8]) (v7 pP 102) xZ1 (v6 pP 102 [f.sv]) [] =(.leaf (.at (x8 pP 102 0) 46 (x7 46 [(1,.ptr 0 0),(6,.list Ty.str f.pages),(7,J (↑f.pages.length:Int)),(8,J 0)]) [some (.cells [.list Ty.str f.pages,J f.fuse,.bool f.dead,J f.keep])])):=by kernel_rfl
def xZ3:Plan:=.fork (.fork .all .all) (.fork (.ln 4 (.fork (.ln 3 (.fork (.ln 3 (.fork (.ln 3 (.fork (.lit (.lit (.lit .all))) (.lit (.lit (.lit .all))))) (.ln 6 (.lit .all)))) (.ln 10 (.lit .all)))) (.ln 14 (.lit .all)))) (.ln 19 (.lit .all)))
theorem xZ2(f:Fl)(i:Int):o7 (Env.of pP (j9 [])) 1000 (x9 pP 102) .unit (x6 46 [1,6,7,8]) (x8 pP 102 0) xZ3 (x7 46 [(1,.ptr 0 0),(6,.list .str f.pages),(7,J f.pages.length),(8,J i)]) [some (.cells f.cells)] =(.node (decide (i< (↑f.pages.length:Int))) (.req (decide (0<=i)&&decide (i< (↑f.pages.length:Int))) (.node (((List.length (f.pages.getD i.toNat ([] :List UInt8)):Nat):Int) != 64) (.leaf (.done (.bool false))) (.leaf (.at (x8 pP 102 0) 46 (x7 46 [(1,.ptr 0 0),(6,.list Ty.str f.pages),(7,J (↑f.pages.length:Int)),(8,J (i64.wrap (i+1)))]) [some (.cells [.list Ty.str f.pages,J f.fuse,.bool f.dead,J f.keep])])))) (.node (decide ((↑f.pages.length:Int)>=2)) (.node (decide ((↑f.pages.length:Int)<=256)) (.node (decide (f.fuse>=0)) (.node (decide (f.fuse<=1048576)) (.node (decide (f.keep>=0)) (.leaf (.done (.bool (decide (f.keep<=64))))) (.leaf (.done (.bool false)))) (.leaf (.done (.bool false)))) (.leaf (.done (.bool false)))) (.leaf (.done (.bool false)))) (.leaf (.done (.bool false))))):=by kernel_rfl
def xZ6:Plan:=.all
theorem xZ5(f:Fl):o7 (Env.of pP (j9 [])) 1000 (x9 pP 109) .unit (x6 46 [1,6,7,8]) (v7 pP 109) xZ6 (v6 pP 109 [f.sv]) [] =(.leaf (.at (x8 pP 109 0) 46 (x7 46 [(1,.ptr 0 0),(6,.list Ty.str f.pages),(7,J (↑f.pages.length:Int)),(8,J 0)]) [some (.cells [.list Ty.str f.pages,J f.fuse,.bool f.dead,J f.keep])])):=by kernel_rfl
def xZ8:Plan:=.fork (.fork .all .all) (.fork (.ln 4 (.fork (.ln 3 (.fork (.ln 3 (.fork (.ln 3 (.fork (.lit (.lit (.lit .all))) (.lit (.lit (.lit .all))))) (.ln 6 (.lit .all)))) (.ln 10 (.lit .all)))) (.ln 14 (.lit .all)))) (.ln 19 (.lit .all)))
theorem xZ7(f:Fl)(i:Int):o7 (Env.of pP (j9 [])) 1000 (x9 pP 109) .unit (x6 46 [1,6,7,8]) (x8 pP 109 0) xZ8 (x7 46 [(1,.ptr 0 0),(6,.list .str f.pages),(7,J f.pages.length),(8,J i)]) [some (.cells f.cells)] =(.node (decide (i< (↑f.pages.length:Int))) (.req (decide (0<=i)&&decide (i< (↑f.pages.length:Int))) (.node (((List.length (f.pages.getD i.toNat ([] :List UInt8)):Nat):Int) != 64) (.leaf (.done (.bool false))) (.leaf (.at (x8 pP 109 0) 46 (x7 46 [(1,.ptr 0 0),(6,.list Ty.str f.pages),(7,J (↑f.pages.length:Int)),(8,J (i64.wrap (i+1)))]) [some (.cells [.list Ty.str f.pages,J f.fuse,.bool f.dead,J f.keep])])))) (.node (decide ((↑f.pages.length:Int)>=2)) (.node (decide ((↑f.pages.length:Int)<=256)) (.node (decide (f.fuse>=0)) (.node (decide (f.fuse<=1048576)) (.node (decide (f.keep>=0)) (.leaf (.done (.bool (decide (f.keep<=64))))) (.leaf (.done (.bool false)))) (.leaf (.done (.bool false)))) (.leaf (.done (.bool false)))) (.leaf (.done (.bool false)))) (.leaf (.done (.bool false))))):=by kernel_rfl
def qn6:Plan:=.fork (.all) (.all)
theorem fcp(f:Fl):o7 (Env.of pP (j9 [])) 1000 (x9 pP 130) .str (x6 9 []) (v7 pP 130) qn6 (v6 pP 130 [f.sv]) [] =(.node (f.pages.isEmpty) (.leaf (.done (.agg [.list Ty.str [],J f.fuse,.bool f.dead,J f.keep]))) (.req (decide ((0+f.pages.length)*16<=140737488355328)) (.leaf (.done (.agg [.list Ty.str f.pages,J f.fuse,.bool f.dead,J f.keep]))))):=by kernel_rfl
def qn5:Plan:=.fork (.all) (.all)
theorem qn4(f:Fl):o7 (Env.of pP (j9 [])) 1000 (x9 pP 116) .str (x6 9 []) (v7 pP 116) qn5 (v6 pP 116 [f.sv]) [] =(.node (f.pages.isEmpty) (.leaf (.done (.agg [.list Ty.str [],J f.fuse,.bool f.dead,J f.keep]))) (.req (decide ((0+f.pages.length)*16<=140737488355328)) (.leaf (.done (.agg [.list Ty.str f.pages,J f.fuse,.bool f.dead,J f.keep]))))):=by kernel_rfl
theorem q25{O:Type}{L:O->Prop}{T F:Tree O}(hb:b=true)(h:T.holds L):(Tree.node b T F).holds L:=⟨λ_=>h,λk=>by rw[hb]at k;cases k⟩
theorem qM9:Known pP (Env.of pP (j9 [])):=kW trivial
theorem xC2(l:List Int)(hl:l.length<=4611686018427387904):∀ (k i:Nat),i+k=l.length->
  t8 pP (x9 pP 70) (.bool true) (x8 pP 70 0) (x7 26 [(0,LI l),(1,LI l),(5,J i)]) []
 |k,i,hi=>by
  refine o5 qM9 (n:=1000) (hint:=.unit) (keep:=x6 26 [0,1,5]) (p:=xC1) rfl ?_;erw [xC0 l i]
  have t0:(i:Int).toNat=i:=by omega
  have w1:i64.wrap ((i:Int)+1)=((i+1:Nat):Int):=by rw[w64 (by omega) (by omega)];omega
  rw[t0,w1]
  refine o4 (λa=>?_) λa=>rfl
  match k,hi with
  |0,hi=>omega
  |k+1,hi=>
   exact x0 (by simp;omega) (x0 (by simp;omega) (q24 (λc=>absurd rfl c) λ_=>⟨u7 _ _,xC2 l hl k (i+1) (by omega)⟩))
theorem xB7(l:List Bk)(hl:l.length<=4611686018427387904):∀ (k i:Nat),i+k=l.length->
  t8 pP (x9 pP 69) (.bool true) (x8 pP 69 0) (x7 26 [(0,LB l),(1,LB l),(5,J i)]) []
 |k,i,hi=>by
  refine o5 qM9 (n:=1000) (hint:=.unit) (keep:=x6 26 [0,1,5]) (p:=xB6) rfl ?_;erw [xB5 l i]
  have t0:(i:Int).toNat=i:=by omega
  have w1:i64.wrap ((i:Int)+1)=((i+1:Nat):Int):=by rw[w64 (by omega) (by omega)];omega
  rw[t0,w1]
  refine o4 (λa=>?_) λa=>rfl
  match k,hi with
  |0,hi=>omega
  |k+1,hi=>
   exact x0 (by simp;omega) (x0 (by simp;omega) ⟨λc=>(by simp at c),λ_=>⟨u7 _ _,xB7 l hl k (i+1) (by omega)⟩⟩)
theorem xs9(l:List Int)(hl:l.length<=4611686018427387904):SCall pP 70 [LI l,LI l] (.bool true):=by
 refine s7 rfl rfl (by kernel_rfl) (o5 qM9 (n:=1000) (hint:=.unit) (keep:=x6 26 [0,1,5]) (p:=xB9) (boxes:=[]) rfl ?_);have q:=xB8 l;unfold v6 v7 at q;erw [q]
 exact q24 (λc=>absurd rfl c) λ_=>⟨u7 _ _,xC2 l hl l.length 0 (by omega)⟩
theorem xs8(l:List Bk)(hl:l.length<=4611686018427387904):SCall pP 69 [LB l,LB l] (.bool true):=by
 refine s7 rfl rfl (by kernel_rfl) (o5 qM9 (n:=1000) (hint:=.unit) (keep:=x6 26 [0,1,5]) (p:=xB4) (boxes:=[]) rfl ?_);have q:=xB3 l;unfold v6 v7 at q;erw [q]
 exact q24 (λc=>absurd rfl c) λ_=>⟨u7 _ _,xB7 l hl l.length 0 (by omega)⟩
def w9(f:Fl):Bool:=decide (f.pages.length<=1000)
def yJ0(l:List (List UInt8)):Bool:=l.all λp=>decide (p.length=64)
def flB(f:Fl):Bool:=yJ0 f.pages&& (decide (2<=f.pages.length)&&decide (f.pages.length<=256)&&inR f.fuse 0 1048576&&inR f.keep 0 64)
def qq2(f:Fl):Bool:=decide (2<=f.pages.length)&&decide (f.pages.length<=256)&&inR f.fuse 0 1048576&&inR f.keep 0 64
theorem qq1{f:Fl}:flB f=true↔(∀p∈f.pages,p.length=64)/\2<=f.pages.length/\f.pages.length<=256/\(0<=f.fuse/\f.fuse<=1048576)/\0<=f.keep/\f.keep<=64:=by
 simp[flB,yJ0,j8,and_assoc]
theorem zN6{O:Type}{l:List O}{d:O}{i:Nat}(h:i<l.length):l.drop i=l.getD i d::l.drop (i+1):=by
 rw[List.drop_eq_getElem_cons h,List.getD_eq_getElem?_getD,List.getElem?_eq_getElem h];rfl
theorem xZ4(f:Fl)(hl:f.pages.length<=1000):∀ (k i:Nat) (v:Bool),i+k=f.pages.length->v=((f.pages.drop i).all (λp=>decide (p.length=64))&&qq2 f)->
  t8 pP (x9 pP 102) (.bool v) (x8 pP 102 0) (x7 46 [(1,.ptr 0 0),(6,.list .str f.pages),(7,J f.pages.length),(8,J i)]) [some (.cells f.cells)]
 |k,i,v,hi,hv=>by
  refine o5 qM9 (n:=1000) (hint:=.unit) (keep:=x6 46 [1,6,7,8]) (p:=xZ3) rfl ?_;erw [xZ2 f i]
  have t0:(i:Int).toNat=i:=by omega
  have w1:i64.wrap ((i:Int)+1)=((i+1:Nat):Int):=by rw[w64 (by omega) (by omega)];omega
  rw[t0,w1]
  refine o4 (λa=>?_) λa=>?_
  .match k,hi with
   |0,hi=>omega
   |k+1,hi=>
    rw[zN6 (d:=([] :List UInt8)) (by omega:i<f.pages.length),List.all_cons]at hv;refine x0 (by simp;omega) (q24 (λc=>?_) λc=>?_)
    .have:¬(f.pages.getD i []).length=64:=λk=>c (by rw[k];rfl)
     rw[decide_eq_false this]at hv;subst hv;rfl
    .have:(f.pages.getD i []).length=64:=by have:=c;omega
     rw[decide_eq_true this,Bool.true_and]at hv;exact⟨u7 _ _,xZ4 f hl k (i+1) v (by omega) hv⟩
  .have z:f.pages.drop i=[] :=List.drop_eq_nil_of_le (by omega)
   rw[z]at hv;have hv:v=qq2 f:=hv
   have q:∀b:Bool,b=qq2 f->SV.bool b=SV.bool v:=λb e=>by rw[hv,e]
   refine o4 (λb1=>o4 (λb2=>o4 (λb3=>o4 (λb4=>o4 (λb5=>q _ ?_) λb5=>q _ ?_) λb4=>q _ ?_) λb3=>q _ ?_) λb2=>q _ ?_) λb1=>q _ ?_
   all_goals
    rw[Bool.eq_iff_iff];simp only[qq2,Bool.and_eq_true,j8,decide_eq_true_eq,Bool.false_eq_true,false_iff];omega
theorem xZ9(f:Fl)(hl:f.pages.length<=1000):∀ (k i:Nat) (v:Bool),i+k=f.pages.length->v=((f.pages.drop i).all (λp=>decide (p.length=64))&&qq2 f)->
  t8 pP (x9 pP 109) (.bool v) (x8 pP 109 0) (x7 46 [(1,.ptr 0 0),(6,.list .str f.pages),(7,J f.pages.length),(8,J i)]) [some (.cells f.cells)]
 |k,i,v,hi,hv=>by
  refine o5 qM9 (n:=1000) (hint:=.unit) (keep:=x6 46 [1,6,7,8]) (p:=xZ8) rfl ?_;erw [xZ7 f i]
  have t0:(i:Int).toNat=i:=by omega
  have w1:i64.wrap ((i:Int)+1)=((i+1:Nat):Int):=by rw[w64 (by omega) (by omega)];omega
  rw[t0,w1]
  refine o4 (λa=>?_) λa=>?_
  .match k,hi with
   |0,hi=>omega
   |k+1,hi=>
    rw[zN6 (d:=([] :List UInt8)) (by omega:i<f.pages.length),List.all_cons]at hv;refine x0 (by simp;omega) (q24 (λc=>?_) λc=>?_)
    .have:¬(f.pages.getD i []).length=64:=λk=>c (by rw[k];rfl)
     rw[decide_eq_false this]at hv;subst hv;rfl
    .have:(f.pages.getD i []).length=64:=by have:=c;omega
     rw[decide_eq_true this,Bool.true_and]at hv;exact⟨u7 _ _,xZ9 f hl k (i+1) v (by omega) hv⟩
  .have z:f.pages.drop i=[] :=List.drop_eq_nil_of_le (by omega)
   rw[z]at hv;have hv:v=qq2 f:=hv
   have q:∀b:Bool,b=qq2 f->SV.bool b=SV.bool v:=λb e=>by rw[hv,e]
   refine o4 (λb1=>o4 (λb2=>o4 (λb3=>o4 (λb4=>o4 (λb5=>q _ ?_) λb5=>q _ ?_) λb4=>q _ ?_) λb3=>q _ ?_) λb2=>q _ ?_) λb1=>q _ ?_
   all_goals
    rw[Bool.eq_iff_iff];simp only[qq2,Bool.and_eq_true,j8,decide_eq_true_eq,Bool.false_eq_true,false_iff];omega
theorem xe5(f:Fl)(h:w9 f=true):SCall pP 102 [f.sv] (.bool (flB f)):=by
 have hl:f.pages.length<=1000:=of_decide_eq_true h;refine s7 rfl rfl (by kernel_rfl) (o5 qM9 (n:=1000) (hint:=.unit) (keep:=x6 46 [1,6,7,8]) (p:=xZ1) (boxes:=[]) rfl ?_);have q:=xZ0 f;unfold v6 v7 at q;erw [q];exact⟨u7 _ _,xZ4 f hl f.pages.length 0 _ (by omega) (by rw[List.drop_zero];simp only[flB,yJ0,qq2])⟩
theorem xe6(f:Fl)(h:w9 f=true):SCall pP 109 [f.sv] (.bool (flB f)):=by
 have hl:f.pages.length<=1000:=of_decide_eq_true h;refine s7 rfl rfl (by kernel_rfl) (o5 qM9 (n:=1000) (hint:=.unit) (keep:=x6 46 [1,6,7,8]) (p:=xZ6) (boxes:=[]) rfl ?_);have q:=xZ5 f;unfold v6 v7 at q;erw [q];exact⟨u7 _ _,xZ9 f hl f.pages.length 0 _ (by omega) (by rw[List.drop_zero];simp only[flB,yJ0,qq2])⟩
theorem xe7(f:Fl)(h:w9 f=true):SCall pP 130 [f.sv] f.sv:=by
 have hl:f.pages.length<=1000:=of_decide_eq_true h;refine s7 rfl rfl (by kernel_rfl) (o5 qM9 (n:=1000) (hint:=.str) (keep:=x6 9 []) (p:=qn6) (boxes:=[]) rfl ?_);have q:=fcp f;unfold v6 v7 at q;erw [q];refine⟨λe=>?_,λe=>x0 (decide_eq_true (by omega)) rfl⟩;have e:f.pages=[] :=List.isEmpty_iff.1 e;show SV.agg _=SV.agg f.cells;unfold Fl.cells;rw[e];rfl
theorem xe8(f:Fl)(h:w9 f=true):SCall pP 116 [f.sv] f.sv:=by
 have hl:f.pages.length<=1000:=of_decide_eq_true h;refine s7 rfl rfl (by kernel_rfl) (o5 qM9 (n:=1000) (hint:=.str) (keep:=x6 9 []) (p:=qn5) (boxes:=[]) rfl ?_);have q:=qn4 f;unfold v6 v7 at q;erw [q];refine⟨λe=>?_,λe=>x0 (decide_eq_true (by omega)) rfl⟩;have e:f.pages=[] :=List.isEmpty_iff.1 e;show SV.agg _=SV.agg f.cells;unfold Fl.cells;rw[e];rfl
def zZ8:Fact:=qg4 102 λf=>.req (w9 f) (.leaf (.bool (flB f)))
theorem yd5:zZ8.ok pP:=qh1 λf h=>xe5 f h
def zZ9:Fact:=qg4 109 λf=>.req (w9 f) (.leaf (.bool (flB f)))
theorem yd6:zZ9.ok pP:=qh1 λf h=>xe6 f h
def z00:Fact:=qg4 130 λf=>.req (w9 f) (.leaf f.sv)
theorem yd7:z00.ok pP:=qh1 λf h=>xe7 f h
def z01:Fact:=qg4 116 λf=>.req (w9 f) (.leaf f.sv)
theorem yd8:z01.ok pP:=qh1 λf h=>xe8 f h
def qz4(f:Fl)(i:Int):Bool:=flB f&&inR i 0 (f.pages.length-1)
def qg5(f:FuncId)(h:Fl->Int->Tree SV):Fact:=⟨f,λargs=>match args with
 |[.agg [.list .str p,.int .i64 a,.bool d,.int .i64 k],.int .i64 i] =>some (h ⟨p,a,d,k⟩ i)
 |_=>none⟩
theorem qg8{h:Fl->Int->Tree SV}(k:∀c i,(h c i).says (SCall P f [c.sv,J i])):(qg5 f h).ok P:=λargs t ht=>by
 simp only[qg5]at ht
 split at ht
 .injection ht with ht;subst ht;exact k ⟨_,_,_,_⟩ _
 .cases ht
theorem xg3(f:Fl)(i:Int)(h:w9 f=true):SCall pP 302 [f.sv,J i] (.bool (qz4 f i)):=
 v8 mix [zZ8,z00] ⟨yd5,yd7,trivial⟩ 1000 (.fork (.lit (.lit (.fork (.ln 4 (.lit .all)) (.ln 4 (.lit .all))))) (.ln 7 (.lit .all)))
  (t:=.req (w9 f) (.node (flB f)
 (.node (decide (i>=0))
  (.leaf (SV.bool (decide (i< (↑f.pages.length:Int)))))
  (.leaf (SV.bool false)))
 (.leaf (SV.bool false))))
  (by kernel_rfl) (by
   refine x0 h ?_;unfold qz4
   refine p7 (λv=>?_) (λv=>?_)<;>rw[v]
   .refine o4 (λa=>?_) λa=>?_
    .show SV.bool _=SV.bool _
     congr 1
     rw[Bool.eq_iff_iff];simp only[Bool.true_and,j8,decide_eq_true_eq];omega
    .show SV.bool _=SV.bool _
     congr 1
     symm;rw[Bool.true_and,Bool.eq_false_iff];intro k;rw[j8]at k;omega
   .rfl) (by kernel_rfl) (by kernel_rfl)
def z18:Fact:=qg5 302 λf i=>.req (w9 f) (.leaf (.bool (qz4 f i)))
theorem yf2:z18.ok pP:=qg8 λf i h=>xg3 f i h
def U16(n:Int):SV:=.int .u16 n
def zy4:Plan:=.all
theorem ca0(s:List UInt8):o7 (Env.of pP (j9 [])) 1000 (x9 pP 300) .unit (x6 32 [0,3,7,8]) (v7 pP 300) zy4 (v6 pP 300 [.str s]) [] =(.leaf (.at (x8 pP 300 0) 32 (x7 32 [(0,SV.str s),(3,SV.int IntKind.u16 65535),(7,J (↑s.length:Int)),(8,J 0)]) [])):=by kernel_rfl
def zy5:Plan:=.fork (.all) (.all)
theorem ca1(s:List UInt8)(r i:Int):o7 (Env.of pP (j9 [])) 1000 (x9 pP 300) .unit (x6 32 [0,3,7,8,18]) (x8 pP 300 0) zy5 (x7 32 [(0,.str s),(3,U16 r),(7,J s.length),(8,J i)]) [] =(.node (decide (i< (↑s.length:Int))) (.req (decide (0<=i)&&decide (i< (↑s.length:Int))) (.req true (.leaf (.at (x8 pP 300 1) 32 (x7 32 [(0,SV.str s),(3,SV.int IntKind.u16 (IntKind.u16.wrap (↑(BitVec.ofInt 16 r ^^^ BitVec.ofInt 16 (IntKind.u16.wrap (IntKind.u16.wrap (↑(s.getD i.toNat 0).toNat:Int)*256))).toNat:Int))),(7,J (↑s.length:Int)),(8,J i),(18,J 0)]) [])))) (.leaf (.done (J (i64.wrap r))))):=by kernel_rfl
def zy6:Plan:=.fork (.fork (.all) (.all)) (.all)
theorem ca2(s:List UInt8)(r i k:Int):o7 (Env.of pP (j9 [])) 1000 (x9 pP 300) .unit (x6 32 [0,3,7,8,18]) (x8 pP 300 1) zy6 (x7 32 [(0,.str s),(3,U16 r),(7,J s.length),(8,J i),(18,J k)]) [] =(.node (decide (k<8)) (.req true (.node (IntKind.u16.wrap (↑(BitVec.ofInt 16 r &&&BitVec.ofInt 16 32768).toNat:Int) != 0) (.leaf (.at (x8 pP 300 1) 32 (x7 32 [(0,SV.str s),(3,SV.int IntKind.u16 (IntKind.u16.wrap (↑(BitVec.ofInt 16 (IntKind.u16.wrap (r*2)) ^^^ BitVec.ofInt 16 4129).toNat:Int))),(7,J (↑s.length:Int)),(8,J i),(18,J (i64.wrap (k+1)))]) [])) (.leaf (.at (x8 pP 300 1) 32 (x7 32 [(0,SV.str s),(3,SV.int IntKind.u16 (IntKind.u16.wrap (r*2))),(7,J (↑s.length:Int)),(8,J i),(18,J (i64.wrap (k+1)))]) [])))) (.leaf (.at (x8 pP 300 0) 32 (x7 32 [(0,SV.str s),(3,SV.int IntKind.u16 r),(7,J (↑s.length:Int)),(8,J (i64.wrap (i+1))),(18,J k)]) []))):=by kernel_rfl
def zB3:Plan:=.all
theorem cb0(s:List UInt8):o7 (Env.of pP (j9 [])) 1000 (x9 pP 254) .unit (x6 26 [0,3,4]) (v7 pP 254) zB3 (v6 pP 254 [.str s]) [] =(.leaf (.at (x8 pP 254 0) 26 (x7 26 [(0,SV.str s),(3,J 65535),(4,J 0)]) [])):=by kernel_rfl
def zB4:Plan:=.fork (.all) (.all)
theorem cb1(s:List UInt8)(r i:Int):o7 (Env.of pP (j9 [])) 1000 (x9 pP 254) .unit (x6 26 [0,3,4,5]) (x8 pP 254 0) zB4 (x7 26 [(0,.str s),(3,J r),(4,J i)]) [] =(.node (decide (i< (↑s.length:Int))) (.req (decide (0<=i)&&decide (i< (↑s.length:Int))) (.leaf (.at (x8 pP 254 1) 26 (x7 26 [(0,SV.str s),(3,J (i64.wrap (↑(BitVec.ofInt 64 r ^^^ BitVec.ofInt 64 (i64.wrap (i64.wrap (↑(s.getD i.toNat 0).toNat:Int)*256))).toNat:Int))),(4,J i),(5,J 0)]) []))) (.leaf (.done (J r)))):=by kernel_rfl
def zB5:Plan:=.fork (.fork (.all) (.all)) (.all)
theorem cb2(s:List UInt8)(r i k:Int):o7 (Env.of pP (j9 [])) 1000 (x9 pP 254) .unit (x6 26 [0,3,4,5]) (x8 pP 254 1) zB5 (x7 26 [(0,.str s),(3,J r),(4,J i),(5,J k)]) [] =(.node (decide (k<8)) (.node (decide (r>=32768)) (.leaf (.at (x8 pP 254 1) 26 (x7 26 [(0,SV.str s),(3,J (i64.wrap (↑(BitVec.ofInt 64 (i64.wrap (i64.wrap (r-32768)*2)) ^^^ BitVec.ofInt 64 4129).toNat:Int))),(4,J i),(5,J (i64.wrap (k+1)))]) [])) (.leaf (.at (x8 pP 254 1) 26 (x7 26 [(0,SV.str s),(3,J (i64.wrap (r*2))),(4,J i),(5,J (i64.wrap (k+1)))]) []))) (.leaf (.at (x8 pP 254 0) 26 (x7 26 [(0,SV.str s),(3,J r),(4,J (i64.wrap (i+1))),(5,J k)]) []))):=by kernel_rfl
def zy7:Plan:=.fork (.all) (.all)
theorem ca3(s:List UInt8)(r i k:Int):o7 (Env.of pP (j9 [])) 1000 (x9 pP 300) .unit (x6 32 [0,3,7,8,18]) (x8 pP 300 0) zy7 (x7 32 [(0,.str s),(3,U16 r),(7,J s.length),(8,J i),(18,J k)]) [] =(.node (decide (i< (↑s.length:Int))) (.req (decide (0<=i)&&decide (i< (↑s.length:Int))) (.req true (.leaf (.at (x8 pP 300 1) 32 (x7 32 [(0,SV.str s),(3,SV.int IntKind.u16 (IntKind.u16.wrap (↑(BitVec.ofInt 16 r ^^^ BitVec.ofInt 16 (IntKind.u16.wrap (IntKind.u16.wrap (↑(s.getD i.toNat 0).toNat:Int)*256))).toNat:Int))),(7,J (↑s.length:Int)),(8,J i),(18,J 0)]) [])))) (.leaf (.done (J (i64.wrap r))))):=by kernel_rfl
def zB6:Plan:=.fork (.all) (.all)
theorem cb3(s:List UInt8)(r i k:Int):o7 (Env.of pP (j9 [])) 1000 (x9 pP 254) .unit (x6 26 [0,3,4,5]) (x8 pP 254 0) zB6 (x7 26 [(0,.str s),(3,J r),(4,J i),(5,J k)]) [] =(.node (decide (i< (↑s.length:Int))) (.req (decide (0<=i)&&decide (i< (↑s.length:Int))) (.leaf (.at (x8 pP 254 1) 26 (x7 26 [(0,SV.str s),(3,J (i64.wrap (↑(BitVec.ofInt 64 r ^^^ BitVec.ofInt 64 (i64.wrap (i64.wrap (↑(s.getD i.toNat 0).toNat:Int)*256))).toNat:Int))),(4,J i),(5,J 0)]) []))) (.leaf (.done (J r)))):=by kernel_rfl
def zF7(r:Nat):Nat:=if 32768<=r then((r-32768)*2) ^^^ 4129 else r*2
def zF9:Nat->Nat->Nat
 |0,r=>r
 |k+1,r=>zF9 k (zF7 r)
def zG1:List UInt8->Nat->Nat
 |[],r=>r
 |b::l,r=>zG1 l (zF9 8 (r ^^^ b.toNat*256))
def crc(s:List UInt8):Nat:=zG1 s 65535
theorem zF8{r:Nat}(h:r<65536):zF7 r<65536:=by
 unfold zF7
 split
 .exact Nat.xor_lt_two_pow (n:=16) (by omega) (by decide)
 .omega
theorem zG0:∀ (k:Nat) {r:Nat},r<65536->zF9 k r<65536
 |0,_,h=>h
 |k+1,_,h=>zG0 k (zF8 h)
theorem zG3{r:Nat}(b:UInt8)(h:r<65536):r ^^^ b.toNat*256<65536:=
 Nat.xor_lt_two_pow (n:=16) h (by have:=b.toNat_lt;omega)
theorem zG2:∀ (s:List UInt8) {r:Nat},r<65536->zG1 s r<65536
 |[],_,h=>h
 |b::s,_,h=>zG2 s (zG0 8 (zG3 b h))
theorem zG4(s:List UInt8):crc s<65536:=zG2 s (by decide)
theorem x49{n:Int}(h:0<=n)(h':n<65536):IntKind.u16.wrap n=n:=by
 unfold IntKind.wrap;have e:n % (2 ^ IntKind.u16.bits:Int)=n:=Int.emod_eq_of_lt h h';simp only[e];rw[if_neg (by simp[IntKind.signed])]
theorem x65{a b:Nat}(ha:a<65536)(hb:b<65536):IntKind.u16.wrap (((BitVec.ofInt 16 (a:Int) ^^^ BitVec.ofInt 16 (b:Int)).toNat:Nat):Int)=((a ^^^ b:Nat):Int):=by
 have e:(BitVec.ofInt 16 (a:Int) ^^^ BitVec.ofInt 16 (b:Int)).toNat=a ^^^ b:=by
  rw[BitVec.ofInt_natCast,BitVec.ofInt_natCast,BitVec.toNat_xor,BitVec.toNat_ofNat,BitVec.toNat_ofNat,Nat.mod_eq_of_lt (by omega),Nat.mod_eq_of_lt (by omega)]
 rw[e];have:=Nat.xor_lt_two_pow (n:=16) ha hb;exact x49 (by omega) (by omega)
theorem x66{a b:Nat}(ha:a<65536)(hb:b<65536):i64.wrap (((BitVec.ofInt 64 (a:Int) ^^^ BitVec.ofInt 64 (b:Int)).toNat:Nat):Int)=((a ^^^ b:Nat):Int):=by
 have e:(BitVec.ofInt 64 (a:Int) ^^^ BitVec.ofInt 64 (b:Int)).toNat=a ^^^ b:=by
  rw[BitVec.ofInt_natCast,BitVec.ofInt_natCast,BitVec.toNat_xor,BitVec.toNat_ofNat,BitVec.toNat_ofNat,Nat.mod_eq_of_lt (by omega),Nat.mod_eq_of_lt (by omega)]
 rw[e];have:=Nat.xor_lt_two_pow (n:=16) ha hb;exact w64 (by omega) (by omega)
theorem qB3:∀{a:Nat},a<65536->((IntKind.u16.wrap (((BitVec.ofInt 16 (a:Int) &&&BitVec.ofInt 16 32768).toNat:Nat):Int) != 0)=decide (32768<=a)):=by
 intro a ha
 have e:(BitVec.ofInt 16 (a:Int) &&&BitVec.ofInt 16 32768).toNat=a &&&32768:=by
  rw[BitVec.ofInt_natCast,show BitVec.ofInt 16 32768=BitVec.ofNat 16 32768 from rfl,BitVec.toNat_and,BitVec.toNat_ofNat,BitVec.toNat_ofNat,Nat.mod_eq_of_lt (by omega),Nat.mod_eq_of_lt (by omega)]
 rw[e]
 have e2:a &&&32768=if 32768<=a then 32768 else 0:=by
  apply Nat.eq_of_testBit_eq;intro j;rw[Nat.testBit_and,show(32768:Nat)=2 ^ 15 from rfl,Nat.testBit_two_pow]
  by_cases hj:15=j
  .subst hj
   rw[Nat.testBit_eq_decide_div_mod_eq]
   split
   .rename_i h
    rw[Nat.testBit_two_pow,decide_eq_true (show a / 2 ^ 15 % 2=1 by omega)];rfl
   .rename_i h
    rw[decide_eq_false (show ¬a / 2 ^ 15 % 2=1 by omega),Nat.zero_testBit];rfl
  .rw[decide_eq_false hj,Bool.and_false]
   split
   .rw[Nat.testBit_two_pow,decide_eq_false hj]
   .rw[Nat.zero_testBit]
 rw[e2]
 by_cases h:32768<=a
 .rw[if_pos h,decide_eq_true h];decide
 .rw[if_neg h,decide_eq_false h];decide
theorem zy8(s:List UInt8)(i:Nat)(hi:i<s.length)(hl:s.length<=1099511627776)(v:Int):∀ (j k r:Nat),k+j=8->r<65536->
  t8 pP (x9 pP 300) (J v) (x8 pP 300 0) (x7 32 [(0,.str s),(3,U16 (zF9 j r:Nat)),(7,J s.length),(8,J (i+1:Nat)),(18,J 8)]) [] ->
  t8 pP (x9 pP 300) (J v) (x8 pP 300 1) (x7 32 [(0,.str s),(3,U16 r),(7,J s.length),(8,J i),(18,J k)]) []
 |j,k,r,hk,hr,H=>by
  refine o5 qM9 (n:=1000) (hint:=.unit) (keep:=x6 32 [0,3,7,8,18]) (p:=zy6) rfl ?_;erw [ca2 s r i k]
  have wi:i64.wrap ((i:Int)+1)=((i+1:Nat):Int):=by rw[w64 (by omega) (by omega)];omega
  have wk:i64.wrap ((k:Int)+1)=((k+1:Nat):Int):=by rw[w64 (by omega) (by omega)];omega
  rw[wi,wk]
  match j,hk,H with
  |0,hk,H=>
   have e8:k=8:=by omega
   subst e8;exact⟨λa=>absurd (of_decide_eq_true a) (by decide),λ_=>⟨u7 _ _,H⟩⟩
  |j+1,hk,H=>
   refine o4 (λa=>?_) λa=>absurd (show((k:Nat):Int)<8 by omega) a
   have H':t8 pP (x9 pP 300) (J v) (x8 pP 300 0) (x7 32 [(0,.str s),(3,U16 (zF9 j (zF7 r):Nat)),(7,J s.length),(8,J (i+1:Nat)),(18,J 8)]) [] :=H;refine x0 rfl ?_;rw[qB3 hr]
   refine o4 (λb=>?_) λb=>?_
   .have e:zF7 r=((r-32768)*2) ^^^ 4129:=if_pos b
    have w:IntKind.u16.wrap ((r:Int)*2)=(((r-32768)*2:Nat):Int):=by
     unfold IntKind.wrap
     have e:((r:Int)*2) % (2 ^ IntKind.u16.bits:Int)=(((r-32768)*2:Nat):Int):=by
      show((r:Int)*2) % 65536=_;omega
     simp only[e];rw[if_neg (by simp[IntKind.signed])]
    rw[w];refine⟨u7 _ _,?_⟩;have x:=x65 (a:=(r-32768)*2) (b:=4129) (by omega) (by decide);have x:IntKind.u16.wrap (((BitVec.ofInt 16 (((r-32768)*2:Nat):Int) ^^^ BitVec.ofInt 16 4129).toNat:Nat):Int)=_:=x;rw[x,<-e];exact zy8 s i hi hl v j (k+1) (zF7 r) (by omega) (zF8 hr) H'
   .have e:zF7 r=r*2:=if_neg b
    rw[x49 (by omega) (by omega),show(r:Int)*2=((zF7 r:Nat):Int) by rw[e];omega];exact⟨u7 _ _,zy8 s i hi hl v j (k+1) (zF7 r) (by omega) (zF8 hr) H'⟩
theorem zy9(s:List UInt8)(hl:s.length<=1099511627776):∀ (m i r:Nat) (v:Nat),i+m=s.length->r<65536->v=zG1 (s.drop i) r->
  t8 pP (x9 pP 300) (J v) (x8 pP 300 0) (x7 32 [(0,.str s),(3,U16 r),(7,J s.length),(8,J i),(18,J 8)]) []
 |m,i,r,v,hi,hr,hv=>by
  refine o5 qM9 (n:=1000) (hint:=.unit) (keep:=x6 32 [0,3,7,8,18]) (p:=zy7) rfl ?_;erw [ca3 s r i 8]
  have t0:(i:Int).toNat=i:=by omega
  rw[t0]
  refine o4 (λa=>?_) λa=>?_
  .match m,hi with
   |0,hi=>omega
   |m+1,hi=>
    have hb:=(s.getD i 0).toNat_lt;rw[zN6 (d:=(0:UInt8)) (by omega:i<s.length)]at hv;have hv:v=zG1 (s.drop (i+1)) (zF9 8 (r ^^^ (s.getD i 0).toNat*256)):=hv;have hx:=zG3 (s.getD i 0) hr;refine x0 (by simp;omega) (x0 rfl ?_);rw[x49 (n:=((s.getD i 0).toNat:Int)) (by omega) (by omega),x49 (n:=((s.getD i 0).toNat:Int)*256) (by omega) (by omega),show(((s.getD i 0).toNat:Nat):Int)*256=(((s.getD i 0).toNat*256:Nat):Int) by omega,x65 hr (by omega)];exact⟨u7 _ _,zy8 s i (by omega) hl _ 8 0 _ rfl hx (zy9 s hl m (i+1) _ v (by omega) (zG0 8 hx) hv)⟩
  .have z:s.drop i=[] :=List.drop_eq_nil_of_le (by omega)
   rw[z]at hv;have hv:v=r:=hv;subst hv;rw[w64 (by omega) (by omega)];exact rfl
theorem xc2(s:List UInt8)(hl:s.length<=1099511627776):SCall pP 300 [.str s] (J (crc s)):=by
 refine s7 rfl rfl (by kernel_rfl) (o5 qM9 (n:=1000) (hint:=.unit) (keep:=x6 32 [0,3,7,8]) (p:=zy4) (boxes:=[]) rfl ?_);have q:=ca0 s;unfold v6 v7 at q;erw [q];refine⟨u7 _ _,?_⟩;refine o5 qM9 (n:=1000) (hint:=.unit) (keep:=x6 32 [0,3,7,8,18]) (p:=zy5) rfl ?_;erw [ca1 s 65535 0]
 refine o4 (λa=>?_) λa=>?_
 .have hb:=(s.getD 0 0).toNat_lt
  have hx:=zG3 (s.getD 0 0) (show 65535<65536 by decide);refine x0 (by simp;omega) (x0 rfl ?_);rw[show(0:Int).toNat=0 from rfl,x49 (n:=((s.getD 0 0).toNat:Int)) (by omega) (by omega),x49 (n:=((s.getD 0 0).toNat:Int)*256) (by omega) (by omega),show(((s.getD 0 0).toNat:Nat):Int)*256=(((s.getD 0 0).toNat*256:Nat):Int) by omega];have x:=x65 (a:=65535) (b:=(s.getD 0 0).toNat*256) (by decide) (by omega);have x:IntKind.u16.wrap (((BitVec.ofInt 16 65535 ^^^ BitVec.ofInt 16 (((s.getD 0 0).toNat*256:Nat):Int)).toNat:Nat):Int)=_:=x;rw[x];refine⟨u7 _ _,zy8 s 0 (by omega) hl _ 8 0 _ rfl hx (zy9 s hl (s.length-1) 1 _ _ (by omega) (zG0 8 hx) ?_)⟩;have e:=zN6 (d:=(0:UInt8)) (show 0<s.length by omega);rw[List.drop_zero]at e;unfold crc
  conv=>lhs;rw[e]
  rfl
 .have z:s=[] :=List.length_eq_zero_iff.1 (by omega)
  subst z;rfl
theorem zB7(s:List UInt8)(i:Nat)(hi:i<s.length)(hl:s.length<=1099511627776)(v:Int):∀ (j k r:Nat),k+j=8->r<65536->
  t8 pP (x9 pP 254) (J v) (x8 pP 254 0) (x7 26 [(0,.str s),(3,J (zF9 j r:Nat)),(4,J (i+1:Nat)),(5,J 8)]) [] ->
  t8 pP (x9 pP 254) (J v) (x8 pP 254 1) (x7 26 [(0,.str s),(3,J r),(4,J i),(5,J k)]) []
 |j,k,r,hk,hr,H=>by
  refine o5 qM9 (n:=1000) (hint:=.unit) (keep:=x6 26 [0,3,4,5]) (p:=zB5) rfl ?_;erw [cb2 s r i k]
  have wi:i64.wrap ((i:Int)+1)=((i+1:Nat):Int):=by rw[w64 (by omega) (by omega)];omega
  have wk:i64.wrap ((k:Int)+1)=((k+1:Nat):Int):=by rw[w64 (by omega) (by omega)];omega
  rw[wi,wk]
  match j,hk,H with
  |0,hk,H=>
   have e8:k=8:=by omega
   subst e8;exact⟨λa=>absurd (of_decide_eq_true a) (by decide),λ_=>⟨u7 _ _,H⟩⟩
  |j+1,hk,H=>
   refine o4 (λa=>?_) λa=>absurd (show((k:Nat):Int)<8 by omega) a
   have H':t8 pP (x9 pP 254) (J v) (x8 pP 254 0) (x7 26 [(0,.str s),(3,J (zF9 j (zF7 r):Nat)),(4,J (i+1:Nat)),(5,J 8)]) [] :=H
   refine o4 (λb=>?_) λb=>?_
   .have e:zF7 r=((r-32768)*2) ^^^ 4129:=if_pos (by omega)
    rw[w64 (x:=(r:Int)-32768) (by omega) (by omega),w64 (x:=((r:Int)-32768)*2) (by omega) (by omega),show((r:Int)-32768)*2=(((r-32768)*2:Nat):Int) by omega];refine⟨u7 _ _,?_⟩;have x:=x66 (a:=(r-32768)*2) (b:=4129) (by omega) (by decide);have x:i64.wrap (((BitVec.ofInt 64 (((r-32768)*2:Nat):Int) ^^^ BitVec.ofInt 64 4129).toNat:Nat):Int)=_:=x;rw[x,<-e];exact zB7 s i hi hl v j (k+1) (zF7 r) (by omega) (zF8 hr) H'
   .have e:zF7 r=r*2:=if_neg (by omega)
    rw[w64 (by omega) (by omega),show(r:Int)*2=((zF7 r:Nat):Int) by rw[e];omega];exact⟨u7 _ _,zB7 s i hi hl v j (k+1) (zF7 r) (by omega) (zF8 hr) H'⟩
theorem zB8(s:List UInt8)(hl:s.length<=1099511627776):∀ (m i r:Nat) (v:Nat),i+m=s.length->r<65536->v=zG1 (s.drop i) r->
  t8 pP (x9 pP 254) (J v) (x8 pP 254 0) (x7 26 [(0,.str s),(3,J r),(4,J i),(5,J 8)]) []
 |m,i,r,v,hi,hr,hv=>by
  refine o5 qM9 (n:=1000) (hint:=.unit) (keep:=x6 26 [0,3,4,5]) (p:=zB6) rfl ?_;erw [cb3 s r i 8]
  have t0:(i:Int).toNat=i:=by omega
  rw[t0]
  refine o4 (λa=>?_) λa=>?_
  .match m,hi with
   |0,hi=>omega
   |m+1,hi=>
    have hb:=(s.getD i 0).toNat_lt;rw[zN6 (d:=(0:UInt8)) (by omega:i<s.length)]at hv;have hv:v=zG1 (s.drop (i+1)) (zF9 8 (r ^^^ (s.getD i 0).toNat*256)):=hv;have hx:=zG3 (s.getD i 0) hr;refine x0 (by simp;omega) ?_;rw[w64 (x:=((s.getD i 0).toNat:Int)) (by omega) (by omega),w64 (x:=((s.getD i 0).toNat:Int)*256) (by omega) (by omega),show(((s.getD i 0).toNat:Nat):Int)*256=(((s.getD i 0).toNat*256:Nat):Int) by omega,x66 hr (by omega)];exact⟨u7 _ _,zB7 s i (by omega) hl _ 8 0 _ rfl hx (zB8 s hl m (i+1) _ v (by omega) (zG0 8 hx) hv)⟩
  .have z:s.drop i=[] :=List.drop_eq_nil_of_le (by omega)
   rw[z]at hv;have hv:v=r:=hv;subst hv;exact rfl
theorem xc3(s:List UInt8)(hl:s.length<=1099511627776):SCall pP 254 [.str s] (J (crc s)):=by
 refine s7 rfl rfl (by kernel_rfl) (o5 qM9 (n:=1000) (hint:=.unit) (keep:=x6 26 [0,3,4]) (p:=zB3) (boxes:=[]) rfl ?_);have q:=cb0 s;unfold v6 v7 at q;erw [q];refine⟨u7 _ _,?_⟩;refine o5 qM9 (n:=1000) (hint:=.unit) (keep:=x6 26 [0,3,4,5]) (p:=zB4) rfl ?_;erw [cb1 s 65535 0]
 refine o4 (λa=>?_) λa=>?_
 .have hb:=(s.getD 0 0).toNat_lt
  have hx:=zG3 (s.getD 0 0) (show 65535<65536 by decide);refine x0 (by simp;omega) ?_;rw[show(0:Int).toNat=0 from rfl,w64 (x:=((s.getD 0 0).toNat:Int)) (by omega) (by omega),w64 (x:=((s.getD 0 0).toNat:Int)*256) (by omega) (by omega),show(((s.getD 0 0).toNat:Nat):Int)*256=(((s.getD 0 0).toNat*256:Nat):Int) by omega];have x:=x66 (a:=65535) (b:=(s.getD 0 0).toNat*256) (by decide) (by omega);have x:i64.wrap (((BitVec.ofInt 64 65535 ^^^ BitVec.ofInt 64 (((s.getD 0 0).toNat*256:Nat):Int)).toNat:Nat):Int)=_:=x;rw[x];refine⟨u7 _ _,zB7 s 0 (by omega) hl _ 8 0 _ rfl hx (zB8 s hl (s.length-1) 1 _ _ (by omega) (zG0 8 hx) ?_)⟩;have e:=zN6 (d:=(0:UInt8)) (show 0<s.length by omega);rw[List.drop_zero]at e;unfold crc
  conv=>lhs;rw[e]
  rfl
 .have z:s=[] :=List.length_eq_zero_iff.1 (by omega)
  subst z;rfl
def q61:Plan:=.all
theorem nu0(s:List UInt8):o7 (Env.of pP (j9 [])) 1000 (x9 pP 335) .unit (x6 19 [0,3,4]) (v7 pP 335) q61 (v6 pP 335 [.str s]) [] =(.leaf (.at (x8 pP 335 0) 19 (x7 19 [(0,SV.str s),(3,.int .u64 0),(4,J 0)]) [])):=by kernel_rfl
def q62:Plan:=.fork (.all) (.all)
theorem nu1(s:List UInt8)(u i:Int):o7 (Env.of pP (j9 [])) 1000 (x9 pP 335) .unit (x6 19 [0,3,4]) (x8 pP 335 0) q62 (x7 19 [(0,.str s),(3,.int .u64 u),(4,J i)]) [] =(.node (decide (i< (↑s.length:Int))) (.req (decide (0<=i)&&decide (i< (↑s.length:Int))) (.leaf (.at (x8 pP 335 0) 19 (x7 19 [(0,SV.str s),(3,.int .u64 (u64.wrap (u64.wrap (u*256)+u64.wrap (↑(s.getD i.toNat 0).toNat:Int)))),(4,J (i64.wrap (i+1)))]) []))) (.leaf (.done (.int .u64 u)))):=by kernel_rfl
def q70:Int->List UInt8->Int
 |u,[] =>u
 |u,b::l=>q70 (u64.wrap (u64.wrap (u*256)+u64.wrap (b.toNat:Int))) l
def z63:Fact:=⟨335,λargs=>match args with
 |[.str s] =>some (.req (decide ((s.length:Int)<=100000)) (.leaf (.int .u64 (q70 0 s))))
 |_=>none⟩
def x50:Plan:=.ln 4 (.fork (.ln 5 (.lit .all)) (.ln 11 (.fork .all (.go (.lit (.go (.lit .all)))))))
theorem wu1(n:Int):o7 (Env.of pP (j9 [])) 1000 (x9 pP 298) .unit (x6 25 []) (v7 pP 298) x50 (v6 pP 298 [J n,J 1]) [] =(.node (decide (n<0)) (.leaf (.done (.tuple [SV.str [],J 3]))) (.req true (.node (!decide (u64.wrap n<256)) (.leaf (.done (.tuple [SV.str [],J 3]))) (.req true (.req (true) (.req (decide ((0+ [u8.wrap ((u64.wrap n).fdiv 1)].length)*1<=140737488355328)) (.leaf (.done (.tuple [SV.str (List.map (λn=>UInt8.ofNat (Int.toNat n)) [u8.wrap ((u64.wrap n).fdiv 1)]),J 0]))))))))):=by kernel_rfl
def x56:Plan:=.ln 4 (.fork (.ln 4 (.lit .all)) (.ln 11 (.fork .all (.go (.lit (.go (.lit .all)))))))
theorem x55(n:Int):o7 (Env.of pP (j9 [])) 1000 (x9 pP 279) .unit (x6 27 []) (v7 pP 279) x56 (v6 pP 279 [J n,J 1]) [] =(.node (decide (n<0)) (.leaf (.done (.tuple [SV.str [],J 3]))) (.req true (.node (decide (n>=256)) (.leaf (.done (.tuple [SV.str [],J 3]))) (.req true (.req (true) (.req true (.req (true) (.req true (.leaf (.done (.tuple [SV.str (List.map (λn=>UInt8.ofNat (Int.toNat n)) ((List.replicate 1 0).set 0 (u8.wrap ((u64.wrap n).tmod 256)))),J 0]))))))))))):=by kernel_rfl
def x51:Plan:=.ln 4 (.fork (.ln 5 (.lit .all)) (.ln 11 (.fork .all (.go (.lit (.go (.lit (.go (.lit .all)))))))))
theorem wu2(n:Int):o7 (Env.of pP (j9 [])) 1000 (x9 pP 298) .unit (x6 25 []) (v7 pP 298) x51 (v6 pP 298 [J n,J 2]) [] =(.node (decide (n<0)) (.leaf (.done (.tuple [SV.str [],J 3]))) (.req true (.node (!decide (u64.wrap n<65536)) (.leaf (.done (.tuple [SV.str [],J 3]))) (.req true (.req (true) (.req (decide ((0+ [u8.wrap ((u64.wrap n).fdiv 256)].length)*1<=140737488355328)) (.req true (.req (decide (([u8.wrap ((u64.wrap n).fdiv 256)].length+ [u8.wrap ((u64.wrap n).fdiv 1)].length)*1<=140737488355328)) (.leaf (.done (.tuple [SV.str (List.map (λn=>UInt8.ofNat (Int.toNat n)) ([u8.wrap ((u64.wrap n).fdiv 256)] ++[u8.wrap ((u64.wrap n).fdiv 1)])),J 0]))))))))))):=by kernel_rfl
def x58:Plan:=.ln 4 (.fork (.ln 4 (.lit .all)) (.ln 11 (.fork .all (.go (.lit (.go (.lit (.go (.lit .all)))))))))
theorem x57(n:Int):o7 (Env.of pP (j9 [])) 1000 (x9 pP 279) .unit (x6 27 []) (v7 pP 279) x58 (v6 pP 279 [J n,J 2]) [] =(.node (decide (n<0)) (.leaf (.done (.tuple [SV.str [],J 3]))) (.req true (.node (decide (n>=65536)) (.leaf (.done (.tuple [SV.str [],J 3]))) (.req true (.req (true) (.req true (.req (true) (.req true (.req (true) (.req (decide (0< (↑((List.replicate 2 0).set 1 (u8.wrap ((u64.wrap n).tmod 256))).length:Int))) (.req (decide (0< ((List.replicate 2 0).set 1 (u8.wrap ((u64.wrap n).tmod 256))).length)) (.req true (.leaf (.done (.tuple [SV.str (List.map (λn=>UInt8.ofNat (Int.toNat n)) (((List.replicate 2 0).set 1 (u8.wrap ((u64.wrap n).tmod 256))).set 0 (u8.wrap ((u64.wrap ((u64.wrap n).tdiv 256)).tmod 256)))),J 0]))))))))))))))):=by kernel_rfl
def x52:Plan:=.ln 4 (.fork (.ln 5 (.lit .all)) (.ln 11 (.fork .all (.go (.lit (.go (.lit (.go (.lit (.go (.lit (.go (.lit .all)))))))))))))
theorem wu4(n:Int):o7 (Env.of pP (j9 [])) 1000 (x9 pP 298) .unit (x6 25 []) (v7 pP 298) x52 (v6 pP 298 [J n,J 4]) [] =(.node (decide (n<0)) (.leaf (.done (.tuple [SV.str [],J 3]))) (.req true (.node (!decide (u64.wrap n<4294967296)) (.leaf (.done (.tuple [SV.str [],J 3]))) (.req true (.req (true) (.req (decide ((0+ [u8.wrap ((u64.wrap n).fdiv 16777216)].length)*1<=140737488355328)) (.req true (.req (decide (([u8.wrap ((u64.wrap n).fdiv 16777216)].length+ [u8.wrap ((u64.wrap n).fdiv 65536)].length)*1<=140737488355328)) (.req true (.req (decide ((([u8.wrap ((u64.wrap n).fdiv 16777216)] ++[u8.wrap ((u64.wrap n).fdiv 65536)]).length+ [u8.wrap ((u64.wrap n).fdiv 256)].length)*1<=140737488355328)) (.req true (.req (decide ((([u8.wrap ((u64.wrap n).fdiv 16777216)] ++[u8.wrap ((u64.wrap n).fdiv 65536)] ++[u8.wrap ((u64.wrap n).fdiv 256)]).length+ [u8.wrap ((u64.wrap n).fdiv 1)].length)*1<=140737488355328)) (.leaf (.done (.tuple [SV.str (List.map (λn=>UInt8.ofNat (Int.toNat n)) ([u8.wrap ((u64.wrap n).fdiv 16777216)] ++[u8.wrap ((u64.wrap n).fdiv 65536)] ++[u8.wrap ((u64.wrap n).fdiv 256)] ++[u8.wrap ((u64.wrap n).fdiv 1)])),J 0]))))))))))))))):=by kernel_rfl
def x60:Plan:=.ln 4 (.fork (.ln 4 (.lit .all)) (.ln 11 (.fork .all (.go (.lit (.go (.lit (.go (.lit (.go (.lit (.go (.lit .all)))))))))))))
theorem x59(n:Int):o7 (Env.of pP (j9 [])) 1000 (x9 pP 279) .unit (x6 27 []) (v7 pP 279) x60 (v6 pP 279 [J n,J 4]) [] =(.node (decide (n<0)) (.leaf (.done (.tuple [SV.str [],J 3]))) (.req true (.node (decide (n>=4294967296)) (.leaf (.done (.tuple [SV.str [],J 3]))) (.req true (.req (true) (.req true (.req (true) (.req true (.req (true) (.req (decide (2< (↑((List.replicate 4 0).set 3 (u8.wrap ((u64.wrap n).tmod 256))).length:Int))) (.req (decide (2< ((List.replicate 4 0).set 3 (u8.wrap ((u64.wrap n).tmod 256))).length)) (.req true (.req (true) (.req (decide (1< (↑(((List.replicate 4 0).set 3 (u8.wrap ((u64.wrap n).tmod 256))).set 2 (u8.wrap ((u64.wrap ((u64.wrap n).tdiv 256)).tmod 256))).length:Int))) (.req (decide (1< (((List.replicate 4 0).set 3 (u8.wrap ((u64.wrap n).tmod 256))).set 2 (u8.wrap ((u64.wrap ((u64.wrap n).tdiv 256)).tmod 256))).length)) (.req true (.req (true) (.req (decide (0< (↑((((List.replicate 4 0).set 3 (u8.wrap ((u64.wrap n).tmod 256))).set 2 (u8.wrap ((u64.wrap ((u64.wrap n).tdiv 256)).tmod 256))).set 1 (u8.wrap ((u64.wrap ((u64.wrap ((u64.wrap n).tdiv 256)).tdiv 256)).tmod 256))).length:Int))) (.req (decide (0< ((((List.replicate 4 0).set 3 (u8.wrap ((u64.wrap n).tmod 256))).set 2 (u8.wrap ((u64.wrap ((u64.wrap n).tdiv 256)).tmod 256))).set 1 (u8.wrap ((u64.wrap ((u64.wrap ((u64.wrap n).tdiv 256)).tdiv 256)).tmod 256))).length)) (.req true (.leaf (.done (.tuple [SV.str (List.map (λn=>UInt8.ofNat (Int.toNat n)) (((((List.replicate 4 0).set 3 (u8.wrap ((u64.wrap n).tmod 256))).set 2 (u8.wrap ((u64.wrap ((u64.wrap n).tdiv 256)).tmod 256))).set 1 (u8.wrap ((u64.wrap ((u64.wrap ((u64.wrap n).tdiv 256)).tdiv 256)).tmod 256))).set 0 (u8.wrap ((u64.wrap ((u64.wrap ((u64.wrap ((u64.wrap n).tdiv 256)).tdiv 256)).tdiv 256)).tmod 256)))),J 0]))))))))))))))))))))))):=by kernel_rfl
def x54:Plan:=.ln 4 (.fork (.ln 5 (.lit .all)) (.ln 11 (.fork .all (.go (.lit (.go (.lit (.go (.lit (.go (.lit (.go (.lit (.go (.lit (.go (.lit .all)))))))))))))))))
theorem wu6(n:Int):o7 (Env.of pP (j9 [])) 1000 (x9 pP 298) .unit (x6 25 []) (v7 pP 298) x54 (v6 pP 298 [J n,J 6]) [] =(.node (decide (n<0)) (.leaf (.done (.tuple [SV.str [],J 3]))) (.req true (.node (!decide (u64.wrap n<281474976710656)) (.leaf (.done (.tuple [SV.str [],J 3]))) (.req true (.req (true) (.req (decide ((0+ [u8.wrap ((u64.wrap n).fdiv 1099511627776)].length)*1<=140737488355328)) (.req true (.req (decide (([u8.wrap ((u64.wrap n).fdiv 1099511627776)].length+ [u8.wrap ((u64.wrap n).fdiv 4294967296)].length)*1<=140737488355328)) (.req true (.req (decide ((([u8.wrap ((u64.wrap n).fdiv 1099511627776)] ++[u8.wrap ((u64.wrap n).fdiv 4294967296)]).length+ [u8.wrap ((u64.wrap n).fdiv 16777216)].length)*1<=140737488355328)) (.req true (.req (decide ((([u8.wrap ((u64.wrap n).fdiv 1099511627776)] ++[u8.wrap ((u64.wrap n).fdiv 4294967296)] ++[u8.wrap ((u64.wrap n).fdiv 16777216)]).length+ [u8.wrap ((u64.wrap n).fdiv 65536)].length)*1<=140737488355328)) (.req true (.req (decide ((([u8.wrap ((u64.wrap n).fdiv 1099511627776)] ++[u8.wrap ((u64.wrap n).fdiv 4294967296)] ++[u8.wrap ((u64.wrap n).fdiv 16777216)] ++[u8.wrap ((u64.wrap n).fdiv 65536)]).length+ [u8.wrap ((u64.wrap n).fdiv 256)].length)*1<=140737488355328)) (.req true (.req (decide ((([u8.wrap ((u64.wrap n).fdiv 1099511627776)] ++[u8.wrap ((u64.wrap n).fdiv 4294967296)] ++[u8.wrap ((u64.wrap n).fdiv 16777216)] ++[u8.wrap ((u64.wrap n).fdiv 65536)] ++[u8.wrap ((u64.wrap n).fdiv 256)]).length+ [u8.wrap ((u64.wrap n).fdiv 1)].length)*1<=140737488355328)) (.leaf (.done (.tuple [SV.str (List.map (λn=>UInt8.ofNat (Int.toNat n)) ([u8.wrap ((u64.wrap n).fdiv 1099511627776)] ++[u8.wrap ((u64.wrap n).fdiv 4294967296)] ++[u8.wrap ((u64.wrap n).fdiv 16777216)] ++[u8.wrap ((u64.wrap n).fdiv 65536)] ++[u8.wrap ((u64.wrap n).fdiv 256)] ++[u8.wrap ((u64.wrap n).fdiv 1)])),J 0]))))))))))))))))))):=by kernel_rfl
def x62:Plan:=.ln 4 (.fork (.ln 4 (.lit .all)) (.ln 11 (.fork .all (.go (.lit (.go (.lit (.go (.lit (.go (.lit (.go (.lit (.go (.lit (.go (.lit .all)))))))))))))))))
theorem x61(n:Int):o7 (Env.of pP (j9 [])) 1000 (x9 pP 279) .unit (x6 27 []) (v7 pP 279) x62 (v6 pP 279 [J n,J 6]) [] =(.node (decide (n<0)) (.leaf (.done (.tuple [SV.str [],J 3]))) (.req true (.node (decide (n>=281474976710656)) (.leaf (.done (.tuple [SV.str [],J 3]))) (.req true (.req (true) (.req true (.req (true) (.req true (.req (true) (.req (decide (4< (↑((List.replicate 6 0).set 5 (u8.wrap ((u64.wrap n).tmod 256))).length:Int))) (.req (decide (4< ((List.replicate 6 0).set 5 (u8.wrap ((u64.wrap n).tmod 256))).length)) (.req true (.req (true) (.req (decide (3< (↑(((List.replicate 6 0).set 5 (u8.wrap ((u64.wrap n).tmod 256))).set 4 (u8.wrap ((u64.wrap ((u64.wrap n).tdiv 256)).tmod 256))).length:Int))) (.req (decide (3< (((List.replicate 6 0).set 5 (u8.wrap ((u64.wrap n).tmod 256))).set 4 (u8.wrap ((u64.wrap ((u64.wrap n).tdiv 256)).tmod 256))).length)) (.req true (.req (true) (.req (decide (2< (↑((((List.replicate 6 0).set 5 (u8.wrap ((u64.wrap n).tmod 256))).set 4 (u8.wrap ((u64.wrap ((u64.wrap n).tdiv 256)).tmod 256))).set 3 (u8.wrap ((u64.wrap ((u64.wrap ((u64.wrap n).tdiv 256)).tdiv 256)).tmod 256))).length:Int))) (.req (decide (2< ((((List.replicate 6 0).set 5 (u8.wrap ((u64.wrap n).tmod 256))).set 4 (u8.wrap ((u64.wrap ((u64.wrap n).tdiv 256)).tmod 256))).set 3 (u8.wrap ((u64.wrap ((u64.wrap ((u64.wrap n).tdiv 256)).tdiv 256)).tmod 256))).length)) (.req true (.req (true) (.req (decide (1< (↑(((((List.replicate 6 0).set 5 (u8.wrap ((u64.wrap n).tmod 256))).set 4 (u8.wrap ((u64.wrap ((u64.wrap n).tdiv 256)).tmod 256))).set 3 (u8.wrap ((u64.wrap ((u64.wrap ((u64.wrap n).tdiv 256)).tdiv 256)).tmod 256))).set 2 (u8.wrap ((u64.wrap ((u64.wrap ((u64.wrap ((u64.wrap n).tdiv 256)).tdiv 256)).tdiv 256)).tmod 256))).length:Int))) (.req (decide (1< (((((List.replicate 6 0).set 5 (u8.wrap ((u64.wrap n).tmod 256))).set 4 (u8.wrap ((u64.wrap ((u64.wrap n).tdiv 256)).tmod 256))).set 3 (u8.wrap ((u64.wrap ((u64.wrap ((u64.wrap n).tdiv 256)).tdiv 256)).tmod 256))).set 2 (u8.wrap ((u64.wrap ((u64.wrap ((u64.wrap ((u64.wrap n).tdiv 256)).tdiv 256)).tdiv 256)).tmod 256))).length)) (.req true (.req (true) (.req (decide (0< (↑((((((List.replicate 6 0).set 5 (u8.wrap ((u64.wrap n).tmod 256))).set 4 (u8.wrap ((u64.wrap ((u64.wrap n).tdiv 256)).tmod 256))).set 3 (u8.wrap ((u64.wrap ((u64.wrap ((u64.wrap n).tdiv 256)).tdiv 256)).tmod 256))).set 2 (u8.wrap ((u64.wrap ((u64.wrap ((u64.wrap ((u64.wrap n).tdiv 256)).tdiv 256)).tdiv 256)).tmod 256))).set 1 (u8.wrap ((u64.wrap ((u64.wrap ((u64.wrap ((u64.wrap ((u64.wrap n).tdiv 256)).tdiv 256)).tdiv 256)).tdiv 256)).tmod 256))).length:Int))) (.req (decide (0< ((((((List.replicate 6 0).set 5 (u8.wrap ((u64.wrap n).tmod 256))).set 4 (u8.wrap ((u64.wrap ((u64.wrap n).tdiv 256)).tmod 256))).set 3 (u8.wrap ((u64.wrap ((u64.wrap ((u64.wrap n).tdiv 256)).tdiv 256)).tmod 256))).set 2 (u8.wrap ((u64.wrap ((u64.wrap ((u64.wrap ((u64.wrap n).tdiv 256)).tdiv 256)).tdiv 256)).tmod 256))).set 1 (u8.wrap ((u64.wrap ((u64.wrap ((u64.wrap ((u64.wrap ((u64.wrap n).tdiv 256)).tdiv 256)).tdiv 256)).tdiv 256)).tmod 256))).length)) (.req true (.leaf (.done (.tuple [SV.str (List.map (λn=>UInt8.ofNat (Int.toNat n)) (((((((List.replicate 6 0).set 5 (u8.wrap ((u64.wrap n).tmod 256))).set 4 (u8.wrap ((u64.wrap ((u64.wrap n).tdiv 256)).tmod 256))).set 3 (u8.wrap ((u64.wrap ((u64.wrap ((u64.wrap n).tdiv 256)).tdiv 256)).tmod 256))).set 2 (u8.wrap ((u64.wrap ((u64.wrap ((u64.wrap ((u64.wrap n).tdiv 256)).tdiv 256)).tdiv 256)).tmod 256))).set 1 (u8.wrap ((u64.wrap ((u64.wrap ((u64.wrap ((u64.wrap ((u64.wrap n).tdiv 256)).tdiv 256)).tdiv 256)).tdiv 256)).tmod 256))).set 0 (u8.wrap ((u64.wrap ((u64.wrap ((u64.wrap ((u64.wrap ((u64.wrap ((u64.wrap n).tdiv 256)).tdiv 256)).tdiv 256)).tdiv 256)).tdiv 256)).tmod 256)))),J 0]))))))))))))))))))))))))))))))):=by kernel_rfl
def x33:Plan:=.ln 9 (.fork (.ln 5 (.lit .all)) (.ln 5 (.fork .all (.go (.lit (.go (.lit (.go (.lit (.go (.lit (.go (.lit .all)))))))))))))
theorem wi4(n:Int):o7 (Env.of pP (j9 [])) 1000 (x9 pP 299) .unit (x6 32 []) (v7 pP 299) x33 (v6 pP 299 [J n,J 4]) [] =(.req (true) (.node (decide (n < -2147483648)) (.leaf (.done (.tuple [SV.str [],J 3]))) (.node (decide (n>=2147483648)) (.leaf (.done (.tuple [SV.str [],J 3]))) (.req true (.req (true) (.req (decide ((0+ [u8.wrap ((u64.wrap n).fdiv 16777216)].length)*1<=140737488355328)) (.req true (.req (decide (([u8.wrap ((u64.wrap n).fdiv 16777216)].length+ [u8.wrap ((u64.wrap n).fdiv 65536)].length)*1<=140737488355328)) (.req true (.req (decide ((([u8.wrap ((u64.wrap n).fdiv 16777216)] ++[u8.wrap ((u64.wrap n).fdiv 65536)]).length+ [u8.wrap ((u64.wrap n).fdiv 256)].length)*1<=140737488355328)) (.req true (.req (decide ((([u8.wrap ((u64.wrap n).fdiv 16777216)] ++[u8.wrap ((u64.wrap n).fdiv 65536)] ++[u8.wrap ((u64.wrap n).fdiv 256)]).length+ [u8.wrap ((u64.wrap n).fdiv 1)].length)*1<=140737488355328)) (.leaf (.done (.tuple [SV.str (List.map (λn=>UInt8.ofNat (Int.toNat n)) ([u8.wrap ((u64.wrap n).fdiv 16777216)] ++[u8.wrap ((u64.wrap n).fdiv 65536)] ++[u8.wrap ((u64.wrap n).fdiv 256)] ++[u8.wrap ((u64.wrap n).fdiv 1)])),J 0]))))))))))))))):=by kernel_rfl
def x35:Plan:=.ln 13 (.fork (.ln 9 (.lit .all)) (.ln 9 (.fork .all (.go (.lit (.go (.lit (.go (.lit (.go (.lit (.go (.lit .all)))))))))))))
theorem x34(n:Int):o7 (Env.of pP (j9 [])) 1000 (x9 pP 280) .unit (x6 34 []) (v7 pP 280) x35 (v6 pP 280 [J n,J 4]) [] =(.req (true) (.node (decide (n < -2147483648)) (.leaf (.done (.tuple [SV.str [],J 3]))) (.req true (.node (decide (n>=2147483648)) (.leaf (.done (.tuple [SV.str [],J 3]))) (.req true (.req (true) (.req true (.req (true) (.req true (.req (true) (.req (decide (2< (↑((List.replicate 4 0).set 3 (u8.wrap ((u64.wrap n).tmod 256))).length:Int))) (.req (decide (2< ((List.replicate 4 0).set 3 (u8.wrap ((u64.wrap n).tmod 256))).length)) (.req true (.req (true) (.req (decide (1< (↑(((List.replicate 4 0).set 3 (u8.wrap ((u64.wrap n).tmod 256))).set 2 (u8.wrap ((u64.wrap ((u64.wrap n).tdiv 256)).tmod 256))).length:Int))) (.req (decide (1< (((List.replicate 4 0).set 3 (u8.wrap ((u64.wrap n).tmod 256))).set 2 (u8.wrap ((u64.wrap ((u64.wrap n).tdiv 256)).tmod 256))).length)) (.req true (.req (true) (.req (decide (0< (↑((((List.replicate 4 0).set 3 (u8.wrap ((u64.wrap n).tmod 256))).set 2 (u8.wrap ((u64.wrap ((u64.wrap n).tdiv 256)).tmod 256))).set 1 (u8.wrap ((u64.wrap ((u64.wrap ((u64.wrap n).tdiv 256)).tdiv 256)).tmod 256))).length:Int))) (.req (decide (0< ((((List.replicate 4 0).set 3 (u8.wrap ((u64.wrap n).tmod 256))).set 2 (u8.wrap ((u64.wrap ((u64.wrap n).tdiv 256)).tmod 256))).set 1 (u8.wrap ((u64.wrap ((u64.wrap ((u64.wrap n).tdiv 256)).tdiv 256)).tmod 256))).length)) (.req true (.leaf (.done (.tuple [SV.str (List.map (λn=>UInt8.ofNat (Int.toNat n)) (((((List.replicate 4 0).set 3 (u8.wrap ((u64.wrap n).tmod 256))).set 2 (u8.wrap ((u64.wrap ((u64.wrap n).tdiv 256)).tmod 256))).set 1 (u8.wrap ((u64.wrap ((u64.wrap ((u64.wrap n).tdiv 256)).tdiv 256)).tmod 256))).set 0 (u8.wrap ((u64.wrap ((u64.wrap ((u64.wrap ((u64.wrap n).tdiv 256)).tdiv 256)).tdiv 256)).tmod 256)))),J 0])))))))))))))))))))))))):=by kernel_rfl
def xP9(s:List UInt8)(a:Int):Int:=u64.wrap (↑(BitVec.ofInt 64 0 |||BitVec.ofInt 64 (u64.wrap (↑(s.getD (i64.wrap (a+0)).toNat 0).toNat:Int))).toNat:Int)
def xQ1(s:List UInt8)(a:Int):Int:=u64.wrap (↑(BitVec.ofInt 64 (u64.wrap (u64.wrap (↑(BitVec.ofInt 64 (u64.wrap (u64.wrap (↑(BitVec.ofInt 64 (u64.wrap (u64.wrap (↑(BitVec.ofInt 64 0 |||BitVec.ofInt 64 (u64.wrap (↑(s.getD (i64.wrap (a+0)).toNat 0).toNat:Int))).toNat:Int)*256)) |||BitVec.ofInt 64 (u64.wrap (↑(s.getD (i64.wrap (a+1)).toNat 0).toNat:Int))).toNat:Int)*256)) |||BitVec.ofInt 64 (u64.wrap (↑(s.getD (i64.wrap (a+2)).toNat 0).toNat:Int))).toNat:Int)*256)) |||BitVec.ofInt 64 (u64.wrap (↑(s.getD (i64.wrap (a+3)).toNat 0).toNat:Int))).toNat:Int)
def xQ3(s:List UInt8)(a:Int):Int:=u64.wrap (↑(BitVec.ofInt 64 (u64.wrap (u64.wrap (↑(BitVec.ofInt 64 (u64.wrap (u64.wrap (↑(BitVec.ofInt 64 (u64.wrap (u64.wrap (↑(BitVec.ofInt 64 (u64.wrap (u64.wrap (↑(BitVec.ofInt 64 (u64.wrap (u64.wrap (↑(BitVec.ofInt 64 0 |||BitVec.ofInt 64 (u64.wrap (↑(s.getD (i64.wrap (a+0)).toNat 0).toNat:Int))).toNat:Int)*256)) |||BitVec.ofInt 64 (u64.wrap (↑(s.getD (i64.wrap (a+1)).toNat 0).toNat:Int))).toNat:Int)*256)) |||BitVec.ofInt 64 (u64.wrap (↑(s.getD (i64.wrap (a+2)).toNat 0).toNat:Int))).toNat:Int)*256)) |||BitVec.ofInt 64 (u64.wrap (↑(s.getD (i64.wrap (a+3)).toNat 0).toNat:Int))).toNat:Int)*256)) |||BitVec.ofInt 64 (u64.wrap (↑(s.getD (i64.wrap (a+4)).toNat 0).toNat:Int))).toNat:Int)*256)) |||BitVec.ofInt 64 (u64.wrap (↑(s.getD (i64.wrap (a+5)).toNat 0).toNat:Int))).toNat:Int)
def xS7:Plan:=.fork (.ln 9 (.lit .all)) (.ln 4 (.fork (.ln 4 (.lit .all)) (.ln 7 (.fork (.lit .all) (.go (.lit (.go (.lit (.lit (.fork .all .all))))))))))
theorem tw1(s:List UInt8)(a:Int):o7 (Env.of pP (j9 [])) 1000 (x9 pP 282) .unit (x6 30 []) (v7 pP 282) xS7 (v6 pP 282 [.str s,J a,J 1]) [] =(.node (decide (a<0)) (.leaf (.done (.tuple [J 0,J 0,J 1]))) (.node (decide (a> (↑s.length:Int))) (.leaf (.done (.tuple [J 0,J 0,J 1]))) (.node (decide (i64.wrap ((↑s.length:Int)-a)<1)) (.leaf (.done (.tuple [J 0,J 0,J 6]))) (.req true (.req (decide (0<=i64.wrap (a+0))&&decide (i64.wrap (a+0)< (↑s.length:Int))) (.node (decide (xP9 s a>=9223372036854775808)) (.leaf (.done (.tuple [J 0,J 0,J 3]))) (.leaf (.done (.tuple [J (i64.wrap (xP9 s a)),J (i64.wrap (a+1)),J 0]))))))))):=by kernel_rfl
def xT1:Plan:=.fork (.ln 9 (.lit .all)) (.ln 4 (.fork (.ln 4 (.lit .all)) (.ln 7 (.fork (.lit .all) (.lit (.fork .all .all))))))
theorem xT0(s:List UInt8)(a:Int):o7 (Env.of pP (j9 [z63])) 1000 (x9 pP 321) .unit (x6 31 []) (v7 pP 321) xT1 (v6 pP 321 [.str s,J a,J 1]) [] =(.node (decide (a<0)) (.leaf (.done (.tuple [J 0,J 0,J 1]))) (.node (decide (a> (↑s.length:Int))) (.leaf (.done (.tuple [J 0,J 0,J 1]))) (.node (decide (i64.wrap ((↑s.length:Int)-a)<1)) (.leaf (.done (.tuple [J 0,J 0,J 6]))) (.req (decide (0<=i64.wrap (a+1))&&decide (i64.wrap (a+1)<=(↑s.length:Int))&&decide (0<=a)&&decide (a<=i64.wrap (a+1))) (.req (decide ((↑(List.drop a.toNat (List.take (i64.wrap (a+1)).toNat s)).length:Int)<=100000)) (.node (decide (q70 0 (List.drop a.toNat (List.take (i64.wrap (a+1)).toNat s))>=9223372036854775808)) (.leaf (.done (.tuple [J 0,J 0,J 3]))) (.leaf (.done (.tuple [J (i64.wrap (q70 0 (List.drop a.toNat (List.take (i64.wrap (a+1)).toNat s)))),J (i64.wrap (a+1)),J 0]))))))))):=by kernel_rfl
def xS8:Plan:=.fork (.ln 9 (.lit .all)) (.ln 4 (.fork (.ln 4 (.lit .all)) (.ln 7 (.fork (.lit .all) (.go (.lit (.go (.lit (.go (.lit (.go (.lit (.go (.lit (.lit (.fork .all .all))))))))))))))))
theorem tw4(s:List UInt8)(a:Int):o7 (Env.of pP (j9 [])) 1000 (x9 pP 282) .unit (x6 30 []) (v7 pP 282) xS8 (v6 pP 282 [.str s,J a,J 4]) [] =(.node (decide (a<0)) (.leaf (.done (.tuple [J 0,J 0,J 1]))) (.node (decide (a> (↑s.length:Int))) (.leaf (.done (.tuple [J 0,J 0,J 1]))) (.node (decide (i64.wrap ((↑s.length:Int)-a)<4)) (.leaf (.done (.tuple [J 0,J 0,J 6]))) (.req true (.req (decide (0<=i64.wrap (a+0))&&decide (i64.wrap (a+0)< (↑s.length:Int))) (.req true (.req (decide (0<=i64.wrap (a+1))&&decide (i64.wrap (a+1)< (↑s.length:Int))) (.req true (.req (decide (0<=i64.wrap (a+2))&&decide (i64.wrap (a+2)< (↑s.length:Int))) (.req true (.req (decide (0<=i64.wrap (a+3))&&decide (i64.wrap (a+3)< (↑s.length:Int))) (.node (decide (xQ1 s a>=9223372036854775808)) (.leaf (.done (.tuple [J 0,J 0,J 3]))) (.leaf (.done (.tuple [J (i64.wrap (xQ1 s a)),J (i64.wrap (a+4)),J 0]))))))))))))))):=by kernel_rfl
def xT3:Plan:=.fork (.ln 9 (.lit .all)) (.ln 4 (.fork (.ln 4 (.lit .all)) (.ln 7 (.fork (.lit .all) (.lit (.fork .all .all))))))
theorem xT2(s:List UInt8)(a:Int):o7 (Env.of pP (j9 [z63])) 1000 (x9 pP 321) .unit (x6 31 []) (v7 pP 321) xT3 (v6 pP 321 [.str s,J a,J 4]) [] =(.node (decide (a<0)) (.leaf (.done (.tuple [J 0,J 0,J 1]))) (.node (decide (a> (↑s.length:Int))) (.leaf (.done (.tuple [J 0,J 0,J 1]))) (.node (decide (i64.wrap ((↑s.length:Int)-a)<4)) (.leaf (.done (.tuple [J 0,J 0,J 6]))) (.req (decide (0<=i64.wrap (a+4))&&decide (i64.wrap (a+4)<=(↑s.length:Int))&&decide (0<=a)&&decide (a<=i64.wrap (a+4))) (.req (decide ((↑(List.drop a.toNat (List.take (i64.wrap (a+4)).toNat s)).length:Int)<=100000)) (.node (decide (q70 0 (List.drop a.toNat (List.take (i64.wrap (a+4)).toNat s))>=9223372036854775808)) (.leaf (.done (.tuple [J 0,J 0,J 3]))) (.leaf (.done (.tuple [J (i64.wrap (q70 0 (List.drop a.toNat (List.take (i64.wrap (a+4)).toNat s)))),J (i64.wrap (a+4)),J 0]))))))))):=by kernel_rfl
def xS9:Plan:=.fork (.ln 9 (.lit .all)) (.ln 4 (.fork (.ln 4 (.lit .all)) (.ln 7 (.fork (.lit .all) (.go (.lit (.go (.lit (.go (.lit (.go (.lit (.go (.lit (.go (.lit (.go (.lit (.lit (.fork .all .all))))))))))))))))))))
theorem tw6(s:List UInt8)(a:Int):o7 (Env.of pP (j9 [])) 1000 (x9 pP 282) .unit (x6 30 []) (v7 pP 282) xS9 (v6 pP 282 [.str s,J a,J 6]) [] =(.node (decide (a<0)) (.leaf (.done (.tuple [J 0,J 0,J 1]))) (.node (decide (a> (↑s.length:Int))) (.leaf (.done (.tuple [J 0,J 0,J 1]))) (.node (decide (i64.wrap ((↑s.length:Int)-a)<6)) (.leaf (.done (.tuple [J 0,J 0,J 6]))) (.req true (.req (decide (0<=i64.wrap (a+0))&&decide (i64.wrap (a+0)< (↑s.length:Int))) (.req true (.req (decide (0<=i64.wrap (a+1))&&decide (i64.wrap (a+1)< (↑s.length:Int))) (.req true (.req (decide (0<=i64.wrap (a+2))&&decide (i64.wrap (a+2)< (↑s.length:Int))) (.req true (.req (decide (0<=i64.wrap (a+3))&&decide (i64.wrap (a+3)< (↑s.length:Int))) (.req true (.req (decide (0<=i64.wrap (a+4))&&decide (i64.wrap (a+4)< (↑s.length:Int))) (.req true (.req (decide (0<=i64.wrap (a+5))&&decide (i64.wrap (a+5)< (↑s.length:Int))) (.node (decide (xQ3 s a>=9223372036854775808)) (.leaf (.done (.tuple [J 0,J 0,J 3]))) (.leaf (.done (.tuple [J (i64.wrap (xQ3 s a)),J (i64.wrap (a+6)),J 0]))))))))))))))))))):=by kernel_rfl
def xT5:Plan:=.fork (.ln 9 (.lit .all)) (.ln 4 (.fork (.ln 4 (.lit .all)) (.ln 7 (.fork (.lit .all) (.lit (.fork .all .all))))))
theorem xT4(s:List UInt8)(a:Int):o7 (Env.of pP (j9 [z63])) 1000 (x9 pP 321) .unit (x6 31 []) (v7 pP 321) xT5 (v6 pP 321 [.str s,J a,J 6]) [] =(.node (decide (a<0)) (.leaf (.done (.tuple [J 0,J 0,J 1]))) (.node (decide (a> (↑s.length:Int))) (.leaf (.done (.tuple [J 0,J 0,J 1]))) (.node (decide (i64.wrap ((↑s.length:Int)-a)<6)) (.leaf (.done (.tuple [J 0,J 0,J 6]))) (.req (decide (0<=i64.wrap (a+6))&&decide (i64.wrap (a+6)<=(↑s.length:Int))&&decide (0<=a)&&decide (a<=i64.wrap (a+6))) (.req (decide ((↑(List.drop a.toNat (List.take (i64.wrap (a+6)).toNat s)).length:Int)<=100000)) (.node (decide (q70 0 (List.drop a.toNat (List.take (i64.wrap (a+6)).toNat s))>=9223372036854775808)) (.leaf (.done (.tuple [J 0,J 0,J 3]))) (.leaf (.done (.tuple [J (i64.wrap (q70 0 (List.drop a.toNat (List.take (i64.wrap (a+6)).toNat s)))),J (i64.wrap (a+6)),J 0]))))))))):=by kernel_rfl
def xN9:Plan:=.fork (.ln 9 (.lit .all)) (.ln 4 (.fork (.ln 4 (.lit .all)) (.ln 7 (.fork (.lit .all) (.go (.lit (.go (.lit (.go (.lit (.go (.lit (.go (.lit (.lit .all)))))))))))))))
theorem ti4(s:List UInt8)(a:Int):o7 (Env.of pP (j9 [])) 1000 (x9 pP 284) .unit (x6 34 []) (v7 pP 284) xN9 (v6 pP 284 [.str s,J a,J 4]) [] =(.node (decide (a<0)) (.leaf (.done (.tuple [J 0,J 0,J 1]))) (.node (decide (a> (↑s.length:Int))) (.leaf (.done (.tuple [J 0,J 0,J 1]))) (.node (decide (i64.wrap ((↑s.length:Int)-a)<4)) (.leaf (.done (.tuple [J 0,J 0,J 6]))) (.req true (.req (decide (0<=i64.wrap (a+0))&&decide (i64.wrap (a+0)< (↑s.length:Int))) (.req true (.req (decide (0<=i64.wrap (a+1))&&decide (i64.wrap (a+1)< (↑s.length:Int))) (.req true (.req (decide (0<=i64.wrap (a+2))&&decide (i64.wrap (a+2)< (↑s.length:Int))) (.req true (.req (decide (0<=i64.wrap (a+3))&&decide (i64.wrap (a+3)< (↑s.length:Int))) (.req true (.req (true) (.leaf (.done (.tuple [J ((i64.wrap (u64.wrap (xQ1 s a*4294967296))).fdiv 4294967296),J (i64.wrap (a+4)),J 0])))))))))))))))):=by kernel_rfl
def xO1:Plan:=.fork (.ln 9 (.lit .all)) (.ln 4 (.fork (.ln 4 (.lit .all)) (.ln 7 (.fork (.lit .all) (.ln 5 (.fork .all .all))))))
theorem xO0(s:List UInt8)(a:Int):o7 (Env.of pP (j9 [z63])) 1000 (x9 pP 322) .unit (x6 46 []) (v7 pP 322) xO1 (v6 pP 322 [.str s,J a,J 4]) [] =(.node (decide (a<0)) (.leaf (.done (.tuple [J 0,J 0,J 1]))) (.node (decide (a> (↑s.length:Int))) (.leaf (.done (.tuple [J 0,J 0,J 1]))) (.node (decide (i64.wrap ((↑s.length:Int)-a)<4)) (.leaf (.done (.tuple [J 0,J 0,J 6]))) (.req (decide (0<=i64.wrap (a+4))&&decide (i64.wrap (a+4)<=(↑s.length:Int))&&decide (0<=a)&&decide (a<=i64.wrap (a+4))) (.req (decide ((↑(List.drop a.toNat (List.take (i64.wrap (a+4)).toNat s)).length:Int)<=100000)) (.req (decide (0< (↑(List.drop a.toNat (List.take (i64.wrap (a+4)).toNat s)).length:Int))) (.node (decide ((↑((List.drop a.toNat (List.take (i64.wrap (a+4)).toNat s)).getD 0 0).toNat:Int)>=128)) (.req true (.leaf (.done (.tuple [J (i64.wrap (i64.wrap (q70 0 (List.drop a.toNat (List.take (i64.wrap (a+4)).toNat s)))-4294967296)),J (i64.wrap (a+4)),J 0])))) (.leaf (.done (.tuple [J (i64.wrap (q70 0 (List.drop a.toNat (List.take (i64.wrap (a+4)).toNat s)))),J (i64.wrap (a+4)),J 0])))))))))):=by kernel_rfl
def yI0:Plan:=.fork (.lit (.lit (.lit .all))) (.lit (.lit (.fork .all (.fork .all .all))))
theorem yH9(s:List UInt8)(n:Int):o7 (Env.of pP (j9 [])) 1000 (x9 pP 253) .unit (x6 24 []) (v7 pP 253) yI0 (v6 pP 253 [.str s,J n]) [] =(.node (decide (n<0)) (.leaf (.done (.tuple [SV.str [],J 1]))) (.node (decide (n>65536)) (.leaf (.done (.tuple [SV.str [],J 1]))) (.node (decide ((↑s.length:Int)>n)) (.leaf (.done (.tuple [SV.str [],J 2]))) (.req (decide (0<=i64.wrap (n-(↑s.length:Int)))&&i64.wrap (n-(↑s.length:Int))==i64.wrap (n-(↑s.length:Int))&&decide (1*i64.wrap (n-(↑s.length:Int))<=140737488355328)&&decide (i64.wrap (n-(↑s.length:Int))<=(9223372036854775807:Int))) (.req (decide (((s.length+(List.map (λn=>UInt8.ofNat (Int.toNat n)) (List.replicate (i64.wrap (n-(↑s.length:Int))).toNat (0:Int))).length:Nat):Int)<=(9223372036854775807:Int))) (.leaf (.done (.tuple [SV.str (s++List.map (λn=>UInt8.ofNat (Int.toNat n)) (List.replicate (i64.wrap (n-(↑s.length:Int))).toNat (0:Int))),J 0])))))))):=by kernel_rfl
theorem xU7(x:Int):u8.wrap x=x % 256:=by
 have h2:IntKind.wrap .u8 x=if false&&decide (x % 256>=128)then x % 256-256 else x % 256:=rfl
 rw[h2];simp
theorem xU3(x:Int):u64.wrap x=x % 18446744073709551616:=by
 have h2:IntKind.wrap .u64 x=if false&&decide (x % 18446744073709551616>=9223372036854775808)then x % 18446744073709551616-18446744073709551616 else x % 18446744073709551616:=rfl
 rw[h2];simp
variable{x:Int}
theorem xU4(h0:0<=x)(h1:x<18446744073709551616):u64.wrap x=x:=by rw[xU3];omega
theorem fdN(hk:0<=k):x.fdiv k=x / k:=Int.fdiv_eq_ediv_of_nonneg x hk
def beN(n:Int):Nat->List UInt8
 |0=>[]
 |w+1=>UInt8.ofNat (n / 256 ^ w % 256).toNat::beN n w
theorem zt5(n:Int):∀w,(beN n w).length=w
 |0=>rfl
 |w+1=>congrArg (· +1) (zt5 n w)
theorem bq(n:Int)(hk:0<=k)(h0:0<=n)(h1:n<18446744073709551616):u8.wrap ((u64.wrap n).fdiv k)=n / k % 256:=by rw[xU7,xU4 h0 h1,fdN hk]
theorem tmN(hx:0<=x):x.tmod 256=x % 256:=Int.tmod_eq_emod_of_nonneg hx
theorem tdN(hx:0<=x):x.tdiv 256=x / 256:=Int.tdiv_eq_ediv_of_nonneg hx
theorem wdN(h0:0<=x)(h1:x<18446744073709551616):u64.wrap (x.tdiv 256)=x / 256:=by rw[tdN h0,xU3];omega
theorem w8N(h0:0<=x):u8.wrap (x.tmod 256)=x % 256:=by rw[tmN h0,xU7];omega
def tkN(s:List UInt8)(a:Nat):Nat->Int
 |0=>0
 |w+1=>tkN s a w*256+(s.getD (a+w) 0).toNat
def tk(s:List UInt8)(a w:Nat):Int:=match s with
 |[] =>tkN [] a w
 |b::l=>tkN (b::l) a w
theorem xR1(s:List UInt8)(a w:Nat):tk s a w=tkN s a w:=by cases s<;>rfl
theorem d9(s:List UInt8)(i:Nat):(0:Int)<=((s.getD i 0).toNat:Int)/\((s.getD i 0).toNat:Int)<256:=by
 have:=(s.getD i 0).toNat_lt;omega
theorem yD1{b:Int}(h0:0<=x)(h1:x<72057594037927936)(b0:0<=b)(b1:b<256):u64.wrap (((BitVec.ofInt 64 (u64.wrap (x*256)) |||BitVec.ofInt 64 (u64.wrap b)).toNat:Nat):Int)=x*256+b:=by
 rw[xU4 (x:=x*256) (by omega) (by omega),xU4 b0 (by omega)];obtain⟨m,rfl⟩:=Int.eq_ofNat_of_zero_le h0;obtain⟨k,rfl⟩:=Int.eq_ofNat_of_zero_le b0;rw[BitVec.toNat_or,BitVec.toNat_ofInt,BitVec.toNat_ofInt]
 have e1:((m:Int)*256 % ((2:Nat) ^ 64:Nat)).toNat=m <<< 8:=by
  rw[Nat.shiftLeft_eq];have:((2 ^ 64:Nat):Int)=18446744073709551616:=rfl;rw[this];omega
 have e2:((k:Int) % ((2:Nat) ^ 64:Nat)).toNat=k:=by
  have:((2 ^ 64:Nat):Int)=18446744073709551616:=rfl;rw[this];omega
 rw[e1,e2,<-Nat.shiftLeft_add_eq_or_of_lt (show k<2 ^ 8 by omega),Nat.shiftLeft_eq,xU4 (by omega) (by omega)]
 push_cast
 rfl
theorem orZ{b:Int}(b0:0<=b)(b1:b<256):u64.wrap (((BitVec.ofInt 64 0 |||BitVec.ofInt 64 (u64.wrap b)).toNat:Nat):Int)=b:=by
 have:=yD1 (x:=0) (b:=b) (by omega) (by omega) b0 b1;rw[show u64.wrap ((0:Int)*256)=0 from rfl]at this;rw[this];omega
def sg(x:Int):Int:=if x<2147483648 then x else x-4294967296
theorem xE6(h0:0<=x)(h1:x<4294967296):(i64.wrap (u64.wrap (x*4294967296))).fdiv 4294967296=sg x:=by
 rw[fdN (by omega),xU4 (by omega) (by omega)];unfold sg
 split
 .rw[w64 (by omega) (by omega)];omega
 .have:i64.wrap (x*4294967296)=x*4294967296-18446744073709551616:=by
   unfold IntKind.wrap;have e:(x*4294967296) % (2 ^ IntKind.i64.bits:Int)=x*4294967296:=Int.emod_eq_of_lt (by omega) (by show x*4294967296<18446744073709551616;omega);simp only[e];rw[if_pos (by simp[IntKind.signed,IntKind.bits];omega)];rfl
  rw[this];omega
theorem zN7{s:List UInt8}{i:Nat}(hi:i<s.length):s.drop i=s.getD i 0::s.drop (i+1):=zN6 hi
theorem q63(s:List UInt8)(hs:s.length<=100000):∀ (n i:Nat) (u v:Int),i+n=s.length->v=q70 u (s.drop i)->t8 pP (x9 pP 335) (.int .u64 v) (x8 pP 335 0) (x7 19 [(0,.str s),(3,.int .u64 u),(4,J i)]) []
 |n,i,u,v,hi,hv=>by
  refine o5 qM9 (n:=1000) (hint:=.unit) (keep:=x6 19 [0,3,4]) (p:=q62) rfl ?_;erw [nu1 s u (i:Int)]
  have t0:(i:Int).toNat=i:=by omega
  have w1:i64.wrap ((i:Int)+1)=((i+1:Nat):Int):=by rw[w64 (by omega) (by omega)];omega
  rw[t0,w1]
  refine o4 (λa=>?_) λa=>?_
  .match n,hi with
   |0,hi=>omega
   |n+1,hi=>
    rw[zN7 (by omega:i<s.length)]at hv;exact x0 (by simp;omega) ⟨u7 _ _,q63 s hs n (i+1) _ v (by omega) hv⟩
  .rw[List.drop_eq_nil_of_le (by omega)]at hv
   subst hv;rfl
theorem xm5(s:List UInt8)(hs:s.length<=100000):SCall pP 335 [.str s] (.int .u64 (q70 0 s)):=by
 refine s7 rfl rfl (by kernel_rfl) (o5 qM9 (n:=1000) (hint:=.unit) (keep:=x6 19 [0,3,4]) (p:=q61) (boxes:=[]) rfl ?_);have e:=nu0 s;unfold v6 v7 at e;erw [e];exact⟨u7 _ _,q63 s hs s.length 0 0 _ (by omega) rfl⟩
theorem yj7:z63.ok pP:=λargs t ht=>by
 simp only[z63]at ht
 split at ht
 .injection ht with ht;subst ht
  intro h;exact xm5 _ (by have:=of_decide_eq_true h;omega)
 .cases ht
theorem qN9:Known pP (Env.of pP (j9 [z63])):=kW (l:=[z63]) ⟨yj7,trivial⟩
theorem xA5(n:Int)(h0:0<=n)(h1:n<256):SCall pP 298 [J n,J 1] (.tuple [.str (beN n 1),J 0]):=by
 refine s7 rfl rfl (by kernel_rfl) (o5 qM9 (n:=1000) (hint:=.unit) (keep:=x6 25 []) (p:=x50) (boxes:=[]) rfl ?_);have e:=wu1 n;unfold v6 v7 at e;erw [e];rw[bq n (k:=1) (by decide) h0 (by omega)];rw[xU4 h0 (by omega)]
 repeat' first
  |exact rfl
  |refine x0 rfl ?_
  |refine o4 (λh=>absurd h (by omega)) (λ_=>?_)
  |refine f7 (λh=>absurd (of_decide_eq_false h) (by omega)) (λ_=>?_)
theorem xA9(n:Int)(h0:0<=n)(h1:n<256):SCall pP 279 [J n,J 1] (.tuple [.str (beN n 1),J 0]):=by
 refine s7 rfl rfl (by kernel_rfl) (o5 qM9 (n:=1000) (hint:=.unit) (keep:=x6 27 []) (p:=x56) (boxes:=[]) rfl ?_);have e:=x55 n;unfold v6 v7 at e;erw [e];rw[xU4 h0 (by omega)]
 have m0:u8.wrap ((n).tmod 256)=n / 1 % 256:=by rw[w8N (by omega)];try omega
 rw[m0]
 repeat' first
  |exact rfl
  |refine x0 rfl ?_
  |refine o4 (λh=>absurd h (by omega)) (λ_=>?_)
  |refine f7 (λh=>absurd (of_decide_eq_false h) (by omega)) (λ_=>?_)
theorem xA6(n:Int)(h0:0<=n)(h1:n<65536):SCall pP 298 [J n,J 2] (.tuple [.str (beN n 2),J 0]):=by
 refine s7 rfl rfl (by kernel_rfl) (o5 qM9 (n:=1000) (hint:=.unit) (keep:=x6 25 []) (p:=x51) (boxes:=[]) rfl ?_);have e:=wu2 n;unfold v6 v7 at e;erw [e];rw[bq n (k:=256) (by decide) h0 (by omega),bq n (k:=1) (by decide) h0 (by omega)];rw[xU4 h0 (by omega)]
 repeat' first
  |exact rfl
  |refine x0 rfl ?_
  |refine o4 (λh=>absurd h (by omega)) (λ_=>?_)
  |refine f7 (λh=>absurd (of_decide_eq_false h) (by omega)) (λ_=>?_)
theorem xB0(n:Int)(h0:0<=n)(h1:n<65536):SCall pP 279 [J n,J 2] (.tuple [.str (beN n 2),J 0]):=by
 refine s7 rfl rfl (by kernel_rfl) (o5 qM9 (n:=1000) (hint:=.unit) (keep:=x6 27 []) (p:=x58) (boxes:=[]) rfl ?_);have e:=x57 n;unfold v6 v7 at e;erw [e];rw[xU4 h0 (by omega)]
 have m0:u8.wrap ((n).tmod 256)=n / 1 % 256:=by rw[w8N (by omega)];try omega
 rw[m0]
 have d1:u64.wrap ((n).tdiv 256)=n / 256:=by rw[wdN (by omega) (by omega)];try omega
 rw[d1]
 have m1:u8.wrap ((n / 256).tmod 256)=n / 256 % 256:=by rw[w8N (by omega)];try omega
 rw[m1]
 repeat' first
  |exact rfl
  |refine x0 rfl ?_
  |refine o4 (λh=>absurd h (by omega)) (λ_=>?_)
  |refine f7 (λh=>absurd (of_decide_eq_false h) (by omega)) (λ_=>?_)
theorem xA7(n:Int)(h0:0<=n)(h1:n<4294967296):SCall pP 298 [J n,J 4] (.tuple [.str (beN n 4),J 0]):=by
 refine s7 rfl rfl (by kernel_rfl) (o5 qM9 (n:=1000) (hint:=.unit) (keep:=x6 25 []) (p:=x52) (boxes:=[]) rfl ?_);have e:=wu4 n;unfold v6 v7 at e;erw [e];rw[bq n (k:=16777216) (by decide) h0 (by omega),bq n (k:=65536) (by decide) h0 (by omega),bq n (k:=256) (by decide) h0 (by omega),bq n (k:=1) (by decide) h0 (by omega)];rw[xU4 h0 (by omega)]
 repeat' first
  |exact rfl
  |refine x0 rfl ?_
  |refine o4 (λh=>absurd h (by omega)) (λ_=>?_)
  |refine f7 (λh=>absurd (of_decide_eq_false h) (by omega)) (λ_=>?_)
theorem xB1(n:Int)(h0:0<=n)(h1:n<4294967296):SCall pP 279 [J n,J 4] (.tuple [.str (beN n 4),J 0]):=by
 refine s7 rfl rfl (by kernel_rfl) (o5 qM9 (n:=1000) (hint:=.unit) (keep:=x6 27 []) (p:=x60) (boxes:=[]) rfl ?_);have e:=x59 n;unfold v6 v7 at e;erw [e];rw[xU4 h0 (by omega)]
 have m0:u8.wrap ((n).tmod 256)=n / 1 % 256:=by rw[w8N (by omega)];try omega
 rw[m0]
 have d1:u64.wrap ((n).tdiv 256)=n / 256:=by rw[wdN (by omega) (by omega)];try omega
 rw[d1]
 have m1:u8.wrap ((n / 256).tmod 256)=n / 256 % 256:=by rw[w8N (by omega)];try omega
 rw[m1]
 have d2:u64.wrap ((n / 256).tdiv 256)=n / 65536:=by rw[wdN (by omega) (by omega)];try omega
 rw[d2]
 have m2:u8.wrap ((n / 65536).tmod 256)=n / 65536 % 256:=by rw[w8N (by omega)];try omega
 rw[m2]
 have d3:u64.wrap ((n / 65536).tdiv 256)=n / 16777216:=by rw[wdN (by omega) (by omega)];try omega
 rw[d3]
 have m3:u8.wrap ((n / 16777216).tmod 256)=n / 16777216 % 256:=by rw[w8N (by omega)];try omega
 rw[m3]
 repeat' first
  |exact rfl
  |refine x0 rfl ?_
  |refine o4 (λh=>absurd h (by omega)) (λ_=>?_)
  |refine f7 (λh=>absurd (of_decide_eq_false h) (by omega)) (λ_=>?_)
theorem xA8(n:Int)(h0:0<=n)(h1:n<281474976710656):SCall pP 298 [J n,J 6] (.tuple [.str (beN n 6),J 0]):=by
 refine s7 rfl rfl (by kernel_rfl) (o5 qM9 (n:=1000) (hint:=.unit) (keep:=x6 25 []) (p:=x54) (boxes:=[]) rfl ?_);have e:=wu6 n;unfold v6 v7 at e;erw [e];rw[bq n (k:=1099511627776) (by decide) h0 (by omega),bq n (k:=4294967296) (by decide) h0 (by omega),bq n (k:=16777216) (by decide) h0 (by omega),bq n (k:=65536) (by decide) h0 (by omega),bq n (k:=256) (by decide) h0 (by omega),bq n (k:=1) (by decide) h0 (by omega)];rw[xU4 h0 (by omega)]
 repeat' first
  |exact rfl
  |refine x0 rfl ?_
  |refine o4 (λh=>absurd h (by omega)) (λ_=>?_)
  |refine f7 (λh=>absurd (of_decide_eq_false h) (by omega)) (λ_=>?_)
theorem xB2(n:Int)(h0:0<=n)(h1:n<281474976710656):SCall pP 279 [J n,J 6] (.tuple [.str (beN n 6),J 0]):=by
 refine s7 rfl rfl (by kernel_rfl) (o5 qM9 (n:=1000) (hint:=.unit) (keep:=x6 27 []) (p:=x62) (boxes:=[]) rfl ?_);have e:=x61 n;unfold v6 v7 at e;erw [e];rw[xU4 h0 (by omega)]
 have m0:u8.wrap ((n).tmod 256)=n / 1 % 256:=by rw[w8N (by omega)];try omega
 rw[m0]
 have d1:u64.wrap ((n).tdiv 256)=n / 256:=by rw[wdN (by omega) (by omega)];try omega
 rw[d1]
 have m1:u8.wrap ((n / 256).tmod 256)=n / 256 % 256:=by rw[w8N (by omega)];try omega
 rw[m1]
 have d2:u64.wrap ((n / 256).tdiv 256)=n / 65536:=by rw[wdN (by omega) (by omega)];try omega
 rw[d2]
 have m2:u8.wrap ((n / 65536).tmod 256)=n / 65536 % 256:=by rw[w8N (by omega)];try omega
 rw[m2]
 have d3:u64.wrap ((n / 65536).tdiv 256)=n / 16777216:=by rw[wdN (by omega) (by omega)];try omega
 rw[d3]
 have m3:u8.wrap ((n / 16777216).tmod 256)=n / 16777216 % 256:=by rw[w8N (by omega)];try omega
 rw[m3]
 have d4:u64.wrap ((n / 16777216).tdiv 256)=n / 4294967296:=by rw[wdN (by omega) (by omega)];try omega
 rw[d4]
 have m4:u8.wrap ((n / 4294967296).tmod 256)=n / 4294967296 % 256:=by rw[w8N (by omega)];try omega
 rw[m4]
 have d5:u64.wrap ((n / 4294967296).tdiv 256)=n / 1099511627776:=by rw[wdN (by omega) (by omega)];try omega
 rw[d5]
 have m5:u8.wrap ((n / 1099511627776).tmod 256)=n / 1099511627776 % 256:=by rw[w8N (by omega)];try omega
 rw[m5]
 repeat' first
  |exact rfl
  |refine x0 rfl ?_
  |refine o4 (λh=>absurd h (by omega)) (λ_=>?_)
  |refine f7 (λh=>absurd (of_decide_eq_false h) (by omega)) (λ_=>?_)
end Go.Proofs.YtnkaepnblikcdaaGreat
set_option maxHeartbeats 4000000
namespace Go.Proofs.YtnkaepnblikcdaaGreat
open Go.Sx
theorem ixB{i n:Nat}(h:i<n):(decide (0<=((i:Nat):Int))&&decide (((i:Nat):Int)< ((n:Nat):Int)))=true:=by simp;omega
theorem d7{x:Int}(h0: -9000000000000000000<=x)(h1:x<=9000000000000000000):i64.wrap x=x:=w64 (by omega) (by omega)
theorem xz9(n:Int)(h0: -2147483648<=n)(h1:n<2147483648):SCall pP 299 [J n,J 4] (.tuple [.str (beN n 4),J 0]):=by
 refine s7 rfl rfl (by kernel_rfl) (o5 qM9 (n:=1000) (hint:=.unit) (keep:=x6 32 []) (p:=x33) (boxes:=[]) rfl ?_);have e:=wi4 n;unfold v6 v7 at e;erw [e]
 have q3:u8.wrap ((u64.wrap n).fdiv 16777216)=n / 16777216 % 256:=by rw[xU7,xU3,fdN (by omega)];omega
 have q2:u8.wrap ((u64.wrap n).fdiv 65536)=n / 65536 % 256:=by rw[xU7,xU3,fdN (by omega)];omega
 have q1:u8.wrap ((u64.wrap n).fdiv 256)=n / 256 % 256:=by rw[xU7,xU3,fdN (by omega)];omega
 have q0:u8.wrap ((u64.wrap n).fdiv 1)=n / 1 % 256:=by rw[xU7,xU3,fdN (by omega)];omega
 rw[q3,q2,q1,q0]
 repeat' first
  |exact rfl
  |refine x0 rfl ?_
  |refine o4 (λh=>absurd h (by omega)) (λ_=>?_)
  |refine f7 (λh=>absurd (of_decide_eq_false h) (by omega)) (λ_=>?_)
theorem xA0(n:Int)(h0: -2147483648<=n)(h1:n<2147483648):SCall pP 280 [J n,J 4] (.tuple [.str (beN n 4),J 0]):=by
 refine s7 rfl rfl (by kernel_rfl) (o5 qM9 (n:=1000) (hint:=.unit) (keep:=x6 34 []) (p:=x35) (boxes:=[]) rfl ?_);have e:=x34 n;unfold v6 v7 at e;erw [e]
 have hr:0<=u64.wrap n/\u64.wrap n<18446744073709551616:=by rw[xU3];omega
 have hm:u64.wrap n=n % 18446744073709551616:=xU3 n;generalize u64.wrap n=m at hr hm ⊢
 have d1:u64.wrap (m.tdiv 256)=m / 256:=by rw[wdN (by omega) (by omega)]
 have d2:u64.wrap ((m / 256).tdiv 256)=m / 65536:=by rw[wdN (by omega) (by omega)];omega
 have d3:u64.wrap ((m / 65536).tdiv 256)=m / 16777216:=by rw[wdN (by omega) (by omega)];omega
 have m0:u8.wrap (m.tmod 256)=n / 1 % 256:=by rw[w8N (by omega)];omega
 have m1:u8.wrap ((m / 256).tmod 256)=n / 256 % 256:=by rw[w8N (by omega)];omega
 have m2:u8.wrap ((m / 65536).tmod 256)=n / 65536 % 256:=by rw[w8N (by omega)];omega
 have m3:u8.wrap ((m / 16777216).tmod 256)=n / 16777216 % 256:=by rw[w8N (by omega)];omega
 rw[d1,d2,d3,m0,m1,m2,m3]
 repeat' first
  |exact rfl
  |refine x0 rfl ?_
  |refine o4 (λh=>absurd h (by omega)) (λ_=>?_)
  |refine f7 (λh=>absurd (of_decide_eq_false h) (by omega)) (λ_=>?_)
theorem xP6(s:List UInt8)(a:Nat):0<=tkN s a 1/\tkN s a 1<256:=by
 have q0:=d9 s a;simp only[tkN,Nat.add_zero];omega
variable{s:List UInt8}{a:Nat}
theorem dk1(h:a+1<=s.length):List.drop a (List.take (a+1) s)=[s.getD a 0] :=by
 rw[List.drop_take,show a+1-a=1 by omega];rw[zN7 (show a<s.length by omega)];rfl
theorem nk1(h:a+1<=s.length):q70 0 (List.drop a (List.take (a+1) s))=tkN s a 1:=by
 have q0:=d9 s a;rw[dk1 h];simp only[q70,xU3,tkN,Nat.add_zero];omega
theorem xP7(s:List UInt8)(a:Nat):0<=tkN s a 4/\tkN s a 4<4294967296:=by
 have q0:=d9 s a;have q1:=d9 s (a+1);have q2:=d9 s (a+2);have q3:=d9 s (a+3);simp only[tkN,Nat.add_zero];omega
theorem dk4(h:a+4<=s.length):List.drop a (List.take (a+4) s)=[s.getD a 0,s.getD (a+1) 0,s.getD (a+2) 0,s.getD (a+3) 0] :=by
 rw[List.drop_take,show a+4-a=4 by omega];rw[zN7 (show a<s.length by omega),zN7 (show a+1<s.length by omega),zN7 (show a+1+1<s.length by omega),zN7 (show a+1+1+1<s.length by omega)];rfl
theorem nk4(h:a+4<=s.length):q70 0 (List.drop a (List.take (a+4) s))=tkN s a 4:=by
 have q0:=d9 s a;have q1:=d9 s (a+1);have q2:=d9 s (a+2);have q3:=d9 s (a+3);rw[dk4 h];simp only[q70,xU3,tkN,Nat.add_zero];omega
theorem xP8(s:List UInt8)(a:Nat):0<=tkN s a 6/\tkN s a 6<281474976710656:=by
 have q0:=d9 s a;have q1:=d9 s (a+1);have q2:=d9 s (a+2);have q3:=d9 s (a+3);have q4:=d9 s (a+4);have q5:=d9 s (a+5);simp only[tkN,Nat.add_zero];omega
theorem dk6(h:a+6<=s.length):List.drop a (List.take (a+6) s)=[s.getD a 0,s.getD (a+1) 0,s.getD (a+2) 0,s.getD (a+3) 0,s.getD (a+4) 0,s.getD (a+5) 0] :=by
 rw[List.drop_take,show a+6-a=6 by omega];rw[zN7 (show a<s.length by omega),zN7 (show a+1<s.length by omega),zN7 (show a+1+1<s.length by omega),zN7 (show a+1+1+1<s.length by omega),zN7 (show a+1+1+1+1<s.length by omega),zN7 (show a+1+1+1+1+1<s.length by omega)];rfl
theorem nk6(h:a+6<=s.length):q70 0 (List.drop a (List.take (a+6) s))=tkN s a 6:=by
 have q0:=d9 s a;have q1:=d9 s (a+1);have q2:=d9 s (a+2);have q3:=d9 s (a+3);have q4:=d9 s (a+4);have q5:=d9 s (a+5);rw[dk6 h];simp only[q70,xU3,tkN,Nat.add_zero];omega
theorem xQ0(s:List UInt8)(a:Nat)(h:a<=100000):xP9 s (a:Int)=tkN s a 1:=by
 have q0:=d9 s (a+0)
 have k0:(i64.wrap ((a:Int)+0)).toNat=a+0:=by rw[d7 (by omega) (by omega)];omega
 unfold xP9;rw[k0];rw[orZ q0.1 q0.2]
 have p0:tkN s a 1=((s.getD (a+0) 0).toNat:Int):=by simp only[tkN,Int.zero_mul,Int.zero_add]
 have l0:0<=tkN s a 1/\tkN s a 1<256:=by rw[p0];exact q0
 rw[<-p0]
theorem xQ2(s:List UInt8)(a:Nat)(h:a<=100000):xQ1 s (a:Int)=tkN s a 4:=by
 have q0:=d9 s (a+0)
 have k0:(i64.wrap ((a:Int)+0)).toNat=a+0:=by rw[d7 (by omega) (by omega)];omega
 have q1:=d9 s (a+1)
 have k1:(i64.wrap ((a:Int)+1)).toNat=a+1:=by rw[d7 (by omega) (by omega)];omega
 have q2:=d9 s (a+2)
 have k2:(i64.wrap ((a:Int)+2)).toNat=a+2:=by rw[d7 (by omega) (by omega)];omega
 have q3:=d9 s (a+3)
 have k3:(i64.wrap ((a:Int)+3)).toNat=a+3:=by rw[d7 (by omega) (by omega)];omega
 unfold xQ1;rw[k0,k1,k2,k3];rw[orZ q0.1 q0.2]
 have p0:tkN s a 1=((s.getD (a+0) 0).toNat:Int):=by simp only[tkN,Int.zero_mul,Int.zero_add]
 have l0:0<=tkN s a 1/\tkN s a 1<256:=by rw[p0];exact q0
 rw[<-p0];rw[yD1 (x:=tkN s a 1) (b:=((s.getD (a+1) 0).toNat:Int)) (by omega) (by omega) q1.1 q1.2];have p1:tkN s a 2=tkN s a 1*256+((s.getD (a+1) 0).toNat:Int):=rfl
 have l1:0<=tkN s a 2/\tkN s a 2<65536:=by omega
 rw[<-p1];rw[yD1 (x:=tkN s a 2) (b:=((s.getD (a+2) 0).toNat:Int)) (by omega) (by omega) q2.1 q2.2];have p2:tkN s a 3=tkN s a 2*256+((s.getD (a+2) 0).toNat:Int):=rfl
 have l2:0<=tkN s a 3/\tkN s a 3<16777216:=by omega
 rw[<-p2];rw[yD1 (x:=tkN s a 3) (b:=((s.getD (a+3) 0).toNat:Int)) (by omega) (by omega) q3.1 q3.2];have p3:tkN s a 4=tkN s a 3*256+((s.getD (a+3) 0).toNat:Int):=rfl
 have l3:0<=tkN s a 4/\tkN s a 4<4294967296:=by omega
 rw[<-p3]
theorem xQ4(s:List UInt8)(a:Nat)(h:a<=100000):xQ3 s (a:Int)=tkN s a 6:=by
 have q0:=d9 s (a+0)
 have k0:(i64.wrap ((a:Int)+0)).toNat=a+0:=by rw[d7 (by omega) (by omega)];omega
 have q1:=d9 s (a+1)
 have k1:(i64.wrap ((a:Int)+1)).toNat=a+1:=by rw[d7 (by omega) (by omega)];omega
 have q2:=d9 s (a+2)
 have k2:(i64.wrap ((a:Int)+2)).toNat=a+2:=by rw[d7 (by omega) (by omega)];omega
 have q3:=d9 s (a+3)
 have k3:(i64.wrap ((a:Int)+3)).toNat=a+3:=by rw[d7 (by omega) (by omega)];omega
 have q4:=d9 s (a+4)
 have k4:(i64.wrap ((a:Int)+4)).toNat=a+4:=by rw[d7 (by omega) (by omega)];omega
 have q5:=d9 s (a+5)
 have k5:(i64.wrap ((a:Int)+5)).toNat=a+5:=by rw[d7 (by omega) (by omega)];omega
 unfold xQ3;rw[k0,k1,k2,k3,k4,k5];rw[orZ q0.1 q0.2]
 have p0:tkN s a 1=((s.getD (a+0) 0).toNat:Int):=by simp only[tkN,Int.zero_mul,Int.zero_add]
 have l0:0<=tkN s a 1/\tkN s a 1<256:=by rw[p0];exact q0
 rw[<-p0];rw[yD1 (x:=tkN s a 1) (b:=((s.getD (a+1) 0).toNat:Int)) (by omega) (by omega) q1.1 q1.2];have p1:tkN s a 2=tkN s a 1*256+((s.getD (a+1) 0).toNat:Int):=rfl
 have l1:0<=tkN s a 2/\tkN s a 2<65536:=by omega
 rw[<-p1];rw[yD1 (x:=tkN s a 2) (b:=((s.getD (a+2) 0).toNat:Int)) (by omega) (by omega) q2.1 q2.2];have p2:tkN s a 3=tkN s a 2*256+((s.getD (a+2) 0).toNat:Int):=rfl
 have l2:0<=tkN s a 3/\tkN s a 3<16777216:=by omega
 rw[<-p2];rw[yD1 (x:=tkN s a 3) (b:=((s.getD (a+3) 0).toNat:Int)) (by omega) (by omega) q3.1 q3.2];have p3:tkN s a 4=tkN s a 3*256+((s.getD (a+3) 0).toNat:Int):=rfl
 have l3:0<=tkN s a 4/\tkN s a 4<4294967296:=by omega
 rw[<-p3];rw[yD1 (x:=tkN s a 4) (b:=((s.getD (a+4) 0).toNat:Int)) (by omega) (by omega) q4.1 q4.2];have p4:tkN s a 5=tkN s a 4*256+((s.getD (a+4) 0).toNat:Int):=rfl
 have l4:0<=tkN s a 5/\tkN s a 5<1099511627776:=by omega
 rw[<-p4];rw[yD1 (x:=tkN s a 5) (b:=((s.getD (a+5) 0).toNat:Int)) (by omega) (by omega) q5.1 q5.2];have p5:tkN s a 6=tkN s a 5*256+((s.getD (a+5) 0).toNat:Int):=rfl
 have l5:0<=tkN s a 6/\tkN s a 6<281474976710656:=by omega
 rw[<-p5]
theorem xx7(s:List UInt8)(a:Nat)(h:a+1<=s.length)(hs:s.length<=100000):SCall pP 282 [.str s,J (a:Int),J 1] (.tuple [J (tk s a 1),J ((a+1:Nat):Int),J 0]):=by
 refine s7 rfl rfl (by kernel_rfl) (o5 qM9 (n:=1000) (hint:=.unit) (keep:=x6 30 []) (p:=xS7) (boxes:=[]) rfl ?_);have e:=tw1 s (a:Int);unfold v6 v7 at e;erw [e]
 have n0:((a:Int)).toNat=a:=by omega
 have jw:i64.wrap ((a:Int)+1)=((a+1:Nat):Int):=by rw[d7 (by omega) (by omega)];omega
 have jl:i64.wrap ((s.length:Int)-(a:Int))=(s.length:Int)-(a:Int):=d7 (by omega) (by omega);have tl:=xP6 s a;rw[xR1]
 have j0:i64.wrap ((a:Int)+0)=((a+0:Nat):Int):=by rw[d7 (by omega) (by omega)];omega
 have k0:((a+0:Nat):Int).toNat=a+0:=by omega
 have q0:=d9 s (a+0);rw[xQ0 s a (by omega)];rw[j0,jw,jl];rw[d7 (x:=tkN s a 1) (by omega) (by omega)]
 exact o4 (λh=>absurd h (by omega)) λ_=>o4 (λh=>absurd h (by omega)) λ_=>o4 (λh=>absurd h (by omega)) λ_=>x0 rfl (x0 (ixB (by omega)) (o4 (λh=>absurd h (by omega)) λ_=>rfl))
theorem xy0(s:List UInt8)(a:Nat)(h:a+1<=s.length)(hs:s.length<=100000):SCall pP 321 [.str s,J (a:Int),J 1] (.tuple [J (tk s a 1),J ((a+1:Nat):Int),J 0]):=by
 refine s7 rfl rfl (by kernel_rfl) (o5 qN9 (n:=1000) (hint:=.unit) (keep:=x6 31 []) (p:=xT1) (boxes:=[]) rfl ?_);have e:=xT0 s (a:Int);unfold v6 v7 at e;erw [e]
 have n0:((a:Int)).toNat=a:=by omega
 have jw:i64.wrap ((a:Int)+1)=((a+1:Nat):Int):=by rw[d7 (by omega) (by omega)];omega
 have jl:i64.wrap ((s.length:Int)-(a:Int))=(s.length:Int)-(a:Int):=d7 (by omega) (by omega);have tl:=xP6 s a;rw[xR1];rw[jw,jl,n0,show((a+1:Nat):Int).toNat=a+1 by omega,nk1 h];rw[d7 (x:=tkN s a 1) (by omega) (by omega)]
 exact o4 (λh=>absurd h (by omega)) λ_=>o4 (λh=>absurd h (by omega)) λ_=>o4 (λh=>absurd h (by omega)) λ_=>x0 (by simp<;>omega) (x0 (decide_eq_true (by rw[dk1 h];simp)) (o4 (λh=>absurd h (by omega)) λ_=>rfl))
theorem xx9(s:List UInt8)(a:Nat)(h:a+6<=s.length)(hs:s.length<=100000):SCall pP 282 [.str s,J (a:Int),J 6] (.tuple [J (tk s a 6),J ((a+6:Nat):Int),J 0]):=by
 refine s7 rfl rfl (by kernel_rfl) (o5 qM9 (n:=1000) (hint:=.unit) (keep:=x6 30 []) (p:=xS9) (boxes:=[]) rfl ?_);have e:=tw6 s (a:Int);unfold v6 v7 at e;erw [e]
 have n0:((a:Int)).toNat=a:=by omega
 have jw:i64.wrap ((a:Int)+6)=((a+6:Nat):Int):=by rw[d7 (by omega) (by omega)];omega
 have jl:i64.wrap ((s.length:Int)-(a:Int))=(s.length:Int)-(a:Int):=d7 (by omega) (by omega);have tl:=xP8 s a;rw[xR1]
 have j0:i64.wrap ((a:Int)+0)=((a+0:Nat):Int):=by rw[d7 (by omega) (by omega)];omega
 have k0:((a+0:Nat):Int).toNat=a+0:=by omega
 have q0:=d9 s (a+0)
 have j1:i64.wrap ((a:Int)+1)=((a+1:Nat):Int):=by rw[d7 (by omega) (by omega)];omega
 have k1:((a+1:Nat):Int).toNat=a+1:=by omega
 have q1:=d9 s (a+1)
 have j2:i64.wrap ((a:Int)+2)=((a+2:Nat):Int):=by rw[d7 (by omega) (by omega)];omega
 have k2:((a+2:Nat):Int).toNat=a+2:=by omega
 have q2:=d9 s (a+2)
 have j3:i64.wrap ((a:Int)+3)=((a+3:Nat):Int):=by rw[d7 (by omega) (by omega)];omega
 have k3:((a+3:Nat):Int).toNat=a+3:=by omega
 have q3:=d9 s (a+3)
 have j4:i64.wrap ((a:Int)+4)=((a+4:Nat):Int):=by rw[d7 (by omega) (by omega)];omega
 have k4:((a+4:Nat):Int).toNat=a+4:=by omega
 have q4:=d9 s (a+4)
 have j5:i64.wrap ((a:Int)+5)=((a+5:Nat):Int):=by rw[d7 (by omega) (by omega)];omega
 have k5:((a+5:Nat):Int).toNat=a+5:=by omega
 have q5:=d9 s (a+5);rw[xQ4 s a (by omega)];rw[j0,j1,j2,j3,j4,j5,jw,jl];rw[d7 (x:=tkN s a 6) (by omega) (by omega)]
 exact o4 (λh=>absurd h (by omega)) λ_=>o4 (λh=>absurd h (by omega)) λ_=>o4 (λh=>absurd h (by omega)) λ_=>x0 rfl (x0 (ixB (by omega)) (x0 rfl (x0 (ixB (by omega)) (x0 rfl (x0 (ixB (by omega)) (x0 rfl (x0 (ixB (by omega)) (x0 rfl (x0 (ixB (by omega)) (x0 rfl (x0 (ixB (by omega)) (o4 (λh=>absurd h (by omega)) λ_=>rfl))))))))))))
theorem xy2(s:List UInt8)(a:Nat)(h:a+6<=s.length)(hs:s.length<=100000):SCall pP 321 [.str s,J (a:Int),J 6] (.tuple [J (tk s a 6),J ((a+6:Nat):Int),J 0]):=by
 refine s7 rfl rfl (by kernel_rfl) (o5 qN9 (n:=1000) (hint:=.unit) (keep:=x6 31 []) (p:=xT5) (boxes:=[]) rfl ?_);have e:=xT4 s (a:Int);unfold v6 v7 at e;erw [e]
 have n0:((a:Int)).toNat=a:=by omega
 have jw:i64.wrap ((a:Int)+6)=((a+6:Nat):Int):=by rw[d7 (by omega) (by omega)];omega
 have jl:i64.wrap ((s.length:Int)-(a:Int))=(s.length:Int)-(a:Int):=d7 (by omega) (by omega);have tl:=xP8 s a;rw[xR1];rw[jw,jl,n0,show((a+6:Nat):Int).toNat=a+6 by omega,nk6 h];rw[d7 (x:=tkN s a 6) (by omega) (by omega)]
 exact o4 (λh=>absurd h (by omega)) λ_=>o4 (λh=>absurd h (by omega)) λ_=>o4 (λh=>absurd h (by omega)) λ_=>x0 (by simp<;>omega) (x0 (decide_eq_true (by rw[dk6 h];simp)) (o4 (λh=>absurd h (by omega)) λ_=>rfl))
theorem xx8(s:List UInt8)(a:Nat)(h:a+4<=s.length)(hs:s.length<=100000):SCall pP 282 [.str s,J (a:Int),J 4] (.tuple [J (tk s a 4),J ((a+4:Nat):Int),J 0]):=by
 refine s7 rfl rfl (by kernel_rfl) (o5 qM9 (n:=1000) (hint:=.unit) (keep:=x6 30 []) (p:=xS8) (boxes:=[]) rfl ?_);have e:=tw4 s (a:Int);unfold v6 v7 at e;erw [e]
 have n0:((a:Int)).toNat=a:=by omega
 have jw:i64.wrap ((a:Int)+4)=((a+4:Nat):Int):=by rw[d7 (by omega) (by omega)];omega
 have jl:i64.wrap ((s.length:Int)-(a:Int))=(s.length:Int)-(a:Int):=d7 (by omega) (by omega);have tl:=xP7 s a;rw[xR1]
 have j0:i64.wrap ((a:Int)+0)=((a+0:Nat):Int):=by rw[d7 (by omega) (by omega)];omega
 have k0:((a+0:Nat):Int).toNat=a+0:=by omega
 have q0:=d9 s (a+0)
 have j1:i64.wrap ((a:Int)+1)=((a+1:Nat):Int):=by rw[d7 (by omega) (by omega)];omega
 have k1:((a+1:Nat):Int).toNat=a+1:=by omega
 have q1:=d9 s (a+1)
 have j2:i64.wrap ((a:Int)+2)=((a+2:Nat):Int):=by rw[d7 (by omega) (by omega)];omega
 have k2:((a+2:Nat):Int).toNat=a+2:=by omega
 have q2:=d9 s (a+2)
 have j3:i64.wrap ((a:Int)+3)=((a+3:Nat):Int):=by rw[d7 (by omega) (by omega)];omega
 have k3:((a+3:Nat):Int).toNat=a+3:=by omega
 have q3:=d9 s (a+3);rw[xQ2 s a (by omega)];rw[j0,j1,j2,j3,jw,jl];rw[d7 (x:=tkN s a 4) (by omega) (by omega)]
 exact o4 (λh=>absurd h (by omega)) λ_=>o4 (λh=>absurd h (by omega)) λ_=>o4 (λh=>absurd h (by omega)) λ_=>x0 rfl (x0 (ixB (by omega)) (x0 rfl (x0 (ixB (by omega)) (x0 rfl (x0 (ixB (by omega)) (x0 rfl (x0 (ixB (by omega)) (o4 (λh=>absurd h (by omega)) λ_=>rfl))))))))
theorem xy1(s:List UInt8)(a:Nat)(h:a+4<=s.length)(hs:s.length<=100000):SCall pP 321 [.str s,J (a:Int),J 4] (.tuple [J (tk s a 4),J ((a+4:Nat):Int),J 0]):=by
 refine s7 rfl rfl (by kernel_rfl) (o5 qN9 (n:=1000) (hint:=.unit) (keep:=x6 31 []) (p:=xT3) (boxes:=[]) rfl ?_);have e:=xT2 s (a:Int);unfold v6 v7 at e;erw [e]
 have n0:((a:Int)).toNat=a:=by omega
 have jw:i64.wrap ((a:Int)+4)=((a+4:Nat):Int):=by rw[d7 (by omega) (by omega)];omega
 have jl:i64.wrap ((s.length:Int)-(a:Int))=(s.length:Int)-(a:Int):=d7 (by omega) (by omega);have tl:=xP7 s a;rw[xR1];rw[jw,jl,n0,show((a+4:Nat):Int).toNat=a+4 by omega,nk4 h];rw[d7 (x:=tkN s a 4) (by omega) (by omega)]
 exact o4 (λh=>absurd h (by omega)) λ_=>o4 (λh=>absurd h (by omega)) λ_=>o4 (λh=>absurd h (by omega)) λ_=>x0 (by simp<;>omega) (x0 (decide_eq_true (by rw[dk4 h];simp)) (o4 (λh=>absurd h (by omega)) λ_=>rfl))
theorem xx1(s:List UInt8)(a:Nat)(h:a+4<=s.length)(hs:s.length<=100000):SCall pP 284 [.str s,J (a:Int),J 4] (.tuple [J (sg (tk s a 4)),J ((a+4:Nat):Int),J 0]):=by
 refine s7 rfl rfl (by kernel_rfl) (o5 qM9 (n:=1000) (hint:=.unit) (keep:=x6 34 []) (p:=xN9) (boxes:=[]) rfl ?_);have e:=ti4 s (a:Int);unfold v6 v7 at e;erw [e]
 have n0:((a:Int)).toNat=a:=by omega
 have jw:i64.wrap ((a:Int)+4)=((a+4:Nat):Int):=by rw[d7 (by omega) (by omega)];omega
 have jl:i64.wrap ((s.length:Int)-(a:Int))=(s.length:Int)-(a:Int):=d7 (by omega) (by omega);have tl:=xP7 s a;rw[xR1]
 have j0:i64.wrap ((a:Int)+0)=((a+0:Nat):Int):=by rw[d7 (by omega) (by omega)];omega
 have k0:((a+0:Nat):Int).toNat=a+0:=by omega
 have q0:=d9 s (a+0)
 have j1:i64.wrap ((a:Int)+1)=((a+1:Nat):Int):=by rw[d7 (by omega) (by omega)];omega
 have k1:((a+1:Nat):Int).toNat=a+1:=by omega
 have q1:=d9 s (a+1)
 have j2:i64.wrap ((a:Int)+2)=((a+2:Nat):Int):=by rw[d7 (by omega) (by omega)];omega
 have k2:((a+2:Nat):Int).toNat=a+2:=by omega
 have q2:=d9 s (a+2)
 have j3:i64.wrap ((a:Int)+3)=((a+3:Nat):Int):=by rw[d7 (by omega) (by omega)];omega
 have k3:((a+3:Nat):Int).toNat=a+3:=by omega
 have q3:=d9 s (a+3);rw[xQ2 s a (by omega)];rw[j0,j1,j2,j3,jw,jl];rw[xE6 tl.1 tl.2]
 exact o4 (λh=>absurd h (by omega)) λ_=>o4 (λh=>absurd h (by omega)) λ_=>o4 (λh=>absurd h (by omega)) λ_=>x0 rfl (x0 (ixB (by omega)) (x0 rfl (x0 (ixB (by omega)) (x0 rfl (x0 (ixB (by omega)) (x0 rfl (x0 (ixB (by omega)) (x0 rfl (x0 rfl rfl)))))))))
theorem xx2(s:List UInt8)(a:Nat)(h:a+4<=s.length)(hs:s.length<=100000):SCall pP 322 [.str s,J (a:Int),J 4] (.tuple [J (sg (tk s a 4)),J ((a+4:Nat):Int),J 0]):=by
 refine s7 rfl rfl (by kernel_rfl) (o5 qN9 (n:=1000) (hint:=.unit) (keep:=x6 46 []) (p:=xO1) (boxes:=[]) rfl ?_);have e:=xO0 s (a:Int);unfold v6 v7 at e;erw [e]
 have n0:((a:Int)).toNat=a:=by omega
 have jw:i64.wrap ((a:Int)+4)=((a+4:Nat):Int):=by rw[d7 (by omega) (by omega)];omega
 have jl:i64.wrap ((s.length:Int)-(a:Int))=(s.length:Int)-(a:Int):=d7 (by omega) (by omega);have tl:=xP7 s a;rw[xR1];rw[jw,jl,n0,show((a+4:Nat):Int).toNat=a+4 by omega,nk4 h];rw[dk4 h,d7 (x:=tkN s a 4) (by omega) (by omega),d7 (x:=tkN s a 4-4294967296) (by omega) (by omega)];have q0:=d9 s a;have q1:=d9 s (a+1);have q2:=d9 s (a+2);have q3:=d9 s (a+3)
 have hb:((s.getD a 0).toNat:Int)>=128↔¬tkN s a 4<2147483648:=by simp only[tkN,Nat.add_zero];omega
 refine o4 (λh=>absurd h (by omega)) (λ_=>o4 (λh=>absurd h (by omega)) (λ_=>o4 (λh=>absurd h (by omega)) (λ_=>?_)))
 refine x0 (by simp<;>omega) (x0 (decide_eq_true (by simp<;>omega)) (x0 (by simp) (o4 (λh=>?_) λh=>?_)))
 .have h:¬tkN s a 4<2147483648:=hb.1 h
  refine x0 rfl ?_;rw[show sg (tkN s a 4)=tkN s a 4-4294967296 from if_neg h];rfl
 .have h:tkN s a 4<2147483648:=by
   rcases Int.lt_or_le (tkN s a 4) 2147483648 with h'|h'
   .exact h'
   .exact absurd (hb.2 (by omega)) h
  rw[show sg (tkN s a 4)=tkN s a 4 from if_pos h];rfl
structure Rc where
 kind:Int
 seq:Int
 line:Int
 done:Int
 src:V4
 dst:V4
def Rc.cells(r:Rc):List SV:=[J r.kind,J r.seq,J r.line,J r.done,J r.src.1,J r.src.2.1,J r.src.2.2.1,J r.src.2.2.2,J r.dst.1,J r.dst.2.1,J r.dst.2.2.1,J r.dst.2.2.2]
def Rc.sv(r:Rc):SV:=.agg r.cells
def qG7(c:V4):Bool:=inR c.1 (-2147483648) 2147483647&& (inR c.2.1 (-2147483648) 2147483647&& (inR c.2.2.1 (-2147483648) 2147483647&&inR c.2.2.2 (-2147483648) 2147483647))
def rcB(r:Rc):Bool:=inR r.kind 1 3&& (inR r.seq 1 1099511627776&& (inR r.line 0 1099511627776&& (inR r.done 0 16777216&& (qG7 r.src&&qG7 r.dst))))
theorem yT1{r:Rc}:rcB r=true↔(1<=r.kind/\r.kind<=3)/\(1<=r.seq/\r.seq<=1099511627776)/\(0<=r.line/\r.line<=1099511627776)/\(0<=r.done/\r.done<=16777216)/\((-2147483648<=r.src.1/\r.src.1<=2147483647)/\(-2147483648<=r.src.2.1/\r.src.2.1<=2147483647)/\(-2147483648<=r.src.2.2.1/\r.src.2.2.1<=2147483647)/\-2147483648<=r.src.2.2.2/\r.src.2.2.2<=2147483647)/\(-2147483648<=r.dst.1/\r.dst.1<=2147483647)/\(-2147483648<=r.dst.2.1/\r.dst.2.1<=2147483647)/\(-2147483648<=r.dst.2.2.1/\r.dst.2.2.1<=2147483647)/\-2147483648<=r.dst.2.2.2/\r.dst.2.2.2<=2147483647:=by
 simp only[rcB,qG7,Bool.and_eq_true,j8]
theorem xq3(r:Rc):SCall pP 296 [r.sv] (.bool (rcB r)):=
 v8 mix [] trivial 1000 (let z0:Plan:=.lit (.lit (.lit .all));.fork (.ln 27 (.lit .all)) (.ln 3 (.fork (.ln 23 (.lit .all)) (.ln 3 (.fork (.ln 19 (.lit .all)) (.ln 3 (.fork (.ln 15 (.lit .all)) (.ln 3 (.fork (.ln 11 (.lit .all)) (.ln 3 (.fork (.ln 7 (.lit .all)) (.ln 3 (.fork (.ln 3 (.lit .all)) (.ln 3 (.fork .all (.go (.lit (.go (.lit (.fork z0 (.lit (.lit (.fork .all (.go (.lit (.fork z0 (.lit (.lit (.fork .all (.go (.lit (.fork z0 (.lit (.lit (.fork .all (.go (.lit (.fork z0 (.lit (.lit (.fork .all (.go (.lit (.go (.lit (.go (.lit (.fork z0 (.lit (.lit (.fork .all (.go (.lit (.fork z0 (.lit (.lit (.fork .all (.go (.lit (.fork z0 (.lit (.lit (.fork .all (.go (.lit (.fork z0 (.lit (.lit (.fork .all (.go (.lit (.go (.lit .all)))))))))))))))))))))))))))))))))))))))))))))))))))))))))))))))))))))))))
  (t:=let y0:Tree SV:=.leaf (.bool false);.node (decide (r.kind<1)) y0 (.node (decide (r.kind>3)) y0 (.node (decide (r.seq<1)) y0 (.node (decide (r.seq>1099511627776)) y0 (.node (decide (r.line<0)) y0 (.node (decide (r.line>1099511627776)) y0 (.node (decide (r.done<0)) y0 (.node (decide (r.done>16777216)) y0 (.req true (.req (true) (.node (decide (r.src.1 < -2147483648)) y0 (.node (decide (r.src.1>=2147483648)) y0 (.req true (.node (decide (r.src.2.1 < -2147483648)) y0 (.node (decide (r.src.2.1>=2147483648)) y0 (.req true (.node (decide (r.src.2.2.1 < -2147483648)) y0 (.node (decide (r.src.2.2.1>=2147483648)) y0 (.req true (.node (decide (r.src.2.2.2 < -2147483648)) y0 (.node (decide (r.src.2.2.2>=2147483648)) y0 (.req true (.req (true) (.node (decide (r.dst.1 < -2147483648)) y0 (.node (decide (r.dst.1>=2147483648)) y0 (.req true (.node (decide (r.dst.2.1 < -2147483648)) y0 (.node (decide (r.dst.2.1>=2147483648)) y0 (.req true (.node (decide (r.dst.2.2.1 < -2147483648)) y0 (.node (decide (r.dst.2.2.1>=2147483648)) y0 (.req true (.node (decide (r.dst.2.2.2 < -2147483648)) y0 (.node (decide (r.dst.2.2.2>=2147483648)) y0 (.leaf (.bool true))))))))))))))))))))))))))))))))))))
  (by kernel_rfl) (by
   have q:∀b:Bool,(b=true↔rcB r=true)->SV.bool b=SV.bool (rcB r):=λb h=>by rw[Bool.eq_iff_iff.2 h]
   repeat' first|refine o4 (λ_=>?_) (λ_=>?_)|refine x0 rfl ?_|refine q _ ?_
   all_goals(rw[yT1];simp only[decide_eq_true_eq,Bool.false_eq_true,false_iff,true_iff];omega)) (by kernel_rfl) (by kernel_rfl)
theorem xq4(r:Rc):SCall pP 250 [r.sv] (.bool (rcB r)):=
 v8 mix [] trivial 1000 (let z0:Plan:=.ln 9 (.lit .all);let z1:Plan:=.ln 4 (.lit .all);let z2:Plan:=.ln 5 (.lit .all);.fork (.ln 3 (.fork (.ln 3 (.fork (.ln 3 (.fork (.ln 3 (.fork (.ln 3 (.fork (.ln 3 (.fork (.ln 3 (.fork (.lit (.lit (.go (.lit (.fork z0 (.ln 4 (.fork z1 (.go (.lit (.fork z0 (.ln 4 (.fork z1 (.go (.lit (.fork z0 (.ln 4 (.fork z1 (.go (.lit (.fork z0 (.ln 4 (.fork z1 (.go (.ln 5 (.go (.lit (.fork z2 (.ln 4 (.fork (.lit .all) (.go (.lit (.fork z2 (.ln 4 (.fork (.lit .all) (.go (.lit (.fork z2 (.ln 4 (.fork (.lit .all) (.go (.lit (.fork z2 (.ln 4 (.fork (.lit .all) (.go (.lit (.lit .all))))))))))))))))))))))))))))))))))))))))))))))) (.ln 6 (.lit .all)))) (.ln 10 (.lit .all)))) (.ln 14 (.lit .all)))) (.ln 18 (.lit .all)))) (.ln 22 (.lit .all)))) (.ln 26 (.lit .all)))) (.ln 30 (.lit .all)))) (.ln 34 (.lit .all)))
  (t:=let y0:Tree SV:=.leaf (.bool false);.node (decide (r.kind>=1)) (.node (decide (r.kind<=3)) (.node (decide (r.seq>=1)) (.node (decide (r.seq<=1099511627776)) (.node (decide (r.line>=0)) (.node (decide (r.line<=1099511627776)) (.node (decide (r.done>=0)) (.node (decide (r.done<=16777216)) (.req true (.node (decide (r.src.1 < -2147483648)) y0 (.req true (.node (decide (r.src.1>=2147483648)) y0 (.req true (.node (decide (r.src.2.1 < -2147483648)) y0 (.req true (.node (decide (r.src.2.1>=2147483648)) y0 (.req true (.node (decide (r.src.2.2.1 < -2147483648)) y0 (.req true (.node (decide (r.src.2.2.1>=2147483648)) y0 (.req true (.node (decide (r.src.2.2.2 < -2147483648)) y0 (.req true (.node (decide (r.src.2.2.2>=2147483648)) y0 (.req true (.node (decide (r.dst.1 < -2147483648)) y0 (.req true (.node (decide (r.dst.1>=2147483648)) y0 (.req true (.node (decide (r.dst.2.1 < -2147483648)) y0 (.req true (.node (decide (r.dst.2.1>=2147483648)) y0 (.req true (.node (decide (r.dst.2.2.1 < -2147483648)) y0 (.req true (.node (decide (r.dst.2.2.1>=2147483648)) y0 (.req true (.node (decide (r.dst.2.2.2 < -2147483648)) y0 (.req true (.node (decide (r.dst.2.2.2>=2147483648)) y0 (.leaf (.bool true)))))))))))))))))))))))))))))))))) y0) y0) y0) y0) y0) y0) y0) y0)
  (by kernel_rfl) (by
   have q:∀b:Bool,(b=true↔rcB r=true)->SV.bool b=SV.bool (rcB r):=λb h=>by rw[Bool.eq_iff_iff.2 h]
   repeat' first|refine o4 (λ_=>?_) (λ_=>?_)|refine x0 rfl ?_|refine q _ ?_
   all_goals(rw[yT1];simp only[decide_eq_true_eq,Bool.false_eq_true,false_iff,true_iff];omega)) (by kernel_rfl) (by kernel_rfl)
def zY5(f:FuncId):Fact:=ql2 f λs=>.req (decide (s.length<=100000)) (.leaf (J (crc s)))
def zY4:Fact:=zY5 300
theorem yc3:zY4.ok pP:=ql3 λs h=>xc2 s (by have:=of_decide_eq_true h;omega)
def zY6:Fact:=zY5 254
theorem yc4:zY6.ok pP:=ql3 λs h=>xc3 s (by have:=of_decide_eq_true h;omega)
def ql0(f:FuncId)(h:Rc->Tree SV):Fact:=⟨f,λargs=>match args with
 |[.agg [.int .i64 a,.int .i64 b,.int .i64 c,.int .i64 d,.int .i64 p0,.int .i64 p1,.int .i64 p2,.int .i64 p3,.int .i64 q0,.int .i64 q1,.int .i64 q2,.int .i64 q3]] =>some (h ⟨a,b,c,d,(p0,p1,p2,p3),(q0,q1,q2,q3)⟩)
 |_=>none⟩
variable{f:FuncId}
theorem ql1{P:Program}{h:Rc->Tree SV}(k:∀c,(h c).says (SCall P f [c.sv])):(ql0 f h).ok P:=λargs t ht=>by
 simp only[ql0]at ht
 split at ht
 .injection ht with ht;subst ht;exact k ⟨_,_,_,_,(_,_,_,_),(_,_,_,_)⟩
 .cases ht
def z93:Fact:=ql0 296 λr=>.leaf (.bool (rcB r))
theorem ym9:z93.ok pP:=ql1 xq3
def z94:Fact:=ql0 250 λr=>.leaf (.bool (rcB r))
theorem yn0:z94.ok pP:=ql1 xq4
def qd6(f:FuncId):Fact:=⟨f,λargs=>match args with
 |[.int .i64 n,.int .i64 k] =>match k==6 with
  |true=>some (.req (inR n 0 281474976710655) (.leaf (.tuple [.str (beN n 6),J 0])))
  |false=>match k==1 with
   |true=>some (.req (inR n 0 255) (.leaf (.tuple [.str (beN n 1),J 0])))
   |false=>match k==4 with
    |true=>some (.req (inR n 0 4294967295) (.leaf (.tuple [.str (beN n 4),J 0])))
    |false=>match k==2 with
     |true=>some (.req (inR n 0 65535) (.leaf (.tuple [.str (beN n 2),J 0])))
     |false=>none
 |_=>none⟩
def z24(f:FuncId):Fact:=⟨f,λargs=>match args with
 |[.int .i64 n,.int .i64 k] =>match k==4 with
  |true=>some (.req (inR n (-2147483648) 2147483647) (.leaf (.tuple [.str (beN n 4),J 0])))
  |false=>none
 |_=>none⟩
def qd3(f:FuncId):Fact:=⟨f,λargs=>match args with
 |[.str s,.int .i64 a,.int .i64 k] =>match k==6 with
  |true=>some (.req (decide (0<=a)&& (decide (a+6<=(s.length:Int))&&decide (s.length<=100000))) (.leaf (.tuple [J (tk s a.toNat 6),J (a+6),J 0])))
  |false=>match k==1 with
   |true=>some (.req (decide (0<=a)&& (decide (a+1<=(s.length:Int))&&decide (s.length<=100000))) (.leaf (.tuple [J (tk s a.toNat 1),J (a+1),J 0])))
   |false=>match k==4 with
    |true=>some (.req (decide (0<=a)&& (decide (a+4<=(s.length:Int))&&decide (s.length<=100000))) (.leaf (.tuple [J (tk s a.toNat 4),J (a+4),J 0])))
    |false=>none
 |_=>none⟩
def qc7(f:FuncId):Fact:=⟨f,λargs=>match args with
 |[.str s,.int .i64 a,.int .i64 k] =>match k==4 with
  |true=>some (.req (decide (0<=a)&& (decide (a+4<=(s.length:Int))&&decide (s.length<=100000))) (.leaf (.tuple [J (sg (tk s a.toNat 4)),J (a+4),J 0])))
  |false=>none
 |_=>none⟩
theorem qd7(h6:∀n,0<=n->n<281474976710656->SCall pP f [J n,J 6] (.tuple [.str (beN n 6),J 0]))(h1:∀n,0<=n->n<256->SCall pP f [J n,J 1] (.tuple [.str (beN n 1),J 0]))(h4:∀n,0<=n->n<4294967296->SCall pP f [J n,J 4] (.tuple [.str (beN n 4),J 0]))(h2:∀n,0<=n->n<65536->SCall pP f [J n,J 2] (.tuple [.str (beN n 2),J 0])):(qd6 f).ok pP:=λargs t ht=>by
 simp only[qd6]at ht
 split at ht
 .rename_i n k
  by_cases e6:k=6
  .subst e6
   simp at ht;subst ht;intro h;exact h6 _ (j8.1 h).1 (by have:=(j8.1 h).2;omega)
  .skip
   by_cases e1:k=1
   .subst e1
    simp at ht;subst ht;intro h;exact h1 _ (j8.1 h).1 (by have:=(j8.1 h).2;omega)
   .skip
    by_cases e4:k=4
    .subst e4
     simp at ht;subst ht;intro h;exact h4 _ (j8.1 h).1 (by have:=(j8.1 h).2;omega)
    .skip
     by_cases e2:k=2
     .subst e2
      simp at ht;subst ht;intro h;exact h2 _ (j8.1 h).1 (by have:=(j8.1 h).2;omega)
     .simp[show(k==6)=false from beq_eq_false_iff_ne.2 e6,show(k==1)=false from beq_eq_false_iff_ne.2 e1,show(k==4)=false from beq_eq_false_iff_ne.2 e4,show(k==2)=false from beq_eq_false_iff_ne.2 e2]at ht
 .cases ht
theorem z25(h4:∀n,-2147483648<=n->n<2147483648->SCall pP f [J n,J 4] (.tuple [.str (beN n 4),J 0])):(z24 f).ok pP:=λargs t ht=>by
 simp only[z24]at ht
 split at ht
 .rename_i n k
  by_cases e4:k=4
  .subst e4
   simp at ht;subst ht;intro h;exact h4 _ (j8.1 h).1 (by have:=(j8.1 h).2;omega)
  .simp[show(k==4)=false from beq_eq_false_iff_ne.2 e4]at ht
 .cases ht
theorem qd4(h6:∀ (s:List UInt8) (a:Nat),a+6<=s.length->s.length<=100000->SCall pP f [.str s,J (a:Int),J 6] (.tuple [J (tk s a 6),J ((a+6:Nat):Int),J 0]))(h1:∀ (s:List UInt8) (a:Nat),a+1<=s.length->s.length<=100000->SCall pP f [.str s,J (a:Int),J 1] (.tuple [J (tk s a 1),J ((a+1:Nat):Int),J 0]))(h4:∀ (s:List UInt8) (a:Nat),a+4<=s.length->s.length<=100000->SCall pP f [.str s,J (a:Int),J 4] (.tuple [J (tk s a 4),J ((a+4:Nat):Int),J 0])):(qd3 f).ok pP:=λargs t ht=>by
 simp only[qd3]at ht
 split at ht
 .rename_i s a k
  by_cases e6:k=6
  .subst e6
   simp at ht;subst ht;intro h;simp only[Bool.and_eq_true,decide_eq_true_eq]at h;obtain⟨m,rfl⟩:=Int.eq_ofNat_of_zero_le h.1;have q:=h6 s m (by omega) h.2.2;exact q
  .skip
   by_cases e1:k=1
   .subst e1
    simp at ht;subst ht;intro h;simp only[Bool.and_eq_true,decide_eq_true_eq]at h;obtain⟨m,rfl⟩:=Int.eq_ofNat_of_zero_le h.1;have q:=h1 s m (by omega) h.2.2;exact q
   .skip
    by_cases e4:k=4
    .subst e4
     simp at ht;subst ht;intro h;simp only[Bool.and_eq_true,decide_eq_true_eq]at h;obtain⟨m,rfl⟩:=Int.eq_ofNat_of_zero_le h.1;have q:=h4 s m (by omega) h.2.2;exact q
    .simp[show(k==6)=false from beq_eq_false_iff_ne.2 e6,show(k==1)=false from beq_eq_false_iff_ne.2 e1,show(k==4)=false from beq_eq_false_iff_ne.2 e4]at ht
 .cases ht
theorem qc8(h4:∀ (s:List UInt8) (a:Nat),a+4<=s.length->s.length<=100000->SCall pP f [.str s,J (a:Int),J 4] (.tuple [J (sg (tk s a 4)),J ((a+4:Nat):Int),J 0])):(qc7 f).ok pP:=λargs t ht=>by
 simp only[qc7]at ht
 split at ht
 .rename_i s a k
  by_cases e4:k=4
  .subst e4
   simp at ht;subst ht;intro h;simp only[Bool.and_eq_true,decide_eq_true_eq]at h;obtain⟨m,rfl⟩:=Int.eq_ofNat_of_zero_le h.1;have q:=h4 s m (by omega) h.2.2;exact q
  .simp[show(k==4)=false from beq_eq_false_iff_ne.2 e4]at ht
 .cases ht
def fUi:Fact:=qd6 298
theorem yr8:fUi.ok pP:=qd7 xA8 xA5 xA7 xA6
def fIi:Fact:=z24 299
theorem yf8:fIi.ok pP:=z25 xz9
def fTu:Fact:=qd3 282
theorem yr6:fTu.ok pP:=qd4 xx9 xx7 xx8
def fTi:Fact:=qc7 284
theorem yr1:fTi.ok pP:=qc8 xx1
def qd8:Fact:=qd6 279
theorem yr9:qd8.ok pP:=qd7 xB2 xA9 xB1 xB0
def z26:Fact:=z24 280
theorem yf9:z26.ok pP:=z25 xA0
def qd5:Fact:=qd3 321
theorem yr7:qd5.ok pP:=qd4 xy2 xy0 xy1
def qc9:Fact:=qc7 322
theorem yr2:qc9.ok pP:=qc8 xx2
def yI1(s:List UInt8)(n:Int):List UInt8:=s++List.replicate (n-s.length).toNat 0
theorem xn5(s:List UInt8)(n:Int)(h:(s.length:Int)<=n)(hn:n<=65536):SCall pP 253 [.str s,J n] (.tuple [.str (yI1 s n),J 0]):=by
 refine s7 rfl rfl (by kernel_rfl) (o5 qM9 (n:=1000) (hint:=.unit) (keep:=x6 24 []) (p:=yI0) (boxes:=[]) rfl ?_);have e:=yH9 s n;unfold v6 v7 at e;erw [e];have j:i64.wrap (n-(s.length:Int))=n-(s.length:Int):=w64 (by omega) (by omega)
 have z:(List.map (λn=>UInt8.ofNat (Int.toNat n)) (List.replicate (n-(s.length:Int)).toNat (0:Int)))=List.replicate (n-(s.length:Int)).toNat 0:=by
  rw[List.map_replicate];rfl
 rw[j,z]
 refine o4 (λh=>absurd h (by omega)) λ_=>o4 (λh=>absurd h (by omega)) λ_=>o4 (λh=>absurd h (by omega)) λ_=>x0 ?_ (x0 (decide_eq_true ?_) rfl)
 .simp;omega
 .rw[List.length_replicate];omega
def zR1(r:Rc):List UInt8:=beN r.seq 6++beN r.kind 1++beN r.line 6++beN r.done 4++(beN r.src.1 4++beN r.src.2.1 4++beN r.src.2.2.1 4++beN r.src.2.2.2 4)++(beN r.dst.1 4++beN r.dst.2.1 4++beN r.dst.2.2.1 4++beN r.dst.2.2.2 4)
def enc(r:Rc):List UInt8:=yI1 (zR1 r++beN (crc (zR1 r)) 2) 58++beN r.seq 6
theorem zR2(r:Rc):(zR1 r).length=49:=by simp only[zR1,List.length_append,zt5]
theorem zR7(r:Rc):(enc r).length=64:=by
 simp only[enc,yI1,List.length_append,zt5,zR2,List.length_replicate];omega
def z77:Fact:=⟨253,λargs=>match args with
 |[.str s,.int .i64 n] =>some (.req (decide ((s.length:Int)<=n)&&decide (n<=65536)) (.leaf (.tuple [.str (yI1 s n),J 0])))
 |_=>none⟩
theorem yl3:z77.ok pP:=λargs t ht=>by
 simp only[z77]at ht
 split at ht
 .injection ht with ht;subst ht
  intro h;simp only[Bool.and_eq_true,decide_eq_true_eq]at h;exact xn5 _ _ h.1 h.2
 .cases ht
theorem xz4(n:Int)(h:inR n 0 281474976710655=true):SCall pP 251 [J n,J 6] (.str (beN n 6)):=
 v8 mix [qd8] ⟨yr9,trivial⟩ 1000 (.all)
  (t:=.req (inR n 0 281474976710655) (.leaf (SV.str (beN n 6))))
  (by kernel_rfl) (by exact x0 h rfl) (by kernel_rfl) (by kernel_rfl)
theorem xz1(n:Int)(h:inR n 0 255=true):SCall pP 251 [J n,J 1] (.str (beN n 1)):=
 v8 mix [qd8] ⟨yr9,trivial⟩ 1000 (.all)
  (t:=.req (inR n 0 255) (.leaf (SV.str (beN n 1))))
  (by kernel_rfl) (by exact x0 h rfl) (by kernel_rfl) (by kernel_rfl)
theorem xz3(n:Int)(h:inR n 0 4294967295=true):SCall pP 251 [J n,J 4] (.str (beN n 4)):=
 v8 mix [qd8] ⟨yr9,trivial⟩ 1000 (.all)
  (t:=.req (inR n 0 4294967295) (.leaf (SV.str (beN n 4))))
  (by kernel_rfl) (by exact x0 h rfl) (by kernel_rfl) (by kernel_rfl)
theorem xz2(n:Int)(h:inR n 0 65535=true):SCall pP 251 [J n,J 2] (.str (beN n 2)):=
 v8 mix [qd8] ⟨yr9,trivial⟩ 1000 (.all)
  (t:=.req (inR n 0 65535) (.leaf (SV.str (beN n 2))))
  (by kernel_rfl) (by exact x0 h rfl) (by kernel_rfl) (by kernel_rfl)
theorem xp4(c:V4)(h:qG7 c=true):SCall pP 252 [V4.sv c] (.str (beN c.1 4++beN c.2.1 4++beN c.2.2.1 4++beN c.2.2.2 4)):=
 v8 mix [z26] ⟨yf9,trivial⟩ 1000 (.go (.lit (.go (.lit (.go (.lit (.go (.lit (.go (.lit (.all)))))))))))
  (t:=let y0:=(9223372036854775807:Int);.req (true) (.req (inR c.1 (-2147483648) 2147483647) (.req (decide (((0+(beN c.1 4).length:Nat):Int)<=y0)) (.req true (.req (inR c.2.1 (-2147483648) 2147483647) (.req (decide ((((beN c.1 4).length+(beN c.2.1 4).length:Nat):Int)<=y0)) (.req true (.req (inR c.2.2.1 (-2147483648) 2147483647) (.req (decide ((((beN c.1 4++beN c.2.1 4).length+(beN c.2.2.1 4).length:Nat):Int)<=y0)) (.req true (.req (inR c.2.2.2 (-2147483648) 2147483647) (.req (decide ((((beN c.1 4++beN c.2.1 4++beN c.2.2.1 4).length+(beN c.2.2.2 4).length:Nat):Int)<=y0)) (.leaf (SV.str (beN c.1 4++beN c.2.1 4++beN c.2.2.1 4++beN c.2.2.2 4)))))))))))))))
  (by kernel_rfl) (by
   simp only[qG7,Bool.and_eq_true]at h
   exact x0 rfl (x0 h.1 (x0 (decide_eq_true (by simp[zt5])) (x0 rfl (x0 h.2.1 (x0 (decide_eq_true (by simp[zt5])) (x0 rfl (x0 h.2.2.1 (x0 (decide_eq_true (by simp[zt5])) (x0 rfl (x0 h.2.2.2 (x0 (decide_eq_true (by simp[zt5])) rfl)))))))))))) (by kernel_rfl) (by kernel_rfl)
def qd9:Fact:=⟨251,λargs=>match args with
 |[.int .i64 n,.int .i64 k] =>match k==6 with|true=>some (.req (inR n 0 281474976710655) (.leaf (.str (beN n 6))))|false=>match k==1 with|true=>some (.req (inR n 0 255) (.leaf (.str (beN n 1))))|false=>match k==4 with|true=>some (.req (inR n 0 4294967295) (.leaf (.str (beN n 4))))|false=>match k==2 with|true=>some (.req (inR n 0 65535) (.leaf (.str (beN n 2))))|false=>none
 |_=>none⟩
def z88:Fact:=qm0 252 λc=>.req (qG7 c) (.leaf (.str (beN c.1 4++beN c.2.1 4++beN c.2.2.1 4++beN c.2.2.2 4)))
theorem ym4:z88.ok pP:=qm5 xp4
theorem ys0:qd9.ok pP:=λargs t ht=>by
 simp only[qd9]at ht
 split at ht
 .rename_i n k
  by_cases e6:k=6
  .subst e6;simp at ht;subst ht;exact xz4 _
  .by_cases e1:k=1
   .subst e1;simp at ht;subst ht;exact xz1 _
   .by_cases e4:k=4
    .subst e4;simp at ht;subst ht;exact xz3 _
    .by_cases e2:k=2
     .subst e2;simp at ht;subst ht;exact xz2 _
     .simp[show(k==6)=false from beq_eq_false_iff_ne.2 e6,show(k==1)=false from beq_eq_false_iff_ne.2 e1,show(k==4)=false from beq_eq_false_iff_ne.2 e4,show(k==2)=false from beq_eq_false_iff_ne.2 e2]at ht
 .cases ht
def zR5(r:Rc):SV:=match rcB r with
 |true=>.tuple [.str (enc r),J 0]
 |false=>.tuple [.str [],J 1]
theorem zR6(r:Rc):(zR5 r).data=true:=by unfold zR5;split<;>rfl
theorem xd5(r:Rc):SCall pP 189 [r.sv] (zR5 r):=
 v8 mix [z94,qd9,z88,zY6,z77] ⟨yn0,ys0,ym4,yc4,yl3,trivial⟩ 1000 (.fork (.all) (.all))
  (t:=let y0:=(9223372036854775807:Int);let y1:=((crc (zR1 r):Nat):Int);let y2:=beN r.src.1 4++beN r.src.2.1 4++beN r.src.2.2.1 4++beN r.src.2.2.2 4;.node (!rcB r) (.leaf (.tuple [SV.str [],J 1])) (.req (inR r.seq 0 281474976710655) (.req (inR r.kind 0 255) (.req (decide ((((beN r.seq 6).length+(beN r.kind 1).length:Nat):Int)<=y0)) (.req (inR r.line 0 281474976710655) (.req (decide ((((beN r.seq 6++beN r.kind 1).length+(beN r.line 6).length:Nat):Int)<=y0)) (.req (inR r.done 0 4294967295) (.req (decide ((((beN r.seq 6++beN r.kind 1++beN r.line 6).length+(beN r.done 4).length:Nat):Int)<=y0)) (.req (qG7 r.src) (.req (decide ((((beN r.seq 6++beN r.kind 1++beN r.line 6++beN r.done 4).length+y2.length:Nat):Int)<=y0)) (.req (qG7 r.dst) (.req (decide ((((beN r.seq 6++beN r.kind 1++beN r.line 6++beN r.done 4++y2).length+(beN r.dst.1 4++beN r.dst.2.1 4++beN r.dst.2.2.1 4++beN r.dst.2.2.2 4).length:Nat):Int)<=y0)) (.req (decide ((zR1 r).length<=100000)) (.req (inR y1 0 65535) (.req (decide ((((zR1 r).length+(beN y1 2).length:Nat):Int)<=y0)) (.req (decide ((↑(zR1 r++beN y1 2).length:Int)<=58)&&true) (.req (inR r.seq 0 281474976710655) (.req (decide ((((yI1 (zR1 r++beN y1 2) 58).length+(beN r.seq 6).length:Nat):Int)<=y0)) (.leaf (.tuple [SV.str (yI1 (zR1 r++beN y1 2) 58++beN r.seq 6),J 0]))))))))))))))))))))
  (by kernel_rfl) (by
   unfold zR5
   refine f7 (λv=>by rw[v];rfl) λv=>?_
   rw[v];have q:=yT1.1 v;have v':=v;simp only[rcB,Bool.and_eq_true]at v';have c:=zG4 (zR1 r);have l:=zR2 r;have e:2=(beN ((crc (zR1 r):Nat):Int) 2).length:=(zt5 _ 2).symm;refine x0 (j8.2 ⟨by omega,by omega⟩) ?_;refine x0 (j8.2 ⟨by omega,by omega⟩) ?_;refine x0 (decide_eq_true (by simp only[List.length_append,zt5,zR2,yI1,List.length_replicate];omega)) ?_;refine x0 (j8.2 ⟨by omega,by omega⟩) ?_;refine x0 (decide_eq_true (by simp only[List.length_append,zt5,zR2,yI1,List.length_replicate];omega)) ?_;refine x0 (j8.2 ⟨by omega,by omega⟩) ?_;refine x0 (decide_eq_true (by simp only[List.length_append,zt5,zR2,yI1,List.length_replicate];omega)) ?_;refine x0 v'.2.2.2.2.1 ?_;refine x0 (decide_eq_true (by simp only[List.length_append,zt5,zR2,yI1,List.length_replicate];omega)) ?_;refine x0 v'.2.2.2.2.2 ?_;refine x0 (decide_eq_true (by simp only[List.length_append,zt5,zR2,yI1,List.length_replicate];omega)) ?_;refine x0 (decide_eq_true (by simp only[List.length_append,zt5,zR2,yI1,List.length_replicate];omega)) ?_;refine x0 (j8.2 ⟨by omega,by omega⟩) ?_;refine x0 (decide_eq_true (by simp only[List.length_append,zt5,zR2,yI1,List.length_replicate];omega)) ?_;refine x0 (by simp only[List.length_append,zt5,zR2,Bool.and_true,decide_eq_true_eq];omega) ?_;refine x0 (j8.2 ⟨by omega,by omega⟩) ?_;refine x0 (decide_eq_true (by simp only[List.length_append,zt5,zR2,yI1,List.length_replicate];omega)) ?_
   exact rfl) (by kernel_rfl) (by exact zR6 r)
theorem xm0(s:List UInt8)(a:Int)(h:(decide (0<=a)&& (decide (a+6<=(s.length:Int))&&decide (s.length<=100000)))=true):SCall pP 292 [.str s,J a,J 6] (J (tk s a.toNat 6)):=
 v8 mix [qd5] ⟨yr7,trivial⟩ 1000 (.all)
  (t:=.req (decide (0<=a)&& (decide (a+6<=(↑s.length:Int))&&decide (s.length<=100000))) (.leaf (SV.int IntKind.i64 (tk s a.toNat 6))))
  (by kernel_rfl) (by exact x0 h rfl) (by kernel_rfl) (by kernel_rfl)
theorem xl8(s:List UInt8)(a:Int)(h:(decide (0<=a)&& (decide (a+1<=(s.length:Int))&&decide (s.length<=100000)))=true):SCall pP 292 [.str s,J a,J 1] (J (tk s a.toNat 1)):=
 v8 mix [qd5] ⟨yr7,trivial⟩ 1000 (.all)
  (t:=.req (decide (0<=a)&& (decide (a+1<=(↑s.length:Int))&&decide (s.length<=100000))) (.leaf (SV.int IntKind.i64 (tk s a.toNat 1))))
  (by kernel_rfl) (by exact x0 h rfl) (by kernel_rfl) (by kernel_rfl)
theorem xl9(s:List UInt8)(a:Int)(h:(decide (0<=a)&& (decide (a+4<=(s.length:Int))&&decide (s.length<=100000)))=true):SCall pP 292 [.str s,J a,J 4] (J (tk s a.toNat 4)):=
 v8 mix [qd5] ⟨yr7,trivial⟩ 1000 (.all)
  (t:=.req (decide (0<=a)&& (decide (a+4<=(↑s.length:Int))&&decide (s.length<=100000))) (.leaf (SV.int IntKind.i64 (tk s a.toNat 4))))
  (by kernel_rfl) (by exact x0 h rfl) (by kernel_rfl) (by kernel_rfl)
theorem xf5(s:List UInt8)(a:Int)(h0:0<=a)(h1:a+16<=s.length)(h2:s.length<=100000):SCall pP 293 [.str s,J a] (.agg [J (sg (tk s a.toNat 4)),J (sg (tk s (a+4).toNat 4)),J (sg (tk s (a+8).toNat 4)),J (sg (tk s (a+12).toNat 4))]):=
 v8 mix [qc9] ⟨yr2,trivial⟩ 1000 (.go (.lit (.go (.lit (.go (.lit (.go (.lit (.go (.lit (.all)))))))))))
  (t:=.req (decide (0<=i64.wrap (a+0))&& (decide (i64.wrap (a+0)+4<=(↑s.length:Int))&&decide (s.length<=100000))) (.req true (.req (decide (0<=i64.wrap (a+4))&& (decide (i64.wrap (a+4)+4<=(↑s.length:Int))&&decide (s.length<=100000))) (.req true (.req (decide (0<=i64.wrap (a+8))&& (decide (i64.wrap (a+8)+4<=(↑s.length:Int))&&decide (s.length<=100000))) (.req true (.req (decide (0<=i64.wrap (a+12))&& (decide (i64.wrap (a+12)+4<=(↑s.length:Int))&&decide (s.length<=100000))) (.req true (.leaf (.agg [J (sg (tk s (i64.wrap (a+0)).toNat 4)),J (sg (tk s (i64.wrap (a+4)).toNat 4)),J (sg (tk s (i64.wrap (a+8)).toNat 4)),J (sg (tk s (i64.wrap (a+12)).toNat 4))]))))))))))
  (by kernel_rfl) (by
   rw[d7 (x:=a+0) (by omega) (by omega),d7 (x:=a+4) (by omega) (by omega),d7 (x:=a+8) (by omega) (by omega),d7 (x:=a+12) (by omega) (by omega),Int.add_zero]
   have q:∀x:Int,0<=x->x+4<=s.length->(decide (0<=x)&& (decide (x+4<=(s.length:Int))&&decide (s.length<=100000)))=true:=λx h k=>by simp;omega
   exact x0 (q _ (by omega) (by omega)) (x0 rfl (x0 (q _ (by omega) (by omega)) (x0 rfl (x0 (q _ (by omega) (by omega)) (x0 rfl (x0 (q _ (by omega) (by omega)) (x0 rfl rfl)))))))) (by kernel_rfl) (by kernel_rfl)
def z59:Fact:=⟨292,λargs=>match args with
 |[.str s,.int .i64 a,.int .i64 k] =>match k==6 with|true=>some (.req (decide (0<=a)&& (decide (a+6<=(s.length:Int))&&decide (s.length<=100000))) (.leaf (J (tk s a.toNat 6))))|false=>match k==1 with|true=>some (.req (decide (0<=a)&& (decide (a+1<=(s.length:Int))&&decide (s.length<=100000))) (.leaf (J (tk s a.toNat 1))))|false=>match k==4 with|true=>some (.req (decide (0<=a)&& (decide (a+4<=(s.length:Int))&&decide (s.length<=100000))) (.leaf (J (tk s a.toNat 4))))|false=>none
 |_=>none⟩
def z06:Fact:=⟨293,λargs=>match args with
 |[.str s,.int .i64 a] =>some (.req (decide (0<=a)&& (decide (a+16<=(s.length:Int))&&decide (s.length<=100000))) (.leaf (.agg [J (sg (tk s a.toNat 4)),J (sg (tk s (a+4).toNat 4)),J (sg (tk s (a+8).toNat 4)),J (sg (tk s (a+12).toNat 4))])))
 |_=>none⟩
def zZ3:Fact:=ql0 189 λr=>.node (rcB r) (.leaf (.tuple [.str (enc r),J 0])) (.leaf (.tuple [.str [],J 1]))
theorem ye3:z06.ok pP:=λargs t ht=>by
 simp only[z06]at ht
 split at ht
 .injection ht with ht;subst ht
  intro h;simp only[Bool.and_eq_true,decide_eq_true_eq]at h;exact xf5 _ _ h.1 h.2.1 h.2.2
 .cases ht
theorem yd1:zZ3.ok pP:=ql1 λr=>by
 have q:=xd5 r;unfold zR5 at q;exact⟨λv=>by rw[v]at q;exact q,λv=>by rw[v]at q;exact q⟩
theorem yj2:z59.ok pP:=λargs t ht=>by
 simp only[z59]at ht
 split at ht
 .rename_i s a k
  by_cases e6:k=6
  .subst e6;simp at ht;subst ht;intro h;exact xm0 _ _ (by simpa using h)
  .by_cases e1:k=1
   .subst e1;simp at ht;subst ht;intro h;exact xl8 _ _ (by simpa using h)
   .by_cases e4:k=4
    .subst e4;simp at ht;subst ht;intro h;exact xl9 _ _ (by simpa using h)
    .simp[show(k==6)=false from beq_eq_false_iff_ne.2 e6,show(k==1)=false from beq_eq_false_iff_ne.2 e1,show(k==4)=false from beq_eq_false_iff_ne.2 e4]at ht
 .cases ht
theorem yo8:qa9.ok pP:=λargs t ht=>by
 simp only[qa9]at ht
 split at ht
 .injection ht with ht;subst ht
  intro h h2;obtain rfl:=zT7 h;exact xs9 _ (by have:=of_decide_eq_true h2;omega)
 .cases ht
theorem yo7:qa8.ok pP:=λargs t ht=>by
 simp only[qa8]at ht
 split at ht
 .injection ht with ht;subst ht
  intro h h2;obtain rfl:=zT5 h;exact xs8 _ (by have:=of_decide_eq_true h2;omega)
 .cases ht
theorem xt0(f:Fw)(h:shB f.queue=true)(k:shI f.lines=true):SCall pP 23 [f.sv,f.sv] (.bool true):=
 xD1 (hB (l:=[qa9,qa8]) (k:=[]) (j:=[]) (i:=[]) ([] :List Nat) ([] :List Nat) ([] :List Nat) ([] :List Nat) (⟨yo8,yo7,trivial⟩) u9 u9 u9) 1000 (let z0:Plan:=.fork (.ln 5 (.fork (.ln 5 (.fork (.ln 5 (.fork (.ln 5 (.fork (.ln 5 (.fork (.ln 5 (.fork (.ln 5 (.fork (.ln 5 (.fork (.ln 5 (.fork (.ln 18 (.lit .all)) (.ln 18 (.lit .all)))) (.ln 24 (.lit .all)))) (.ln 30 (.lit .all)))) (.ln 36 (.lit .all)))) (.ln 42 (.lit .all)))) (.ln 48 (.lit .all)))) (.ln 54 (.lit .all)))) (.ln 60 (.lit .all)))) (.ln 66 (.lit .all)))) (.ln 72 (.lit .all));let z2:Plan:=.ln 12 (.lit .all);let z1:Plan:=.fork z2 z2;.fork (.ln 5 (.fork (.ln 5 (.fork (.ln 5 (.fork (.ln 5 (.fork (.ln 5 (.fork (.ln 5 (.fork (.ln 5 (.fork (.ln 5 (.fork (.ln 5 (.fork (.ln 5 (.fork (.ln 5 (.fork (.ln 5 (.fork (.ln 5 (.fork (.ln 5 (.fork (.ln 5 (.fork (.ln 5 (.fork (.ln 5 (.fork (.ln 5 (.fork (.ln 5 (.fork (.lit (.fork (.ln 10 (.lit .all)) (.ln 10 (.lit .all)))) z2)) (.ln 5 z1))) (.ln 11 z1))) (.ln 17 z1))) (.ln 23 z1))) (.ln 29 z1))) (.ln 35 z1))) (.ln 41 z1))) (.ln 47 z1))) (.ln 53 z1))) (.ln 59 z1))) (.ln 5 z0))) (.ln 11 z0))) (.ln 17 z0))) (.ln 23 z0))) (.ln 29 z0))) (.ln 35 z0))) (.ln 41 z0))) (.ln 47 z0))) (.ln 53 z0))
  (t:=let y1:=f.g0.low==f.g0.low&& (f.g0.high==f.g0.high&& (f.g0.watch==f.g0.watch&& (f.g0.rise==f.g0.rise&& (f.g0.band==f.g0.band&& (f.g0.base==f.g0.base&& (f.g0.count==f.g0.count&& (f.g0.idle==f.g0.idle&& (f.g0.quiet==f.g0.quiet&& (f.g0.fault==f.g0.fault&& (f.g0.door==f.g0.door&&true))))))))))&& (f.g1.low==f.g1.low&& (f.g1.high==f.g1.high&& (f.g1.watch==f.g1.watch&& (f.g1.rise==f.g1.rise&& (f.g1.band==f.g1.band&& (f.g1.base==f.g1.base&& (f.g1.count==f.g1.count&& (f.g1.idle==f.g1.idle&& (f.g1.quiet==f.g1.quiet&& (f.g1.fault==f.g1.fault&& (f.g1.door==f.g1.door&&true))))))))))&&true);let y3:=f.c0.target==f.c0.target&& (f.c0.kp==f.c0.kp&& (f.c0.ki==f.c0.ki&& (f.c0.scale==f.c0.scale&& (f.c0.sum==f.c0.sum&& (f.c0.limit==f.c0.limit&&true)))))&& (f.c1.target==f.c1.target&& (f.c1.kp==f.c1.kp&& (f.c1.ki==f.c1.ki&& (f.c1.scale==f.c1.scale&& (f.c1.sum==f.c1.sum&& (f.c1.limit==f.c1.limit&&true)))))&&true);let y4:Tree SV:=.leaf (.bool false);let y2:Tree SV:=.node (f.active==f.active) y4 y4;let y5:=f.ret.1==f.ret.1&& (f.ret.2.1==f.ret.2.1&& (f.ret.2.2.1==f.ret.2.2.1&& (f.ret.2.2.2==f.ret.2.2.2&&true)));let y0:Tree SV:=.node (f.back==f.back) (.node y5 (.node (f.dwell==f.dwell) (.node (f.waits==f.waits) (.node y3 (.node y1 (.node (f.fan==f.fan) (.node (f.line==f.line) (.node (f.ticks==f.ticks) (.node (f.cold==f.cold) y4 y4) y4) y4) y4) y4) y4) y4) y4) y4) y4;.node (f.ma.x.num==f.ma.x.num&& (f.ma.x.den==f.ma.x.den&& (f.ma.x.speed==f.ma.x.speed&& (f.ma.x.accel==f.ma.x.accel&& (f.ma.x.jerk==f.ma.x.jerk&& (f.ma.x.min==f.ma.x.min&& (f.ma.x.max==f.ma.x.max&&true))))))&& (f.ma.y.num==f.ma.y.num&& (f.ma.y.den==f.ma.y.den&& (f.ma.y.speed==f.ma.y.speed&& (f.ma.y.accel==f.ma.y.accel&& (f.ma.y.jerk==f.ma.y.jerk&& (f.ma.y.min==f.ma.y.min&& (f.ma.y.max==f.ma.y.max&&true))))))&& (f.ma.z.num==f.ma.z.num&& (f.ma.z.den==f.ma.z.den&& (f.ma.z.speed==f.ma.z.speed&& (f.ma.z.accel==f.ma.z.accel&& (f.ma.z.jerk==f.ma.z.jerk&& (f.ma.z.min==f.ma.z.min&& (f.ma.z.max==f.ma.z.max&&true))))))&& (f.ma.e.num==f.ma.e.num&& (f.ma.e.den==f.ma.e.den&& (f.ma.e.speed==f.ma.e.speed&& (f.ma.e.accel==f.ma.e.accel&& (f.ma.e.jerk==f.ma.e.jerk&& (f.ma.e.min==f.ma.e.min&& (f.ma.e.max==f.ma.e.max&&true))))))&&true)))&& (f.ma.xy==f.ma.xy&& (f.ma.ticks==f.ma.ticks&&true))) (.node (f.mode==f.mode) (.node (f.homed==f.homed) (.node (f.pos.1==f.pos.1&& (f.pos.2.1==f.pos.2.1&& (f.pos.2.2.1==f.pos.2.2.1&& (f.pos.2.2.2==f.pos.2.2.2&&true)))) (.node (f.loc.1==f.loc.1&& (f.loc.2.1==f.loc.2.1&& (f.loc.2.2==f.loc.2.2&&true))) (.node (f.e==f.e) (.node (f.feed==f.feed) (.node (f.mo.1.1.1==f.mo.1.1.1&& (f.mo.1.1.2.1==f.mo.1.1.2.1&& (f.mo.1.1.2.2.1==f.mo.1.1.2.2.1&& (f.mo.1.1.2.2.2==f.mo.1.1.2.2.2&&true)))&& (f.mo.1.2.1==f.mo.1.2.1&& (f.mo.1.2.2.1==f.mo.1.2.2.1&& (f.mo.1.2.2.2.1==f.mo.1.2.2.2.1&& (f.mo.1.2.2.2.2==f.mo.1.2.2.2.2&&true))))&& (f.mo.2.1==f.mo.2.1&& (f.mo.2.2==f.mo.2.2&&true))) (.node (f.moving==f.moving) (.node (f.back==f.back) (.node y5 (.node (f.dwell==f.dwell) (.node (f.waits==f.waits) (.node y3 (.node y1 (.node (f.fan==f.fan) (.node (f.line==f.line) (.node (f.ticks==f.ticks) (.node (f.cold==f.cold) (.node (f.active==f.active) (.node (f.r0==f.r0&& (f.r1==f.r1&&true)) (.req (zT4 f.queue f.queue) (.req (shB f.queue) (.req (zT6 f.lines f.lines) (.req (shI f.lines) (.leaf (.bool true)))))) y4) y4) y2) y2) y2) y2) y2) y2) y2) y2) y2) y2) y0) y0) y0) y0) y0) y0) y0) y0) y0)
  (by kernel_rfl) (by repeat' first|refine q25 (by simp) ?_|refine x0 (by simp[zT6,zT4]) ?_|refine x0 h ?_|refine x0 k ?_|exact rfl) (by kernel_rfl) (by kernel_rfl)
noncomputable def zS9(x y:Fw):Bool:=@decide (x=y) (Classical.propDecidable _)
theorem zT1(x:Fw):zS9 x x=true:=@decide_eq_true _ (Classical.propDecidable _) rfl
theorem zT0{x y:Fw}(h:zS9 x y=true):x=y:=@of_decide_eq_true _ (Classical.propDecidable _) h
def shF(x:Fw):Bool:=shB x.queue&&shI x.lines
noncomputable def qb0:Fact:=qh2 23 λx rest=>match rest with
 |[.agg l] =>match zo5 l with
  |some y=>some (.req (zS9 x y) (.req (shF x) (.leaf (.bool true))))
  |none=>none
 |_=>none
theorem xC8{P:Program}{cs ds:List SV}{a:SV}{v:SV}(hn:v5 cs ds)(h:SCall P f [a,.agg ds] v):SCall P f [a,.agg cs] v:=by
 intro m w0 R0 I w vs hm hvs;obtain⟨u,us,rfl,h0,u2,us2,rfl,⟨ws,h1,h2⟩,h3⟩:=hvs;exact h m w0 R0 I w _ hm ⟨u,_,rfl,h0,u2,us2,rfl,⟨ws,h1,hn.rep h2⟩,h3⟩
theorem yo9:qb0.ok pP:=qh3 λx rest t ht=>by
 split at ht
 .split at ht
  .rename_i hy
   injection ht with ht;subst ht;intro h k;obtain rfl:=zT0 h;have k:=(Bool.and_eq_true _ _).mp k;exact xC8 (zo6 hy) (xt0 _ k.1 k.2)
  .cases ht
 .cases ht
abbrev EvT:=OpT×Int×Int
def flN(n:Nat):Fl:=⟨List.replicate n (List.replicate 64 0),0,false,0⟩
def yK8:Plan:=.all
theorem pg0(l:Fl):o7 (Env.of pP (j9 [])) 1000 (x9 pP 39) .unit (x6 26 [1,3]) (v7 pP 39) yK8 (v6 pP 39 [l.sv]) [] =(.leaf (.at (x8 pP 39 0) 26 (x7 26 [(1,.ptr 0 0),(3,J 0)]) [some (.cells [.list Ty.str l.pages,J l.fuse,.bool l.dead,J l.keep])])):=by kernel_rfl
def yK9:Plan:=.fork (.lit (.lit (.fork (.fork .all .all) .all))) (.lit (.lit (.lit .all)))
theorem pg1(l:Fl)(i:Int):o7 (Env.of pP (j9 [])) 1000 (x9 pP 39) .unit (x6 26 [1,3]) (x8 pP 39 0) yK9 (x7 26 [(1,.ptr 0 0),(3,J i)]) [some (.cells l.cells)] =(.node (decide (i< (↑l.pages.length:Int))) (.node (decide (i<21)) (.req (decide (0<=i)&&decide (i< (↑l.pages.length:Int))) (.node (decide (((List.length (l.pages.getD i.toNat Ty.str.dflt):Nat):Int)>100)) (.leaf (.done (.bool false))) (.leaf (.at (x8 pP 39 0) 26 (x7 26 [(1,.ptr 0 0),(3,J (i64.wrap (i+1)))]) [some (.cells [.list Ty.str l.pages,J l.fuse,.bool l.dead,J l.keep])])))) (.leaf (.done (.bool (decide ((↑l.pages.length:Int)<=20)))))) (.leaf (.done (.bool (decide ((↑l.pages.length:Int)<=20)))))):=by kernel_rfl
def qs9:Plan:=.fork (.ln 17 (.lit .all)) (.ln 5 (.fork (.ln 11 (.lit .all)) (.ln 5 (.fork (.ln 5 (.lit .all)) (.ln 5 (.fork .all .all))))))
theorem fs0(l:Fl):o7 (Env.of pP (j9 [])) 1000 (x9 pP 45) .unit (x6 52 [2,3,36,37]) (v7 pP 45) qs9 (v6 pP 45 [l.sv,l.sv]) [] =(.node ((↑l.pages.length:Int) !=(↑l.pages.length:Int)) (.leaf (.done (.bool false))) (.node (l.fuse != l.fuse) (.leaf (.done (.bool false))) (.node (!l.dead==l.dead) (.leaf (.done (.bool false))) (.node (l.keep != l.keep) (.leaf (.done (.bool false))) (.leaf (.at (x8 pP 45 0) 52 (x7 52 [(2,.ptr 0 0),(3,.ptr 1 0),(36,J (↑l.pages.length:Int)),(37,J 0)]) [some (.cells [.list Ty.str l.pages,J l.fuse,.bool l.dead,J l.keep]),some (.cells [.list Ty.str l.pages,J l.fuse,.bool l.dead,J l.keep])])))))):=by kernel_rfl
def qt2:Plan:=.fork (.fork (.all) (.all)) (.all)
theorem fs1(l:Fl)(i:Int):o7 (Env.of pP (j9 [])) 1000 (x9 pP 45) .unit (x6 52 [2,3,36,37]) (x8 pP 45 0) qt2 (x7 52 [(2,.ptr 0 0),(3,.ptr 1 0),(36,J l.pages.length),(37,J i)]) [some (.cells l.cells),some (.cells l.cells)] =(.node (decide (i< (↑l.pages.length:Int))) (.req (decide (0<=i)&&decide (i< (↑l.pages.length:Int))) (.req (decide (0<=i)&&decide (i< (↑l.pages.length:Int))) (.node (!l.pages.getD i.toNat Ty.str.dflt==l.pages.getD i.toNat Ty.str.dflt) (.leaf (.done (.bool false))) (.leaf (.at (x8 pP 45 0) 52 (x7 52 [(2,.ptr 0 0),(3,.ptr 1 0),(36,J (↑l.pages.length:Int)),(37,J (i64.wrap (i+1)))]) [some (.cells [.list Ty.str l.pages,J l.fuse,.bool l.dead,J l.keep]),some (.cells [.list Ty.str l.pages,J l.fuse,.bool l.dead,J l.keep])]))))) (.leaf (.done (.bool true)))):=by kernel_rfl
def qq9:Plan:=.ln 4 (.go (.lit (.go (.lit (.go (.lit (.go (.lit (.go (.lit (.go (.lit (.go (.lit .all))))))))))))))
theorem fn6(u:Unit):o7 (Env.of pP (j9 [])) 1000 (x9 pP 51) .str (x6 25 []) (v7 pP 51) qq9 (v6 pP 51 [J 6]) [] =(.req (true) (.req true (.req (true) (.req true (.req (true) (.req true (.req (true) (.req true (.req (true) (.req true (.req (true) (.req true (.leaf (.done (.tuple [.agg [.list Ty.str ([List.map (λn=>UInt8.ofNat (Int.toNat n)) (List.replicate 64 0)] ++[List.map (λn=>UInt8.ofNat (Int.toNat n)) (List.replicate 64 0)] ++[List.map (λn=>UInt8.ofNat (Int.toNat n)) (List.replicate 64 0)] ++[List.map (λn=>UInt8.ofNat (Int.toNat n)) (List.replicate 64 0)] ++[List.map (λn=>UInt8.ofNat (Int.toNat n)) (List.replicate 64 0)] ++[List.map (λn=>UInt8.ofNat (Int.toNat n)) (List.replicate 64 0)]),J 0,.bool false,J 0],J 0]))))))))))))))):=by kernel_rfl
def qq8:Plan:=.ln 4 (.go (.lit (.go (.lit (.go (.lit (.go (.lit (.go (.lit .all))))))))))
theorem fn4(u:Unit):o7 (Env.of pP (j9 [])) 1000 (x9 pP 51) .str (x6 25 []) (v7 pP 51) qq8 (v6 pP 51 [J 4]) [] =(.req (true) (.req true (.req (true) (.req true (.req (true) (.req true (.req (true) (.req true (.leaf (.done (.tuple [.agg [.list Ty.str ([List.map (λn=>UInt8.ofNat (Int.toNat n)) (List.replicate 64 0)] ++[List.map (λn=>UInt8.ofNat (Int.toNat n)) (List.replicate 64 0)] ++[List.map (λn=>UInt8.ofNat (Int.toNat n)) (List.replicate 64 0)] ++[List.map (λn=>UInt8.ofNat (Int.toNat n)) (List.replicate 64 0)]),J 0,.bool false,J 0],J 0]))))))))))):=by kernel_rfl
theorem yS6(m:Ma)(q:List Bk)(i:Nat):(List.range i).map (zA4 m q)++[zA4 m q i] =(List.range (i+1)).map (zA4 m q):=by
 rw[List.range_succ,List.map_append];rfl
theorem qt4:zm7 pP [z34] :=⟨yg7,trivial⟩
theorem zF2{f:Fw}(hl:f.queue.length<=100000):∀ (k i:Nat) (s:List Int),i+k=f.queue.length->1<=i->s=(List.range i).map (zA4 f.ma f.queue)->
  t8 pP (x9 pP 200) (LI (zB0 f.ma f.queue)) (x8 pP 200 0) (x7 38 [(1,.ptr 0 0),(3,.row 1),(4,J i)]) [some (.cells f.cells),some (.rows (.int .i64) s)]
 |k,i,s,hi,h1,hs=>by
  refine o5 (kW qt4) (n:=1000) (hint:=.int .i64) (keep:=x6 38 [1,3,4]) (p:=zF3) rfl ?_;erw [cp1 f s i]
  have t0:(i:Int).toNat=i:=by omega
  have wm:i64.wrap ((i:Int)-1)=((i-1:Nat):Int):=by rw[w64 (by omega) (by omega)];omega
  have tm:((i-1:Nat):Int).toNat=i-1:=by omega
  have w1:i64.wrap ((i:Int)+1)=((i+1:Nat):Int):=by rw[w64 (by omega) (by omega)];omega
  have jr:=qM7 f.ma (f.queue.getD (i-1) dBk).1 (f.queue.getD i dBk).1
  match k,hi with
  |k+1,hi=>
   have hi2:(i:Int)<f.queue.length:=by omega
   have hi3:(i:Int)>0:=by omega
   have hn:s.length=i:=by rw[hs];simp
   have ih:=zF2 hl k (i+1) (s++[zA4 f.ma f.queue i]) (by omega) (by omega) (by rw[hs];exact yS6 _ _ _);rw[zA6 f.ma f.queue h1]at ih;simp only[t0,wm,tm,w1,wsq jr,hi2,hi3,Tree.holds,decide_eq_true_eq,decide_eq_false_iff_not,Bool.and_eq_true,not_true_eq_false,false_implies,true_and,and_true,true_implies];refine⟨⟨by omega,by omega⟩,by omega,by simp[hn];omega,u7 _ _,ih⟩
  |0,hi=>
   have hi2:¬((i:Int)<f.queue.length):=by omega
   have e:i=f.queue.length:=by omega
   simp only[hi2,Tree.holds,decide_eq_true_eq,decide_eq_false_iff_not,false_implies,true_and,true_implies,not_false_eq_true];rw[hs,e];rfl
theorem zF6{f:Fw}(hl:f.queue.length<=100000):
  t8 pP (x9 pP 200) (LI (zB0 f.ma f.queue)) (x8 pP 200 0) (x7 38 [(1,.ptr 0 0),(3,.nilS),(4,J 0)]) [some (.cells f.cells)] :=by
 refine o5 (kW qt4) (n:=1000) (hint:=.int .i64) (keep:=x6 38 [1,3,4]) (p:=zF5) rfl ?_;erw [zF4 f 0]
 have w1:i64.wrap ((0:Int)+1)=((1:Nat):Int):=by decide
 by_cases hq:f.queue.length=0
 .have hi2:¬((0:Int)<f.queue.length):=by omega
  simp only[hi2,Tree.holds,decide_eq_true_eq,decide_eq_false_iff_not,false_implies,true_and,true_implies,not_false_eq_true];unfold zB0;rw[hq];rfl
 .have hi2:(0:Int)<f.queue.length:=by omega
  have hi3:¬((0:Int)>0):=by omega
  have lp:=zF2 hl (f.queue.length-1) 1 [0] (by omega) (by omega) rfl;simp only[w1,hi2,hi3,Tree.holds,decide_eq_true_eq,decide_eq_false_iff_not,Bool.and_eq_true,not_true_eq_false,not_false_eq_true,false_implies,true_and,and_true,true_implies];exact⟨u7 _ _,lp⟩
theorem xb4(f:Fw)(h:qo0 f.queue.length=true):SCall pP 200 [f.sv] (LI (zB0 f.ma f.queue)):=by
 have hl:=qo1.1 h;refine s7 rfl rfl (by kernel_rfl) (o5 (kW qt4) (n:=1000) (hint:=.int .i64) (keep:=x6 38 [1,3,4]) (p:=zF1) (boxes:=[]) rfl ?_);have q:=cp0 f;unfold v6 v7 at q;erw [q];exact⟨u7 _ _,zF6 hl⟩
def zX4:Fact:=qg2 200 λf=>.req (qo0 f.queue.length) (.leaf (LI (zB0 f.ma f.queue)))
theorem yb5:zX4.ok pP:=qg3 λf h=>xb4 f h
noncomputable def qK9:List Item:=xK4 (xD3 (Env.ofB pP (j9 [qb8,zV8]) (s8 []) (p9 []) (p8 []) (j6 []) (j6 []) (j6 []) (j6 [10])) 1000 (x9 pP 114) 0 (x6 79 []) (v7 pP 114) .all (v6 pP 114 [fw0.sv,V4.sv z4,J 0,J 0]) [])
def zw2:Plan:=.all
theorem bl0(f:Fw)(c:V4)(len line:Int):o7 (Env.ofB pP (j9 [qb8,zV8]) (s8 []) (p9 []) (p8 []) (j6 []) (j6 []) (j6 []) (j6 [10])) 1000 (x9 pP 114) .unit (x6 79 [4,8,11]) (v7 pP 114) zw2 (v6 pP 114 [f.sv,V4.sv c,J len,J line]) [] =(let y0:=(c,zg5 f.ma c,0,i64.wrap (n8 f.ma c len f.feed*n8 f.ma c len f.feed),0); .req (m7 len&&m7 f.feed) (.req (decide (f.queue.length*64<=140737488355328)) (.req (decide (f.lines.length*8<=140737488355328)) (.req (decide ((f.queue.length+ [y0].length)*64<=140737488355328)) (.req (decide ((f.lines.length+ [line].length)*8<=140737488355328)) (.leaf (.at qK9 79 (x7 79 [(4,.ptr 0 0),(8,.ptr 1 0),(11,SV.row 2)]) [some (.cells [J f.ma.x.num,J f.ma.x.den,J f.ma.x.speed,J f.ma.x.accel,J f.ma.x.jerk,J f.ma.x.min,J f.ma.x.max,J f.ma.y.num,J f.ma.y.den,J f.ma.y.speed,J f.ma.y.accel,J f.ma.y.jerk,J f.ma.y.min,J f.ma.y.max,J f.ma.z.num,J f.ma.z.den,J f.ma.z.speed,J f.ma.z.accel,J f.ma.z.jerk,J f.ma.z.min,J f.ma.z.max,J f.ma.e.num,J f.ma.e.den,J f.ma.e.speed,J f.ma.e.accel,J f.ma.e.jerk,J f.ma.e.min,J f.ma.e.max,.bool f.ma.xy,J f.ma.ticks,J f.mode,.bool f.homed,J f.pos.1,J f.pos.2.1,J f.pos.2.2.1,J f.pos.2.2.2,J f.loc.1,J f.loc.2.1,J f.loc.2.2,J f.e,J f.feed,SV.row 2,SV.row 3,J f.mo.1.1.1,J f.mo.1.1.2.1,J f.mo.1.1.2.2.1,J f.mo.1.1.2.2.2,J f.mo.1.2.1,J f.mo.1.2.2.1,J f.mo.1.2.2.2.1,J f.mo.1.2.2.2.2,J f.mo.2.1,J f.mo.2.2,.bool f.moving,J f.active,.bool f.back,J f.ret.1,J f.ret.2.1,J f.ret.2.2.1,J f.ret.2.2.2,J f.dwell,J f.waits,J f.c0.target,J f.c0.kp,J f.c0.ki,J f.c0.scale,J f.c0.sum,J f.c0.limit,J f.c1.target,J f.c1.kp,J f.c1.ki,J f.c1.scale,J f.c1.sum,J f.c1.limit,J f.g0.low,J f.g0.high,J f.g0.watch,J f.g0.rise,J f.g0.band,J f.g0.base,J f.g0.count,J f.g0.idle,J f.g0.quiet,J f.g0.fault,.bool f.g0.door,J f.g1.low,J f.g1.high,J f.g1.watch,J f.g1.rise,J f.g1.band,J f.g1.base,J f.g1.count,J f.g1.idle,J f.g1.quiet,J f.g1.fault,.bool f.g1.door,J f.fan,J f.line,J f.ticks,J f.cold,J f.r0,J f.r1]),some (.cells (o6 fw0)),some (.rows o9 (f.queue++[y0])),some (.rows (Ty.int IntKind.i64) (f.lines++[line]))]))))))):=by kernel_rfl
def zw3:Plan:=let z0:Plan:=.fork (.fork (.lit (.all)) (.lit (.all))) (.lit (.all));.fork z0 (.fork z0 z0)
theorem bl1(f:Fw):o7 (Env.of pP (j9 [zX4,z83])) 1000 (x9 pP 114) .unit (x6 79 [4,8,11]) qK9 zw3 (x7 79 [(4,.ptr 0 0),(8,.ptr 1 0),(11,LB f.queue)]) [some (.cells f.cells),some (.cells (o6 fw0)),none,none] =(let y0:Tree Stop:=.leaf (.done (.tuple [.agg (o6 fw0),J 2]));let y1:=zB0 f.ma f.queue;let y2:=f.queue.getD 0 dBk; .node (f.moving) (.req (qo0 f.queue.length) (.req (yv8 f.queue y1 f.mo.1.2.2.2.2) (.node (decide (f.mo.1.2.2.2.2<=crL f.queue 0)) (.node (decide (gL f.queue y1 f.mo.1.2.2.2.2 0=f.mo.1.2.2.2.2)) (.leaf (.done (.tuple [.agg (Fw.cells {f with queue:=(plB f.queue (gL f.queue y1 f.mo.1.2.2.2.2))}),J 0]))) y0) y0))) (.node (decide ((↑f.queue.length:Int)>1)) (.req (decide (0< (↑f.queue.length:Int))) (.req (qo0 f.queue.length) (.req (yv8 f.queue y1 y2.2.2.1) (.node (decide (y2.2.2.1<=crL f.queue 0)) (.node (decide (gL f.queue y1 y2.2.2.1 0=y2.2.2.1)) (.leaf (.done (.tuple [.agg (Fw.cells {f with queue:=(plB f.queue (gL f.queue y1 y2.2.2.1))}),J 0]))) y0) y0)))) (.req (qo0 f.queue.length) (.req (yv8 f.queue y1 0) (.node (decide (0<=crL f.queue 0)) (.node (decide (gL f.queue y1 0 0=0)) (.leaf (.done (.tuple [.agg (Fw.cells {f with queue:=(plB f.queue (gL f.queue y1 0))}),J 0]))) y0) y0))))):=by kernel_rfl
end Go.Proofs.YtnkaepnblikcdaaGreat
namespace Go.Sx
open Go.RowKit
theorem setT_flat{β:Type}:∀ (d:Nat) (t:Tb β) (i:Nat) (v:Option β),(∃t',∀ (O:Type) (k:Tb β->Tree O),f8 d t i v k=k t')\/∃n,∀ (O:Type) (k:Tb β->Tree O),f8 d t i v k=.fail n
 |0,t,i,v=>.inr ⟨3,λ_ _=>rfl⟩
 |d+1,.e,0,v=>.inl ⟨_,λ_ _=>rfl⟩
 |d+1,.n l u r,0,v=>.inl ⟨_,λ_ _=>rfl⟩
 |d+1,.e,j+1,v=>by
  by_cases hj:j % 2=0
  .have e:∀ (O:Type) (k:Tb β->Tree O),f8 (d+1) .e (j+1) v k=f8 d .e (j / 2) v λl=>k (.n l none .e):=λO k=>by
    change Tb.pick j (λi=>f8 d .e i v λl=>k (.n l none .e)) (λi=>f8 d .e i v λr=>k (.n .e none r))=_
    rw[Tb.pick_even hj]
   rcases setT_flat d .e (j / 2) v with⟨t',h⟩|⟨n,h⟩
   .exact .inl ⟨_,λO k=>by rw[e,h]⟩
   .exact .inr ⟨n,λO k=>by rw[e,h]⟩
  .have e:∀ (O:Type) (k:Tb β->Tree O),f8 (d+1) .e (j+1) v k=f8 d .e (j / 2) v λr=>k (.n .e none r):=λO k=>by
    change Tb.pick j (λi=>f8 d .e i v λl=>k (.n l none .e)) (λi=>f8 d .e i v λr=>k (.n .e none r))=_
    rw[Tb.pick_odd hj]
   rcases setT_flat d .e (j / 2) v with⟨t',h⟩|⟨n,h⟩
   .exact .inl ⟨_,λO k=>by rw[e,h]⟩
   .exact .inr ⟨n,λO k=>by rw[e,h]⟩
 |d+1,.n l u r,j+1,v=>by
  by_cases hj:j % 2=0
  .have e:∀ (O:Type) (k:Tb β->Tree O),f8 (d+1) (.n l u r) (j+1) v k=f8 d l (j / 2) v λl=>k (.n l u r):=λO k=>by
    change Tb.pick j (λi=>f8 d l i v λl=>k (.n l u r)) (λi=>f8 d r i v λr=>k (.n l u r))=_
    rw[Tb.pick_even hj]
   rcases setT_flat d l (j / 2) v with⟨t',h⟩|⟨n,h⟩
   .exact .inl ⟨_,λO k=>by rw[e,h]⟩
   .exact .inr ⟨n,λO k=>by rw[e,h]⟩
  .have e:∀ (O:Type) (k:Tb β->Tree O),f8 (d+1) (.n l u r) (j+1) v k=f8 d r (j / 2) v λr=>k (.n l u r):=λO k=>by
    change Tb.pick j (λi=>f8 d l i v λl=>k (.n l u r)) (λi=>f8 d r i v λr=>k (.n l u r))=_
    rw[Tb.pick_odd hj]
   rcases setT_flat d r (j / 2) v with⟨t',h⟩|⟨n,h⟩
   .exact .inl ⟨_,λO k=>by rw[e,h]⟩
   .exact .inr ⟨n,λO k=>by rw[e,h]⟩
section
variable {O:Type} {Φ:O->Prop}
theorem xE0{β:Type}{d:Nat}{t:Tb β}{i:Nat}{v:Option β}{k:Tb β->Tree O}(h:∀t',ze3 t i v t'->(k t').says Φ):(f8 d t i v k).says Φ:=by
 rcases setT_flat d t i v with⟨t',h1⟩|⟨n,h1⟩
 .rw[h1]
  obtain⟨t2,g1,g2⟩:=qD0 (L:=λx=>x=t') d t i v .leaf (by rw[h1];exact rfl);obtain rfl:t2=t':=g2;exact h _ g1
 .rw[h1];trivial
theorem Mem.set_says{m:Mem}{id:Nat}{b:Option Box}{k:Mem->Tree O}(h:∀m',zc0 m id b m'->(k m').says Φ):(m.set id b k).says Φ:=
 xE0 λtb htb=>h _ ⟨htb,rfl⟩
end
theorem q59{w:World}{g o:Nat}{arr:Array Value}{e:TypeId}{fr:Nat×Nat}(hg:w.heap[g]? =some (.cells arr e fr))(hu:xV6 arr fr)(hl:o<arr.size):w.frozen? ⟨g,o,none⟩=false:=by
 have:=hu o hl;simp only[World.frozen?,hg]
 by_cases h2:fr.1<=o
 .have h3:¬o<fr.2:=λh3=>this ⟨h2,h3⟩
  simp[h3]
 .simp[h2]
inductive Wk (nz:Bool) (boxes:List (Option Box)) (fz:List Nat):SV->SV->Prop where
 |same (x:SV):Wk nz boxes fz x x
 |top (x:SV):Wk nz boxes fz x .top
 |nil (h:nz=true):Wk nz boxes fz .nilS (.row boxes.length)
 |frz {id:Nat} {t:Ty} {l:List t.T} (hid:id∈fz) (hb:boxes[id]? =some (some (.rows t l))):Wk nz boxes fz (.row id) (.list t l)
def WkL(nz:Bool)(boxes:List (Option Box))(fz:List Nat):List SV->List SV->Prop
 |[],[] =>True
 |x::xs,y::ys=>Wk nz boxes fz x y/\WkL nz boxes fz xs ys
 |_,_=>False
def WkK(nz:Bool)(boxes:List (Option Box))(fz:List Nat):List (Nat×SV)->List (Nat×SV)->Prop
 |[],[] =>True
 |x::xs,y::ys=>x.1=y.1/\Wk nz boxes fz x.2 y.2/\WkK nz boxes fz xs ys
 |_,_=>False
inductive WkB (nz:Bool) (boxes:List (Option Box)) (fz:List Nat):Box->Box->Prop where
 |same (B:Box):WkB nz boxes fz B B
 |cells {cs ds:List SV} (h:WkL nz boxes fz cs ds):WkB nz boxes fz (.cells cs) (.cells ds)
def ze5(nz:Bool)(boxes:List (Option Box))(fz:List Nat):Nat->List (Option Box)->List (Option Box)->Prop
 |_,[],[] =>nz=false
 |_,[],some (.rows _ [])::[] =>True
 |i,_::bs,none::bs'=>ze5 nz boxes fz (i+1) bs bs'
 |i,some B::bs,some B'::bs'=>i∉fz/\WkB nz boxes fz B B'/\ze5 nz boxes fz (i+1) bs bs'
 |_,_,_=>False
section
variable {nz:Bool} {boxes:List (Option Box)} {fz:List Nat}
theorem WkL.length:∀{l l':List SV},WkL nz boxes fz l l'->l'.length=l.length
 |[],[],_=>rfl
 |x::xs,y::ys,h=>by simp[WkL.length h.2]
theorem WkL.get:∀{l l':List SV},WkL nz boxes fz l l'->∀{i:Nat} {y:SV},l'[i]? =some y->∃x,l[i]? =some x/\Wk nz boxes fz x y
 |[],[],_,i,y,h=>by simp at h
 |x::xs,z::ys,h,0,y,hy=>by
  simp at hy;subst hy;exact⟨x,rfl,h.1⟩
 |x::xs,z::ys,h,i+1,y,hy=>by
  simpa using WkL.get h.2 (i:=i) (y:=y) (by simpa using hy)
theorem WkK.lookup:∀{ks ks':List (Nat×SV)},WkK nz boxes fz ks ks'->∀i,Wk nz boxes fz ((ks.lookup i).getD .top) ((ks'.lookup i).getD .top)
 |[],[],_,i=>.same _
 |x::xs,y::ys,h,i=>by
  obtain⟨h1,h2,h3⟩:=h;obtain⟨a,x⟩:=x;obtain⟨b,y⟩:=y;dsimp only at h1 h2;subst h1;simp only[List.lookup]
  cases(i==a)with
  |true=>exact h2
  |false=>exact WkK.lookup h3 i
theorem xF7{n:Nat}{ks ks':List (Nat×SV)}(h:WkK nz boxes fz ks ks'):WkL nz boxes fz (x7 n ks) (x7 n ks'):=by
 unfold x7
 induction List.range n with
 |nil=>trivial
 |cons i l ih=>exact⟨h.lookup i,ih⟩
theorem ze5.len:∀{i:Nat} {bs bs':List (Option Box)},ze5 nz boxes fz i bs bs'->bs.length<=bs'.length
 |_,[],[],_=>Nat.le_refl _
 |_,[],some (.rows _ [])::[],_=>by simp
 |i,_::bs,none::bs',h=>by simpa using ze5.len (i:=i+1) (bs:=bs) (bs':=bs') h
 |i,some B::bs,some B'::bs',h=>by simpa using ze5.len (i:=i+1) h.2.2
theorem ze5.len2(hz:nz=true):∀{i:Nat} {bs bs':List (Option Box)},ze5 nz boxes fz i bs bs'->bs.length<bs'.length
 |_,[],[],h=>by rw[show nz=false from h]at hz;cases hz
 |_,[],some (.rows _ [])::[],_=>by simp
 |i,_::bs,none::bs',h=>by simpa using ze5.len2 hz (i:=i+1) (bs:=bs) (bs':=bs') h
 |i,some B::bs,some B'::bs',h=>by simpa using ze5.len2 hz (i:=i+1) h.2.2
theorem ze5.get:∀{i:Nat} {bs bs':List (Option Box)},ze5 nz boxes fz i bs bs'->∀{j:Nat} {B':Box},(bs'[j]?).join=some B'->(∃B,(bs[j]?).join=some B/\i+j∉fz/\WkB nz boxes fz B B')\/(j=bs.length/\∃t,B'=.rows t [])
 |_,[],[],_,j,B',h=>by simp at h
 |_,[],some (.rows t [])::[],_,0,B',h=>by
  simp at h;subst h;exact .inr ⟨rfl,t,rfl⟩
 |_,[],some (.rows t [])::[],_,j+1,B',h=>by simp at h
 |i,_::bs,none::bs',h,0,B',hj=>by simp at hj
 |i,x::bs,none::bs',h,j+1,B',hj=>by
  have:=ze5.get (i:=i+1) (bs:=bs) (bs':=bs') h (j:=j) (B':=B') (by simpa using hj)
  simpa[Nat.add_assoc,Nat.add_comm 1 j]using this
 |i,some B::bs,some C::bs',h,0,B',hj=>by
  simp at hj;subst hj;exact .inl ⟨B,rfl,by simpa using h.1,h.2.1⟩
 |i,some B::bs,some C::bs',h,j+1,B',hj=>by
  have:=ze5.get (i:=i+1) h.2.2 (j:=j) (B':=B') (by simpa using hj)
  simpa[Nat.add_assoc,Nat.add_comm 1 j]using this
theorem m8.weak{ds:List Deferred}{slots slots':List SV}{boxes':List (Option Box)}{fr fr':Fr}{m m':Mem}(hc:Canon slots boxes fr m)(hc':Canon slots' boxes' fr' m')(hs:WkL nz boxes fz slots slots')(hb:ze5 nz boxes fz 0 boxes boxes'){w0:World}{R0:RSet}{I:Rho}{w:World}{a:Act}(h:m8 ds w0 R0 I w fr m a):
  m8 ds w0 R0 (upd I boxes.length (0,0,0)) w fr' m' a/\∀b,RO w0 R0 I w m b->RO w0 R0 (upd I boxes.length (0,0,0)) w m' b:=by
 obtain⟨h1,h2,h3⟩:=h;have hlen:=hb.len;have hn:m.next=boxes.length:=hc.next;have hn':m'.next=boxes'.length:=hc'.next
 -- where each box comes from
 have hg:∀id B',m'.get id=some B'->(∃B,m.get id=some B/\id≠boxes.length/\id∉fz/\WkB nz boxes fz B B')\/(id=boxes.length/\∃t,B'=.rows t []):=λid B' hB=>by
  rw[hc'.box]at hB;rcases hb.get hB with⟨B,k1,k2,k3⟩|k
  .refine .inl ⟨B,by rw[hc.box];exact k1,λe=>?_,by simpa using k2,k3⟩
   subst e;simp at k1
  .exact .inr k
 have hsol:∀{B B':Box} {r:Nat×Nat×Nat},WkB nz boxes fz B B'->(xG1 r B'↔xG1 r B):=λhw=>by
  cases hw with
  |same=>exact Iff.rfl
  |cells=>exact Iff.rfl
 have hro:∀b,RO w0 R0 I w m b->RO w0 R0 (upd I boxes.length (0,0,0)) w m' b:=λb hb2=>by
  rcases hb2 with hb2|⟨k1,k2,k3,k4⟩
  .exact .inl hb2
  .refine .inr ⟨k1,k2,λid B' hB hs'=>?_,k4⟩
   rcases hg id B' hB with⟨B,g1,g2,g3,g4⟩|⟨rfl,t,rfl⟩
   .rw[t7 _ _ g2]at hs' ⊢
    exact k3 id B g1 ((hsol g4).1 hs')
   .rw[t9]at hs';exact absurd hs' (Nat.lt_irrefl _)
 have e:Ext (RO w0 R0 I w m) I m.next w (RO w0 R0 (upd I boxes.length (0,0,0)) w m') (upd I boxes.length (0,0,0)) m'.next w:=⟨by omega,λid hid=>t7 _ _ (by omega),λb hb2=>⟨hro b hb2,rfl⟩⟩
 have hval:∀ (x y:SV) (v:Value),Wk nz boxes fz x y->Rep (RO w0 R0 I w m) I m.next w x v->Rep (RO w0 R0 (upd I boxes.length (0,0,0)) w m') (upd I boxes.length (0,0,0)) m'.next w y v:=by
  intro x y v hw hr
  cases hw with
  |same=>exact Rep.mono e _ _ hr
  |top=>trivial
  |nil hz=>
   rw[show v=_ from hr];have hx:=hb.len2 hz;exact⟨by omega,none,by rw[t9],λh0=>by rw[t9]at h0;exact absurd h0 (Nat.lt_irrefl _)⟩
  |frz hid hb1=>
   rename_i id t l;obtain⟨_,a,hu,ha⟩:=hr
   have hgid:m.get id=some (.rows t l):=by rw[hc.box,hb1];rfl
   obtain⟨b1,b2,hp⟩:=h1.box id _ hgid;refine⟨a,(I id).2.2,by rw[hu,b1],b2,λh0=>?_⟩;have h0:0< (I id).2.2:=Nat.lt_of_lt_of_le h0 b2;obtain⟨arr,el,fr,k1,k2,k3,k4⟩:=hp h0;refine⟨(I id).1,0,ha h0,.inr ⟨h1.lo id _ hgid h0,h1.hi id _ hgid h0,λid' B' hB hs' heq=>?_,h1.hid.2 id _ hgid h0⟩,λi hi=>?_⟩
   .rcases hg id' B' hB with⟨B,g1,g2,g3,g4⟩|⟨rfl,t,rfl⟩
    .rw[t7 _ _ g2]at hs' heq
     have:=h1.inj id' id B _ g1 hgid ((hsol g4).1 hs') h0 heq;subst this;exact g3 hid
    .rw[t9]at hs';exact absurd hs' (Nat.lt_irrefl _)
   .obtain⟨cs,c1,c2,c3⟩:=k4 i hi
    refine⟨cs,c1,λj hj=>?_,r8.mono e.keep _ _ _ c3⟩;rw[cell_of_row w _ _ arr el fr k1,Nat.zero_add];exact c2 j hj
 have hvalL:∀ (xs ys:List SV) (vs:List Value),WkL nz boxes fz xs ys->j7 (RO w0 R0 I w m) I m.next w xs vs->j7 (RO w0 R0 (upd I boxes.length (0,0,0)) w m') (upd I boxes.length (0,0,0)) m'.next w ys vs:=by
  intro xs
  induction xs with
  |nil=>
   intro ys vs hw hr
   cases ys with
   |nil=>exact hr
   |cons _ _=>exact hw.elim
  |cons x xs ih=>
   intro ys vs hw hr
   cases ys with
   |nil=>exact hw.elim
   |cons y ys=>
    obtain⟨u,us,rfl,r1,r2⟩:=hr;exact⟨u,us,rfl,hval x y u hw.1 r1,ih ys us hw.2 r2⟩
 refine⟨⟨⟨h1.below,λid B' hB=>?_,λid B' hB hs'=>?_,λid B' hB hs'=>?_,λid id' B' C' hB hC hs1 hs2 heq=>?_,λid B' hB=>?_,h1.hid.1,λid B' hB hs'=>?_⟩,⟨?_,λt=>?_⟩,h3⟩,hro⟩
 .rw[hn']
  rw[hc'.box]at hB;rcases Nat.lt_or_ge id boxes'.length with k|k
  .exact k
  .rw[List.getElem?_eq_none k]at hB;cases hB
 .rcases hg id B' hB with⟨B,g1,g2,g3,g4⟩|⟨rfl,t,rfl⟩
  .rw[t7 _ _ g2]at hs' ⊢;exact h1.lo id B g1 ((hsol g4).1 hs')
  .rw[t9]at hs';exact absurd hs' (Nat.lt_irrefl _)
 .rcases hg id B' hB with⟨B,g1,g2,g3,g4⟩|⟨rfl,t,rfl⟩
  .rw[t7 _ _ g2]at hs' ⊢;exact h1.hi id B g1 ((hsol g4).1 hs')
  .rw[t9]at hs';exact absurd hs' (Nat.lt_irrefl _)
 .rcases hg id B' hB with⟨B,g1,g2,g3,g4⟩|⟨rfl,t,rfl⟩
  .rcases hg id' C' hC with⟨C,g1',g2',g3',g4'⟩|⟨rfl,t',rfl⟩
   .rw[t7 _ _ g2]at hs1 heq;rw[t7 _ _ g2']at hs2 heq
    exact h1.inj id id' B C g1 g1' ((hsol g4).1 hs1) ((hsol g4').1 hs2) heq
   .rw[t9]at hs2;exact absurd hs2 (Nat.lt_irrefl _)
  .rw[t9]at hs1;exact absurd hs1 (Nat.lt_irrefl _)
 .rcases hg id B' hB with⟨B,g1,g2,g3,g4⟩|⟨rfl,t,rfl⟩
  .rw[t7 _ _ g2]
   cases g4 with
   |same=>exact za2.mono e _ (λ_=>rfl) (h1.box id _ g1)
   |cells hw=>
    obtain⟨arr,el,fr2,k1,k2,k3⟩:=h1.box id _ g1;exact⟨arr,el,fr2,k1,k2,hvalL _ _ _ hw k3⟩
  .rw[t9]
   exact⟨rfl,Nat.le_refl _,λh0=>absurd h0 (Nat.lt_irrefl _)⟩
 .rcases hg id B' hB with⟨B,g1,g2,g3,g4⟩|⟨rfl,t,rfl⟩
  .rw[t7 _ _ g2]at hs' ⊢;exact h1.hid.2 id B g1 ((hsol g4).1 hs')
  .rw[t9]at hs';exact absurd hs' (Nat.lt_irrefl _)
 .rw[hc'.size,hs.length,<-hc.size];exact h2.1
 .rw[hc'.get t,List.getD_eq_getElem?_getD]
  cases hx:slots'[t]? with
  |none=>
   have ht:slots'.length<=t:=by simpa using hx
   have:a.tmps.getD t Go.undef=Go.undef:=by
    rw[Array.getD_eq_getD_getElem?,Array.getElem?_eq_none (by rw[<-h2.1,hc.size,<-hs.length];exact ht)];rfl
   rw[this];exact rfl
  |some y=>
   obtain⟨x,hx1,hw⟩:=hs.get hx;refine hval x y _ hw ?_;have:=h2.2 t;rw[hc.get t,List.getD_eq_getElem?_getD,hx1]at this;exact this
end
theorem y82{P:Program}(nz:Bool){fn:Func}{v:SV}{items:List Item}{slots slots':List SV}{boxes boxes':List (Option Box)}(fz:List Nat)(hs:WkL nz boxes fz slots slots')(hb:ze5 nz boxes fz 0 boxes boxes')(h:t8 P fn v items slots' boxes'):t8 P fn v items slots boxes:=by
 intro fr m hc w0 R0 I w a hS b cs;obtain⟨fr',m',hc'⟩:=Canon.of (slots:=slots') (boxes:=boxes');obtain⟨h1,h2⟩:=m8.weak hc hc' hs hb hS;obtain⟨I',w',a',todo,u,q1,q2,q3,q4,q5,q6⟩:=h fr' m' hc' w0 R0 _ w a h1 b cs;exact⟨I',w',a',todo,u,q1,q2,λb hb2=>q3 b (h2 b hb2),q4,q5,q6⟩
end Go.Sx
namespace Go.Proofs.YtnkaepnblikcdaaGreat
open Go.Sx
def zw9(f:Fw)(c:V4)(len line:Int):SV:=if zj1 f c len=true then .tuple [(s9 f c len line).sv,J 0]else .tuple [.agg (o6 fw0),J 2]
variable{f:Fw}{c:V4}{line:Int}
theorem zx2{len:Int}(h:zj1 f c len=true):zw9 f c len line=.tuple [(s9 f c len line).sv,J 0] :=if_pos h
theorem zx1{len:Int}(h:¬zj1 f c len=true):zw9 f c len line=.tuple [.agg (o6 fw0),J 2] :=if_neg h
theorem zx0(f:Fw)(c:V4)(len line:Int):(zw9 f c len line).data=true:=by unfold zw9;split<;>rfl
theorem qt3:zm7 pP [zX4,z83] :=⟨yb5,yl9,trivial⟩
theorem zw4{len:Int}(h:zj3 f c len=true):t8 pP (x9 pP 114) (zw9 f c len line) qK9 (x7 79 [(4,.ptr 0 0),(8,.ptr 1 0),(11,LB (t4 f c len))]) [some (.cells ({f with queue:=t4 f c len,lines:=f.lines++[line]}:Fw).cells),some (.cells (o6 fw0)),none,none] :=by
 have p:=zj4.1 h;have pl:=zk3 h;have ql:=zj5 f c len;refine o5 (kW qt3) (n:=1000) (hint:=.unit) (keep:=x6 79 [4,8,11]) (p:=zw3) (zx0 _ _ _ _) ?_;erw [bl1 {f with queue:=t4 f c len,lines:=f.lines++[line]}];have f2:qo0 (t4 f c len).length=true:=qo1.2 (by omega)
 have key:∀e,e=b9 f->yv8 (t4 f c len) (zB0 f.ma (t4 f c len)) e=true/\((e<=crL (t4 f c len) 0->(gL (t4 f c len) (zB0 f.ma (t4 f c len)) e 0=e->SV.tuple [.agg (Fw.cells {f with queue:=plB (t4 f c len) (gL (t4 f c len) (zB0 f.ma (t4 f c len)) e),lines:=f.lines++[line]}),.int .i64 0] =zw9 f c len line)/\(¬gL (t4 f c len) (zB0 f.ma (t4 f c len)) e 0=e->SV.tuple [.agg (o6 fw0),.int .i64 2] =zw9 f c len line))/\(¬e<=crL (t4 f c len) 0->SV.tuple [.agg (o6 fw0),.int .i64 2] =zw9 f c len line)):=λe he=>by
  subst he;refine⟨pl,λa=>⟨λb=>?_,λb=>?_⟩,λa=>?_⟩
  .rw[zx2 (zj2.2 ⟨a,b⟩)];rfl
  .rw[zx1 (λo=>b (zj2.1 o).2)];rfl
  .rw[zx1 (λo=>a (zj2.1 o).1)];rfl
 have fin:∀e,e=b9 f->∀T:Prop,T->T:=λ_ _ _ t=>t
 by_cases hm:f.moving=true
 .have kk:=key f.mo.1.2.2.2.2 (by unfold b9;rw[if_pos hm])
  refine⟨λ_=>⟨f2,kk.1,λa=>⟨λb=>(kk.2.1 (of_decide_eq_true a)).1 (of_decide_eq_true b),λb=>(kk.2.1 (of_decide_eq_true a)).2 (of_decide_eq_false b)⟩,λa=>kk.2.2 (of_decide_eq_false a)⟩,λk=>absurd hm (by rw[show f.moving=false from k];exact Bool.false_ne_true)⟩
 .refine⟨λk=>absurd k hm,λ_=>⟨λl=>?_,λl=>?_⟩⟩
  .have l:((t4 f c len).length:Int)>1:=of_decide_eq_true l
   have g0:(t4 f c len).getD 0 dBk=f.queue.getD 0 dBk:=by
    unfold t4;rw[List.getD_eq_getElem?_getD,List.getElem?_append_left (by omega),<-List.getD_eq_getElem?_getD]
   have kk:=key ((t4 f c len).getD 0 dBk).2.2.1 (by unfold b9;rw[if_neg hm,if_neg (by omega),g0]);refine⟨decide_eq_true (by show(0:Int)< (t4 f c len).length;omega),f2,kk.1,λa=>⟨λb=>(kk.2.1 (of_decide_eq_true a)).1 (of_decide_eq_true b),λb=>(kk.2.1 (of_decide_eq_true a)).2 (of_decide_eq_false b)⟩,λa=>kk.2.2 (of_decide_eq_false a)⟩
  .have l:¬((t4 f c len).length:Int)>1:=of_decide_eq_false l
   have kk:=key 0 (by unfold b9;rw[if_neg hm,if_pos (by omega)]);exact⟨f2,kk.1,λa=>⟨λb=>(kk.2.1 (of_decide_eq_true a)).1 (of_decide_eq_true b),λb=>(kk.2.1 (of_decide_eq_true a)).2 (of_decide_eq_false b)⟩,λa=>kk.2.2 (of_decide_eq_false a)⟩
theorem kBl:Known pP (Env.ofB pP (j9 [qb8,zV8]) (s8 []) (p9 []) (p8 []) (j6 []) (j6 []) (j6 []) (j6 [10])):=
 hB (l:=[qb8,zV8]) (k:=[]) (j:=[]) (i:=[]) [] [] [] [10] ⟨yp7,q94,trivial⟩ u9 u9 u9
theorem xb2(f:Fw)(c:V4)(len line:Int)(h:zj3 f c len=true):SCall pP 114 [f.sv,V4.sv c,J len,J line] (zw9 f c len line):=by
 have p:=zj4.1 h;have sr:=xH5 p.1 (l:=len) (f:=f.feed) (yu7.1 p.2.1).2 (yu7.1 p.2.2.1).2;have w:=wsq (v:=n8 f.ma c len f.feed) (by omega);refine s7 rfl (zx0 _ _ _ _) (by kernel_rfl) (o5 kBl (n:=1000) (hint:=.unit) (keep:=x6 79 [4,8,11]) (p:=zw2) (boxes:=[]) (zx0 _ _ _ _) ?_);have q:=bl0 f c len line;unfold v6 v7 at q;erw [q];rw[w];simp only[Tree.holds,Bool.and_eq_true,decide_eq_true_eq];refine⟨⟨p.2.1,p.2.2.1⟩,by omega,by omega,by simp;omega,by simp;omega,u7 _ _,?_⟩
 refine y82 false [2,3] (slots':=x7 79 [(4,.ptr 0 0),(8,.ptr 1 0),(11,LB (t4 f c len))]) (boxes':=[some (.cells ({f with queue:=t4 f c len,lines:=f.lines++[line]}:Fw).cells),some (.cells (o6 fw0)),none,none])
  (xF7 ⟨rfl,.same _,rfl,.same _,rfl,.frz (by simp) rfl,trivial⟩) ⟨by simp,.cells ?_,by simp,.same _,rfl⟩ (zw4 h)
 repeat(first|exact trivial|refine⟨.same _,?_⟩|refine⟨.frz (by simp) rfl,?_⟩)
def zX2:Fact:=qh2 114 λf rest=>match rest with
 |[.agg [.int .i64 a,.int .i64 b,.int .i64 c,.int .i64 d],.int .i64 len,.int .i64 line] =>some (.req (zj3 f (a,b,c,d) len) (.node (zj1 f (a,b,c,d) len) (.leaf (.tuple [(s9 f (a,b,c,d) len line).sv,J 0])) (.leaf (.tuple [.agg (o6 fw0),J 2]))))
 |_=>none
theorem yb2:zX2.ok pP:=qh3 λf rest t ht=>by
 split at ht
 .rename_i a b c d len line
  injection ht with ht;subst ht;intro h;have k:=xb2 f (a,b,c,d) len line h;refine⟨λo=>?_,λo=>?_⟩
  .rw[zx2 o]at k;exact k
  .rw[zx1 (by rw[o];exact Bool.false_ne_true)]at k;exact k
 .cases ht
def mvW(f g:Fw)(c:Gc.C):V4:=wsub4 (qZ3 f.ma (t6 f c) (s0 f c)) (qw5 g)
def mvL(f:Fw)(c:Gc.C):Int:=qR1 f.loc (t6 f c) (i64.wrap (s0 f c-f.e))
def q18(f g:Fw)(line:Int)(c:Gc.C):Tree SV:=
 .req (q02 g&&yR0 g) (.node (!((mvW f g c).1==0&& ((mvW f g c).2.1==0&& ((mvW f g c).2.2.1==0&& ((mvW f g c).2.2.2==0&&true)))))
  (.node (decide ((f.queue.length:Int)>=32)) (.leaf (.tuple [.agg (o6 fw0),J 18]))
    (.req (inV f.loc) (.req (inV (t6 f c)) (.req (inE (i64.wrap (s0 f c-f.e))) (.req (zj3 g (mvW f g c) (mvL f c)) (.node (zj1 g (mvW f g c) (mvL f c))
      (.leaf (.tuple [.agg (Fw.cells {s9 g (mvW f g c) (mvL f c) line with loc:=t6 f c,e:=s0 f c}),J 0])) (.leaf (.tuple [.agg (o6 fw0),J 2]))))))))
  (.leaf (.tuple [.agg (Fw.cells {g with loc:=t6 f c,e:=s0 f c}),J 0])))
def q17(f:Fw)(line:Int)(c:Gc.C):Tree SV:=
 .node (!v9 (qZ3 f.ma (t6 f c) (s0 f c))) (.leaf (.tuple [.agg (o6 fw0),J 2]))
  (.req (q02 f&&yR0 f) (.node (!v9 (wsub4 (qZ3 f.ma (t6 f c) (s0 f c)) (qw5 f))) (.leaf (.tuple [.agg (o6 fw0),J 2]))
    (.node (i64.wrap ((BitVec.ofInt 64 c.has &&&BitVec.ofInt 64 16).toNat:Int) != 0) (q18 f {f with feed:=c.f} line c) (q18 f f line c))))
section
variable {f g:Fw} {line:Int} {c:Gc.C}
theorem q21(v:VF f)(hc:c.valid=true)(ki:qH4 f.ma (t6 f c)=true)(km:qY8 f.ma (t6 f c) (s0 f c)=true)(hg:d8 f c=g)(e:qZ6 f line c=tlE g (t6 f c) (s0 f c) (q01 f c) (qZ7 f c))(n1:v9 (q01 f c)=true)(n2:v9 (qZ7 f c)=true):
  (q18 f g line c).holds λx=>x=yY3 (qZ6 f line c) (qZ9 f line c):=by
 have mq:(q02 g&&yR0 g)=true:=by
  rw[<-hg,show q02 (d8 f c)=q02 f by unfold d8;split<;>rfl,show yR0 (d8 f c)=yR0 f by unfold d8;split<;>rfl,v.moves,v.queued];rfl
 have gg:qw5 g=qw5 f:=by rw[<-hg];unfold d8;split<;>rfl
 have w:mvW f g c=qZ7 f c:=by unfold mvW;rw[gg];exact x47 (qZ4 km) (q29 v.goal)
 have gl:g.loc=f.loc/\g.e=f.e/\g.queue=f.queue:=by rw[<-hg];unfold d8;split<;>exact⟨rfl,rfl,rfl⟩
 have nn:=v.nums;have me:=(n9.1 (qY9.1 km).2.2.2).2;have dw:i64.wrap (s0 f c-f.e)=s0 f c-f.e:=w64 (by omega) (by omega)
 have l:mvL f c=qR3 g (t6 f c) (s0 f c):=by unfold mvL;rw[qR4,gl.1,gl.2.1,dw]
 have nd:(v9 (q01 f c)&&v9 (qZ7 f c))=true:=by rw[n1,n2];rfl
 have mF:qZ9 f line c=tlF g line (t6 f c) (s0 f c) (qZ7 f c):=by unfold qZ9;rw[hg]
 unfold q18;rw[w,l,dw,nzT];refine x0 mq (p7 (λz=>o4 (λq=>?_) λq=>?_) λz=>?_)
 .exact yY5 (e.trans (xR3 nd z (by rw[gl.2.2];omega))) (by decide)
 .have q:¬32<=g.queue.length:=by rw[gl.2.2];omega
  have p:=q19 v hc ki km n2 z;rw[hg]at p;have lp:=qR8.1 p.1;refine x0 (by rw[<-gl.1];exact lp.1) (x0 lp.2.1 (x0 (j8.2 (by omega)) (x0 p.2 (p7 (λo=>?_) λo=>?_))))
  .exact yY6 (e.trans (xR6 nd z q o)) (by rw[mF,xR8 z])
  .exact yY5 (e.trans (xR4 nd z q (by rw[o];exact Bool.false_ne_true))) (by decide)
 .exact yY6 (e.trans (xR5 nd z)) (by rw[mF,xR7 z])
theorem q20(v:VF f)(hc:c.valid=true)(ki:qH4 f.ma (t6 f c)=true)(km:qY8 f.ma (t6 f c) (s0 f c)=true)(e:qZ6 f line c=tlE (d8 f c) (t6 f c) (s0 f c) (q01 f c) (qZ7 f c)):
  (q17 f line c).holds λx=>x=yY3 (qZ6 f line c) (qZ9 f line c):=by
 have mq:(q02 f&&yR0 f)=true:=by rw[v.moves,v.queued];rfl
 have w:wsub4 (qZ3 f.ma (t6 f c) (s0 f c)) (qw5 f)=qZ7 f c:=x47 (qZ4 km) (q29 v.goal);unfold q17;rw[w]
 refine f7 (λa=>?_) λa=>x0 mq (f7 (λb=>?_) λb=>?_)
 .exact yY5 (e.trans (xR2 (by show(v9 (q01 f c)&&_)=false;rw[show v9 (q01 f c)=false from a];rfl))) (by decide)
 .exact yY5 (e.trans (xR2 (by rw[b,Bool.and_false]))) (by decide)
 .refine q24 (λq=>?_) λq=>?_
  .have hf:d8 f c={f with feed:=c.f}:=qn8 (qA1.2 q)
   rw[hf]at e;exact q21 v hc ki km hf e a b
  .have hf:d8 f c=f:=qn7 (λk=>qA1.1 k q)
   rw[hf]at e;exact q21 v hc ki km hf e a b
end
theorem xl4(f:Fw)(line:Int)(c:Gc.C)(h:xX9 f=true)(hc:c.valid=true)(hl:0<=line):SCall pP 221 [f.sv,J line,c.sv] (yY3 (qZ6 f line c) (qZ9 f line c)):=
 xD1 (hB (l:=[qc6,z53,z28,z61,z51,z08,z41,zX2]) (k:=[]) (j:=[]) (i:=[]) ([] :List Nat) ([] :List Nat) ([] :List Nat) ([] :List Nat) (⟨yr0,yi6,yg1,yj4,yi4,ye5,yh2,yb2,trivial⟩) u9 u9 u9) 1000 (let z1:Plan:=.fork (.fork .all (.fork (.lit .all) (.lit .all))) .all;let z0:Plan:=.fork (.ln 6 (.lit .all)) (.ln 6 (.fork .all (.fork z1 z1)));let z2:Plan:=.lit (.lit (.lit .all));.fork (.ln 10 (.lit .all)) (.ln 3 (.fork (.ln 6 (.lit .all)) (.lit (.lit (.fork (.ln 3 (.lit .all)) (.ln 3 (.fork .all (.fork (.fork z2 (.ln 3 (.fork (.ln 6 (.fork .all z0)) (.ln 7 z0)))) (.fork z2 z2))))))))))
  (t:=let y4:=((t6 f c).1,(t6 f c).2);let y1:=qZ3 f.ma y4 (s0 f c);let y5:=wsub4 y1 (qw5 f);let y6:Tree SV:=.leaf (.tuple [.agg (o6 fw0),J 14]);let y7:={f with feed:=c.f};let y3:=wsub4 y1 (qw5 y7);let y8:Tree SV:=.leaf (.tuple [.agg (o6 fw0),J 2]);let y9:Tree SV:=.leaf (.tuple [.agg (o6 fw0),J 8]);let y10:=i64.wrap (s0 f c-f.e);let y2:=qR1 f.loc y4 y10;let y0:Tree SV:=.node (!v9 y1) y8 (.req (q02 f&&yR0 f) (.node (!v9 y5) y8 (.node (i64.wrap (↑(BitVec.ofInt 64 c.has &&&BitVec.ofInt 64 16).toNat:Int) != 0) (.req (q02 y7&&yR0 y7) (.node (!(y3.1==0&& (y3.2.1==0&& (y3.2.2.1==0&& (y3.2.2.2==0&&true))))) (.node (decide ((↑f.queue.length:Int)>=32)) (.leaf (.tuple [.agg (o6 fw0),J 18])) (.req (inV f.loc) (.req (inV y4) (.req (inE y10) (.req (zj3 y7 y3 y2) (.node (zj1 y7 y3 y2) (.leaf (.tuple [.agg (Fw.cells { (s9 y7 y3 y2 line)with loc:=(t6 f c),e:=(s0 f c)}),J 0])) y8)))))) (.leaf (.tuple [.agg (Fw.cells {f with loc:=(t6 f c),e:=(s0 f c),feed:=c.f}),J 0])))) (.req (q02 f&&yR0 f) (.node (!(y5.1==0&& (y5.2.1==0&& (y5.2.2.1==0&& (y5.2.2.2==0&&true))))) (.node (decide ((↑f.queue.length:Int)>=32)) (.leaf (.tuple [.agg (o6 fw0),J 18])) (.req (inV f.loc) (.req (inV y4) (.req (inE y10) (.req (zj3 f y5 y2) (.node (zj1 f y5 y2) (.leaf (.tuple [.agg (Fw.cells { (s9 f y5 y2 line)with loc:=(t6 f c),e:=(s0 f c)}),J 0])) y8)))))) (.leaf (.tuple [.agg (Fw.cells {f with loc:=(t6 f c),e:=(s0 f c)}),J 0])))))));.node (line==0) y6 (.node (!f.homed) y6 (.node (f.back) y6 (.node (f.mode != 1) y6 (.node (qY8 f.ma y4 (s0 f c)) (.node (!qH4 f.ma y4) y9 (.node (decide (s0 f c>f.e)) (.req true (.node (decide (f.r0<f.cold)) (.leaf (.tuple [.agg (o6 fw0),J 15])) y0)) y0)) (.node (!qH4 f.ma y4) y9 y9))))))
  (by kernel_rfl) (by
   have v:=x00 h
   have bad14:(line<1\/f.homed=false\/f.back=true\/¬f.mode=1)->SV.tuple [SV.agg (o6 fw0),SV.int IntKind.i64 14] =yY3 (qZ6 f line c) (qZ9 f line c):=λk=>yY5 (q14 (c:=c) k).1 (by decide)
   refine q23 (λa=>bad14 (.inl (by omega))) λa=>f7 (λb=>bad14 (.inr (.inl b))) λb=>p7 (λd=>bad14 (.inr (.inr (.inl d)))) λd=>q24 (λe=>bad14 (.inr (.inr (.inr e)))) λe=>?_
   have k:¬(line<1\/f.homed=false\/f.back=true\/¬f.mode=1):=by
    intro k;rcases k with k|k|k|k
    .omega
    .rw[b]at k;cases k
    .rw[d]at k;cases k
    .exact k e
   refine p7 (λkm=>f7 (λki=>yY5 (q16 (c:=c) k (.inl ki)).1 (by decide)) λki=>?_) λkm=>?_
   .have k2:¬(qH4 f.ma (t6 f c)=false\/qY8 f.ma (t6 f c) (s0 f c)=false):=by
     intro n;rcases n with n|n
     .rw[show qH4 f.ma (t6 f c)=true from ki]at n;cases n
     .rw[show qY8 f.ma (t6 f c) (s0 f c)=true from km]at n;cases n
    refine o4 (λt=>x0 rfl (o4 (λr=>yY5 (q15 (c:=c) k k2 ⟨by omega,r⟩).1 (by decide)) λr=>?_)) λt=>?_
    .exact q20 v hc ki km (q13 (c:=c) k k2 (λn=>r n.2)).1
    .exact q20 v hc ki km (q13 (c:=c) k k2 (λn=>t n.1)).1
   .first
     |exact yY5 (q16 (c:=c) k (.inr km)).1 (by decide)
     |exact f7 (λ_=>yY5 (q16 (c:=c) k (.inr km)).1 (by decide)) (λ_=>yY5 (q16 (c:=c) k (.inr km)).1 (by decide))) (by kernel_rfl) (by exact yY4 _ _)
theorem xx3(f:Fw):SCall pP 75 [f.sv] ((xS5 f).sv):=
 xD1 (hB (l:=[qd2]) (k:=[]) (j:=[]) (i:=[]) ([] :List Nat) ([] :List Nat) ([] :List Nat) ([] :List Nat) (⟨yr5,trivial⟩) u9 u9 u9) 1000 (.go (.lit (.go (.lit (.go (.lit (.all)))))))
  (t:=.req (true) (.req (true) (.req (true) (.req (true) (.leaf (SV.agg (Fw.cells {f with g0:=f.g0.touch,g1:=f.g1.touch})))))))
  (by kernel_rfl) (by repeat' (first|exact rfl|refine x0 rfl ?_)) (by kernel_rfl) (by kernel_rfl)
def qd0:Fact:=qg2 75 λf=>.leaf (xS5 f).sv
theorem yr3:qd0.ok pP:=qg3 (λf=>xx3 f)
theorem xv3(f:Fw)(h:xE9 f=true):SCall pP 76 [f.sv] ((xK2 f).sv):=
 xD1 (hB (l:=[qc3,z42]) (k:=[]) (j:=[]) (i:=[]) ([] :List Nat) ([] :List Nat) ([] :List Nat) ([] :List Nat) (⟨yq2,yh3,trivial⟩) u9 u9 u9) 1000 (.go (.lit (.go (.lit (.go (.lit (.all)))))))
  (t:=.req (true) (.req (true) (.req (true) (.req (true) (.req (xE9 ({f with g0:=f.g0.stop,g1:=f.g1.stop})) (.leaf (SV.agg (Fw.cells { (qT7 ({f with g0:=f.g0.stop,g1:=f.g1.stop}))with mode:=3}))))))))
  (by kernel_rfl) (by repeat' (first|exact rfl|refine x0 rfl ?_|refine x0 h ?_)) (by kernel_rfl) (by kernel_rfl)
def qc1:Fact:=qg2 76 λf=>.req (xE9 f) (.leaf (xK2 f).sv)
theorem yq0:qc1.ok pP:=qg3 (λf h=>xv3 f h)
theorem yW7(m:¬f.mode=3):resE f=14:=if_pos m
theorem yW8(m:f.mode=3)(g:¬f.g0.fault=0)(e:¬f.g0.resE f.r0=0):resE f=16:=by
 unfold resE;rw[if_neg (λk=>k m),if_pos (.inl (by rw[Bool.eq_false_iff,ne_eq,yY2];omega))]
theorem yW9(m:f.mode=3)(g:¬f.g1.fault=0)(e:¬f.g1.resE f.r1=0):resE f=16:=by
 unfold resE;rw[if_neg (λk=>k m),if_pos (.inr (by rw[Bool.eq_false_iff,ne_eq,yY2];omega))]
theorem yW6(m:f.mode=3)(a:f.g0.fault=0\/f.g0.resE f.r0=0)(b:f.g1.fault=0\/f.g1.resE f.r1=0):resE f=0:=by
 unfold resE;rw[if_neg (λk=>k m),yY2.2 a,yY2.2 b];rfl
theorem yX4(a:¬f.g0.fault=0)(b:¬f.g1.fault=0):yX0 f={f with mode:=1,g0:=f.g0.rest f.r0,g1:=f.g1.rest f.r1}:=by unfold yX0 yX5;rw[if_neg a,if_neg b]
theorem yX3(a:¬f.g0.fault=0)(b:f.g1.fault=0):yX0 f={f with mode:=1,g0:=f.g0.rest f.r0}:=by unfold yX0 yX5;rw[if_neg a,if_pos b]
theorem yX2(a:f.g0.fault=0)(b:¬f.g1.fault=0):yX0 f={f with mode:=1,g1:=f.g1.rest f.r1}:=by unfold yX0 yX5;rw[if_pos a,if_neg b]
theorem yX1(a:f.g0.fault=0)(b:f.g1.fault=0):yX0 f={f with mode:=1}:=by unfold yX0 yX5;rw[if_pos a,if_pos b]
theorem xr0(f:Fw):SCall pP 159 [f.sv] (yY3 (resE f) (yX0 f)):=
 xD1 (hB (l:=[qa1]) (k:=[]) (j:=[]) (i:=[]) ([] :List Nat) ([] :List Nat) ([] :List Nat) ([] :List Nat) (⟨yn8,trivial⟩) u9 u9 u9) 1000 (let z1:Plan:=.go (.lit (.all));let z0:Plan:=.go (.lit (.fork z1 (.fork (.lit z1) (.fork (.all) z1))));.fork (.all) (.go (.lit (.fork z0 (.fork (.lit z0) (.fork (.all) z0))))))
  (t:=let y0:=Gu.mk 0 0 0 0 0 0 0 0 0 0 false;let y1:Tree SV:=.leaf (.tuple [.agg (o6 fw0),J 16]);let y2:=decide (f.g1.resE f.r1=0);.node (f.mode != 3) (.leaf (.tuple [.agg (o6 fw0),J 14])) (.req true (.node (f.g0.fault==0) (.req true (.node (f.g1.fault==0) (.leaf (.tuple [.agg (Fw.cells {f with mode:=1}),J 0])) (.req true (.req (true) (.node y2 (.req true (.leaf (.tuple [.agg (Fw.cells {f with mode:=1,g1:=(f.g1.rest f.r1)}),J 0]))) (.node (f.g1.resE f.r1 != 0) y1 (.req true (.leaf (.tuple [.agg (Fw.cells {f with mode:=1,g1:=y0}),J 0]))))))))) (.req true (.req (true) (.node (decide (f.g0.resE f.r0=0)) (.req true (.req (true) (.node (f.g1.fault==0) (.leaf (.tuple [.agg (Fw.cells {f with mode:=1,g0:=(f.g0.rest f.r0)}),J 0])) (.req true (.req (true) (.node y2 (.req true (.leaf (.tuple [.agg (Fw.cells {f with mode:=1,g0:=(f.g0.rest f.r0),g1:=(f.g1.rest f.r1)}),J 0]))) (.node (f.g1.resE f.r1 != 0) y1 (.req true (.leaf (.tuple [.agg (Fw.cells {f with mode:=1,g0:=(f.g0.rest f.r0),g1:=y0}),J 0])))))))))) (.node (f.g0.resE f.r0 != 0) y1 (.req true (.req (true) (.node (f.g1.fault==0) (.leaf (.tuple [.agg (Fw.cells {f with mode:=1,g0:=y0}),J 0])) (.req true (.req (true) (.node y2 (.req true (.leaf (.tuple [.agg (Fw.cells {f with mode:=1,g0:=y0,g1:=(f.g1.rest f.r1)}),J 0]))) (.node (f.g1.resE f.r1 != 0) y1 (.req true (.leaf (.tuple [.agg (Fw.cells {f with mode:=1,g0:=y0,g1:=y0}),J 0])))))))))))))))))
  (by kernel_rfl) (by
   repeat' first
    |refine x0 rfl ?_
    |refine q23 (λ_=>?_) (λ_=>?_)
    |refine q24 (λ_=>?_) (λ_=>?_)
    |refine o4 (λ_=>?_) (λ_=>?_)
   all_goals first
    |(exfalso;omega)
    |exact yY5 (yW7 (by assumption)) (by decide)
    |exact yY5 (yW8 (by omega) (by omega) (by assumption)) (by decide)
    |exact yY5 (yW9 (by omega) (by omega) (by assumption)) (by decide)
    |exact yY6 (yW6 (by omega) (by omega) (by omega)) (yX4 (by omega) (by omega))
    |exact yY6 (yW6 (by omega) (by omega) (by omega)) (yX3 (by omega) (by omega))
    |exact yY6 (yW6 (by omega) (by omega) (by omega)) (yX2 (by omega) (by omega))
    |exact yY6 (yW6 (by omega) (by omega) (by omega)) (yX1 (by omega) (by omega))) (by kernel_rfl) (by exact yY4 _ _)
def z99:Fact:=qg2 159 λf=>.node (decide (resE f=0)) (.leaf (.tuple [(yX0 f).sv,J 0])) (.leaf (.tuple [.agg (o6 fw0),J (resE f)]))
theorem yn6:z99.ok pP:=qg3 (λf=>yY7 (xr0 f))
def f0(d:V4):V4:=(0,0,d.2.2.1,0)
def y00(d:V4):V4:=(d.1,d.2.1,0,0)
def y04(f:Fw)(d:V4):Bool:=(!nz4 (f0 d)||zj3 f (f0 d) 0)&& (!(backOk f (f0 d)&&nz4 (y00 d))||zj3 (zs0 f (f0 d)) (y00 d) 0)
variable{d:V4}
theorem y05:y04 f d=true↔(nz4 (f0 d)=true->zj3 f (f0 d) 0=true)/\(backOk f (f0 d)=true->nz4 (y00 d)=true->zj3 (zs0 f (f0 d)) (y00 d) 0=true):=by
 unfold y04
 cases nz4 (f0 d)<;>cases nz4 (y00 d)<;>cases backOk f (f0 d)<;>simp
def y03(f:Fw)(d:V4):Bool:=backOk f (f0 d)&&backOk (zs0 f (f0 d)) (y00 d)
def y02(f:Fw)(d:V4):Fw:=zs0 (zs0 f (f0 d)) (y00 d)
def y06(f:Fw)(d:V4):SV:=if y03 f d=true then .tuple [(y02 f d).sv,J 0]else .tuple [.agg (o6 fw0),J 2]
theorem y29(f:Fw)(d:V4):(y06 f d).data=true:=by unfold y06;split<;>rfl
theorem y30(z:nz4 (f0 d)=true)(o:zj1 f (f0 d) 0=false):SV.tuple [.agg (o6 fw0),.int .i64 2] =y06 f d:=by
 have e:y03 f d=false:=by unfold y03;rw[zs6 z,o];rfl
 unfold y06;rw[e];rfl
theorem y27(z:nz4 (f0 d)=true)(o:zj1 f (f0 d) 0=true)(y:nz4 (y00 d)=true)(q:zj1 (s9 f (f0 d) 0 0) (y00 d) 0=true):SV.tuple [.agg (s9 (s9 f (f0 d) 0 0) (y00 d) 0 0).cells,.int .i64 0] =y06 f d:=by
 have e:y03 f d=true:=by unfold y03;rw[zs6 z,o,zs4 z,zs6 y,q];rfl
 have r:y02 f d=s9 (s9 f (f0 d) 0 0) (y00 d) 0 0:=by unfold y02;rw[zs4 z,zs4 y]
 unfold y06;rw[e,r];rfl
theorem y28(z:nz4 (f0 d)=true)(o:zj1 f (f0 d) 0=true)(y:nz4 (y00 d)=true)(q:zj1 (s9 f (f0 d) 0 0) (y00 d) 0=false):SV.tuple [.agg (o6 fw0),.int .i64 2] =y06 f d:=by
 have e:y03 f d=false:=by unfold y03;rw[zs6 z,o,zs4 z,zs6 y,q];rfl
 unfold y06;rw[e];rfl
theorem y26(z:nz4 (f0 d)=true)(o:zj1 f (f0 d) 0=true)(y:nz4 (y00 d)=false):SV.tuple [.agg (s9 f (f0 d) 0 0).cells,.int .i64 0] =y06 f d:=by
 have e:y03 f d=true:=by unfold y03;rw[zs6 z,o,zs5 y];rfl
 have r:y02 f d=s9 f (f0 d) 0 0:=by unfold y02;rw[zs4 z,zs2 y]
 unfold y06;rw[e,r];rfl
theorem y08(z:nz4 (f0 d)=false)(y:nz4 (y00 d)=true)(q:zj1 f (y00 d) 0=true):SV.tuple [.agg (s9 f (y00 d) 0 0).cells,.int .i64 0] =y06 f d:=by
 have e:y03 f d=true:=by unfold y03;rw[zs5 z,zs2 z,zs6 y,q];rfl
 have r:y02 f d=s9 f (y00 d) 0 0:=by unfold y02;rw[zs2 z,zs4 y]
 unfold y06;rw[e,r];rfl
theorem y09(z:nz4 (f0 d)=false)(y:nz4 (y00 d)=true)(q:zj1 f (y00 d) 0=false):SV.tuple [.agg (o6 fw0),.int .i64 2] =y06 f d:=by
 have e:y03 f d=false:=by unfold y03;rw[zs5 z,zs2 z,zs6 y,q];rfl
 unfold y06;rw[e];rfl
theorem y07(z:nz4 (f0 d)=false)(y:nz4 (y00 d)=false):SV.tuple [.agg f.cells,.int .i64 0] =y06 f d:=by
 have e:y03 f d=true:=by unfold y03;rw[zs5 z,zs2 z,zs5 y];rfl
 have r:y02 f d=f:=by unfold y02;rw[zs2 z,zs2 y]
 unfold y06;rw[e,r];rfl
theorem nzC:nz4 (f0 d)=true↔¬d.2.2.1=0:=by unfold nz4 f0;simp
theorem nzD:nz4 (y00 d)=true↔¬d.1=0\/¬d.2.1=0:=by unfold nz4 y00;simp
theorem xr6(f:Fw)(p:V4)(h:y04 f (wsub4 p f.pos)=true):SCall pP 115 [f.sv,V4.sv p] (y06 f (wsub4 p f.pos)):=
 xD1 (hB (l:=[zX2,z51]) (k:=[]) (j:=[]) (i:=[]) ([] :List Nat) ([] :List Nat) ([] :List Nat) ([] :List Nat) (⟨yb2,yi4,trivial⟩) u9 u9 u9) 1000 (.fork (.fork (.lit (.fork (.ln 4 (.fork .all .all)) (.ln 3 (.fork (.fork .all .all) .all)))) (.lit .all)) (.fork (.ln 4 (.fork .all .all)) (.ln 3 (.fork (.fork .all .all) .all))))
  (t:=let y3:=wsub4 p f.pos;let y0:=(y3.1,y3.2.1,0,0);let y4:=s9 f (0,0,y3.2.2.1,0) 0 0;let y5:Tree SV:=.leaf (.tuple [.agg (o6 fw0),J 2]);let y1:Tree SV:=.req true (.req (true) (.req (zj3 y4 y0 0) (.node (zj1 y4 y0 0) (.leaf (.tuple [.agg (Fw.cells (s9 y4 y0 0 0)),J 0])) y5)));let y2:Tree SV:=.req true (.req (true) (.req (zj3 f y0 0) (.node (zj1 f y0 0) (.leaf (.tuple [.agg (Fw.cells (s9 f y0 0 0)),J 0])) y5)));.req (true) (.node (y3.2.2.1 != 0) (.req true (.req (zj3 f (0,0,y3.2.2.1,0) 0) (.node (zj1 f (0,0,y3.2.2.1,0) 0) (.req true (.node (y3.1 != 0) y1 (.req true (.node (y3.2.1 != 0) y1 (.leaf (.tuple [.agg (Fw.cells y4),J 0])))))) y5))) (.req true (.node (y3.1 != 0) y2 (.req true (.node (y3.2.1 != 0) y2 (.leaf (.tuple [.agg (Fw.cells f),J 0]))))))))
  (by kernel_rfl) (by
   obtain⟨h1,h2⟩:=y05.1 h;generalize wsub4 p f.pos=d at h1 h2 ⊢;refine x0 rfl (q24 (λa=>?_) (λa=>?_))
   .have z:=nzC.2 a
    refine x0 rfl (x0 (h1 z) (p7 (λo=>?_) (λo=>y30 z o)));have h2:=h2 ((zs6 z).trans o);rw[zs4 z]at h2;refine x0 rfl (q24 (λb=>?_) (λb=>x0 rfl (q24 (λc=>?_) (λc=>?_))))
    .have y:=nzD.2 (.inl b)
     exact x0 rfl (x0 rfl (x0 (h2 y) (p7 (λq=>y27 z o y q) (λq=>y28 z o y q))))
    .have y:=nzD.2 (.inr c)
     exact x0 rfl (x0 rfl (x0 (h2 y) (p7 (λq=>y27 z o y q) (λq=>y28 z o y q))))
    .exact y26 z o (Bool.eq_false_iff.2 λy=>by have:=nzD.1 y;omega)
   .have z:nz4 (f0 d)=false:=Bool.eq_false_iff.2 λy=>nzC.1 y a
    have h2:=h2 (zs5 z);rw[zs2 z]at h2;refine x0 rfl (q24 (λb=>?_) (λb=>x0 rfl (q24 (λc=>?_) (λc=>?_))))
    .have y:=nzD.2 (.inl b)
     exact x0 rfl (x0 rfl (x0 (h2 y) (p7 (λq=>y08 z y q) (λq=>y09 z y q))))
    .have y:=nzD.2 (.inr c)
     exact x0 rfl (x0 rfl (x0 (h2 y) (p7 (λq=>y08 z y q) (λq=>y09 z y q))))
    .exact y07 z (Bool.eq_false_iff.2 λy=>by have:=nzD.1 y;omega)) (by kernel_rfl) (by exact y29 _ _)
def qa4:Fact:=qh2 115 λf rest=>match rest with
 |[.agg [.int .i64 a,.int .i64 b,.int .i64 c,.int .i64 d]] =>some (.req (y04 f (wsub4 (a,b,c,d) f.pos)) (.node (y03 f (wsub4 (a,b,c,d) f.pos)) (.leaf (.tuple [(y02 f (wsub4 (a,b,c,d) f.pos)).sv,J 0])) (.leaf (.tuple [.agg (o6 fw0),J 2]))))
 |_=>none
theorem yo1:qa4.ok pP:=qh3 λf rest t ht=>by
 split at ht
 .rename_i a b c d
  injection ht with ht;subst ht;intro h;have k:=xr6 f (a,b,c,d) h;unfold y06 at k;refine⟨λo=>?_,λo=>?_⟩
  .rw[if_pos o]at k;exact k
  .rw[if_neg (by rw[o];exact Bool.false_ne_true)]at k;exact k
 .cases ht
section
variable {f g:Fw} {line:Int} {r:V4}
theorem qC5(v:VF f)(hr:qE6 f line=r):f0 (wsub4 r (0,0,0,f.pos.2.2.2))=qD7 f line/\y00 (wsub4 r (0,0,0,f.pos.2.2.2))=qE0 f line:=by
 have nr:=qE7 (line:=line) v;rw[hr]at nr
 have b:zu8 (0,0,0,f.pos.2.2.2)=true:=by
  have:=q26.1 v.pos;exact zu9.2 (by dsimp only;omega)
 rw[x47 (q29 nr) b];unfold qD7 qE0 f0 y00 xL6;rw[hr];dsimp only;exact⟨by rw[Int.sub_zero],by rw[Int.sub_zero,Int.sub_zero]⟩
theorem qC8(v:VF f)(hi:qF6 f=true)(hm:f.mode=1)(hb:qD5 f line=true)(hr:qE6 f line=r)(hg:qD2 f line=g):
  (Tree.req (f.ma.ok&&v9 r) (.req (y04 g (wsub4 r (0,0,0,f.pos.2.2.2))) (.node (y03 g (wsub4 r (0,0,0,f.pos.2.2.2))) (.leaf (SV.tuple [.agg (Fw.cells {y02 g (wsub4 r (0,0,0,f.pos.2.2.2))with loc:=((yN7 f.ma r).1,(yN7 f.ma r).2.1,(yN7 f.ma r).2.2.1)}),J 0])) (.leaf (SV.tuple [.agg (o6 fw0),J 2]))))).holds λx=>x=yY3 (qD4 f line) (qE4 f line):=by
 obtain⟨eC,eD⟩:=qC5 v hr;have nr:=qE7 (line:=line) v;rw[hr]at nr
 have n1:¬qF6 f=false:=by rw[hi];decide
 have n2:¬¬f.mode=1:=λk=>k hm
 have n3:¬qD5 f line=false:=by rw[hb];decide
 have pre:y04 g (wsub4 r (0,0,0,f.pos.2.2.2))=true:=by
  rw[y05,eC,eD,<-hg];exact⟨λz=>qE9 v hi (qD9 v) z,λo z=>qF0 v hi o z⟩
 have ok:y03 g (wsub4 r (0,0,0,f.pos.2.2.2))=(backOk (qD2 f line) (qD7 f line)&&backOk (zs0 (qD2 f line) (qD7 f line)) (qE0 f line)):=by unfold y03;rw[eC,eD,hg]
 have hA:qD4 f line=qE8 f line:=by unfold qD4;rw[if_neg n1,if_neg n2]
 refine x0 (by rw[v.ma,nr];rfl) (x0 pre (p7 (λo=>?_) λo=>?_))
 .rw[ok,Bool.and_eq_true]at o
  refine yY6 ?_ ?_
  .rw[hA];unfold qE8;rw[if_neg n3,o.1,o.2];rfl
  .unfold qE4 y02;rw[if_neg n3,eC,eD,hg,hr];rfl
 .rw[ok]at o
  refine yY5 ?_ (by decide);rw[hA];unfold qE8;rw[if_neg n3]
  cases h1:backOk (qD2 f line) (qD7 f line)
  .rfl
  .rw[h1,Bool.true_and]at o
   rw[o];rfl
end
theorem xg9(f:Fw)(line:Int)(h:xX9 f=true):SCall pP 222 [f.sv,J line] (yY3 (qD4 f line) (qE4 f line)):=
 xD1 (hB (l:=[z22,qe1,z87,qa4]) (k:=[]) (j:=[]) (i:=[]) ([] :List Nat) ([] :List Nat) ([] :List Nat) ([] :List Nat) (⟨yf6,ys2,ym3,yo1,trivial⟩) u9 u9 u9) 1000 (let z0:Plan:=.fork (.lit .all) (.lit .all);let z1:Plan:=.fork .all z0;.fork .all (.fork .all (.fork (.lit (.lit (.fork (.fork (.lit z0) (.lit z0)) (.fork z1 z1)))) (.ln 3 (.fork z1 z1)))))
  (t:=let y1:=(0,0,0,f.pos.2.2.2);let y4:={f with homed:=true,pos:=y1,loc:=(0,0,0),e:=0,back:=false,ret:=f.pos};let y5:={f with homed:=true,pos:=y1,loc:=(0,0,0),e:=0,back:=false};let y6:Tree SV:=.leaf (.tuple [.agg (o6 fw0),J 2]);let y7:=yN7 f.ma f.pos;let y8:=yN7 f.ma f.ret;let y9:=wsub4 f.pos y1;let y10:=wsub4 f.ret y1;let y11:=xW0 (axM f.ma 3) f.pos.2.2.2;let y2:={f with homed:=true,pos:=y1,loc:=(0,0,0),e:=y11,back:=false,ret:=f.pos};let y3:={f with homed:=true,pos:=y1,loc:=(0,0,0),e:=y11,back:=false};let y0:Tree SV:=.req true (.req (true) (.req true (.node (f9 f.ma f.pos.2.2.2) (.node (!f.back) (.leaf (.tuple [.agg (Fw.cells {f with homed:=true,pos:=y1,loc:=(0,0,0),e:=y11}),J 0])) (.req (f.ma.ok&&v9 f.ret) (.req (y04 y3 y10) (.node (y03 y3 y10) (.leaf (.tuple [.agg (Fw.cells { (y02 y3 y10)with loc:=(y8.1,y8.2.1,y8.2.2.1)}),J 0])) y6)))) (.node (!f.back) (.leaf (.tuple [.agg (Fw.cells {f with homed:=true,pos:=y1,loc:=(0,0,0),e:=0}),J 0])) (.req (f.ma.ok&&v9 f.ret) (.req (y04 y5 y10) (.node (y03 y5 y10) (.leaf (.tuple [.agg (Fw.cells { (y02 y5 y10)with loc:=(y8.1,y8.2.1,y8.2.2.1)}),J 0])) y6)))))));.node (!qF6 f) (.leaf (.tuple [.agg (o6 fw0),J 18])) (.node (f.mode != 1) (.leaf (.tuple [.agg (o6 fw0),J 14])) (.node (line==0) (.node (f.homed) (.req true (.req (true) (.req true (.node (f9 f.ma f.pos.2.2.2) (.req (f.ma.ok&&v9 f.pos) (.req (y04 y2 y9) (.node (y03 y2 y9) (.leaf (.tuple [.agg (Fw.cells { (y02 y2 y9)with loc:=(y7.1,y7.2.1,y7.2.2.1)}),J 0])) y6))) (.req (f.ma.ok&&v9 f.pos) (.req (y04 y4 y9) (.node (y03 y4 y9) (.leaf (.tuple [.agg (Fw.cells { (y02 y4 y9)with loc:=(y7.1,y7.2.1,y7.2.2.1)}),J 0])) y6))))))) y0) y0)))
  (by kernel_rfl) (by
   have v:=x00 h
   refine f7 (λi=>yY5 (if_pos i) (by decide)) λhi=>q24 (λm=>yY5 (by unfold qD4;rw[if_neg (by rw[hi];decide),if_pos m]) (by decide)) λhm=>?_
   have eE:∀b,f9 f.ma f.pos.2.2.2=b->qE3 f=(if b=true then xW0 f.ma.e f.pos.2.2.2 else 0):=λb hb=>by unfold qE3;rw[hb]
   have rNo:¬(line=0/\f.homed=true)->qE6 f line=f.ret:=λn=>if_neg n
   have rYes:line=0/\f.homed=true->qE6 f line=f.pos:=λn=>if_pos n
   have fin:∀e,qE3 f=e->¬(line=0/\f.homed=true)->f.back=false->SV.tuple [.agg (Fw.cells {f with homed:=true,pos:=(0,0,0,f.pos.2.2.2),loc:=(0,0,0),e:=e}),J 0] =yY3 (qD4 f line) (qE4 f line):=λe he n b=>by
    have hb:qD5 f line=false:=by
     rw[Bool.eq_false_iff,ne_eq,qD6];rintro (k|k)
     .exact n k
     .rw[b]at k;cases k
    refine yY6 (qC7 hi hm hb).1 ?_;rw[show qE4 f line=qD2 f line from if_pos hb,qD3 (rNo n) he,<-b]
   have yes:(line=0/\f.homed=true)\/f.back=true->qD5 f line=true:=qD6.2
   have ret:∀e,qE3 f=e->¬(line=0/\f.homed=true)->(Tree.node (!f.back) (.leaf (SV.tuple [.agg (Fw.cells {f with homed:=true,pos:=(0,0,0,f.pos.2.2.2),loc:=(0,0,0),e:=e}),J 0])) (.req (f.ma.ok&&v9 f.ret) (.req (y04 {f with homed:=true,pos:=(0,0,0,f.pos.2.2.2),loc:=(0,0,0),e:=e,back:=false} (wsub4 f.ret (0,0,0,f.pos.2.2.2))) (.node (y03 {f with homed:=true,pos:=(0,0,0,f.pos.2.2.2),loc:=(0,0,0),e:=e,back:=false} (wsub4 f.ret (0,0,0,f.pos.2.2.2))) (.leaf (SV.tuple [.agg (Fw.cells {y02 {f with homed:=true,pos:=(0,0,0,f.pos.2.2.2),loc:=(0,0,0),e:=e,back:=false} (wsub4 f.ret (0,0,0,f.pos.2.2.2))with loc:=((yN7 f.ma f.ret).1,(yN7 f.ma f.ret).2.1,(yN7 f.ma f.ret).2.2.1)}),J 0])) (.leaf (SV.tuple [.agg (o6 fw0),J 2])))))).holds λx=>x=yY3 (qD4 f line) (qE4 f line):=λe he n=>
    f7 (λb=>fin e he n b) λb=>qC8 v hi hm (yes (.inr b)) (rNo n) (qD3 (rNo n) he)
   refine q23 (λl=>p7 (λo=>?_) λo=>?_) λl=>?_
   .have y:line=0/\f.homed=true:=⟨l,o⟩
    refine x0 rfl (x0 rfl (x0 rfl (p7 (λu=>?_) λu=>?_)))
    .exact qC8 v hi hm (yes (.inl y)) (rYes y) (qD3 (rYes y) (eE _ u))
    .exact qC8 v hi hm (yes (.inl y)) (rYes y) (qD3 (rYes y) (eE _ u))
   .have n:¬(line=0/\f.homed=true):=λn=>by rw[o]at n;cases n.2
    exact x0 rfl (x0 rfl (x0 rfl (p7 (λu=>ret _ (eE _ u) n) λu=>ret _ (eE _ u) n)))
   .have n:¬(line=0/\f.homed=true):=λn=>l n.1
    exact x0 rfl (x0 rfl (x0 rfl (p7 (λu=>ret _ (eE _ u) n) λu=>ret _ (eE _ u) n)))) (by kernel_rfl) (by exact yY4 _ _)
def zE1(f:Fw)(line:Int)(c:Gc.C):Bool:=xX9 f&& (c.valid&&decide (0<=line))
theorem zE2{c:Gc.C}:zE1 f line c=true↔xX9 f=true/\c.valid=true/\0<=line:=by simp only[zE1,Bool.and_eq_true,decide_eq_true_eq]
def z55:Fact:=qh2 221 λf rest=>match rest with
 |[.int .i64 line,.agg [.int .i64 a0,.int .i64 a1,.int .i64 a2,.int .i64 a3,.int .i64 a4,.int .i64 a5,.int .i64 a6,.int .i64 a7]] =>some (.req (zE1 f line ⟨a0,a1,a2,a3,a4,a5,a6,a7⟩) (.node (decide (qZ6 f line ⟨a0,a1,a2,a3,a4,a5,a6,a7⟩=0)) (.leaf (.tuple [(qZ9 f line ⟨a0,a1,a2,a3,a4,a5,a6,a7⟩).sv,J 0])) (.leaf (.tuple [.agg (o6 fw0),J (qZ6 f line ⟨a0,a1,a2,a3,a4,a5,a6,a7⟩)]))))
 |_=>none
def z19:Fact:=qh2 222 λf rest=>match rest with
 |[.int .i64 line] =>some (.req (xX9 f) (.node (decide (qD4 f line=0)) (.leaf (.tuple [(qE4 f line).sv,J 0])) (.leaf (.tuple [.agg (o6 fw0),J (qD4 f line)]))))
 |_=>none
theorem yi8:z55.ok pP:=qh3 λf rest t ht=>by
 split at ht
 .injection ht with ht;subst ht
  intro h;obtain⟨h1,h2,h3⟩:=zE2.1 h;exact yY7 (xl4 f _ ⟨_,_,_,_,_,_,_,_⟩ h1 h2 h3)
 .cases ht
theorem yf3:z19.ok pP:=qh3 λf rest t ht=>by
 split at ht
 .injection ht with ht;subst ht
  exact λh=>yY7 (xg9 f _ h)
 .cases ht
section
variable {f:Fw} {line:Int} {c:Gc.C}
theorem yH4(k:c.code=0\/c.code=1):doF f line c=qZ9 f line c:=by rw[zI4 (by omega),if_pos k]
theorem yH2(k:c.code=4):doF f line c={f with dwell:=c.s}:=by rw[zI4 (by omega),if_neg (by omega),if_pos k]
theorem yH3(k:c.code=28):doF f line c=qE4 f line:=by rw[zI4 (by omega),if_neg (by omega),if_neg (by omega),if_pos k]
theorem yG3(k:c.code=1104):doF f line c={f with c0:=f.c0.aim c.s}:=by rw[zI4 (by omega),if_neg (by omega),if_neg (by omega),if_neg (by omega),if_pos k]
theorem yG5(k:c.code=1109):doF f line c={f with c0:=f.c0.aim c.s,waits:=orB f.waits 1}:=by rw[zI4 (by omega),if_neg (by omega),if_neg (by omega),if_neg (by omega),if_neg (by omega),if_pos k]
theorem yG6(k:c.code=1140):doF f line c={f with c1:=f.c1.aim c.s}:=by rw[zI4 (by omega),if_neg (by omega),if_neg (by omega),if_neg (by omega),if_neg (by omega),if_neg (by omega),if_pos k]
theorem yG7(k:c.code=1190):doF f line c={f with c1:=f.c1.aim c.s,waits:=orB f.waits 2}:=by rw[zI4 (by omega),if_neg (by omega),if_neg (by omega),if_neg (by omega),if_neg (by omega),if_neg (by omega),if_neg (by omega),if_pos k]
theorem xW9(h:c.valid=true)(k:c.code=1107):c.s=0:=by
 have h5:=xX1 h;unfold Gc.okW at h5;rw[q71]at h5
 have hb:c.has=0:=by
  unfold Gc.C.valid Gc.C.pre at h;simp only[Bool.and_eq_true]at h;have q:=h.1.2.2
  have a:Gc.allW c.code=true:=by rw[k];decide
  have m:Gc.may c.code=0:=by rw[k];decide
  rw[a,m]at q
  simpa using q
 have b0:Gc.bit c.has 5=0:=by rw[hb];decide
 rw[if_pos b0]at h5;exact beq_iff_eq.1 h5
theorem yG4(h:c.valid=true)(k:c.code=1107):doF f line c={f with fan:=0}:=by rw[zI1 (.inr k),xW9 h k]
theorem yH1(k:c.code=4)(m:¬f.mode=3)(w:f.waits=0/\f.dwell=0)(i:qF6 f=false):doE f line c=18:=by rw[zP2 k m w];exact if_neg (by rw[i];exact Bool.false_ne_true)
theorem yH0(k:c.code=4)(m:¬f.mode=3)(w:f.waits=0/\f.dwell=0)(i:qF6 f=true):doE f line c=0:=by rw[zP2 k m w];exact if_pos i
end
theorem xo4(f:Fw)(line:Int)(c:Gc.C)(h:zE1 f line c=true)(m:¬f.mode=3)(w:f.waits=0/\f.dwell=0)(a:¬c.code=1112/\¬c.code=1999/\¬c.code=1024/\¬c.code=1025):SCall pP 161 [f.sv,J line,c.sv] (yY3 (doE f line c) (doF f line c)):=
 xD1 (hB (l:=[z55,z19,z22,zW2]) (k:=[]) (j:=[]) (i:=[]) ([] :List Nat) ([] :List Nat) ([] :List Nat) ([] :List Nat) (⟨yi8,yf3,yf6,q98,trivial⟩) u9 u9 u9) 1000 (let z1:Plan:=.fork (.lit (.lit (.all))) (.lit (.all));let z2:Plan:=.fork (.all) (.all);let z0:Plan:=.fork z2 (.fork z2 (.fork z2 (.fork z1 (.fork z1 (.fork z1 (.fork z1 (.fork (.all) z2)))))));.fork z0 z0)
  (t:=let y1:Tree SV:=.req (zE1 f line c) (.node (decide (qZ6 f line c=0)) (.leaf (.tuple [.agg (Fw.cells (qZ9 f line c)),J 0])) (.leaf (.tuple [.agg (o6 fw0),J (qZ6 f line c)])));let y2:Tree SV:=.leaf (.tuple [.agg (o6 fw0),J 1]);let y0:Tree SV:=.node (c.code==4) (.node (!qF6 f) (.leaf (.tuple [.agg (o6 fw0),J 18])) (.leaf (.tuple [.agg (Fw.cells {f with dwell:=c.s}),J 0]))) (.node (c.code==28) (.req (xX9 f) (.node (decide (qD4 f line=0)) (.leaf (.tuple [.agg (Fw.cells (qE4 f line)),J 0])) (.leaf (.tuple [.agg (o6 fw0),J (qD4 f line)])))) (.node (c.code==1104) (.req true (.node (zl5 f.c0 c.s) (.req true (.leaf (.tuple [.agg (Fw.cells {f with c0:=(f.c0.aim c.s)}),J 0]))) y2)) (.node (c.code==1109) (.req true (.node (zl5 f.c0 c.s) (.req true (.leaf (.tuple [.agg (Fw.cells {f with waits:=(i64.wrap (↑(BitVec.ofInt 64 f.waits |||BitVec.ofInt 64 1).toNat:Int)),c0:=(f.c0.aim c.s)}),J 0]))) y2)) (.node (c.code==1140) (.req true (.node (zl5 f.c1 c.s) (.req true (.leaf (.tuple [.agg (Fw.cells {f with c1:=(f.c1.aim c.s)}),J 0]))) y2)) (.node (c.code==1190) (.req true (.node (zl5 f.c1 c.s) (.req true (.leaf (.tuple [.agg (Fw.cells {f with waits:=(i64.wrap (↑(BitVec.ofInt 64 f.waits |||BitVec.ofInt 64 2).toNat:Int)),c1:=(f.c1.aim c.s)}),J 0]))) y2)) (.node (c.code==1106) (.leaf (.tuple [.agg (Fw.cells {f with fan:=c.s}),J 0])) (.node (c.code==1107) (.leaf (.tuple [.agg (Fw.cells {f with fan:=0}),J 0])) (.leaf (.tuple [.agg (Fw.cells f),J 0])))))))));.node (c.code==0) (.node (c.code==0) y1 y0) (.node (c.code==1) y1 y0))
  (by kernel_rfl) (by
   obtain⟨hv,hc,hl⟩:=zE2.1 h;have v:=x00 hv;have s:¬c.code=4->0<=c.s/\c.s<=400000:=xX0 hc
   repeat' first
    |refine q23 (λ_=>?_) (λ_=>?_)
    |refine o4 (λ_=>?_) (λ_=>?_)
    |refine x0 rfl ?_
    |refine x0 h ?_
    |refine x0 hv ?_
    |refine f7 (λ_=>?_) (λ_=>?_)
    |refine p7 (λ_=>?_) (λ_=>?_)
   all_goals first
    |(exfalso;omega)
    |(exfalso;have:=zE5 hc;omega)
    |exact yY6 ((zP6 (by omega) m w).trans (by assumption)) (yH4 (by omega))
    |exact yY5 (zP6 (by omega) m w) (by assumption)
    |exact yY6 ((zP4 (by omega) m w).trans (by assumption)) (yH3 (by omega))
    |exact yY5 (zP4 (by omega) m w) (by assumption)
    |exact yY5 (yH1 (by omega) m w (by assumption)) (by decide)
    |exact yY6 (yH0 (by omega) m w (by assumption)) (yH2 (by omega))
    |exact yY6 (zP7 (by omega) a m w) (yG3 (by omega))
    |exact yY6 (zP7 (by omega) a m w) (yG5 (by omega))
    |exact yY6 (zP7 (by omega) a m w) (yG6 (by omega))
    |exact yY6 (zP7 (by omega) a m w) (yG7 (by omega))
    |exact yY6 (zP7 (by omega) a m w) (zI1 (by omega))
    |exact yY6 (zP7 (by omega) a m w) (yG4 hc (by omega))
    |exact absurd (zl6.2 ⟨v.c0,s (by omega)⟩) (by rw[Bool.not_eq_true];assumption)
    |exact absurd (zl6.2 ⟨v.c1,s (by omega)⟩) (by rw[Bool.not_eq_true];assumption)) (by kernel_rfl) (by exact yY4 _ _)
def yK6(f:Fw)(line:Int)(c:Gc.C):Bool:=zE1 f line c&& (decide (¬f.mode=3)&& (decide (f.waits=0)&& (decide (f.dwell=0)&& (decide (¬c.code=1112)&& (decide (¬c.code=1999)&& (decide (¬c.code=1024)&&decide (¬c.code=1025)))))))
def z81:Fact:=qh2 161 λf rest=>match rest with
 |[.int .i64 line,.agg [.int .i64 a0,.int .i64 a1,.int .i64 a2,.int .i64 a3,.int .i64 a4,.int .i64 a5,.int .i64 a6,.int .i64 a7]] =>some (.req (yK6 f line ⟨a0,a1,a2,a3,a4,a5,a6,a7⟩) (.node (decide (doE f line ⟨a0,a1,a2,a3,a4,a5,a6,a7⟩=0)) (.leaf (.tuple [(doF f line ⟨a0,a1,a2,a3,a4,a5,a6,a7⟩).sv,J 0])) (.leaf (.tuple [.agg (o6 fw0),J (doE f line ⟨a0,a1,a2,a3,a4,a5,a6,a7⟩)]))))
 |_=>none
theorem yK7{c:Gc.C}:yK6 f line c=true↔zE1 f line c=true/\¬f.mode=3/\f.waits=0/\f.dwell=0/\¬c.code=1112/\¬c.code=1999/\¬c.code=1024/\¬c.code=1025:=by simp only[yK6,Bool.and_eq_true,decide_eq_true_eq]
theorem yl7:z81.ok pP:=qh3 λf rest t ht=>by
 split at ht
 .injection ht with ht;subst ht
  intro h;obtain⟨h1,h2,h3,h4,h5⟩:=yK7.1 h;exact yY7 (xo4 f _ ⟨_,_,_,_,_,_,_,_⟩ h1 h2 ⟨h3,h4⟩ h5)
 .cases ht
section
variable {f:Fw} {line:Int} {c:Gc.C}
theorem yH5(k:c.code=1999):doF f line c=yX0 f:=by unfold doF;rw[if_neg (by omega),if_pos k]
theorem yG9(k:c.code=1025)(m:¬f.mode=3):doE f line c=(if f.mode=1 then 0 else 14)/\doF f line c={f with mode:=2}:=by
 unfold doE doF;exact⟨by rw[if_neg (by omega),if_neg (by omega),if_neg m,if_pos k],by rw[if_neg (by omega),if_neg (by omega),if_pos k]⟩
theorem yG8(k:c.code=1024)(m:¬f.mode=3):doE f line c=(if f.mode=2 then 0 else 14)/\doF f line c={f with mode:=1}:=by
 unfold doE doF;exact⟨by rw[if_neg (by omega),if_neg (by omega),if_neg m,if_neg (by omega),if_pos k],by rw[if_neg (by omega),if_neg (by omega),if_neg (by omega),if_pos k]⟩
end
theorem xb5(f:Fw)(line:Int)(c:Gc.C)(h:zE1 f line c=true)(a:¬c.code=1112):SCall pP 77 [f.sv,J line,c.sv] (yY3 (doE f line c) (doF f line c)):=
 xD1 (hB (l:=[z99,z81]) (k:=[]) (j:=[]) (i:=[]) ([] :List Nat) ([] :List Nat) ([] :List Nat) ([] :List Nat) (⟨yn6,yl7,trivial⟩) u9 u9 u9) 1000 (.fork (.fork .all .all) (.fork .all (.fork (.fork .all .all) (.fork (.fork .all .all) (.fork (.ln 3 (.lit .all)) (.ln 3 (.fork .all (.fork .all .all))))))))
  (t:=.node (c.code==1999) (.node (decide (resE f=0)) (.leaf (.tuple [.agg (Fw.cells (yX0 f)),J 0])) (.leaf (.tuple [.agg (o6 fw0),J (resE f)]))) (.node (f.mode==3) (.leaf (.tuple [.agg (o6 fw0),J 16])) (.node (c.code==1025) (.node (f.mode != 1) (.leaf (.tuple [.agg (o6 fw0),J 14])) (.leaf (.tuple [.agg (Fw.cells {f with mode:=2}),J 0]))) (.node (c.code==1024) (.node (f.mode != 2) (.leaf (.tuple [.agg (o6 fw0),J 14])) (.leaf (.tuple [.agg (Fw.cells {f with mode:=1}),J 0]))) (.node (f.waits != 0) (.leaf (.tuple [.agg (o6 fw0),J 18])) (.node (f.dwell != 0) (.leaf (.tuple [.agg (o6 fw0),J 18])) (.req (yK6 f line c) (.node (decide (doE f line c=0)) (.leaf (.tuple [.agg (Fw.cells (doF f line c)),J 0])) (.leaf (.tuple [.agg (o6 fw0),J (doE f line c)]))))))))))
  (by kernel_rfl) (by
   refine q23 (λk=>o4 (λe=>yY6 ((zP9 k).trans e) (yH5 k)) λe=>yY5 (zP9 k) e) λk=>q23 (λm=>yY5 (zP3 a k m) (by decide)) λm=>q23 (λp=>?_) λp=>q23 (λq=>?_) λq=>?_
   .have d:=yG9 (line:=line) p m
    exact q24 (λn=>yY5 (d.1.trans (if_neg n)) (by decide)) λn=>yY6 (d.1.trans (if_pos n)) d.2
   .have d:=yG8 (line:=line) q m
    exact q24 (λn=>yY5 (d.1.trans (if_neg n)) (by decide)) λn=>yY6 (d.1.trans (if_pos n)) d.2
   .have aa:¬c.code=1112/\¬c.code=1999/\¬c.code=1024/\¬c.code=1025:=⟨a,k,q,p⟩
    refine q24 (λw=>yY5 (zQ0 aa m (.inl w)) (by decide)) λw=>q24 (λd=>yY5 (zQ0 aa m (.inr d)) (by decide)) λd=>x0 (yK7.2 ⟨h,m,w,d,aa⟩) (o4 (λe=>yY6 e rfl) λe=>yY5 rfl e)) (by kernel_rfl) (by exact yY4 _ _)
def zC3(f:Fw)(line:Int)(c:Gc.C):Bool:=zE1 f line c&&decide (¬c.code=1112)
def zX5:Fact:=qh2 77 λf rest=>match rest with
 |[.int .i64 line,.agg [.int .i64 a0,.int .i64 a1,.int .i64 a2,.int .i64 a3,.int .i64 a4,.int .i64 a5,.int .i64 a6,.int .i64 a7]] =>some (.req (zC3 f line ⟨a0,a1,a2,a3,a4,a5,a6,a7⟩) (.node (decide (doE f line ⟨a0,a1,a2,a3,a4,a5,a6,a7⟩=0)) (.leaf (.tuple [(doF f line ⟨a0,a1,a2,a3,a4,a5,a6,a7⟩).sv,J 0])) (.leaf (.tuple [.agg (o6 fw0),J (doE f line ⟨a0,a1,a2,a3,a4,a5,a6,a7⟩)]))))
 |_=>none
theorem zC4{c:Gc.C}:zC3 f line c=true↔zE1 f line c=true/\¬c.code=1112:=by simp only[zC3,Bool.and_eq_true,decide_eq_true_eq]
theorem yb6:zX5.ok pP:=qh3 λf rest t ht=>by
 split at ht
 .injection ht with ht;subst ht
  intro h;obtain⟨h1,h2⟩:=zC4.1 h;exact yY7 (xb5 f _ ⟨_,_,_,_,_,_,_,_⟩ h1 h2)
 .cases ht
section
variable {f g:Fw} {line:Int} {c:Gc.C}
theorem zS1(h:line=0\/c.code=1112):zS0 g line c=xS5 g:=if_pos h
theorem zS2(h:¬line=0)(k:¬c.code=1112):zS0 g line c=xS5 {g with line:=line}:=by unfold zS0;rw[if_neg (by omega)];rfl
theorem zh4(v:xX9 f=true)(hc:c.valid=true)(hl:line=0\/line=f.line+1)(hm:line<=1099511627776)(e:doE f line c=0)(h:zS0 (doF f line c) line c=g):SV.tuple [.agg g.cells,.int .i64 0] =zg2 f line c:=by
 rw[zh1 v hc hl hm,zM6 e rfl,h];rfl
theorem zh2(v:xX9 f=true)(hc:c.valid=true)(hl:line=0\/line=f.line+1)(hm:line<=1099511627776)(e:¬doE f line c=0):SV.tuple [.agg (o6 fw0),.int .i64 (doE f line c)] =zg2 f line c:=by
 rw[zh1 v hc hl hm];exact zM5 rfl e
theorem zh6(h:¬line=0)(k:c.code=1112):zS0 (doF f line c) line c=xS5 (xK2 {f with line:=line}):=by rw[zS1 (.inr k),zM3 k,qS6 h]
theorem zh5(h:line=0)(k:c.code=1112):zS0 (doF f line c) line c=xS5 (xK2 f):=by rw[zS1 (.inr k),zM3 k,qS5 h]
end
theorem y96(f:Fw)(line:Int)(c:Gc.C)(hh:m7 c.has=true):SCall pP 25 [f.sv,J line,c.sv] (zg2 f line c):=
 xD1 (hB (l:=[qe3,z17,zX5,qc1,qd0]) (k:=[]) (j:=[]) (i:=[]) ([] :List Nat) ([] :List Nat) ([] :List Nat) ([] :List Nat) (⟨ys4,yf1,yb6,yq0,yr3,trivial⟩) u9 u9 u9) 1000 (let z1:Plan:=.fork .all .all;let z0:Plan:=.fork .all (.fork z1 (.fork (.lit z1) (.fork .all z1)));.fork (.ln 11 (.lit .all)) (.ln 3 (.fork (.ln 7 (.lit .all)) (.lit (.lit (.fork (.ln 7 (.fork (.lit (.lit (.lit .all))) (.lit (.lit z0)))) (.ln 10 z0)))))))
  (t:=let y2:Tree SV:=.leaf (.tuple [.agg (o6 fw0),J 1]);let y3:=(((0,0,fw0.mo.1.1.2.2),0,0,fw0.mo.1.2.2.2),fw0.mo.2);let y1:=xS5 ({fw0 with ma:=(Ma.mk fw0.ma.x fw0.ma.y fw0.ma.z fw0.ma.e false 0),mode:=0,homed:=false,pos:=(0,0,fw0.pos.2.2),loc:=(0,fw0.loc.2),e:=0,feed:=0,queue:=[],lines:=[],mo:=y3,moving:=false,active:=0,back:=false,ret:=(0,0,fw0.ret.2.2),dwell:=0,waits:=0,fan:=0,line:=0,ticks:=0,cold:=0,r0:=0,r1:=0});let y0:Tree SV:=.node (decide (line>1099511627776)) y2 (.node (c.code==1112) (.node (line != 0) (.req (xE9 ({f with line:=line})) (.leaf (.tuple [.agg (Fw.cells (xS5 (xK2 ({f with line:=line})))),J 0]))) (.req (xE9 f) (.leaf (.tuple [.agg (Fw.cells (xS5 (xK2 f))),J 0])))) (.req (zC3 f line c) (.node (decide (doE f line c=0)) (.node (line != 0) (.leaf (.tuple [.agg (Fw.cells (xS5 ({ (doF f line c)with line:=line}))),J 0])) (.leaf (.tuple [.agg (Fw.cells (xS5 (doF f line c))),J 0]))) (.node (doE f line c != 0) (.leaf (.tuple [.agg (o6 fw0),J (doE f line c)])) (.node (line != 0) (.leaf (.tuple [.agg (Fw.cells (xS5 ({fw0 with ma:=(Ma.mk fw0.ma.x fw0.ma.y fw0.ma.z fw0.ma.e false 0),mode:=0,homed:=false,pos:=(0,0,fw0.pos.2.2),loc:=(0,fw0.loc.2),e:=0,feed:=0,queue:=[],lines:=[],mo:=y3,moving:=false,active:=0,back:=false,ret:=(0,0,fw0.ret.2.2),dwell:=0,waits:=0,fan:=0,line:=line,ticks:=0,cold:=0,r0:=0,r1:=0}))),J 0])) (.leaf (.tuple [.agg [J 0,J 0,J 0,J 0,J 0,J 0,J 0,J 0,J 0,J 0,J 0,J 0,J 0,J 0,J 0,J 0,J 0,J 0,J 0,J 0,J 0,J 0,J 0,J 0,J 0,J 0,J 0,J 0,.bool false,J 0,J 0,.bool false,J 0,J 0,J 0,J 0,J 0,J 0,J 0,J 0,J 0,.list o9 y1.queue,.list (Ty.int IntKind.i64) y1.lines,J 0,J 0,J 0,J 0,J 0,J 0,J 0,J 0,J 0,J 0,.bool false,J 0,.bool false,J 0,J 0,J 0,J 0,J 0,J 0,J 0,J 0,J 0,J 0,J 0,J 0,J 0,J 0,J 0,J 0,J 0,J 0,J 0,J 0,J 0,J 0,J 0,J 0,J 0,J 0,J 0,J 0,.bool false,J 0,J 0,J 0,J 0,J 0,J 0,J 0,J 0,J 0,J 0,.bool false,J 0,J 0,J 0,J 0,J 0,J 0],J 0])))))));.node (!xX9 f) y2 (.node (!c.validR) y2 (.node (line != 0) (.node (line != i64.wrap (f.line+1)) y2 y0) y0)))
  (by kernel_rfl) (by
   rw[<-Gc.valid_eq (yu7.1 hh).1 (yu7.1 hh).2]
   refine f7 (λv=>zg9 (.inl v)) λv=>f7 (λhc=>zg9 (.inr (.inl hc))) λhc=>?_
   have vf:=x00 v;have n:=vf.nums;have w:i64.wrap (f.line+1)=f.line+1:=w64 (by omega) (by omega);rw[w]
   have cp:0<=line->¬c.code=1112->zC3 f line c=true:=λl k=>zC4.2 ⟨zE2.2 ⟨v,hc,l⟩,k⟩
   repeat' first
    |refine q23 (λ_=>?_) (λ_=>?_)
    |refine q24 (λ_=>?_) (λ_=>?_)
    |refine o4 (λ_=>?_) (λ_=>?_)
    |refine x0 (cp (by omega) (by assumption)) ?_
    |refine x0 vf.shape ?_
    |refine x0 (xF2 vf.shape (by omega)) ?_
   all_goals first
    |(exfalso;omega)
    |exact zg9 (.inr (.inr (.inl ⟨by assumption,by assumption⟩)))
    |exact zg9 (.inr (.inr (.inr (by omega))))
    |exact zh4 v hc (by omega) (by omega) (zM2 (by assumption)) (zh6 (by assumption) (by assumption))
    |exact zh4 v hc (by omega) (by omega) (zM2 (by assumption)) (zh5 (by assumption) (by assumption))
    |exact zh4 v hc (by omega) (by omega) (by assumption) (zS2 (by assumption) (by assumption))
    |exact zh4 v hc (by omega) (by omega) (by assumption) (zS1 (by omega))
    |exact zh2 v hc (by omega) (by omega) (by assumption)) (by kernel_rfl) (by exact zg3)
def zW0:Fact:=qh2 25 λf rest=>match rest with
 |[.int .i64 line,.agg [.int .i64 a0,.int .i64 a1,.int .i64 a2,.int .i64 a3,.int .i64 a4,.int .i64 a5,.int .i64 a6,.int .i64 a7]] =>some (.req (m7 a1) (.node (decide (zf8 f line ⟨a0,a1,a2,a3,a4,a5,a6,a7⟩=0)) (.leaf (.tuple [(zg0 f line ⟨a0,a1,a2,a3,a4,a5,a6,a7⟩).sv,J 0])) (.leaf (.tuple [fw0.sv,J (zf8 f line ⟨a0,a1,a2,a3,a4,a5,a6,a7⟩)]))))
 |_=>none
theorem q96:zW0.ok pP:=qh3 λf rest t ht=>by
 split at ht
 .injection ht with ht;subst ht;exact λh=>zg4 (y96 f _ ⟨_,_,_,_,_,_,_,_⟩ h)
 .cases ht
theorem x30{n:Int}(h:(Lit.int .i64 n).wf=true): -9223372036854775808<=n/\n<=9223372036854775807:=by
 have h:(decide ((-9223372036854775808:Int)<=n)&&decide (n<=(9223372036854775807:Int)))=true:=h
 simpa using h
def yL2(l:Fl):Bool:=(l.pages.all λp=>decide ((p.length:Int)<=100))&&decide ((l.pages.length:Int)<=20)
theorem yL3{l:Fl}:yL2 l=true↔(∀i,i<l.pages.length->((l.pages.getD i []).length:Int)<=100)/\(l.pages.length:Int)<=20:=by
 simp only[yL2,Bool.and_eq_true,List.all_eq_true,decide_eq_true_eq];refine and_congr ⟨λh i hi=>?_,λh x hx=>?_⟩ Iff.rfl
 .rw[List.getD_eq_getElem?_getD,List.getElem?_eq_getElem hi];exact h _ (List.getElem_mem hi)
 .obtain⟨i,hi,rfl⟩:=List.getElem_of_mem hx
  have:=h i hi;rw[List.getD_eq_getElem?_getD,List.getElem?_eq_getElem hi]at this;exact this
theorem yL1(l:Fl):∀ (k i:Nat),i+k=21->(∀t,t<i->t<l.pages.length->((l.pages.getD t []).length:Int)<=100)->
  t8 pP (x9 pP 39) (.bool (yL2 l)) (x8 pP 39 0) (x7 26 [(1,.ptr 0 0),(3,J i)]) [some (.cells l.cells)]
 |k,i,hi,hb=>by
  refine o5 k00 (n:=1000) (hint:=.unit) (keep:=x6 26 [1,3]) (p:=yK9) rfl ?_;erw [pg1 l i]
  have t0:(i:Int).toNat=i:=by omega
  have fin:(¬(i:Int)<l.pages.length\/¬(i:Int)<21)->SV.bool (decide ((l.pages.length:Int)<=20))=.bool (yL2 l):=λh=>by
   refine congrArg SV.bool (Bool.eq_iff_iff.2 ?_);rw[yL3,decide_eq_true_eq];refine⟨λa=>⟨λt ht=>hb t (by omega) ht,a⟩,λa=>a.2⟩
  rw[t0]
  match k,hi with
  |0,hi=>exact o4 (λa=>o4 (λb=>absurd b (by omega)) λb=>fin (.inr b)) λa=>fin (.inl a)
  |k+1,hi=>
   have w1:i64.wrap ((i:Int)+1)=((i+1:Nat):Int):=by rw[w64 (by omega) (by omega)];omega
   rw[w1]
   refine o4 (λa=>o4 (λb=>x0 (by simp;omega) (o4 (λc=>?_) (λc=>?_))) λb=>fin (.inr b)) λa=>fin (.inl a)
   .show SV.bool false=_
    refine congrArg SV.bool (Eq.symm (Bool.eq_false_iff.2 λh=>?_));have:=(yL3.1 h).1 i (by omega);have c:((l.pages.getD i []).length:Int)>100:=c;omega
   .refine⟨u7 _ _,yL1 l k (i+1) (by omega) λt ht hl=>?_⟩
    rcases Nat.lt_or_ge t i with q|q
    .exact hb t q hl
    .obtain rfl:t=i:=by omega
     have c:¬((l.pages.getD t []).length:Int)>100:=c;omega
theorem xn7(l:Fl):SCall pP 39 [l.sv] (.bool (yL2 l)):=by
 refine s7 rfl rfl (by kernel_rfl) (o5 k00 (n:=1000) (hint:=.unit) (keep:=x6 26 [1,3]) (p:=yK8) (boxes:=[]) rfl ?_);have q:=pg0 l;unfold v6 v7 at q;erw [q];exact⟨u7 _ _,yL1 l 21 0 (by omega) λt ht=>absurd ht (Nat.not_lt_zero _)⟩
def z78:Fact:=qg4 39 λl=>.leaf (.bool (yL2 l))
theorem yl4:z78.ok pP:=qh1 λl=>xn7 l
def evN(x:EvT):Int:=opN x.1
def qo2(l:List EvT)(m:Int):Bool:=(l.all λx=>decide (evN x<=40))&&decide ((l.length:Int)<=m)
def qR2(l:List EvT):Bool:=Nat.ble l.length 9223372036854775807
def zZ5:Fact:=⟨52,λargs=>match args with
 |[.list (.pair (.pair (.int .i64) (.pair .bool (.pair (.pair (.int .i64) (.pair (.int .i64) (.pair (.int .i64) (.pair (.int .i64) (.pair (.int .i64) (.pair (.int .i64) (.pair (.int .i64) (.int .i64)))))))) (.pair (.int .i64) (.pair (.int .i64) (.int .i64)))))) (.pair (.int .i64) (.int .i64))) l,.int .i64 m] =>some (.req (qR2 l) (.leaf (.bool (qo2 l m))))
 |_=>none⟩
theorem qt8(l:Fl)(hl:l.pages.length<=1000):∀ (k i:Nat),i+k=l.pages.length->
  t8 pP (x9 pP 45) (.bool true) (x8 pP 45 0) (x7 52 [(2,.ptr 0 0),(3,.ptr 1 0),(36,J l.pages.length),(37,J i)]) [some (.cells l.cells),some (.cells l.cells)]
 |k,i,hi=>by
  refine o5 k00 (n:=1000) (hint:=.unit) (keep:=x6 52 [2,3,36,37]) (p:=qt2) rfl ?_;erw [fs1 l i]
  have t0:(i:Int).toNat=i:=by omega
  rw[t0]
  match k,hi with
  |0,hi=>exact o4 (λa=>absurd a (by omega)) λa=>rfl
  |k+1,hi=>
   have w1:i64.wrap ((i:Int)+1)=((i+1:Nat):Int):=by rw[w64 (by omega) (by omega)];omega
   rw[w1]
   have an:∀{a b:Bool},a=true->b=true->(a&&b)=true:=λha hb=>by rw[ha,hb];rfl
   have bd:(decide (0<=(i:Int))&&decide ((i:Int)<l.pages.length))=true:=an (decide_eq_true (by omega)) (decide_eq_true (by omega))
   exact o4 (λ_=>x0 bd (x0 bd (f7 (λq=>absurd q (by simp)) λ_=>⟨u7 _ _,qt8 l hl k (i+1) (by omega)⟩))) λa=>absurd (by omega) a
theorem xt1(l:Fl)(h:w9 l=true):SCall pP 45 [l.sv,l.sv] (.bool true):=by
 have h:=of_decide_eq_true h;refine s7 rfl rfl (by kernel_rfl) (o5 k00 (n:=1000) (hint:=.unit) (keep:=x6 52 [2,3,36,37]) (p:=qs9) (boxes:=[]) rfl ?_);have q:=fs0 l;unfold v6 v7 at q;erw [q]
 exact q24 (λq=>absurd rfl q) λ_=>q24 (λq=>absurd rfl q) λ_=>f7 (λq=>absurd q (by simp)) λ_=>q24 (λq=>absurd rfl q) λ_=>⟨u7 _ _,qt8 l h l.pages.length 0 (by omega)⟩
noncomputable def zS6(x y:Fl):Bool:=@decide (x=y) (Classical.propDecidable _)
theorem zS8(x:Fl):zS6 x x=true:=@decide_eq_true _ (Classical.propDecidable _) rfl
theorem zS7{x y:Fl}(h:zS6 x y=true):x=y:=@of_decide_eq_true _ (Classical.propDecidable _) h
noncomputable def qb1:Fact:=⟨45,λargs=>match args with
 |[.agg [.list .str p,.int .i64 a,.bool d,.int .i64 k],.agg [.list .str p',.int .i64 a',.bool d',.int .i64 k']] =>some (.req (zS6 ⟨p,a,d,k⟩ ⟨p',a',d',k'⟩) (.req (w9 ⟨p,a,d,k⟩) (.leaf (.bool true))))
 |_=>none⟩
theorem yp0:qb1.ok pP:=λargs t ht=>by
 simp only[qb1]at ht
 split at ht
 .injection ht with ht;subst ht
  intro h k;have e:=zS7 h;injection e with e1 e2 e3 e4;subst e1;subst e2;subst e3;subst e4;exact xt1 _ k
 .cases ht
theorem xp5(a b:V4):SCall pP 106 [V4.sv a,V4.sv b,J 1] (V4.sv (x16 a b)):=
 v8 mix [] trivial 1000 (.go (.lit (.go (.lit (.go (.lit (.go (.lit (.go (.lit (.all)))))))))))
  (t:=.req (true) (.req true (.req (true) (.req true (.req (true) (.req true (.req (true) (.req true (.req (true) (.req true (.req (true) (.req true (.leaf (.agg [J (i64.wrap (a.1+i64.wrap (1*b.1))),J (i64.wrap (a.2.1+i64.wrap (1*b.2.1))),J (i64.wrap (a.2.2.1+i64.wrap (1*b.2.2.1))),J (i64.wrap (a.2.2.2+i64.wrap (1*b.2.2.2)))]))))))))))))))
  (by kernel_rfl) (by
   have w1:∀x y:Int,i64.wrap (x+i64.wrap (1*y))=i64.wrap (x+y):=λx y=>by
    rw[IntKind.wrap_i64,IntKind.wrap_i64,IntKind.wrap_i64];omega
   rw[w1,w1,w1,w1]
   refine x0 rfl (x0 rfl (x0 rfl (x0 rfl (x0 rfl (x0 rfl (x0 rfl (x0 rfl (x0 rfl (x0 rfl (x0 rfl (x0 rfl rfl)))))))))))) (by kernel_rfl) (by kernel_rfl)
theorem xp0(a b:V4):SCall pP 106 [V4.sv a,V4.sv b,J (-1)] (V4.sv (wsub4 a b)):=
 v8 mix [] trivial 1000 (.go (.lit (.go (.lit (.go (.lit (.go (.lit (.go (.lit (.all)))))))))))
  (t:=.req (true) (.req true (.req (true) (.req true (.req (true) (.req true (.req (true) (.req true (.req (true) (.req true (.req (true) (.req true (.leaf (.agg [J (i64.wrap (a.1+i64.wrap (-1*b.1))),J (i64.wrap (a.2.1+i64.wrap (-1*b.2.1))),J (i64.wrap (a.2.2.1+i64.wrap (-1*b.2.2.1))),J (i64.wrap (a.2.2.2+i64.wrap (-1*b.2.2.2)))]))))))))))))))
  (by kernel_rfl) (by
   have w1:∀x y:Int,i64.wrap (x+i64.wrap (-1*y))=i64.wrap (x-y):=λx y=>by
    rw[IntKind.wrap_i64,IntKind.wrap_i64,IntKind.wrap_i64];omega
   rw[w1,w1,w1,w1]
   refine x0 rfl (x0 rfl (x0 rfl (x0 rfl (x0 rfl (x0 rfl (x0 rfl (x0 rfl (x0 rfl (x0 rfl (x0 rfl (x0 rfl rfl)))))))))))) (by kernel_rfl) (by kernel_rfl)
theorem xp7(c:V4):SCall pP 105 [V4.sv c] (.bool (v9 c)):=
 v8 mix [] trivial 1000 (let z0:Plan:=.lit (.lit (.lit .all));.go (.lit (.fork z0 (.lit (.lit (.fork .all (.go (.lit (.fork z0 (.lit (.lit (.fork .all (.go (.lit (.fork z0 (.lit (.lit (.fork .all (.go (.lit (.fork z0 (.lit (.lit (.fork .all (.go (.lit .all))))))))))))))))))))))))))
  (t:=let y0:Tree SV:=.leaf (.bool false);.req (true) (.node (decide (c.1 < -16777216)) y0 (.node (decide (c.1>16777216)) y0 (.req true (.node (decide (c.2.1 < -16777216)) y0 (.node (decide (c.2.1>16777216)) y0 (.req true (.node (decide (c.2.2.1 < -16777216)) y0 (.node (decide (c.2.2.1>16777216)) y0 (.req true (.node (decide (c.2.2.2 < -16777216)) y0 (.node (decide (c.2.2.2>16777216)) y0 (.leaf (.bool true))))))))))))))
  (by kernel_rfl) (by
   have q:∀b:Bool,(b=true↔v9 c=true)->SV.bool b=SV.bool (v9 c):=λb h=>by rw[Bool.eq_iff_iff.2 h]
   have nf:=@q26 c;refine x0 rfl (o4 (λa=>q _ ?_) λa=>o4 (λa2=>q _ ?_) λa2=>x0 rfl (o4 (λb=>q _ ?_) λb=>o4 (λb2=>q _ ?_) λb2=>x0 rfl (o4 (λd=>q _ ?_) λd=>o4 (λd2=>q _ ?_) λd2=>x0 rfl (o4 (λe=>q _ ?_) λe=>o4 (λe2=>q _ ?_) λe2=>q _ ?_))))
   all_goals(rw[nf];simp only[Bool.false_eq_true,false_iff,true_iff];omega)) (by kernel_rfl) (by kernel_rfl)
def yN1:Plan:=.fork (.ln 3 (.fork .all .all)) (.ln 3 (.lit .all))
theorem po0(f:Fw):o7 (Env.of pP (j9 [])) 1000 (x9 pP 203) .unit (x6 28 [1,15,16,17]) (v7 pP 203) yN1 (v6 pP 203 [f.sv]) [] =(.node (f.moving) (.node (decide (f.active>0)) (.leaf (.done (J f.active))) (.leaf (.at (x8 pP 203 0) 28 (x7 28 [(1,.ptr 0 0),(15,.list (Ty.int IntKind.i64) f.lines),(16,J (↑f.lines.length:Int)),(17,J 0)]) [some (.cells (Fw.cells f))]))) (.leaf (.at (x8 pP 203 0) 28 (x7 28 [(1,.ptr 0 0),(15,.list (Ty.int IntKind.i64) f.lines),(16,J (↑f.lines.length:Int)),(17,J 0)]) [some (.cells (Fw.cells f))]))):=by kernel_rfl
def yN2:Plan:=.fork (.fork (.all) (.all)) (.all)
theorem po1(f:Fw)(i:Int):o7 (Env.of pP (j9 [])) 1000 (x9 pP 203) .unit (x6 28 [1,15,16,17]) (x8 pP 203 0) yN2 (x7 28 [(1,.ptr 0 0),(15,LI f.lines),(16,J f.lines.length),(17,J i)]) [some (.cells f.cells)] =(.node (decide (i< (↑f.lines.length:Int))) (.req (decide (0<=i)&&decide (i< (↑f.lines.length:Int))) (.node (decide (f.lines.getD i.toNat 0>0)) (.leaf (.done (J (f.lines.getD i.toNat 0)))) (.leaf (.at (x8 pP 203 0) 28 (x7 28 [(1,.ptr 0 0),(15,.list (Ty.int IntKind.i64) f.lines),(16,J (↑f.lines.length:Int)),(17,J (i64.wrap (i+1)))]) [some (.cells (Fw.cells f))])))) (.leaf (.done (J (i64.wrap (f.line+1)))))):=by kernel_rfl
theorem xp6(f:Fw)(h:f.lines.length=f.queue.length):SCall pP 204 [f.sv] (.bool (y32 f)):=
 v8 mix [] trivial 1000 (.fork .all (.fork (.ln 4 (.lit .all)) (.ln 4 (.lit .all))))
  (t:=.node (f.moving)
 (.leaf (SV.bool (f.active==0)))
 (.node (decide ((↑f.queue.length:Int)>0))
  (.req (decide (0< (↑f.lines.length:Int))) (.leaf (SV.bool (f.lines.getD 0 0==0))))
  (.leaf (SV.bool false))))
   (by kernel_rfl) (by
    unfold y32
    refine p7 (λm=>by rw[m];rfl) λm=>o4 (λk=>?_) λk=>?_
    .rw[m]
     refine x0 (decide_eq_true (by omega)) ?_
     cases hl:f.lines with
     |nil=>rw[hl]at h;simp at h;omega
     |cons n l=>rfl
    .rw[m]
     have:f.lines=[] :=List.eq_nil_of_length_eq_zero (by omega)
     rw[this];rfl) (by kernel_rfl) (by kernel_rfl)
end Go.Proofs.YtnkaepnblikcdaaGreat
