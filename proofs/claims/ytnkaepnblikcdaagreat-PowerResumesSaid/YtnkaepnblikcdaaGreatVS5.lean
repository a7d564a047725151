/-
  Evaluator, contracts, plain law.
-/
import Derived.Test.YtnkaepnblikcdaaGreatVS4
set_option maxRecDepth 100000
set_option linter.unusedVariables false
set_option linter.unusedSimpArgs false
open Go.IntKind (i64 u64 u8)
namespace Go.Proofs.YtnkaepnblikcdaaGreat
open Go.Sx
theorem qt0(l:List Int)(d:Int){i:Nat}(hi:i<l.length):qs9 (l.drop i) d=if 0<l.getD i 0 then l.getD i 0 else qs9 (l.drop (i+1)) d:=by
 rw[List.drop_eq_getElem_cons hi,List.getD_eq_getElem?_getD,List.getElem?_eq_getElem hi];rfl
theorem qt1(l:List Int)(d:Int):qs9 (l.drop l.length) d=d:=by rw[List.drop_length];rfl
theorem yB1(f:Fw)(h:xy9 f=true):∀ (k i:Nat),i+k=f.lines.length→
  zd3 pP (j8 pP 228) [] 1 (.ret (J (qs9 (f.lines.drop i) (f.line+1))) [some (.cells f.cells)]) (v5 pP 228 0) (j9 43 [(0,.ptr 0 0),(27,LI f.lines),(28,J f.lines.length),(29,J i)]) [some (.cells f.cells)]
 |k,i,hi=>by
  have s:=xz0.1 h;refine y91 (hB (l:=[]) (k:=[]) (j:=[]) (i:=[]) [] [] [] [] trivial o4 o4 o4) (n:=1000) (keep:=x9 43 [0,27,28,29]) (p:=yB2) (Nat.le_refl _) ?_;erw [op1 f f.lines.length i];unfold yB3
  have t0:(i:Int).toNat=i:=by omega
  have w1:i64.wrap ((i:Int)+1)=((i+1:Nat):Int):=by rw[w64 (by omega) (by omega)];omega
  have w2:i64.wrap (f.line+1)=f.line+1:=w64 (by omega) (by omega)
  match k,hi with
  |0,hi=>
   have hi2:¬((i:Int)<f.lines.length):=by omega
   have hie:i=f.lines.length:=by omega
   simp only[t0,w1,w2,hi2,Tree.holds,decide_eq_true_eq,decide_eq_false_iff_not,false_implies,true_and,true_implies,not_false_eq_true]
   rw[hie,qt1]<;>rfl
  |k+1,hi=>
   have hi2:(i:Int)<f.lines.length:=by omega
   have ih:=yB1 f h k (i+1) (by omega);have e:=qt0 f.lines (f.line+1) (i:=i) (by omega);simp only[t0,w1,w2,hi2,Tree.holds,decide_eq_true_eq,decide_eq_false_iff_not,Bool.and_eq_true,not_true_eq_false,false_implies,true_and,and_true,true_implies];refine⟨by omega,fun a=>?_,fun a=>⟨o9 _ _,?_⟩⟩
   ·rw[e,if_pos a]<;>rfl
   ·rw[e,if_neg a];exact ih
theorem xl9(f:Fw)(h:xy9 f=true):zb3 pP 228 [] f (J (e9 f),f):=by
 have s:=xz0.1 h;refine qp7 (cs:=f.cells) (by kernel_rfl) rfl rfl rfl (j6.refl _) (y91 (hB (l:=[]) (k:=[]) (j:=[]) (i:=[]) [] [] [] [] trivial o4 o4 o4) (n:=1000) (keep:=x9 43 [0,27,28,29]) (p:=yA9) (Nat.le_refl _) ?_);have q:=op0 f;unfold u7 u9 at q;erw [q];unfold yB0 e9;have lp:=yB1 f h f.lines.length 0 (by omega)
 cases hm:f.moving
 ·simp only[hm,Tree.holds,Bool.false_eq_true,false_and,if_false,false_implies,true_implies,true_and]
  exact⟨o9 _ _,lp⟩
 ·simp only[hm,Tree.holds,decide_eq_true_eq,decide_eq_false_iff_not,true_and,true_implies,Bool.true_eq_false,false_implies,and_true]
  refine⟨fun a=>?_,fun a=>⟨o9 _ _,?_⟩⟩
  ·rw[if_pos (by omega)]<;>rfl
  ·rw[if_neg (by omega)];exact lp
def zt4:BFact:=zz2 228 fun f rest=>match rest with
 |[] =>some (.req (xy9 f) (.leaf (J (e9 f),f)))
 |_=>none
theorem yi9:zt4.ok pP:=zz3 fun f rest t ht=>by
 split at ht
 ·cases ht;exact fun h=>xl9 f h
 ·cases ht
theorem yc5{g y:Fw}(h:g=y)(q:g.queue=[])(l:g.lines=[]):j6 (f7 g) y.cells:=by subst h;exact yc3 g q l
def xj2:Plan:=let z0:Plan:=.fork (.ln 4 (.lit .all)) (.ln 4 (.lit .all));let z1:Plan:=.fork (.lit (.fork (.lit (.lit (.fork z0 z0))) (.fork (.ln 10 (.fork z0 z0)) (.ln 11 z0)))) (.ln 4 z0);.fork (.ln 6 (.fork z0 z1)) (.ln 7 z1)
noncomputable def xj3(f:Fw):Tree StopX:=let y2:=Fw.mk f.ma f.mode f.homed f.pos f.loc f.e f.feed f.queue f.lines f.mo f.moving f.active f.back (begin4 f) f.dwell f.waits f.c0 f.c1 f.g0 f.g1 f.fan f.line f.ticks f.cold f.r0 f.r1;let y3:=Fw.mk f.ma f.mode f.homed f.pos f.loc f.e f.feed f.queue f.lines f.mo f.moving f.active f.back f.pos f.dwell f.waits f.c0 f.c1 f.g0 f.g1 f.fan f.line f.ticks f.cold f.r0 f.r1;let y5:=(((0,0,0,0),0,0,0,0),0,0);let y0:Tree StopX:=.req (xy9 y3) (.node (y3.back) (.leaf (.fin (.ret (.tuple []) [some (.cells (f7 {y3 with homed:=false,queue:=[],lines:=[],mo:=y5,moving:=false,active:=0,back:=true,dwell:=0,waits:=0,line:=(i64.wrap (e9 y3-1))}))]))) (.leaf (.fin (.ret (.tuple []) [some (.cells (f7 {y3 with homed:=false,queue:=[],lines:=[],mo:=y5,moving:=false,active:=0,back:=y3.homed,dwell:=0,waits:=0,line:=(i64.wrap (e9 y3-1))}))]))));let y1:Tree StopX:=.req (xy9 f) (.node (f.back) (.leaf (.fin (.ret (.tuple []) [some (.cells (f7 {f with homed:=false,queue:=[],lines:=[],mo:=y5,moving:=false,active:=0,back:=true,dwell:=0,waits:=0,line:=(i64.wrap (e9 f-1))}))]))) (.leaf (.fin (.ret (.tuple []) [some (.cells (f7 {f with homed:=false,queue:=[],lines:=[],mo:=y5,moving:=false,active:=0,back:=f.homed,dwell:=0,waits:=0,line:=(i64.wrap (e9 f-1))}))]))));let y4:Tree StopX:=.node (f.homed) (.node (f.moving) (.node (!f.active==0) y0 y1) (.node ((↑f.queue.length:Int)>0) (.req (0< (↑f.lines.length:Int)) (.node (!f.lines.getD 0 0==0) y0 y1)) y0)) y1; .node (f.moving) (.node (f.active>0) (.req (zz4 f.pos) (.req (xy9 y2) (.node (y2.back) (.leaf (.fin (.ret (.tuple []) [some (.cells (f7 {y2 with homed:=false,queue:=[],lines:=[],mo:=y5,moving:=false,active:=0,back:=true,dwell:=0,waits:=0,line:=(i64.wrap (e9 y2-1))}))]))) (.leaf (.fin (.ret (.tuple []) [some (.cells (f7 {y2 with homed:=false,queue:=[],lines:=[],mo:=y5,moving:=false,active:=0,back:=y2.homed,dwell:=0,waits:=0,line:=(i64.wrap (e9 y2-1))}))])))))) y4) y4
theorem xj1(f:Fw):xx1 (Env.ofB pP (v7 [z42]) (d7 []) (d9 [BFact.toP zt4]) (d8 [zt4]) (x8 []) (x8 []) (x8 []) (x8 [])) 1000 (j8 pP 164) 1 (x9 101 []) (u9 pP 164) xj2 (u7 pP 164 [.ptr 0 0]) [some (.cells f.cells)] =xj3 f:=by kernel_rfl
theorem xj0(f:Fw)(h:xy9 f=true):zb3 pP 164 [] f (.tuple [],qZ4 f):=
 qp8 (hB (l:=[z42]) (k:=[]) (j:=[BFact.toP zt4]) (i:=[zt4]) ([] :List Nat) ([] :List Nat) ([] :List Nat) ([] :List Nat) (⟨yj2,trivial⟩) o4 (allQ.all (p:=PFact.ok pP) (l:=[BFact.toP zt4]) ⟨BFact.toP_ok yi9,trivial⟩) (allQ.all (p:=BFact.ok pP) (l:=[zt4]) ⟨yi9,trivial⟩)) 1000 xj2 (keep:=(x9 101 [])) (t:=xj3 f) (xj1 f) (by
  unfold xj3;have sh:=xz0.1 h;have rb:=y51 (f:=f);have ov:=yF8 h;have w1:=w64 (x:=e9 f-1) (by omega) (by omega)
  have e3:qZ4 f={qZ4 f with line:=i64.wrap (e9 f-1)}:=by rw[w1];rfl
  cases hbk:f.back
  all_goals
  simp only[Tree.holds,hbk,sL,ne_eq,sLb,sLc,eq_self,sLd,sLe,sLf];(repeat' (first|apply And.intro|intro _));
  all_goals first
   |exact h
   |exact sh.1
   |omega
   |(have e:qZ5 f=begin4 f:=if_pos (by grind)
     refine ends rfl (yc5 ?_ rfl rfl) rfl;rw[e3];unfold qZ4;rw[e,hbk];rfl)
   |(have e:qZ5 f=wsub4 f.pos (q15 f.mo):=by rw[show qZ5 f=begin4 f from if_pos (by grind),zz0 (by assumption),x87 sh.1 (q19 f.mo)]
     refine ends rfl (yc5 ?_ rfl rfl) rfl;rw[e3];unfold qZ4;rw[e,hbk];rfl)
   |(have e:qZ5 f=f.pos:=by unfold qZ5;rw[if_neg (by grind),if_pos (by grind)]
     refine ends rfl (yc5 ?_ rfl rfl) rfl;rw[e3];unfold qZ4;rw[e,hbk];rfl)
   |(have e:qZ5 f=f.ret:=by unfold qZ5;rw[if_neg (by grind),if_neg (by grind)]
     refine ends rfl (yc5 ?_ rfl rfl) rfl;rw[e3];unfold qZ4;rw[e,hbk];rfl)) (by kernel_rfl) (by kernel_rfl) (by kernel_rfl)
def zt1:BFact:=zz2 164 fun f rest=>match rest with
 |[] =>some (.req (xy9 f) (.leaf (.tuple [],qZ4 f)))
 |_=>none
theorem yj5:zt1.ok pP:=zz3 fun f rest t ht=>by
 split at ht
 ·cases ht;exact fun h=>xj0 f h
 ·cases ht
def xq7:Plan:=.fork (.ln 21 (.lit .all)) (.ln 7 (.fork (.ln 13 (.lit .all)) (.ln 6 (.fork (.ln 6 (.lit .all)) (.ln 6 (.fork .all (.fork .all .all)))))))
noncomputable def xq8(f:Fw):Tree StopX:=let y0:Tree StopX:=.leaf (.fin (.ret (.bool false) [some (.cells (Fw.cells f))]));let y1:=(↑f.queue.length:Int);let y2:=(↑f.lines.length:Int);let y3:=List.drop 1 f.queue;let y4:=List.drop 1 f.lines; .node (f.moving) y0 (.node (y1==0) y0 (.node (f.mode==3) y0 (.node (f.dwell != 0) y0 (.req (0<y1) (.node (okS (f.queue.getD 0 dBk) f.ma.ticks) (.req (0<y2) (.req (1≤y1) (.req (qr4 y3.length) (.req (1≤y2) (.req (qr4 y4.length) (.leaf (.fin (.ret (.bool true) [some (.cells (Fw.cells {f with queue:=y3,lines:=y4,mo:=(xD5 (f.queue.getD 0 dBk) f.ma.ticks),moving:=true,active:=(f.lines.getD 0 0)}))])))))))) (.req (0<y2) (.req (1≤y1) (.req (qr4 y3.length) (.req (1≤y2) (.req (qr4 y4.length) (.leaf (.fin (.ret (.bool true) [some (.cells (Fw.cells {f with queue:=y3,lines:=y4,mo:=(((0,0,0,0),0,0,0,0),0,0),moving:=true,active:=(f.lines.getD 0 0)}))])))))))))))))
theorem xq6(f:Fw):xx1 (Env.ofB pP (v7 [qe2,z47,z48]) (d7 []) (d9 []) (d8 []) (x8 []) (x8 []) (x8 []) (x8 [])) 1000 (j8 pP 84) 1 (x9 91 []) (u9 pP 84) xq7 (u7 pP 84 [.ptr 0 0]) [some (.cells f.cells)] =xq8 f:=by kernel_rfl
theorem xq5(f:Fw)(h:xy9 f=true):zb3 pP 84 [] f (.bool (zE6 f),t7 f):=
 qp8 (hB (l:=[qe2,z47,z48]) (k:=[]) (j:=[]) (i:=[]) ([] :List Nat) ([] :List Nat) ([] :List Nat) ([] :List Nat) (⟨yu1,yk1,yk2,trivial⟩) o4 o4 o4) 1000 xq7 (keep:=(x9 91 [])) (t:=xq8 f) (xq6 f) (by
  unfold xq8;have sh:=xz0.1 h;have ci:=zE7 (f:=f)
  cases hc:zE6 f
  ·have hn:¬(f.moving=false∧¬f.queue.length=0∧¬f.mode=3∧f.dwell=0):=fun a=>by rw[ci.2 a]at hc;cases hc
   simp only[Tree.holds,sL,ne_eq,sLb,sLc,eq_self,sLd,sLe,sLf];(repeat' (first|apply And.intro|intro _));
   all_goals first
    |(exfalso;first|omega|grind)
    |(rw[zx1 hc];exact ends rfl (j6.refl _) rfl)
  ·have hy:=ci.1 hc
   rw[zx3 hc];simp only[Tree.holds,sL,ne_eq,sLb,sLc,eq_self,sLd,sLe,sLf];(repeat' (first|apply And.intro|intro _));
   all_goals first
    |omega
    |(rw[qr5];simp;omega)
    |(exfalso;first|omega|grind)
    |(unfold xD4;rw[xD8 (by assumption)];exact ends rfl (j6.refl _) rfl)
    |(unfold xD4;rw[xD7 (by assumption)];exact ends rfl (j6.refl _) rfl)) (by kernel_rfl) (by kernel_rfl) (by kernel_rfl)
def zt6:BFact:=zz2 84 fun f rest=>match rest with
 |[] =>some (.req (xy9 f) (.leaf (.bool (zE6 f),t7 f)))
 |_=>none
theorem yj8:zt6.ok pP:=zz3 fun f rest t ht=>by
 split at ht
 ·cases ht;exact fun h=>xq5 f h
 ·cases ht
def xs2:Plan:=let z1:Plan:=.go (.lit (.fork (.go (.lit (.all))) (.go (.lit (.all)))));let z0:Plan:=.go (.lit (.fork z1 z1));.go (.lit (.fork (.go (.lit (.fork z0 z0))) (.go (.lit (.fork z0 z0)))))
noncomputable def xs3(f:Fw)(c:Gc.C):Tree StopX:=let y0:=i64.wrap (↑(BitVec.ofInt 64 c.has &&&BitVec.ofInt 64 8).toNat:Int) != 0;let y1:Box:=.cells (Fw.cells f);let y2:=i64.wrap (↑(BitVec.ofInt 64 c.has &&&BitVec.ofInt 64 4).toNat:Int) != 0;let y3:=i64.wrap (↑(BitVec.ofInt 64 c.has &&&BitVec.ofInt 64 2).toNat:Int) != 0; .req true (.node (i64.wrap (↑(BitVec.ofInt 64 c.has &&&BitVec.ofInt 64 1).toNat:Int) != 0) (.req true (.node y3 (.req true (.node y2 (.req true (.node y0 (.leaf (.fin (.ret (.tuple [.agg [J c.x,J c.y,J c.z],J c.e]) [some y1]))) (.leaf (.fin (.ret (.tuple [.agg [J c.x,J c.y,J c.z],J f.e]) [some y1]))))) (.req true (.node y0 (.leaf (.fin (.ret (.tuple [.agg [J c.x,J c.y,J f.loc.2.2],J c.e]) [some y1]))) (.leaf (.fin (.ret (.tuple [.agg [J c.x,J c.y,J f.loc.2.2],J f.e]) [some y1]))))))) (.req true (.node y2 (.req true (.node y0 (.leaf (.fin (.ret (.tuple [.agg [J c.x,J f.loc.2.1,J c.z],J c.e]) [some y1]))) (.leaf (.fin (.ret (.tuple [.agg [J c.x,J f.loc.2.1,J c.z],J f.e]) [some y1]))))) (.req true (.node y0 (.leaf (.fin (.ret (.tuple [.agg [J c.x,J f.loc.2.1,J f.loc.2.2],J c.e]) [some y1]))) (.leaf (.fin (.ret (.tuple [.agg [J c.x,J f.loc.2.1,J f.loc.2.2],J f.e]) [some y1]))))))))) (.req true (.node y3 (.req true (.node y2 (.req true (.node y0 (.leaf (.fin (.ret (.tuple [.agg [J f.loc.1,J c.y,J c.z],J c.e]) [some y1]))) (.leaf (.fin (.ret (.tuple [.agg [J f.loc.1,J c.y,J c.z],J f.e]) [some y1]))))) (.req true (.node y0 (.leaf (.fin (.ret (.tuple [.agg [J f.loc.1,J c.y,J f.loc.2.2],J c.e]) [some y1]))) (.leaf (.fin (.ret (.tuple [.agg [J f.loc.1,J c.y,J f.loc.2.2],J f.e]) [some y1]))))))) (.req true (.node y2 (.req true (.node y0 (.leaf (.fin (.ret (.tuple [.agg [J f.loc.1,J f.loc.2.1,J c.z],J c.e]) [some y1]))) (.leaf (.fin (.ret (.tuple [.agg [J f.loc.1,J f.loc.2.1,J c.z],J f.e]) [some y1]))))) (.req true (.node y0 (.leaf (.fin (.ret (.tuple [.agg [J f.loc.1,J f.loc.2.1,J f.loc.2.2],J c.e]) [some y1]))) (.leaf (.fin (.ret (.tuple [.agg [J f.loc.1,J f.loc.2.1,J f.loc.2.2],J f.e]) [some y1]))))))))))
theorem xs1(f:Fw)(c:Gc.C):xx1 (Env.ofB pP (v7 []) (d7 []) (d9 []) (d8 []) (x8 []) (x8 []) (x8 []) (x8 [])) 1000 (j8 pP 213) 1 (x9 53 []) (u9 pP 213) xs2 (u7 pP 213 [.ptr 0 0,c.sv]) [some (.cells f.cells)] =xs3 f c:=by kernel_rfl
theorem xs0(f:Fw)(c:Gc.C):zb3 pP 213 [c.sv] f (.tuple [V3.sv (m7 f c),J (xK8 f c)],f):=
 qp8 (hB (l:=[]) (k:=[]) (j:=[]) (i:=[]) ([] :List Nat) ([] :List Nat) ([] :List Nat) ([] :List Nat) (trivial) o4 o4 o4) 1000 xs2 (keep:=(x9 53 [])) (t:=xs3 f c) (xs1 f c) (by
  unfold xs3;simp only[Tree.holds,sL,ne_eq,sLb,sLc,eq_self,sLd,sLe,sLf];(repeat' (first|apply And.intro|intro _));
  all_goals first
   |rfl
   |(refine ends ?_ (j6.refl _) rfl;unfold m7 xK8;simp only[qD4, *,not_false_eq_true,not_true_eq_false,if_true,if_false];rfl)) (by kernel_rfl) (by kernel_rfl) (by kernel_rfl)
def yc8:List SV→Bool
 |[] =>true
 |x::l=>match x with
  |.nilS=>false
  |_=>yc8 l
theorem yc9:∀{cs ys:List SV},j6 cs ys→yc8 cs=true→cs=ys
 |[],[],_,_=>rfl
 |x::xs,y::ys,h,k=>by
  obtain⟨h1,h2⟩:=h;unfold yc8 at k
  split at k
  ·cases k
  ·rename_i hx
   cases h1 with
   |same=>rw[yc9 h2 k]
   |nil t=>exact absurd rfl hx
def rdT(cs:List SV):Tree SV→Tree (Bool×SV×Box)
 |.leaf v=>.leaf (false,v,.cells cs)
 |.node b t f=>.node b (rdT cs t) (rdT cs f)
 |.req b t=>.req b (rdT cs t)
 |.fail n=>.fail n
def y54(f:FuncId)(h:Fw→List SV→Option (Tree SV)):BFact:=⟨f,fun args B=>match B with
 |.cells cs=>match yc8 cs with
  |true=>match zq4 cs with
   |some x=>match h x args with
    |some t=>some (rdT cs t)
    |none=>none
   |none=>none
  |false=>none
 |_=>none⟩
theorem yX4{P:Program}{f:FuncId}{args cs:List SV}{x:Fw}(he:cs=x.cells):∀t:Tree SV,t.says (fun v=>zb3 P f args x (v,x))→(rdT cs t).says (za1 P f args (.cells cs))
 |.leaf v,k=>by subst he;exact k
 |.node _ t u,k=>⟨fun hb=>yX4 he t (k.1 hb),fun hb=>yX4 he u (k.2 hb)⟩
 |.req _ t,k=>fun hb=>yX4 he t (k hb)
 |.fail _,_=>trivial
theorem y55{P:Program}{f:FuncId}{h:Fw→List SV→Option (Tree SV)}(k:∀x rest t,h x rest=some t→t.says fun v=>zb3 P f rest x (v,x)):(y54 f h).ok P:=fun args B t ht=>by
 simp only[y54]at ht
 split at ht
 ·split at ht
  ·rename_i hn
   split at ht
   ·rename_i hx
    split at ht
    ·rename_i t' ht'
     cases ht;exact yX4 (yc9 (zq5 hx) hn) t' (k _ _ _ ht')
    ·cases ht
   ·cases ht
  ·cases ht
 ·cases ht
def inV(p:V3):Bool:=inR p.1 (-33554432) 33554432&& (inR p.2.1 (-33554432) 33554432&&inR p.2.2 (-33554432) 33554432)
theorem qM1{p:V3}:inV p=true↔(-33554432≤p.1∧p.1≤33554432)∧(-33554432≤p.2.1∧p.2.1≤33554432)∧-33554432≤p.2.2∧p.2.2≤33554432:=by simp only[inV,Bool.and_eq_true,v8]
def inE(n:Int):Bool:=inR n (-1152921504606846976) 1152921504606846976
def qX0(f:Fw)(p:V3)(e:Int):Bool:=inV f.loc&& (inV p&& (inE f.e&&inE e))
theorem qX1{f:Fw}{p:V3}{e:Int}:qX0 f p e=true↔inV f.loc=true∧inV p=true∧(-1152921504606846976≤f.e∧f.e≤1152921504606846976)∧-1152921504606846976≤e∧e≤1152921504606846976:=by simp only[qX0,inE,Bool.and_eq_true,v8]
theorem xC1{x:Int}(h: -67108864≤x∧x≤67108864):i64.wrap (x*x)=x*x∧0≤x*x∧x*x≤4503599627370496:=by
 have h1:0≤x*x:=by
  rcases Int.le_total 0 x with k|k
  ·exact Int.mul_nonneg k k
  ·have:=Int.mul_nonneg (show 0≤-x by omega) (show 0≤-x by omega);rwa [Int.neg_mul_neg]at this
 have h2:x*x≤67108864*67108864:=by
  rcases Int.le_total 0 x with k|k
  ·exact Int.mul_le_mul h.2 h.2 k (by omega)
  ·have:=Int.mul_le_mul (show -x≤67108864 by omega) (show -x≤67108864 by omega) (show 0≤-x by omega) (by omega)
   rwa [Int.neg_mul_neg]at this
 exact⟨w64 (by omega) (by omega),h1,by omega⟩
theorem xC4{a b:V3}(ha:inV a=true)(hb:inV b=true):i64.wrap (b.1-a.1)=b.1-a.1∧i64.wrap (b.2.1-a.2.1)=b.2.1-a.2.1∧i64.wrap (b.2.2-a.2.2)=b.2.2-a.2.2∧
  i64.wrap (i64.wrap (i64.wrap ((b.1-a.1)*(b.1-a.1))+i64.wrap ((b.2.1-a.2.1)*(b.2.1-a.2.1)))+i64.wrap ((b.2.2-a.2.2)*(b.2.2-a.2.2)))=sqs a b∧inR (sqs a b) 0 9223372036854775807=true:=by
 rw[qM1]at ha hb;obtain⟨e1,p1,q1⟩:=xC1 (x:=b.1-a.1) (by omega);obtain⟨e2,p2,q2⟩:=xC1 (x:=b.2.1-a.2.1) (by omega);obtain⟨e3,p3,q3⟩:=xC1 (x:=b.2.2-a.2.2) (by omega);refine⟨w64 (by omega) (by omega),w64 (by omega) (by omega),w64 (by omega) (by omega),?_,v8.2 (by unfold sqs;omega)⟩;rw[e1,e2,e3,w64 (x:=(b.1-a.1)*(b.1-a.1)+(b.2.1-a.2.1)*(b.2.1-a.2.1)) (by omega) (by omega),w64 (by omega) (by omega)];rfl
def xi7:Plan:=.fork (.all) (.all)
noncomputable def xi8(f:Fw)(p:V3)(e:Int):Tree StopX:=let y0:=i64.wrap (i64.wrap (i64.wrap (i64.wrap (p.1-f.loc.1)*i64.wrap (p.1-f.loc.1))+i64.wrap (i64.wrap (p.2.1-f.loc.2.1)*i64.wrap (p.2.1-f.loc.2.1)))+i64.wrap (i64.wrap (p.2.2-f.loc.2.2)*i64.wrap (p.2.2-f.loc.2.2))); .req (inR y0 0 9223372036854775807) (.node (isq y0==0) (.leaf (.fin (.ret (J (if i64.wrap (f.e-e)>i64.wrap (e-f.e)then i64.wrap (f.e-e)else i64.wrap (e-f.e))) [some (.cells (Fw.cells f))]))) (.leaf (.fin (.ret (J (isq y0)) [some (.cells (Fw.cells f))]))))
theorem xi6(f:Fw)(p:V3)(e:Int):xx1 (Env.ofB pP (v7 [z88]) (d7 []) (d9 []) (d8 []) (x8 []) (x8 []) (x8 []) (x8 [])) 1000 (j8 pP 216) 1 (x9 72 []) (u9 pP 216) xi7 (u7 pP 216 [.ptr 0 0,V3.sv p,J e]) [some (.cells f.cells)] =xi8 f p e:=by kernel_rfl
theorem xi5(f:Fw)(p:V3)(e:Int)(h:qX0 f p e=true):zb3 pP 216 [V3.sv p,J e] f (J (qW7 f p e),f):=
 qp8 (hB (l:=[z88]) (k:=[]) (j:=[]) (i:=[]) ([] :List Nat) ([] :List Nat) ([] :List Nat) ([] :List Nat) (⟨yo1,trivial⟩) o4 o4 o4) 1000 xi7 (keep:=(x9 72 [])) (t:=xi8 f p e) (xi6 f p e) (by
  unfold xi8;have lp:=qX1.1 h;obtain⟨x1,x2,x3,x4,x5⟩:=xC4 lp.1 lp.2.1;have w1:=w64 (x:=e-f.e) (by omega) (by omega);have w2:=w64 (x:=f.e-e) (by omega) (by omega);rw[x1,x2,x3];simp only[x4,x5,w1,w2,Tree.holds,sL,ne_eq,sLb,sLc,eq_self,sLd,sLe,sLf];(repeat' (first|apply And.intro|intro _));
  all_goals first
   |rfl
   |(refine ends ?_ (j6.refl _) rfl;unfold qW7;refine xJ6 ?_;(repeat' split)<;>omega)) (by kernel_rfl) (by kernel_rfl) (by kernel_rfl)
def zi3:Plan:=.all
noncomputable def zi4(f:Fw)(c:V4)(len line:Int):Tree StopX:= .req (yy0 len&&yy0 f.feed) (.req (qr4 f.queue.length) (.req ((f.queue.length+ [(c,zg9 f.ma c,0,i64.wrap (xB4 f.ma c len f.feed*xB4 f.ma c len f.feed),0)].length)*64≤140737488355328) (.req (0≤(↑(f.queue++[(c,zg9 f.ma c,0,i64.wrap (xB4 f.ma c len f.feed*xB4 f.ma c len f.feed),0)]).length:Int)&& (↑(f.queue++[(c,zg9 f.ma c,0,i64.wrap (xB4 f.ma c len f.feed*xB4 f.ma c len f.feed),0)]).length:Int)==(↑(f.queue++[(c,zg9 f.ma c,0,i64.wrap (xB4 f.ma c len f.feed*xB4 f.ma c len f.feed),0)]).length:Int)&&8*(↑(f.queue++[(c,zg9 f.ma c,0,i64.wrap (xB4 f.ma c len f.feed*xB4 f.ma c len f.feed),0)]).length:Int)≤140737488355328&&(↑(f.queue++[(c,zg9 f.ma c,0,i64.wrap (xB4 f.ma c len f.feed*xB4 f.ma c len f.feed),0)]).length:Int)≤(9223372036854775807:Int)) (.leaf (.at (v5 pP 215 0) 137 (j9 137 [(0,.ptr 0 0),(3,J line),(10,SV.row 1),(11,SV.row 2),(12,J 1)]) [some (.cells (Fw.cells f)),some (.rows t4 (f.queue++[(c,zg9 f.ma c,0,i64.wrap (xB4 f.ma c len f.feed*xB4 f.ma c len f.feed),0)])),some (.rows (Ty.int IntKind.i64) (List.replicate (↑(f.queue++[(c,zg9 f.ma c,0,i64.wrap (xB4 f.ma c len f.feed*xB4 f.ma c len f.feed),0)]).length:Int).toNat (0:Int)))])))))
theorem ad0(f:Fw)(c:V4)(len line:Int):xx1 (Env.ofC (Env.ofB pP (v7 [qe0,z30,z90]) (d7 [qc3.frz]) (d9 []) (d8 []) (x8 []) (x8 []) (x8 []) (x8 [])) (yH4 [yg8,yg9])) 1000 (j8 pP 215) 1 (x9 137 [0,3,10,11,12]) (u9 pP 215) zi3 (u7 pP 215 [.ptr 0 0,V4.sv c,J len,J line]) [some (.cells f.cells)] =zi4 f c len line:=by kernel_rfl
def zi6:Plan:=let z0:Plan:=.fork (.fork (.lit (.all)) (.lit (.all))) (.lit (.all));.fork (.all) (.fork z0 (.fork z0 z0))
noncomputable def zi7(f:Fw)(line:Int)(q:List Bk)(s:List Int)(i:Int):Tree StopX:=let y0:Tree StopX:=.leaf (.fin (.ret (J 2) [some (.cells (Fw.cells f))]));let y1:=decide ((f.lines.length+ [line].length)*8≤140737488355328);let y2:=f.queue.getD 0 dBk; .node (i< (↑q.length:Int)) (.req (0≤i64.wrap (i-1)&&i64.wrap (i-1)< (↑q.length:Int)) (.req ((i64.wrap (i-1)).toNat<q.length) (.req (0≤i&&i< (↑q.length:Int)) (.req (i.toNat<q.length) (.req (0≤i&&i< (↑s.length:Int)) (.req (i.toNat<s.length) (.leaf (.at (v5 pP 215 0) 137 (j9 137 [(0,.ptr 0 0),(3,J line),(10,SV.row 1),(11,SV.row 2),(12,J (i64.wrap (i+1)))]) [some (.cells (Fw.cells f)),some (.rows t4 q),some (.rows (Ty.int IntKind.i64) (s.set i.toNat (i64.wrap (qR8 f.ma (q.getD (i64.wrap (i-1)).toNat dBk).1 (q.getD i.toNat dBk).1*qR8 f.ma (q.getD (i64.wrap (i-1)).toNat dBk).1 (q.getD i.toNat dBk).1))))])))))))) (.node (f.moving) (.req (yy9 q s f.mo.1.2.2.2.2) (.node (f.mo.1.2.2.2.2≤crL q 0) (.node (gL q s f.mo.1.2.2.2.2 0=f.mo.1.2.2.2.2) (.req (qr4 f.lines.length) (.req y1 (.leaf (.fin (.ret (J 0) [some (.cells (Fw.cells {f with queue:=(plB q (gL q s f.mo.1.2.2.2.2)),lines:=(f.lines++[line])}))]))))) y0) y0)) (.node ((↑f.queue.length:Int)>0) (.req (0< (↑f.queue.length:Int)) (.req (yy9 q s y2.2.2.1) (.node (y2.2.2.1≤crL q 0) (.node (gL q s y2.2.2.1 0=y2.2.2.1) (.req (qr4 f.lines.length) (.req y1 (.leaf (.fin (.ret (J 0) [some (.cells (Fw.cells {f with queue:=(plB q (gL q s y2.2.2.1)),lines:=(f.lines++[line])}))]))))) y0) y0))) (.req (yy9 q s 0) (.node (0≤crL q 0) (.node (gL q s 0 0=0) (.req (qr4 f.lines.length) (.req y1 (.leaf (.fin (.ret (J 0) [some (.cells (Fw.cells {f with queue:=(plB q (gL q s 0)),lines:=(f.lines++[line])}))]))))) y0) y0))))
theorem ad1(f:Fw)(line:Int)(q:List Bk)(s:List Int)(i:Int):xx1 (Env.ofC (Env.ofB pP (v7 [qe0,z30,z90]) (d7 [qc3.frz]) (d9 []) (d8 []) (x8 []) (x8 []) (x8 []) (x8 [])) (yH4 [yg8,yg9])) 1000 (j8 pP 215) 1 (x9 137 [0,3,10,11,12]) (v5 pP 215 0) zi6 (j9 137 [(0,.ptr 0 0),(3,J line),(10,.row 1),(11,.row 2),(12,J i)]) [some (.cells f.cells),some (.rows t4 q),some (.rows (.int .i64) s)] =zi7 f line q s i:=by kernel_rfl
def zk6(f:Fw)(c:V4)(len:Int):Bool:=okL f.ma c&& (yy0 len&& (yy0 f.feed&& (f.queue.all xB0&& (qX5 f&& (f.queue.length≤1000&&inR (z04 f) 0 1099511627776)))))
theorem zk7{f:Fw}{c:V4}{len:Int}:zk6 f c len=true↔okL f.ma c=true∧yy0 len=true∧yy0 f.feed=true∧(∀b∈f.queue,xB0 b=true)∧f.lines.length=f.queue.length∧f.queue.length≤1000∧0≤z04 f∧z04 f≤1099511627776:=by
 simp only[zk6,Bool.and_eq_true,List.all_eq_true,qX6,decide_eq_true_eq,v8]
theorem yy1{x:Int}:yy0 x=true↔-9223372036854775808≤x∧x≤9223372036854775807:=v8
theorem zF7(m:Ma)(q:List Bk)(i:Nat):0≤zF6 m q i∧zF6 m q i≤1099511627776:=by
 unfold zF6
 split
 ·omega
 ·have:=xC3 (qS0 m (q.getD (i-1) dBk).1 (q.getD i dBk).1);omega
theorem zG4(m:Ma)(q:List Bk):(zG3 m q).length=q.length:=by simp[zG3]
theorem zk8(f:Fw)(c:V4)(len:Int):(s9 f c len).length=f.queue.length+1:=by simp[s9]
theorem ya5{f:Fw}{c:V4}{len:Int}(h:zk6 f c len=true):xB0 (ya4 f.ma c len f.feed)=true:=by
 obtain⟨h1,h2,h3,_⟩:=zk7.1 h;have a:=zh1 h1;have s:=xB6 h1 (l:=len) (f:=f.feed) (yy1.1 h2).2 (yy1.1 h3).2;have q:=xC2 (v:=xB4 f.ma c len f.feed) (M:=1048576) (by omega);exact xB1.2 ⟨(yy5.1 h1).2,a,by show 1≤xB4 f.ma c len f.feed*xB4 f.ma c len f.feed;omega,by show xB4 f.ma c len f.feed*xB4 f.ma c len f.feed≤1099511627776;omega⟩
theorem zm0{f:Fw}{c:V4}{len:Int}(h:zk6 f c len=true):PlOk (s9 f c len) (zG3 f.ma (s9 f c len)) (z04 f):=by
 have p:=zk7.1 h;refine⟨by rw[zk8];omega,fun b hb=>?_,zG4 _ _,fun x hx=>?_,p.2.2.2.2.2.2⟩
 ·unfold s9 at hb
  rcases List.mem_append.1 hb with hb|hb
  ·exact p.2.2.2.1 b hb
  ·rw[List.mem_singleton.1 hb];exact ya5 h
 ·unfold zG3 at hx
  obtain⟨i,_,rfl⟩:=List.mem_map.1 hx;exact zF7 _ _ _
theorem zl9{f:Fw}{c:V4}{len:Int}(h:zk6 f c len=true):yy9 (s9 f c len) (zG3 f.ma (s9 f c len)) (z04 f)=true:=
 yz0.2 ⟨by have:=(zk7.1 h).2.2.2.2.2.1;rw[zk8];omega,zm0 h⟩
def zl1(f:Fw)(c:V4)(len:Int):Int:=if zk4 f c len=true then 0 else 2
def zl4(f:Fw)(c:V4)(len line:Int):Fw:=if zk4 f c len=true then m8 f c len line else f
theorem zG5{m:Ma}{q:List Bk}{s:List Int}(hs:s.length=q.length)(h:∀t,t<q.length→s.getD t 0=zF6 m q t):s=zG3 m q:=qY3 hs h
theorem wsq{v:Int}(hv:0≤v∧v≤1048576):i64.wrap (v*v)=v*v:=by
 have:=xC3 hv;exact w64 (by omega) (by omega)
theorem zF8(m:Ma)(q:List Bk){i:Nat}(h:1≤i):zF6 m q i=qR8 m (q.getD (i-1) dBk).1 (q.getD i dBk).1*qR8 m (q.getD (i-1) dBk).1 (q.getD i dBk).1:=if_neg (by omega)
theorem zl3{f:Fw}{c:V4}{len:Int}(h:zk4 f c len=true):zl1 f c len=0:=if_pos h
theorem zl2{f:Fw}{c:V4}{len:Int}(h:¬zk4 f c len=true):zl1 f c len=2:=if_neg h
theorem zl6{f:Fw}{c:V4}{len line:Int}(h:zk4 f c len=true):zl4 f c len line=m8 f c len line:=if_pos h
theorem zl5{f:Fw}{c:V4}{len line:Int}(h:¬zk4 f c len=true):zl4 f c len line=f:=if_neg h
theorem wrA:∀x∈[qc3.frz],x.ok pP:=allQ.all (p:=WFact.ok pP) (l:=[qc3.frz]) ⟨Fact.frz_ok yr9,trivial⟩
theorem kA:Known pP (Env.ofC (Env.ofB pP (v7 [qe0,z30,z90]) (d7 [qc3.frz]) (d9 []) (d8 []) (x8 []) (x8 []) (x8 []) (x8 [])) (yH4 [yg8,yg9])):=
 qT8 (hB (l:=[qe0,z30,z90]) (k:=[qc3.frz]) (j:=[]) (i:=[]) [] [] [] [] ⟨yt9,yh6,yo3,trivial⟩ wrA o4 o4) (allQ.all (p:=OFact.ok pP) (l:=[yg8,yg9]) ⟨yq4,yq5,trivial⟩)
theorem zi5{f:Fw}{c:V4}{len:Int}(line:Int)(h:zk6 f c len=true):∀ (k i:Nat) (s:List Int),i+k=f.queue.length+1→1≤i→s.length=f.queue.length+1→(∀t,t<i→s.getD t 0=zF6 f.ma (s9 f c len) t)→
  zd3 pP (j8 pP 215) [] 1 (.ret (J (zl1 f c len)) [some (.cells (zl4 f c len line).cells)]) (v5 pP 215 0) (j9 137 [(0,.ptr 0 0),(3,J line),(10,.row 1),(11,.row 2),(12,J i)]) [some (.cells f.cells),some (.rows t4 (s9 f c len)),some (.rows (.int .i64) s)]
 |k,i,s,hi,h1,hs,hc=>by
  have p:=zk7.1 h;have pl:=zl9 h;have ql:=zk8 f c len;refine y91 kA (n:=1000) (keep:=x9 137 [0,3,10,11,12]) (p:=zi6) (by show 1≤3;omega) ?_;erw [ad1 f line (s9 f c len) s i];unfold zi7
  have t0:(i:Int).toNat=i:=by omega
  have wm:i64.wrap ((i:Int)-1)=((i-1:Nat):Int):=by rw[w64 (by omega) (by omega)];omega
  have tm:((i-1:Nat):Int).toNat=i-1:=by omega
  have w1:i64.wrap ((i:Int)+1)=((i+1:Nat):Int):=by rw[w64 (by omega) (by omega)];omega
  have jr:=qS0 f.ma ((s9 f c len).getD (i-1) dBk).1 ((s9 f c len).getD i dBk).1
  match k,hi with
  |k+1,hi=>
   have hi2:(i:Int)< (s9 f c len).length:=by omega
   have ih:=zi5 line h k (i+1) (s.set i (zF6 f.ma (s9 f c len) i)) (by omega) (by omega) (by simpa using hs) (fun t ht=>by
    rw[xy2 (by omega)]
    split
    ·rename_i e;rw[e]
    ·exact hc t (by omega))
   rw[zF8 f.ma (s9 f c len) h1]at ih;simp only[t0,wm,tm,w1,wsq jr,hi2,Tree.holds,decide_eq_true_eq,decide_eq_false_iff_not,Bool.and_eq_true,not_true_eq_false,false_implies,true_and,and_true,true_implies];exact⟨by omega,by omega,by omega,by omega,by omega,by omega,o9 _ _,ih⟩
  |0,hi=>
   have hi2:¬((i:Int)< (s9 f c len).length):=by omega
   have es:s=zG3 f.ma (s9 f c len):=zG5 (by omega) fun t ht=>hc t (by omega)
   subst es;have f2:qr4 f.lines.length=true:=qr5.2 (by omega)
   have l2:(f.lines.length+ [line].length)*8≤140737488355328:=by simp;omega
   have key:∀e,e=z04 f→(yy9 (s9 f c len) (zG3 f.ma (s9 f c len)) e=true∧((e≤crL (s9 f c len) 0→(gL (s9 f c len) (zG3 f.ma (s9 f c len)) e 0=e→Fin.ret (SV.int IntKind.i64 0) [some (Box.cells (Fw.cells {f with queue:=plB (s9 f c len) (gL (s9 f c len) (zG3 f.ma (s9 f c len)) e),lines:=f.lines++[line]}))] =.ret (J (zl1 f c len)) [some (.cells (zl4 f c len line).cells)])∧(¬gL (s9 f c len) (zG3 f.ma (s9 f c len)) e 0=e→Fin.ret (SV.int IntKind.i64 2) [some (Box.cells (Fw.cells f))] =.ret (J (zl1 f c len)) [some (.cells (zl4 f c len line).cells)]))∧(¬e≤crL (s9 f c len) 0→Fin.ret (SV.int IntKind.i64 2) [some (Box.cells (Fw.cells f))] =.ret (J (zl1 f c len)) [some (.cells (zl4 f c len line).cells)]))):=fun e he=>by
    subst he;refine⟨pl,fun a=>⟨fun b=>?_,fun b=>?_⟩,fun a=>?_⟩
    ·have o:=zk5.2 ⟨a,b⟩
     rw[zl3 o,zl6 o];rfl
    ·have o:¬zk4 f c len=true:=fun o=>b (zk5.1 o).2
     rw[zl2 o,zl5 o];rfl
    ·have o:¬zk4 f c len=true:=fun o=>a (zk5.1 o).1
     rw[zl2 o,zl5 o];rfl
   have l0:(f.queue.length:Int)>0↔¬f.queue.length=0:=by omega
   cases hm:f.moving
   ·by_cases hq:f.queue.length=0
    ·have kk:=key 0 (by unfold z04;rw[hm,if_neg (by decide),if_pos hq])
     have hq0:¬((f.queue.length:Int)>0):=by omega
     simp only[hm]at kk;simp only[hi2,hq0,f2,l2,Tree.holds,decide_eq_true_eq,decide_eq_false_iff_not,false_implies,true_and,true_implies,not_false_eq_true,Bool.false_eq_true];exact⟨kk.1,fun a=>⟨fun b=>(kk.2.1 a).1 b,fun b=>(kk.2.1 a).2 b⟩,fun a=>kk.2.2 a⟩
    ·have kk:=key (f.queue.getD 0 dBk).2.2.1 (by unfold z04;rw[hm,if_neg (by decide),if_neg hq])
     have hq0:(f.queue.length:Int)>0:=by omega
     have hq1:(0:Int)<f.queue.length:=by omega
     simp only[hm]at kk;simp only[hi2,hq0,hq1,f2,l2,Tree.holds,decide_eq_true_eq,decide_eq_false_iff_not,false_implies,true_and,true_implies,not_false_eq_true,not_true_eq_false,Bool.false_eq_true,and_true];exact⟨kk.1,fun a=>⟨fun b=>(kk.2.1 a).1 b,fun b=>(kk.2.1 a).2 b⟩,fun a=>kk.2.2 a⟩
   ·have kk:=key f.mo.1.2.2.2.2 (by unfold z04;rw[hm,if_pos rfl])
    simp only[hm]at kk;simp only[hi2,hm,f2,l2,Tree.holds,decide_eq_true_eq,decide_eq_false_iff_not,false_implies,true_and,true_implies,not_false_eq_true,Bool.true_eq_false,and_true];exact⟨kk.1,fun a=>⟨fun b=>(kk.2.1 a).1 b,fun b=>(kk.2.1 a).2 b⟩,fun a=>kk.2.2 a⟩
theorem xa6(f:Fw)(c:V4)(len line:Int)(h:zk6 f c len=true):zb3 pP 215 [V4.sv c,J len,J line] f (J (zl1 f c len),zl4 f c len line):=by
 have p:=zk7.1 h;have ql:=zk8 f c len;have sr:=xB6 p.1 (l:=len) (f:=f.feed) (yy1.1 p.2.1).2 (yy1.1 p.2.2.1).2;have w:=wsq (v:=xB4 f.ma c len f.feed) (by omega);refine qp7 (cs:=(zl4 f c len line).cells) (by kernel_rfl) rfl rfl rfl (j6.refl _) (y91 kA (n:=1000) (keep:=x9 137 [0,3,10,11,12]) (p:=zi3) (Nat.le_refl _) ?_);have q:=ad0 f c len line;unfold u7 u9 at q;erw [q];unfold zi4
 have lp:=zi5 line h f.queue.length 1 (List.replicate (s9 f c len).length 0) (by omega) (by omega) (by simp[ql]) (fun t ht=>by
  have:t=0:=by omega
  subst this
  rw[ql];rfl)
 have tn:((s9 f c len).length:Int).toNat=(s9 f c len).length:=by omega
 rw[w];simp only[show f.queue++[(c,zg9 f.ma c,0,xB4 f.ma c len f.feed*xB4 f.ma c len f.feed,0)] =s9 f c len from rfl,tn,Tree.holds,Bool.and_eq_true,decide_eq_true_eq,beq_self_eq_true,and_true,true_and];refine⟨⟨p.2.1,p.2.2.1⟩,qr5.2 (by omega),by simp;omega,⟨⟨by omega,by omega⟩,by omega⟩,o9 _ _,lp⟩
def zs9:BFact:=zz2 215 fun f rest=>match rest with
 |[.agg [.int .i64 a,.int .i64 b,.int .i64 c,.int .i64 d],.int .i64 len,.int .i64 line] =>some (.req (zk6 f (a,b,c,d) len) (.node (zk4 f (a,b,c,d) len) (.leaf (J 0,m8 f (a,b,c,d) len line)) (.leaf (J 2,f))))
 |_=>none
theorem yi8:zs9.ok pP:=zz3 fun f rest t ht=>by
 split at ht
 ·rename_i a b c d len line
  cases ht;intro h;have k:=xa6 f (a,b,c,d) len line h;refine⟨fun o=>?_,fun o=>?_⟩
  ·rw[zl3 o,zl6 o]at k;exact k
  ·have o:¬zk4 f (a,b,c,d) len=true:=by rw[o];exact Bool.false_ne_true
   rw[zl2 o,zl5 o]at k;exact k
 ·cases ht
def yV5:BFact:=y54 213 fun f rest=>match rest with
 |[.agg [.int .i64 a0,.int .i64 a1,.int .i64 a2,.int .i64 a3,.int .i64 a4,.int .i64 a5,.int .i64 a6,.int .i64 a7]] =>some (.leaf (.tuple [V3.sv (m7 f ⟨a0,a1,a2,a3,a4,a5,a6,a7⟩),J (xK8 f ⟨a0,a1,a2,a3,a4,a5,a6,a7⟩)]))
 |_=>none
theorem yt4:yV5.ok pP:=y55 fun f rest t ht=>by
 split at ht
 ·cases ht;exact xs0 f ⟨_,_,_,_,_,_,_,_⟩
 ·cases ht
def yV1:BFact:=y54 216 fun f rest=>match rest with
 |[.agg [.int .i64 x,.int .i64 y,.int .i64 z],.int .i64 e] =>some (.req (qX0 f (x,y,z) e) (.leaf (J (qW7 f (x,y,z) e))))
 |_=>none
theorem yt2:yV1.ok pP:=y55 fun f rest t ht=>by
 split at ht
 ·cases ht;exact fun h=>xi5 f (_,_,_) _ h
 ·cases ht
noncomputable def qQ4:List Item:=xH0 (xx1 (Env.ofB pP (v7 [qa3,z87,z74,qa2,qa7]) (d7 []) (d9 [BFact.toP yV5]) (d8 [yV5]) (x8 []) (x8 []) (x8 []) (x8 [12])) 1000 (j8 pP 146) 1 (x9 152 []) (u9 pP 146) .all (u7 pP 146 [.ptr 0 0,J 1,(⟨0,0,0,0,0,0,0,0⟩:Gc.C).sv]) [some (.cells fw0.cells)])
def q84:Plan:=let z1:Plan:=.lit (.lit (.lit .all));let z0:Plan:=.fork (.fork z1 (.ln 3 (.fork (.ln 12 (.fork .all .all)) (.ln 12 (.lit .all))))) (.fork z1 z1);.fork (.ln 19 (.lit .all)) (.ln 6 (.fork (.ln 12 (.lit .all)) (.ln 5 (.fork (.ln 6 (.lit .all)) (.ln 6 (.fork .all (.fork z0 z0)))))))
noncomputable def q85(f:Fw)(line:Int)(c:Gc.C):Tree StopX:=let y3:={f with feed:=c.f};let y5:Tree StopX:=.leaf (.fin (.ret (J 14) [some (.cells (Fw.cells f))]));let y6:Box:=.cells (Fw.cells {f with feed:=c.f});let y7:Tree StopX:=.leaf (.fin (.ret (J 8) [some (.cells (Fw.cells f))]));let y8:=((m7 y3 c).1,(m7 y3 c).2);let y0:=q66 f.ma y8 (xK8 y3 c);let y2:Tree StopX:=.req (q79 y3&&yU8 y3) (.leaf (.at qQ4 152 (j9 152 [(0,.ptr 0 0),(1,J line),(7,.ptr 1 0),(8,J (xK8 y3 c)),(9,.ptr 2 0),(11,.ptr 3 0)]) [some y6,some (.cells [J (m7 y3 c).1,J (m7 y3 c).2.1,J (m7 y3 c).2.2]),some (.cells [J y0.1,J y0.2.1,J y0.2.2.1,J y0.2.2.2]),some (.cells [J (wsub4 y0 (qz2 y3)).1,J (wsub4 y0 (qz2 y3)).2.1,J (wsub4 y0 (qz2 y3)).2.2.1,J (wsub4 y0 (qz2 y3)).2.2.2])]));let y9:=((m7 f c).1,(m7 f c).2);let y4:=q66 f.ma y9 (xK8 f c);let y1:Tree StopX:=.req (q79 f&&yU8 f) (.leaf (.at qQ4 152 (j9 152 [(0,.ptr 0 0),(1,J line),(7,.ptr 1 0),(8,J (xK8 f c)),(9,.ptr 2 0),(11,.ptr 3 0)]) [some (.cells (Fw.cells f)),some (.cells [J (m7 f c).1,J (m7 f c).2.1,J (m7 f c).2.2]),some (.cells [J y4.1,J y4.2.1,J y4.2.2.1,J y4.2.2.2]),some (.cells [J (wsub4 y4 (qz2 f)).1,J (wsub4 y4 (qz2 f)).2.1,J (wsub4 y4 (qz2 f)).2.2.1,J (wsub4 y4 (qz2 f)).2.2.2])]));let y10:Tree StopX:=.leaf (.fin (.ret (J 8) [some y6])); .node (line<1) y5 (.node (!f.homed) y5 (.node (f.back) y5 (.node (f.mode != 1) y5 (.node (i64.wrap (↑(BitVec.ofInt 64 c.has &&&BitVec.ofInt 64 16).toNat:Int) != 0) (.node (q59 f.ma y8 (xK8 y3 c)) (.node (!qM4 f.ma y8) y10 (.node (xK8 y3 c>f.e) (.req true (.node (f.r0<f.cold) (.leaf (.fin (.ret (J 15) [some y6]))) y2)) y2)) (.node (!qM4 f.ma y8) y10 y10)) (.node (q59 f.ma y9 (xK8 f c)) (.node (!qM4 f.ma y9) y7 (.node (xK8 f c>f.e) (.req true (.node (f.r0<f.cold) (.leaf (.fin (.ret (J 15) [some (.cells (Fw.cells f))]))) y1)) y1)) (.node (!qM4 f.ma y9) y7 y7))))))
theorem mv0(f:Fw)(line:Int)(c:Gc.C):xx1 (Env.ofB pP (v7 [qa3,z87,z74,qa2,qa7]) (d7 []) (d9 [BFact.toP yV5]) (d8 [yV5]) (x8 []) (x8 []) (x8 []) (x8 [12])) 1000 (j8 pP 146) 1 (x9 152 [0,1,7,8,9,11]) (u9 pP 146) q84 (u7 pP 146 [.ptr 0 0,J line,c.sv]) [some (.cells f.cells)] =q85 f line c:=by kernel_rfl
def q86:Plan:=let z0:Plan:=.fork (.fork (.lit .all) (.lit .all)) .all;.fork (.ln 3 (.lit .all)) (.ln 3 (.fork .all (.fork (.ln 7 (.fork .all z0)) (.ln 8 z0))))
noncomputable def q88(f:Fw)(line:Int)(u:V3)(e:Int)(p d:V4):Tree StopX:=let y1:Tree StopX:=.leaf (.fin (.ret (J 2) [some (.cells (Fw.cells f))]));let y2:=!(d.1==0&& (d.2.1==0&& (d.2.2.1==0&& (d.2.2.2==0&&true))));let y0:Tree StopX:=.node y2 (.req (qX0 f u e) (.req (qX0 f u e) (.req (zk6 f d (qW7 f u e)) (.node (zk4 f d (qW7 f u e)) (.leaf (.fin (.ret (J 0) [some (.cells (Fw.cells { (m8 f d (qW7 f u e) line)with loc:=u,e:=e}))]))) y1)))) (.leaf (.fin (.ret (J 0) [some (.cells (Fw.cells {f with loc:=u,e:=e}))]))); .node (!v9 p) y1 (.node (!v9 d) y1 (.node y2 (.node ((↑f.queue.length:Int)≥32) (.leaf (.fin (.ret (J 18) [some (.cells (Fw.cells f))]))) y0) y0))
theorem mv1(f:Fw)(line:Int)(u:V3)(e:Int)(p d:V4):xx1 (Env.ofB pP (v7 [qa3,z87,z74,qa2,qa7]) (d7 []) (d9 [BFact.toP zs9,BFact.toP yV1]) (d8 [zs9,yV1]) (x8 []) (x8 []) (x8 []) (x8 [])) 1000 (j8 pP 146) 1 (x9 152 [0,1,7,8,9,11]) qQ4 q86 (j9 152 [(0,.ptr 0 0),(1,J line),(7,.ptr 1 0),(8,J e),(9,.ptr 2 0),(11,.ptr 3 0)]) [some (.cells f.cells),some (.cells (V3.cells u)),some (.cells (V4.cells p)),some (.cells (V4.cells d))] =q88 f line u e p d:=by kernel_rfl
theorem nzT(d:V4):(!(d.1==0&& (d.2.1==0&& (d.2.2.1==0&& (d.2.2.2==0&&true)))))=nz4 d:=by
 unfold nz4;rw[Bool.and_true]
section
variable {g:Fw} {line e:Int} {u:V3} {p d:V4}
theorem xS1(h:(v9 p&&v9 d)=false):tlE g u e p d=2:=by unfold tlE;rw[h]
theorem xS4(h:(v9 p&&v9 d)=true)(k:nz4 d=false):tlE g u e p d=0:=by unfold tlE;rw[h,k]
theorem xS2(h:(v9 p&&v9 d)=true)(k:nz4 d=true)(q:32≤g.queue.length):tlE g u e p d=18:=by unfold tlE;rw[h,k];exact if_pos q
theorem xS5(h:(v9 p&&v9 d)=true)(k:nz4 d=true)(q:¬32≤g.queue.length)(o:zk4 g d (qW7 g u e)=true):tlE g u e p d=0:=by unfold tlE;rw[h,k];dsimp only;rw[if_neg q,if_pos o]
theorem xS3(h:(v9 p&&v9 d)=true)(k:nz4 d=true)(q:¬32≤g.queue.length)(o:¬zk4 g d (qW7 g u e)=true):tlE g u e p d=2:=by unfold tlE;rw[h,k];dsimp only;rw[if_neg q,if_neg o]
theorem xS9(h:¬tlE g u e p d=0):tlO g line u e p d=g:=if_neg h
theorem xT0(h:tlE g u e p d=0):tlO g line u e p d=tlF g line u e d:=if_pos h
theorem xS7(k:nz4 d=false):tlF g line u e d={g with loc:=u,e:=e}:=by unfold tlF;rw[k]
theorem xS8(k:nz4 d=true):tlF g line u e d={m8 g d (qW7 g u e) line with loc:=u,e:=e}:=by unfold tlF;rw[k]
theorem kMv:Known pP (Env.ofB pP (v7 [qa3,z87,z74,qa2,qa7]) (d7 []) (d9 [BFact.toP zs9,BFact.toP yV1]) (d8 [zs9,yV1]) (x8 []) (x8 []) (x8 []) (x8 [])):=
 hB (l:=[qa3,z87,z74,qa2,qa7]) (k:=[]) (j:=[BFact.toP zs9,BFact.toP yV1]) (i:=[zs9,yV1]) [] [] [] [] ⟨yp5,yo0,ym7,yp4,yp9,trivial⟩ o4 (allQ.all (p:=PFact.ok pP) (l:=[BFact.toP zs9,BFact.toP yV1]) ⟨BFact.toP_ok yi8,BFact.toP_ok yt2,trivial⟩) (allQ.all (p:=BFact.ok pP) (l:=[zs9,yV1]) ⟨yi8,yt2,trivial⟩)
theorem kMh:Known pP (Env.ofB pP (v7 [qa3,z87,z74,qa2,qa7]) (d7 []) (d9 [BFact.toP yV5]) (d8 [yV5]) (x8 []) (x8 []) (x8 []) (x8 [12])):=
 hB (l:=[qa3,z87,z74,qa2,qa7]) (k:=[]) (j:=[BFact.toP yV5]) (i:=[yV5]) [] [] [] [12] ⟨yp5,yo0,ym7,yp4,yp9,trivial⟩ o4 (allQ.all (p:=PFact.ok pP) (l:=[BFact.toP yV5]) ⟨BFact.toP_ok yt4,trivial⟩) (allQ.all (p:=BFact.ok pP) (l:=[yV5]) ⟨yt4,trivial⟩)
theorem q87(hl:v9 d=true→nz4 d=true→¬32≤g.queue.length→qX0 g u e=true∧zk6 g d (qW7 g u e)=true):
  zd3 pP (j8 pP 146) [] 1 (.ret (J (tlE g u e p d)) [some (.cells (tlO g line u e p d).cells)]) qQ4 (j9 152 [(0,.ptr 0 0),(1,J line),(7,.ptr 1 0),(8,J e),(9,.ptr 2 0),(11,.ptr 3 0)]) [some (.cells g.cells),some (.cells (V3.cells u)),some (.cells (V4.cells p)),some (.cells (V4.cells d))] :=by
 refine y91 kMv (n:=1000) (keep:=x9 152 [0,1,7,8,9,11]) (p:=q86) (by show 1≤4;omega) ?_;erw [mv1 g line u e p d];unfold q88;rw[nzT]
 cases hp:v9 p
 ·have h:(v9 p&&v9 d)=false:=by rw[hp];rfl
  have k:=xS1 (g:=g) (u:=u) (e:=e) h;rw[k,xS9 (by rw[k];decide)];exact⟨fun _=>rfl,fun c=>by cases c⟩
 cases hd:v9 d
 ·have h:(v9 p&&v9 d)=false:=by rw[hp,hd];rfl
  have k:=xS1 (g:=g) (u:=u) (e:=e) h;rw[k,xS9 (by rw[k];decide)];exact⟨fun c=>(by cases c),fun _=>⟨fun _=>rfl,fun c=>by cases c⟩⟩
 have h:(v9 p&&v9 d)=true:=by rw[hp,hd];rfl
 refine⟨fun c=>(by cases c),fun _=>⟨fun c=>(by cases c),fun _=>?_⟩⟩
 cases hz:nz4 d
 ·have k:=xS4 (g:=g) (u:=u) (e:=e) h hz
  rw[k,xT0 k,xS7 hz];exact⟨fun c=>(by cases c),fun _=>⟨fun c=>(by cases c),fun _=>rfl⟩⟩
 by_cases hq:32≤g.queue.length
 ·have k:=xS2 (g:=g) (u:=u) (e:=e) h hz hq
  rw[k,xS9 (by rw[k];decide)];exact⟨fun _=>⟨fun _=>rfl,fun c=>absurd (of_decide_eq_false c) (fun n=>n (by omega))⟩,fun c=>by cases c⟩
 ·obtain⟨l1,l2⟩:=hl hd hz hq
  refine⟨fun _=>⟨fun c=>absurd (of_decide_eq_true c) (by omega),fun _=>⟨fun _=>⟨l1,l1,l2,fun o=>?_,fun o=>?_⟩,fun c=>by cases c⟩⟩,fun c=>by cases c⟩
  ·have k:=xS5 (g:=g) (u:=u) (e:=e) h hz hq o
   rw[k,xT0 k,xS8 hz];rfl
  ·have k:=xS3 (g:=g) (u:=u) (e:=e) h hz hq (by rw[o];exact Bool.false_ne_true)
   rw[k,xS9 (by rw[k];decide)];rfl
end
structure VF (f:Fw):Prop where
 ma:f.ma.ok=true
 c0:f.c0.ok=true
 c1:f.c1.ok=true
 g0:f.g0.ok=true
 g1:f.g1.ok=true
 mode:1≤f.mode∧f.mode≤3
 nums:(-16777216≤f.loc.1∧f.loc.1≤16777216)∧(-16777216≤f.loc.2.1∧f.loc.2.1≤16777216)∧(-16777216≤f.loc.2.2∧f.loc.2.2≤16777216)∧(-16777216≤f.e∧f.e≤16777216)∧(0≤f.feed∧f.feed≤1048576)∧(0≤f.dwell∧f.dwell≤1048576)∧(0≤f.waits∧f.waits≤3)∧(0≤f.fan∧f.fan≤255)∧(0≤f.line∧f.line≤1099511627776)∧(0≤f.active∧f.active≤1099511627776)∧(0≤f.ticks∧f.ticks≤1099511627776)∧0≤f.cold∧f.cold≤400000
 moves:q79 f=true
 queued:yU8 f=true
 ends:(¬f.mode=3∧f.homed=true)∨(f.moving=false∧f.queue.length=0)
 len:f.queue.length≤32
 lens:f.lines.length=f.queue.length
 pos:v9 f.pos=true
 ret:v9 f.ret=true
 beg:v9 (begin4 f)=true
 q0:v9 (yU5 f)=true
 blk:∀i,i<f.queue.length→zA7 (yU5 f) f.queue f.lines i=true
theorem t9{f:Fw}(h:v6 f=true):VF f:=by
 obtain⟨h1,h2,h3,h4,h5⟩:=x06.1 h;obtain⟨a1,a2,a3,a4,a5⟩:=yM2.1 h1;obtain⟨b1,b2⟩:=q55.1 h2;obtain⟨q1,q2,q3,q4,q5,q6,q7⟩:=yU9.1 h4;exact⟨a1,a2,a3,a4,a5,b1,yf2.1 b2,h3,h4,zZ8.1 h5,q1,q2,q3,q4,q5,q6,q7⟩
theorem qx3{α:Type}{l:List α}{x d:α}(h:x∈l):∃i,i<l.length∧l.getD i d=x:=by
 obtain⟨i,hi,e⟩:=List.getElem_of_mem h;exact⟨i,hi,by rw[List.getD_eq_getElem?_getD,List.getElem?_eq_getElem hi];exact e⟩
theorem zB0{p:V4}{q:List Bk}{ls:List Int}{i:Nat}(h:zA7 p q ls i=true):x04 (q.getD i dBk)=true∧(0≤ls.getD i 0∧ls.getD i 0≤1099511627776)∧v9 (yQ7 p q (i+1))=true:=by
 simp only[zA7,Bool.and_eq_true,v8]at h;exact h
theorem VF.blocks{f:Fw}(v:VF f):∀b∈f.queue,x04 b=true:=fun b hb=>by
 obtain⟨i,hi,rfl⟩:=qx3 (d:=dBk) hb;exact(zB0 (v.blk i hi)).1
theorem VF.linesR{f:Fw}(v:VF f):∀n∈f.lines,0≤n∧n≤1099511627776:=fun n hn=>by
 obtain⟨i,hi,rfl⟩:=qx3 (d:=(0:Int)) hn;exact(zB0 (v.blk i (by have:=v.lens;omega))).2.1
theorem VF.shape{f:Fw}(v:VF f):xy9 f=true:=xz0.2 ⟨ya1 v.pos,v.lens,v.len,by have:=v.nums;omega,by have:=v.nums;omega,v.linesR⟩
theorem VF.goal{f:Fw}(v:VF f):v9 (qz2 f)=true:=by
 unfold qz2
 cases hq:f.queue.length with
 |zero=>exact v.q0
 |succ n=>exact(zB0 (v.blk n (by omega))).2.2
theorem VF.sound{f:Fw}(v:VF f):∀b∈f.queue,xB0 b=true:=fun b hb=>by
 have:=v.blocks b hb;unfold x04 at this;rw[Bool.and_eq_true]at this;exact this.1
theorem VF.entry{f:Fw}(v:VF f):0≤z04 f∧z04 f≤1099511627776:=by
 unfold z04
 split
 ·rename_i hm
  have m:=v.moves;rw[q81 hm]at m;have r:=x05.1 (y87.1 m).1;omega
 ·split
  ·omega
  ·rename_i hq
   have r:=x05.1 (zB0 (v.blk 0 (by omega))).1;omega
theorem q67{m:Ma}{u:V3}{e:Int}(h:q59 m u e=true):zz4 (q66 m u e)=true:=by
 obtain⟨h1,h2,h3,h4⟩:=q60.1 h;have o:=(Ma.ok_iff m).1 (xD0.1 h1).1;have r1:=(xD3 o.1 (xD0.1 h1).2).2;have r2:=(xD3 o.2.1 (xD0.1 h2).2).2;have r3:=(xD3 o.2.2.1 (xD0.1 h3).2).2;have r4:=(xD3 o.2.2.2.1 (xD0.1 h4).2).2;rw[zz5];unfold q66 zL8
 split<;>dsimp only<;>omega
theorem qW8{f:Fw}{u:V3}{e:Int}(h:qX0 f u e=true):0≤qW7 f u e∧qW7 f u e≤4611686018427387904:=by
 have p:=qX1.1 h;have a:=qQ1 (sqs f.loc u);have b:=qP9 (sqs f.loc u);unfold qW7
 split
 ·split<;>omega
 ·omega
theorem xZ3{c:Gc.C}(h:c.valid=true):0≤c.f∧c.f≤1048576:=by
 unfold Gc.C.valid at h;rw[Bool.and_eq_true]at h;have r:=h.2;simp only[Gc.rest,Bool.and_eq_true]at r;have h4:Gc.okW c 4=true:=r.2.2.2.2.1;unfold Gc.okW at h4
 have e:c.num 4=c.f:=by unfold Gc.C.num;simp
 have e1:Gc.lo c.code 4=1:=by unfold Gc.lo;simp
 have e2:Gc.hi c.code 4=1048576:=by unfold Gc.hi;simp
 rw[e,e1,e2]at h4
 split at h4
 ·have:=beq_iff_eq.1 h4;omega
 ·have:=v8.1 h4;omega
section
variable {f:Fw} {line:Int} {c:Gc.C}
theorem q90(k:line<1∨f.homed=false∨f.back=true∨¬f.mode=1):q71 f line c=14∧q76 f line c=f:=by
 have e:q74 f line c=14:=if_pos k;unfold q71 q76;rw[e];exact⟨if_neg (by decide),by rw[if_neg (by decide),if_pos rfl]⟩
theorem q92(k:¬(line<1∨f.homed=false∨f.back=true∨¬f.mode=1))(k2:qM4 f.ma (m7 f c)=false∨q59 f.ma (m7 f c) (xK8 f c)=false):q71 f line c=8∧q76 f line c=f0 f c:=by
 have e:q74 f line c=8:=by unfold q74;rw[if_neg k,if_pos k2]
 unfold q71 q76;rw[e];exact⟨if_neg (by decide),by rw[if_neg (by decide),if_neg (by decide)]⟩
theorem q91(k:¬(line<1∨f.homed=false∨f.back=true∨¬f.mode=1))(k2:¬(qM4 f.ma (m7 f c)=false∨q59 f.ma (m7 f c) (xK8 f c)=false))(k3:f.e<xK8 f c∧f.r0<f.cold):q71 f line c=15∧q76 f line c=f0 f c:=by
 have e:q74 f line c=15:=by unfold q74;rw[if_neg k,if_neg k2,if_pos k3]
 unfold q71 q76;rw[e];exact⟨if_neg (by decide),by rw[if_neg (by decide),if_neg (by decide)]⟩
theorem q89(k:¬(line<1∨f.homed=false∨f.back=true∨¬f.mode=1))(k2:¬(qM4 f.ma (m7 f c)=false∨q59 f.ma (m7 f c) (xK8 f c)=false))(k3:¬(f.e<xK8 f c∧f.r0<f.cold)):q71 f line c=tlE (f0 f c) (m7 f c) (xK8 f c) (q77 f c) (q73 f c)∧q76 f line c=tlO (f0 f c) line (m7 f c) (xK8 f c) (q77 f c) (q73 f c):=by
 have e:q74 f line c=0:=by unfold q74;rw[if_neg k,if_neg k2,if_neg k3]
 unfold q71 q76;rw[e];exact⟨if_pos rfl,if_pos rfl⟩
theorem qr1(h:qD3 c.has 16=true):f0 f c={f with feed:=c.f}:=if_pos h
theorem qr0(h:¬qD3 c.has 16=true):f0 f c=f:=if_neg h
theorem qr2(v:VF f)(hc:c.valid=true):0≤(f0 f c).feed∧(f0 f c).feed≤1048576:=by
 unfold f0
 split
 ·exact xZ3 hc
 ·have:=v.nums;omega
theorem q93(v:VF f)(hc:c.valid=true)(ki:qM4 f.ma (m7 f c)=true)(km:q59 f.ma (m7 f c) (xK8 f c)=true){d:V4}(hd:v9 d=true)(hz:nz4 d=true):qX0 (f0 f c) (m7 f c) (xK8 f c)=true∧zk6 (f0 f c) d (qW7 (f0 f c) (m7 f c) (xK8 f c))=true:=by
 have n:=v.nums;have o:=(Ma.ok_iff f.ma).1 v.ma;have ii:=qM5.1 ki;have a1:=(Ax.ok_iff _).1 o.1;have a2:=(Ax.ok_iff _).1 o.2.1;have a3:=(Ax.ok_iff _).1 o.2.2.1;have mm:=(q60.1 km).2.2.2;have me:=(xD0.1 mm).2;have iu:inV (m7 f c)=true:=qM1.2 (by omega);have il:inV f.loc=true:=qM1.2 (by omega)
 have fl:(f0 f c).loc=f.loc:=by unfold f0;split<;>rfl
 have fe:(f0 f c).e=f.e:=by unfold f0;split<;>rfl
 have fm:(f0 f c).ma=f.ma:=by unfold f0;split<;>rfl
 have fq:(f0 f c).queue=f.queue:=by unfold f0;split<;>rfl
 have fn:(f0 f c).lines=f.lines:=by unfold f0;split<;>rfl
 have fy:z04 (f0 f c)=z04 f:=by unfold f0;split<;>rfl
 have lp:qX0 (f0 f c) (m7 f c) (xK8 f c)=true:=qX1.2 ⟨by rw[fl];exact il,iu,by rw[fe];omega,by omega⟩;have lr:=qW8 lp;have fr:=qr2 v hc;have en:=v.entry;refine⟨lp,zk7.2 ⟨yy5.2 ⟨by rw[fm];exact v.ma,?_⟩,yy1.2 (by omega),yy1.2 (by omega),by rw[fq];exact v.sound,by rw[fn,fq];exact v.lens,by rw[fq];have:=v.len;omega,by rw[fy];exact en⟩⟩;unfold okC;rw[hd,hz];rfl
theorem xk7(h:v6 f=true)(hc:c.valid=true):zb3 pP 146 [J line,c.sv] f (J (q71 f line c),q76 f line c):=by
 have v:=t9 h;refine qp7 (cs:=(q76 f line c).cells) (by kernel_rfl) rfl rfl rfl (j6.refl _) (y91 kMh (n:=1000) (keep:=x9 152 [0,1,7,8,9,11]) (p:=q84) (Nat.le_refl _) ?_);have q:=mv0 f line c;unfold u7 u9 at q;erw [q];unfold q85
 by_cases k:line<1∨f.homed=false∨f.back=true∨¬f.mode=1
 ·obtain⟨eA,eO⟩:=q90 (c:=c) k
  rw[eA,eO];refine⟨fun _=>rfl,fun a=>⟨fun _=>rfl,fun b=>⟨fun _=>rfl,fun d=>⟨fun _=>rfl,fun e=>?_⟩⟩⟩⟩;exfalso;have a:=of_decide_eq_false a;have e:=bne_eq_false_iff_eq.1 e;rcases k with k|k|k|k
  ·exact a k
  ·rw[k]at b;cases b
  ·rw[k]at d;cases d
  ·exact k e
 ·have mq:(q79 f&&yU8 f)=true:=by rw[v.moves,v.queued];rfl
  refine⟨fun a=>absurd (.inl (of_decide_eq_true a)) k,fun _=>⟨fun a=>absurd (.inr (.inl (by simpa using a))) k,fun _=>⟨fun a=>absurd (.inr (.inr (.inl a))) k,fun _=>⟨fun a=>absurd (.inr (.inr (.inr (bne_iff_ne.1 a)))) k,fun _=>?_⟩⟩⟩⟩
  have out:∀g:Fw,f0 f c=g→(qM4 f.ma (m7 f c)=true→q59 f.ma (m7 f c) (xK8 f c)=true→¬(f.e<xK8 f c∧f.r0<f.cold)→
    zd3 pP (j8 pP 146) [] 1 (.ret (J (q71 f line c)) [some (.cells (q76 f line c).cells)]) qQ4 (j9 152 [(0,.ptr 0 0),(1,J line),(7,.ptr 1 0),(8,J (xK8 f c)),(9,.ptr 2 0),(11,.ptr 3 0)]) [some (.cells g.cells),some (.cells (V3.cells (m7 f c))),some (.cells (V4.cells (q77 f c))),some (.cells (V4.cells (wsub4 (q77 f c) (qz2 f))))]):=fun g hg ki km kk=>by
   obtain⟨eA,eO⟩:=q89 k (fun n=>by rcases n with n|n;rw[ki]at n;cases n;rw[km]at n;cases n) kk;have hw:wsub4 (q77 f c) (qz2 f)=q73 f c:=x87 (q67 km) (ya1 v.goal);rw[eA,eO,hw,←hg]
   exact q87 fun hd hz _=>q93 v hc ki km hd hz
  refine⟨fun w=>?_,fun w=>?_⟩
  ·have hf:f0 f c={f with feed:=c.f}:=qr1 (qD4.2 (bne_iff_ne.1 w))
   refine⟨fun m=>⟨fun i=>?_,fun i=>⟨fun t=>⟨rfl,fun r=>?_,fun r=>⟨mq,o9 _ _,?_⟩⟩,fun t=>⟨mq,o9 _ _,?_⟩⟩⟩,fun m=>⟨fun i=>?_,fun i=>?_⟩⟩
   ·obtain⟨eA,eO⟩:=q92 (c:=c) k (.inl (by have i:(!qM4 f.ma (m7 f c))=true:=i;simpa using i))
    rw[eA,eO,hf];rfl
   ·have i:(!qM4 f.ma (m7 f c))=false:=i
    have m:q59 f.ma (m7 f c) (xK8 f c)=true:=m;obtain⟨eA,eO⟩:=q91 (c:=c) k (fun n=>by rcases n with n|n;rw[n]at i;cases i;rw[m]at n;cases n) ⟨of_decide_eq_true t,of_decide_eq_true r⟩;rw[eA,eO,hf];rfl
   ·have i:(!qM4 f.ma (m7 f c))=false:=i
    exact out _ hf (by simpa using i) m fun n=>absurd n.2 (of_decide_eq_false r)
   ·have i:(!qM4 f.ma (m7 f c))=false:=i
    exact out _ hf (by simpa using i) m fun n=>absurd n.1 (of_decide_eq_false t)
   ·obtain⟨eA,eO⟩:=q92 (c:=c) k (.inr m)
    rw[eA,eO,hf];rfl
   ·obtain⟨eA,eO⟩:=q92 (c:=c) k (.inr m)
    rw[eA,eO,hf];rfl
  ·have hf:f0 f c=f:=qr0 (fun n=>by rw[bne_eq_false_iff_eq]at w;exact qD4.1 n w)
   refine⟨fun m=>⟨fun i=>?_,fun i=>⟨fun t=>⟨rfl,fun r=>?_,fun r=>⟨mq,o9 _ _,?_⟩⟩,fun t=>⟨mq,o9 _ _,?_⟩⟩⟩,fun m=>⟨fun i=>?_,fun i=>?_⟩⟩
   ·obtain⟨eA,eO⟩:=q92 (c:=c) k (.inl (by have i:(!qM4 f.ma (m7 f c))=true:=i;simpa using i))
    rw[eA,eO,hf];rfl
   ·have i:(!qM4 f.ma (m7 f c))=false:=i
    have m:q59 f.ma (m7 f c) (xK8 f c)=true:=m;obtain⟨eA,eO⟩:=q91 (c:=c) k (fun n=>by rcases n with n|n;rw[n]at i;cases i;rw[m]at n;cases n) ⟨of_decide_eq_true t,of_decide_eq_true r⟩;rw[eA,eO,hf];rfl
   ·have i:(!qM4 f.ma (m7 f c))=false:=i
    exact out _ hf (by simpa using i) m fun n=>absurd n.2 (of_decide_eq_false r)
   ·have i:(!qM4 f.ma (m7 f c))=false:=i
    exact out _ hf (by simpa using i) m fun n=>absurd n.1 (of_decide_eq_false t)
   ·obtain⟨eA,eO⟩:=q92 (c:=c) k (.inr m)
    rw[eA,eO,hf];rfl
   ·obtain⟨eA,eO⟩:=q92 (c:=c) k (.inr m)
    rw[eA,eO,hf];rfl
end
noncomputable def x35:WFact:=x68 146 fun f rest=>match rest with
 |[.int .i64 line,.agg [.int .i64 a0,.int .i64 a1,.int .i64 a2,.int .i64 a3,.int .i64 a4,.int .i64 a5,.int .i64 a6,.int .i64 a7]] =>some (.req (v6 f) (.req (Gc.C.valid ⟨a0,a1,a2,a3,a4,a5,a6,a7⟩) (.leaf (J (q71 f line ⟨a0,a1,a2,a3,a4,a5,a6,a7⟩),q76 f line ⟨a0,a1,a2,a3,a4,a5,a6,a7⟩))))
 |_=>none
theorem yw2:x35.ok pP:=x69 fun f rest t ht=>by
 split at ht
 ·cases ht;exact fun h hc=>xk7 (c:=⟨_,_,_,_,_,_,_,_⟩) h hc
 ·cases ht
def qF0:Plan:=let z0:Plan:=.fork .all .all;.fork .all (.fork .all (.fork (.ln 5 (.fork (.fork (.lit .all) (.lit .all)) (.fork z0 z0))) (.ln 6 (.fork z0 z0))))
noncomputable def qF1(f:Fw)(line:Int)(c:Gc.C):Tree StopX:=let y1:=j9 148 [(0,.ptr 0 0),(115,.agg [J 0,J 0,J f.pos.2.2.1,J 0,J f.pos.1,J f.pos.2.1,J 0,J 0]),(116,J 0)];let y2:=j9 148 [(0,.ptr 0 0),(115,.agg [J 0,J 0,J f.ret.2.2.1,J 0,J f.ret.1,J f.ret.2.1,J 0,J 0]),(116,J 0)];let y3:=(0,0,0,f.pos.2.2.2);let y4:=v5 pP 148 0;let y5:=xY3 (axM f.ma 3) f.pos.2.2.2;let y0:Tree StopX:=.req true (.req true (.req true (.node (xX3 f.ma f.pos.2.2.2) (.node (!f.back) (.leaf (.fin (.ret (J 0) [some (.cells (Fw.cells {f with homed:=true,pos:=y3,loc:=(0,0,0),e:=y5}))]))) (.req true (.req true (.req true (.leaf (.at y4 148 y2 [some (.cells (Fw.cells {f with homed:=true,pos:=y3,loc:=(0,0,0),e:=y5,back:=false}))])))))) (.node (!f.back) (.leaf (.fin (.ret (J 0) [some (.cells (Fw.cells {f with homed:=true,pos:=y3,loc:=(0,0,0),e:=0}))]))) (.req true (.req true (.req true (.leaf (.at y4 148 y2 [some (.cells (Fw.cells {f with homed:=true,pos:=y3,loc:=(0,0,0),e:=0,back:=false}))]))))))))); .node (!qK6 f) (.leaf (.fin (.ret (J 18) [some (.cells (Fw.cells f))]))) (.node (f.mode != 1) (.leaf (.fin (.ret (J 14) [some (.cells (Fw.cells f))]))) (.node (line==0) (.node (f.homed) (.req true (.req true (.req true (.node (xX3 f.ma f.pos.2.2.2) (.req true (.req true (.req true (.leaf (.at y4 148 y1 [some (.cells (Fw.cells {f with homed:=true,pos:=y3,loc:=(0,0,0),e:=y5,back:=false,ret:=f.pos}))]))))) (.req true (.req true (.req true (.leaf (.at y4 148 y1 [some (.cells (Fw.cells {f with homed:=true,pos:=y3,loc:=(0,0,0),e:=0,back:=false,ret:=f.pos}))]))))))))) y0) y0))
theorem hm0(f:Fw)(line:Int)(c:Gc.C):xx1 (Env.ofB pP (v7 [z82,qf8,qc5]) (d7 []) (d9 [BFact.toP zs9]) (d8 [zs9]) (x8 []) (x8 []) (x8 []) (x8 [])) 1000 (j8 pP 148) 1 (x9 148 [0,115,116]) (u9 pP 148) qF0 (u7 pP 148 [.ptr 0 0,J line,c.sv]) [some (.cells f.cells)] =qF1 f line c:=by kernel_rfl
def qF2:Plan:=.lit (.fork (.all) (.fork (.lit (.all)) (.lit (.all))))
noncomputable def qF4(g:Fw)(c d:V4):Tree StopX:=let y0:=j9 148 [(0,.ptr 0 0),(115,.agg [J c.1,J c.2.1,J c.2.2.1,J c.2.2.2,J d.1,J d.2.1,J d.2.2.1,J d.2.2.2]),(116,J 1)]; .req true (.node (c.1==0&& (c.2.1==0&& (c.2.2.1==0&& (c.2.2.2==0&&true)))) (.leaf (.at (v5 pP 148 0) 148 y0 [some (.cells (Fw.cells g))])) (.req (zk6 g c 0) (.node (zk4 g c 0) (.leaf (.at (v5 pP 148 0) 148 y0 [some (.cells (Fw.cells (m8 g c 0 0)))])) (.leaf (.fin (.ret (J 2) [some (.cells (Fw.cells g))]))))))
theorem hm1(g:Fw)(c d:V4):xx1 (Env.ofB pP (v7 [z82,qf8,qc5]) (d7 []) (d9 [BFact.toP zs9]) (d8 [zs9]) (x8 []) (x8 []) (x8 []) (x8 [])) 1000 (j8 pP 148) 1 (x9 148 [0,115,116]) (v5 pP 148 0) qF2 (j9 148 [(0,.ptr 0 0),(115,.agg (V4.cells c++V4.cells d)),(116,J 0)]) [some (.cells g.cells)] =qF4 g c d:=by kernel_rfl
def qF5:Plan:=.lit (.fork (.all) (.fork (.lit (.all)) (.lit (.all))))
noncomputable def qF7(g:Fw)(c d:V4):Tree StopX:=let y0:=j9 148 [(0,.ptr 0 0),(115,.agg [J c.1,J c.2.1,J c.2.2.1,J c.2.2.2,J d.1,J d.2.1,J d.2.2.1,J d.2.2.2]),(116,J 2)]; .req true (.node (d.1==0&& (d.2.1==0&& (d.2.2.1==0&& (d.2.2.2==0&&true)))) (.leaf (.at (v5 pP 148 0) 148 y0 [some (.cells (Fw.cells g))])) (.req (zk6 g d 0) (.node (zk4 g d 0) (.leaf (.at (v5 pP 148 0) 148 y0 [some (.cells (Fw.cells (m8 g d 0 0)))])) (.leaf (.fin (.ret (J 2) [some (.cells (Fw.cells g))]))))))
theorem hm2(g:Fw)(c d:V4):xx1 (Env.ofB pP (v7 [z82,qf8,qc5]) (d7 []) (d9 [BFact.toP zs9]) (d8 [zs9]) (x8 []) (x8 []) (x8 []) (x8 [])) 1000 (j8 pP 148) 1 (x9 148 [0,115,116]) (v5 pP 148 0) qF5 (j9 148 [(0,.ptr 0 0),(115,.agg (V4.cells c++V4.cells d)),(116,J 1)]) [some (.cells g.cells)] =qF7 g c d:=by kernel_rfl
def qF8:Plan:=.lit (.all)
noncomputable def qG0(g:Fw)(c d:V4):Tree StopX:= .req (g.ma.ok&&v9 g.ret) (.leaf (.fin (.ret (J 0) [some (.cells (Fw.cells {g with loc:=((yR2 g.ma g.ret).1,(yR2 g.ma g.ret).2.1,(yR2 g.ma g.ret).2.2.1)}))])))
theorem hm3(g:Fw)(c d:V4):xx1 (Env.ofB pP (v7 [z82,qf8,qc5]) (d7 []) (d9 [BFact.toP zs9]) (d8 [zs9]) (x8 []) (x8 []) (x8 []) (x8 [])) 1000 (j8 pP 148) 1 (x9 148 [0,115,116]) (v5 pP 148 0) qF8 (j9 148 [(0,.ptr 0 0),(115,.agg (V4.cells c++V4.cells d)),(116,J 2)]) [some (.cells g.cells)] =qG0 g c d:=by kernel_rfl
theorem yP0(l:List Bk)(g:Nat→Int):(plB l g).length=l.length:=by simp[plB]
theorem yO9{l:List Bk}{g:Nat→Int}{i:Nat}(h:i<l.length):(plB l g).getD i dBk=xx5 (l.getD i dBk) (g i) (g (i+1)):=by
 unfold plB;rw[List.getD_eq_getElem?_getD,List.getElem?_map,List.getElem?_range h];rfl
theorem xB2(b:Bk)(x y:Int):xB0 (xx5 b x y)=xB0 b:=rfl
section
variable {g:Fw} {c:V4} {len line:Int}
theorem zj2:(m8 g c len line).queue.length=g.queue.length+1:=by
 show(plB _ _).length=_;rw[yP0,zk8]
theorem zj3(h:g.lines.length=g.queue.length):(m8 g c len line).lines.length=(m8 g c len line).queue.length:=by
 rw[zj2];show(g.lines++[line]).length=_;simp[h]
theorem zj8(h:zk6 g c len=true):∀b∈(m8 g c len line).queue,xB0 b=true:=fun b hb=>by
 obtain⟨i,hi,e⟩:=qx3 (d:=dBk) hb
 have hi2:i< (s9 g c len).length:=by rw[zj2]at hi;rw[zk8];exact hi
 have e2:=yO9 (g:=gL (s9 g c len) (zG3 g.ma (s9 g c len)) (z04 g)) hi2;rw[←e];show xB0 ((plB _ _).getD i dBk)=true;rw[e2,xB2];exact qx2 (p:=fun b=>xB0 b=true) (zm0 h).snd hi2
theorem zj1(o:zk4 g c len=true):z04 (m8 g c len line)=z04 g:=by
 have k:=(zk5.1 o).2;have hl:(m8 g c len line).queue.length=g.queue.length+1:=zj2
 by_cases hm:g.moving=true
 ·unfold z04
  rw[show(m8 g c len line).moving=g.moving from rfl,if_pos hm,if_pos hm];rfl
 ·have e1:z04 (m8 g c len line)=((m8 g c len line).queue.getD 0 dBk).2.2.1:=by
   unfold z04;rw[show(m8 g c len line).moving=g.moving from rfl,if_neg hm,if_neg (by omega)]
  rw[e1];show((plB _ _).getD 0 dBk).2.2.1=_;rw[yO9 (by rw[zk8];omega)];exact k
theorem zj7{d:V4}{len2:Int}(h:zk6 g c len=true)(o:zk4 g c len=true)(hd:okL g.ma d=true)(hl:yy0 len2=true)(hq:g.queue.length≤900):zk6 (m8 g c len line) d len2=true:=by
 have p:=zk7.1 h;exact zk7.2 ⟨hd,hl,p.2.2.1,zj8 h,zj3 p.2.2.2.2.1,by rw[zj2];omega,by rw[zj1 o];exact p.2.2.2.2.2.2⟩
end
def hE2(g:Fw)(d:V4):Int:=if backOk g d=true then 0 else 2
def hO2(g:Fw)(d:V4):Fw:=if backOk g d=true then {f8 g d with loc:=yR1 g.ma g.ret} else g
def hE1(g:Fw)(c d:V4):Int:=if backOk g c=true then hE2 (f8 g c) d else 2
def hO1(g:Fw)(c d:V4):Fw:=if backOk g c=true then hO2 (f8 g c) d else g
theorem yg6(d:V4):(d.1==0&& (d.2.1==0&& (d.2.2.1==0&& (d.2.2.2==0&&true))))=!nz4 d:=by
 unfold nz4;rw[Bool.and_true,Bool.not_not]
theorem kHm:Known pP (Env.ofB pP (v7 [z82,qf8,qc5]) (d7 []) (d9 [BFact.toP zs9]) (d8 [zs9]) (x8 []) (x8 []) (x8 []) (x8 [])):=
 hB (l:=[z82,qf8,qc5]) (k:=[]) (j:=[BFact.toP zs9]) (i:=[zs9]) [] [] [] [] ⟨yn6,yv7,ys1,trivial⟩ o4 (allQ.all (p:=PFact.ok pP) (l:=[BFact.toP zs9]) ⟨BFact.toP_ok yi8,trivial⟩) (allQ.all (p:=BFact.ok pP) (l:=[zs9]) ⟨yi8,trivial⟩)
section
variable {g:Fw} {c d:V4}
theorem zu9(h:nz4 c=true):f8 g c=m8 g c 0 0:=if_pos h
theorem zu7(h:nz4 c=false):f8 g c=g:=if_neg (by rw[h];exact Bool.false_ne_true)
theorem zv0(h:nz4 c=false):backOk g c=true:=by unfold backOk;rw[h];rfl
theorem zv1(h:nz4 c=true):backOk g c=zk4 g c 0:=by unfold backOk;rw[h];rfl
theorem zu5:(f8 g c).ma=g.ma:=by unfold f8;split<;>rfl
theorem zu8:(f8 g c).ret=g.ret:=by unfold f8;split<;>rfl
theorem qF9(h:g.ma.ok=true∧v9 g.ret=true):zd3 pP (j8 pP 148) [] 1 (.ret (J 0) [some (.cells ({g with loc:=yR1 g.ma g.ret}:Fw).cells)]) (v5 pP 148 0) (j9 148 [(0,.ptr 0 0),(115,.agg (V4.cells c++V4.cells d)),(116,J 2)]) [some (.cells g.cells)] :=by
 refine y91 kHm (n:=1000) (keep:=x9 148 [0,115,116]) (p:=qF8) (Nat.le_refl _) ?_;erw [hm3 g c d];unfold qG0;exact⟨by rw[h.1,h.2];rfl,rfl⟩
theorem qF6(h:g.ma.ok=true∧v9 g.ret=true)(hd:nz4 d=true→zk6 g d 0=true):zd3 pP (j8 pP 148) [] 1 (.ret (J (hE2 g d)) [some (.cells (hO2 g d).cells)]) (v5 pP 148 0) (j9 148 [(0,.ptr 0 0),(115,.agg (V4.cells c++V4.cells d)),(116,J 1)]) [some (.cells g.cells)] :=by
 refine y91 kHm (n:=1000) (keep:=x9 148 [0,115,116]) (p:=qF5) (Nat.le_refl _) ?_;erw [hm2 g c d];unfold qF7;rw[yg6]
 cases hz:nz4 d
 ·have o:=zv0 (g:=g) hz
  have e1:hE2 g d=0:=if_pos o
  have e2:hO2 g d={g with loc:=yR1 g.ma g.ret}:=by unfold hO2;rw[if_pos o,zu7 hz]
  rw[e1,e2];exact⟨rfl,fun _=>⟨o9 _ _,qF9 h⟩,fun k=>by cases k⟩
 ·have o:=zv1 (g:=g) hz
  refine⟨rfl,fun k=>(by cases k),fun _=>⟨hd hz,fun a=>⟨o9 _ _,?_⟩,fun a=>?_⟩⟩
  ·have e1:hE2 g d=0:=if_pos (by rw[o,a])
   have e2:hO2 g d={m8 g d 0 0 with loc:=yR1 g.ma g.ret}:=by unfold hO2;rw[if_pos (by rw[o,a]),zu9 hz]
   rw[e1,e2];exact qF9 (g:=m8 g d 0 0) h
  ·have e1:hE2 g d=2:=if_neg (by rw[o,a];exact Bool.false_ne_true)
   have e2:hO2 g d=g:=if_neg (by rw[o,a];exact Bool.false_ne_true);rw[e1,e2];rfl
theorem qF3(h:g.ma.ok=true∧v9 g.ret=true)(hc:nz4 c=true→zk6 g c 0=true)(hd:backOk g c=true→nz4 d=true→zk6 (f8 g c) d 0=true):zd3 pP (j8 pP 148) [] 1 (.ret (J (hE1 g c d)) [some (.cells (hO1 g c d).cells)]) (v5 pP 148 0) (j9 148 [(0,.ptr 0 0),(115,.agg (V4.cells c++V4.cells d)),(116,J 0)]) [some (.cells g.cells)] :=by
 refine y91 kHm (n:=1000) (keep:=x9 148 [0,115,116]) (p:=qF2) (Nat.le_refl _) ?_;erw [hm1 g c d];unfold qF4;rw[yg6]
 cases hz:nz4 c
 ·have o:=zv0 (g:=g) hz
  have e1:hE1 g c d=hE2 g d:=by unfold hE1;rw[if_pos o,zu7 hz]
  have e2:hO1 g c d=hO2 g d:=by unfold hO1;rw[if_pos o,zu7 hz]
  have hd:=hd o;rw[zu7 hz]at hd;rw[e1,e2];exact⟨rfl,fun _=>⟨o9 _ _,qF6 h hd⟩,fun k=>by cases k⟩
 ·have o:=zv1 (g:=g) hz
  refine⟨rfl,fun k=>(by cases k),fun _=>⟨hc hz,fun a=>⟨o9 _ _,?_⟩,fun a=>?_⟩⟩
  ·have oo:backOk g c=true:=by rw[o,a]
   have e1:hE1 g c d=hE2 (m8 g c 0 0) d:=by unfold hE1;rw[if_pos oo,zu9 hz]
   have e2:hO1 g c d=hO2 (m8 g c 0 0) d:=by unfold hO1;rw[if_pos oo,zu9 hz]
   have hd:=hd oo;rw[zu9 hz]at hd;rw[e1,e2];exact qF6 (g:=m8 g c 0 0) h hd
  ·have e1:hE1 g c d=2:=if_neg (by rw[o,a];exact Bool.false_ne_true)
   have e2:hO1 g c d=g:=if_neg (by rw[o,a];exact Bool.false_ne_true);rw[e1,e2];rfl
end
def qI6(f:Fw)(line:Int):Fw:=if qK6 f=false then f else if ¬f.mode=1 then f else if qH4 f line=false then qG9 f line else hO1 (qG9 f line) (qH6 f line) (qH9 f line)
theorem yy6{m:Ma}{c:V4}(hm:m.ok=true)(hn:v9 c=true)(hz:nz4 c=true):okL m c=true:=yy5.2 ⟨hm,by unfold okC;rw[hn,hz];rfl⟩
section
variable {f:Fw} {line:Int}
theorem qI8(v:VF f):v9 (qI7 f line)=true:=by
 unfold qI7
 split
 ·exact v.pos
 ·exact v.ret
theorem qH8(v:VF f):v9 (qH6 f line)=true:=by
 have r:=r8.1 (qI8 (line:=line) v);exact r8.2 (by unfold qH6;dsimp only;omega)
theorem qI1(v:VF f):v9 (qH9 f line)=true:=by
 have r:=r8.1 (qI8 (line:=line) v);exact r8.2 (by unfold qH9;dsimp only;omega)
theorem qJ2(v:VF f)(hi:qK6 f=true){c:V4}(hn:v9 c=true)(hz:nz4 c=true):zk6 (qG9 f line) c 0=true:=by
 obtain⟨i1,i2,i3⟩:=qK7.1 hi;have n:=v.nums
 have en:z04 (qG9 f line)=0:=by
  unfold z04;rw[if_neg (show ¬(qG9 f line).moving=true by show ¬f.moving=true;rw[i1];exact Bool.false_ne_true),if_pos (show(qG9 f line).queue.length=0 from i2)]
 exact zk7.2 ⟨yy6 v.ma hn hz,by decide,yy1.2 (show -9223372036854775808≤f.feed∧f.feed≤9223372036854775807 by omega),v.sound,v.lens,(show f.queue.length≤1000 by omega),by omega,by omega⟩
theorem qJ3(v:VF f)(hi:qK6 f=true)(o:backOk (qG9 f line) (qH6 f line)=true)(hz:nz4 (qH9 f line)=true):zk6 (f8 (qG9 f line) (qH6 f line)) (qH9 f line) 0=true:=by
 obtain⟨i1,i2,i3⟩:=qK7.1 hi
 cases hc:nz4 (qH6 f line)with
 |false=>rw[zu7 hc];exact qJ2 v hi (qI1 v) hz
 |true=>
  rw[zu9 hc];rw[zv1 hc]at o;exact zj7 (qJ2 v hi (qH8 v) hc) o (yy6 v.ma (qI1 v) hz) (by decide) (show f.queue.length≤900 by omega)
theorem qG3(v:VF f)(hi:qK6 f=true)(hm:f.mode=1)(hb:qH4 f line=true){g:Fw}{c d:V4}(hg:qG9 f line=g)(hc:qH6 f line=c)(hd:qH9 f line=d):
  zd3 pP (j8 pP 148) [] 1 (.ret (J (qH2 f line)) [some (.cells (qI6 f line).cells)]) (v5 pP 148 0) (j9 148 [(0,.ptr 0 0),(115,.agg (V4.cells c++V4.cells d)),(116,J 0)]) [some (.cells g.cells)] :=by
 have n1:¬qK6 f=false:=by rw[hi];decide
 have n2:¬¬f.mode=1:=fun k=>k hm
 have n3:¬qH4 f line=false:=by rw[hb];decide
 have eO:qI6 f line=hO1 (qG9 f line) (qH6 f line) (qH9 f line):=by unfold qI6;rw[if_neg n1,if_neg n2,if_neg n3]
 have eA:qH2 f line=hE1 (qG9 f line) (qH6 f line) (qH9 f line):=by
  unfold qH2 qI9 hE1 hE2;rw[if_neg n1,if_neg n2,if_neg n3]
  cases backOk (qG9 f line) (qH6 f line)<;>cases backOk (f8 (qG9 f line) (qH6 f line)) (qH9 f line)<;>rfl
 rw[eO,eA];subst hg hc hd
 exact qF3 ⟨v.ma,qI8 v⟩ (fun hz=>qJ2 v hi (qH8 v) hz) fun o hz=>qJ3 v hi o hz
theorem qG5(hi:qK6 f=true)(hm:f.mode=1)(hb:qH4 f line=false):qH2 f line=0∧qI6 f line=qG9 f line:=by
 have n1:¬qK6 f=false:=by rw[hi];decide
 have n2:¬¬f.mode=1:=fun k=>k hm
 unfold qH2 qI9 qI6;rw[if_neg n1,if_neg n2,if_pos hb,if_neg n1,if_neg n2,if_pos hb];exact⟨rfl,rfl⟩
theorem qH5:qH4 f line=true↔(line=0∧f.homed=true)∨f.back=true:=by simp only[qH4,Bool.or_eq_true,Bool.and_eq_true,beq_iff_eq]
theorem qH0{r:V4}{e:Int}(hr:qI7 f line=r)(he:qI2 f=e):qG9 f line={f with ret:=r,back:=false,pos:=(0,0,0,f.pos.2.2.2),homed:=true,loc:=(0,0,0),e:=e}:=by subst hr he;rfl
theorem qH7{r:V4}(hr:qI7 f line=r):qH6 f line=(0,0,r.2.2.1,0):=by subst hr;rfl
theorem qI0{r:V4}(hr:qI7 f line=r):qH9 f line=(r.1,r.2.1,0,0):=by subst hr;rfl
set_option maxHeartbeats 4000000 in
theorem xh5(c:Gc.C)(h:v6 f=true):zb3 pP 148 [J line,c.sv] f (J (qH2 f line),qI6 f line):=by
 have v:=t9 h;refine qp7 (cs:=(qI6 f line).cells) (by kernel_rfl) rfl rfl rfl (j6.refl _) (y91 kHm (n:=1000) (keep:=x9 148 [0,115,116]) (p:=qF0) (Nat.le_refl _) ?_);have q:=hm0 f line c;unfold u7 u9 at q;erw [q];unfold qF1
 cases hi:qK6 f
 ·have eA:qH2 f line=18:=if_pos hi
  have eO:qI6 f line=f:=if_pos hi;rw[eA,eO];exact⟨fun _=>rfl,fun k=>by cases k⟩
 refine⟨fun k=>(by cases k),fun _=>⟨fun k=>?_,fun k=>?_⟩⟩
 ·have k:=bne_iff_ne.1 k
  have n1:¬qK6 f=false:=by rw[hi];decide
  have eA:qH2 f line=14:=by unfold qH2;rw[if_neg n1,if_pos k]
  have eO:qI6 f line=f:=by unfold qI6;rw[if_neg n1,if_pos k]
  rw[eA,eO];rfl
 have hm:f.mode=1:=bne_eq_false_iff_eq.1 k
 have eE:∀b,xX3 f.ma f.pos.2.2.2=b→qI2 f=(if b=true then xY3 f.ma.e f.pos.2.2.2 else 0):=fun b hb=>by unfold qI2;rw[hb]
 have rNo:¬(line=0∧f.homed=true)→qI7 f line=f.ret:=fun n=>if_neg n
 have rYes:line=0∧f.homed=true→qI7 f line=f.pos:=fun n=>if_pos n
 have bNo:¬(line=0∧f.homed=true)→f.back=false→qH4 f line=false:=fun n b=>by
  rw[Bool.eq_false_iff,ne_eq,qH5];rintro (k|k)
  ·exact n k
  ·rw[b]at k;cases k
 -- with the nozzle to be led back, and without
 have fin:∀e,qI2 f=e→¬(line=0∧f.homed=true)→f.back=false→Fin.ret (SV.int IntKind.i64 0) [some (Box.cells (Fw.cells {f with homed:=true,pos:=(0,0,0,f.pos.2.2.2),loc:=(0,0,0),e:=e}))] =.ret (J (qH2 f line)) [some (.cells (qI6 f line).cells)] :=fun e he n b=>by
  obtain⟨eA,eO⟩:=qG5 hi hm (bNo n b);rw[eA,eO,qH0 (rNo n) he,←b];rfl
 refine⟨fun l=>⟨fun o=>⟨rfl,rfl,rfl,fun u=>⟨rfl,rfl,rfl,o9 _ _,?_⟩,fun u=>⟨rfl,rfl,rfl,o9 _ _,?_⟩⟩,fun o=>⟨rfl,rfl,rfl,fun u=>⟨fun b=>?_,fun b=>⟨rfl,rfl,rfl,o9 _ _,?_⟩⟩,fun u=>⟨fun b=>?_,fun b=>⟨rfl,rfl,rfl,o9 _ _,?_⟩⟩⟩⟩,fun l=>⟨rfl,rfl,rfl,fun u=>⟨fun b=>?_,fun b=>⟨rfl,rfl,rfl,o9 _ _,?_⟩⟩,fun u=>⟨fun b=>?_,fun b=>⟨rfl,rfl,rfl,o9 _ _,?_⟩⟩⟩⟩
 ·have r:=rYes ⟨beq_iff_eq.1 l,o⟩
  exact qG3 v hi hm (qH5.2 (.inl ⟨beq_iff_eq.1 l,o⟩)) (qH0 r (eE _ u)) (qH7 r) (qI0 r)
 ·have r:=rYes ⟨beq_iff_eq.1 l,o⟩
  exact qG3 v hi hm (qH5.2 (.inl ⟨beq_iff_eq.1 l,o⟩)) (qH0 r (eE _ u)) (qH7 r) (qI0 r)
 ·exact fin _ (eE _ u) (fun n=>by rw[o]at n;cases n.2) (by simpa using b)
 ·have r:=rNo (fun n=>by rw[o]at n;cases n.2)
  exact qG3 v hi hm (qH5.2 (.inr (by simpa using b))) (qH0 r (eE _ u)) (qH7 r) (qI0 r)
 ·exact fin _ (eE _ u) (fun n=>by rw[o]at n;cases n.2) (by simpa using b)
 ·have r:=rNo (fun n=>by rw[o]at n;cases n.2)
  exact qG3 v hi hm (qH5.2 (.inr (by simpa using b))) (qH0 r (eE _ u)) (qH7 r) (qI0 r)
 ·exact fin _ (eE _ u) (fun n=>beq_eq_false_iff_ne.1 l n.1) (by simpa using b)
 ·have r:=rNo (fun n=>beq_eq_false_iff_ne.1 l n.1)
  exact qG3 v hi hm (qH5.2 (.inr (by simpa using b))) (qH0 r (eE _ u)) (qH7 r) (qI0 r)
 ·exact fin _ (eE _ u) (fun n=>beq_eq_false_iff_ne.1 l n.1) (by simpa using b)
 ·have r:=rNo (fun n=>beq_eq_false_iff_ne.1 l n.1)
  exact qG3 v hi hm (qH5.2 (.inr (by simpa using b))) (qH0 r (eE _ u)) (qH7 r) (qI0 r)
end
noncomputable def x34:WFact:=x68 148 fun f rest=>match rest with
 |[.int .i64 line,.agg [.int .i64 a0,.int .i64 a1,.int .i64 a2,.int .i64 a3,.int .i64 a4,.int .i64 a5,.int .i64 a6,.int .i64 a7]] =>some (.req (v6 f) (.leaf (J (qH2 f line),qI6 f line)))
 |_=>none
theorem yw1:x34.ok pP:=x69 fun f rest t ht=>by
 split at ht
 ·cases ht;exact fun h=>xh5 ⟨_,_,_,_,_,_,_,_⟩ h
 ·cases ht
def xH1(f:Fw)(line:Int):Bool:=xy9 f&&inR line 0 1099511627776
theorem xH2{f:Fw}{line:Int}:xH1 f line=true↔xy9 f=true∧0≤line∧line≤1099511627776:=by simp only[xH1,Bool.and_eq_true,v8]
theorem qX8{f:Fw}{line:Int}(h:line=0):qX7 f line=f:=if_pos h
theorem qY0{f:Fw}{line:Int}(h:¬line=0):qX7 f line={f with line:=line}:=if_neg h
theorem xz2{f:Fw}{line:Int}(h:xy9 f=true)(hl:0≤line∧line≤1099511627776):xy9 {f with line:=line}=true:=by
 have s:=xz0.1 h;exact xz0.2 ⟨s.1,s.2.1,s.2.2.1,hl,s.2.2.2.2⟩
def y27(f:Fw):Fw:=if ¬f.mode=3 then f else if y30 f.g0 f.r0=false then f else if y30 f.g1 f.r1=false then {f with g0:=y07 f.g0 f.r0} else y06 f
def yM4(f:Fw)(c:Gc.C):Int:=if c.code=1024 then(if f.mode=2 then 0 else 14)else(if f.mode=1 then 0 else 14)
def yM5(f:Fw)(c:Gc.C):Fw:=if c.code=1024 then(if f.mode=2 then {f with mode:=1} else f)else(if f.mode=1 then {f with mode:=2} else f)
def zW1(f:Fw):Int:=if qK6 f=true then 0 else 18
def zW2(f:Fw)(c:Gc.C):Fw:=if qK6 f=true then {f with dwell:=c.s} else f
def zw7(c:Gc.C):Bool:=c.code==1140||c.code==1190
def x45(c:Gc.C):Bool:=c.code==1109||c.code==1190
def qD5(f:Fw)(c:Gc.C):Int:=if zw7 c=true then(if zn3 f.c1 c.s=true then 0 else 1)else(if zn3 f.c0 c.s=true then 0 else 1)
def qD7(f:Fw)(c:Gc.C):Fw:=if zw7 c=true then {f with c1:=f.c1.aim c.s} else {f with c0:=f.c0.aim c.s}
def qD8(f:Fw)(c:Gc.C):Int:=if x45 c=true then(if zw7 c=true then orB f.waits 2 else orB f.waits 1)else f.waits
def qD6(f:Fw)(c:Gc.C):Fw:=if qD5 f c=0 then {qD7 f c with waits:=qD8 f c} else f
def xr5:Plan:=let z0:Plan:=.go (.lit (.go (.lit (.go (.lit (.all))))));.fork z0 z0
noncomputable def xr6(f:Fw)(line:Int)(c:Gc.C):Tree StopX:=let y0:={f with g0:=f.g0.stop,g1:=f.g1.stop,line:=line}; .node (line>0) (.req true (.req true (.req true (.req true (.req (xy9 y0) (.leaf (.fin (.ret (.int .i64 0) [some (.cells (Fw.cells { (qZ4 y0)with mode:=3}))])))))))) (.req true (.req true (.req true (.req true (.req (xy9 ({f with g0:=f.g0.stop,g1:=f.g1.stop})) (.leaf (.fin (.ret (.int .i64 0) [some (.cells (Fw.cells { (qZ4 ({f with g0:=f.g0.stop,g1:=f.g1.stop}))with mode:=3}))]))))))))
theorem xr4(f:Fw)(line:Int)(c:Gc.C):xx1 (Env.ofB pP (v7 [qe3]) (d7 []) (d9 [BFact.toP zt1]) (d8 [zt1]) (x8 []) (x8 []) (x8 []) (x8 [])) 1000 (j8 pP 143) 1 (x9 39 []) (u9 pP 143) xr5 (u7 pP 143 [.ptr 0 0,J line,c.sv]) [some (.cells f.cells)] =xr6 f line c:=by kernel_rfl
theorem xr3(f:Fw)(line:Int)(c:Gc.C)(h:xH1 f line=true):zb3 pP 143 [J line,c.sv] f (J 0,xG7 (qX7 f line)):=
 qp8 (hB (l:=[qe3]) (k:=[]) (j:=[BFact.toP zt1]) (i:=[zt1]) ([] :List Nat) ([] :List Nat) ([] :List Nat) ([] :List Nat) (⟨yu2,trivial⟩) o4 (allQ.all (p:=PFact.ok pP) (l:=[BFact.toP zt1]) ⟨BFact.toP_ok yj5,trivial⟩) (allQ.all (p:=BFact.ok pP) (l:=[zt1]) ⟨yj5,trivial⟩)) 1000 xr5 (keep:=(x9 39 [])) (t:=xr6 f line c) (xr4 f line c) (by
  unfold xr6;have sp:=xH2.1 h;have s1:=sp.1;have s2:=xz2 sp.1 sp.2;simp only[Tree.holds,sL,ne_eq,sLb,sLc,eq_self,sLd,sLe,sLf];(repeat' (first|apply And.intro|intro _));
  all_goals first
   |exact s1
   |exact s2
   |omega
   |(rw[qY0 (by omega)];exact ends rfl (j6.refl _) rfl)
   |(rw[qX8 (by omega)];exact ends rfl (j6.refl _) rfl)) (by kernel_rfl) (by kernel_rfl) (by kernel_rfl)
noncomputable def x39:WFact:=x68 143 fun f rest=>match rest with
 |[.int .i64 line,.agg [.int .i64 a0,.int .i64 a1,.int .i64 a2,.int .i64 a3,.int .i64 a4,.int .i64 a5,.int .i64 a6,.int .i64 a7]] =>some (.req (xH1 f line) (.leaf (J 0,xG7 (qX7 f line))))
 |_=>none
theorem yx4:x39.ok pP:=x69 fun f rest t ht=>by
 split at ht
 ·cases ht;exact fun h=>xr3 f _ ⟨_,_,_,_,_,_,_,_⟩ h
 ·cases ht
def xp1:Plan:=let z1:Plan:=.go (.lit (.all));let z0:Plan:=.go (.lit (.fork z1 (.fork (.lit z1) (.fork (.all) z1))));.fork (.all) (.go (.lit (.fork z0 (.fork (.lit z0) (.fork (.all) z0)))))
noncomputable def xp2(f:Fw)(line:Int)(c:Gc.C):Tree StopX:=let y0:=Gu.mk 0 0 0 0 0 0 0 0 0 0 false;let y1:SV:=.int .i64 0;let y2:=decide (f.g1.resE f.r1=0); .node (f.mode != 3) (.leaf (.fin (.ret (.int .i64 14) [some (.cells (Fw.cells f))]))) (.req true (.node (f.g0.fault==0) (.req true (.node (f.g1.fault==0) (.leaf (.fin (.ret y1 [some (.cells (Fw.cells {f with mode:=1}))]))) (.req true (.node y2 (.req true (.leaf (.fin (.ret y1 [some (.cells (Fw.cells {f with mode:=1,g1:=(f.g1.rest f.r1)}))])))) (.node (f.g1.resE f.r1 != 0) (.leaf (.fin (.ret (.int .i64 16) [some (.cells (Fw.cells f))]))) (.req true (.leaf (.fin (.ret y1 [some (.cells (Fw.cells {f with mode:=1,g1:=y0}))]))))))))) (.req true (.node (f.g0.resE f.r0=0) (.req true (.req true (.node (f.g1.fault==0) (.leaf (.fin (.ret y1 [some (.cells (Fw.cells {f with mode:=1,g0:=(f.g0.rest f.r0)}))]))) (.req true (.node y2 (.req true (.leaf (.fin (.ret y1 [some (.cells (Fw.cells {f with mode:=1,g0:=(f.g0.rest f.r0),g1:=(f.g1.rest f.r1)}))])))) (.node (f.g1.resE f.r1 != 0) (.leaf (.fin (.ret (.int .i64 16) [some (.cells (Fw.cells {f with g0:=(f.g0.rest f.r0)}))]))) (.req true (.leaf (.fin (.ret y1 [some (.cells (Fw.cells {f with mode:=1,g0:=(f.g0.rest f.r0),g1:=y0}))])))))))))) (.node (f.g0.resE f.r0 != 0) (.leaf (.fin (.ret (.int .i64 16) [some (.cells (Fw.cells f))]))) (.req true (.req true (.node (f.g1.fault==0) (.leaf (.fin (.ret y1 [some (.cells (Fw.cells {f with mode:=1,g0:=y0}))]))) (.req true (.node y2 (.req true (.leaf (.fin (.ret y1 [some (.cells (Fw.cells {f with mode:=1,g0:=y0,g1:=(f.g1.rest f.r1)}))])))) (.node (f.g1.resE f.r1 != 0) (.leaf (.fin (.ret (.int .i64 16) [some (.cells (Fw.cells {f with g0:=y0}))]))) (.req true (.leaf (.fin (.ret y1 [some (.cells (Fw.cells {f with mode:=1,g0:=y0,g1:=y0}))])))))))))))))))
theorem xp0(f:Fw)(line:Int)(c:Gc.C):xx1 (Env.ofB pP (v7 [qd3]) (d7 []) (d9 []) (d8 []) (x8 []) (x8 []) (x8 []) (x8 [])) 1000 (j8 pP 144) 1 (x9 55 []) (u9 pP 144) xp1 (u7 pP 144 [.ptr 0 0,J line,c.sv]) [some (.cells f.cells)] =xp2 f line c:=by kernel_rfl
theorem xo9(f:Fw)(line:Int)(c:Gc.C):zb3 pP 144 [J line,c.sv] f (J (resE f),y27 f):=
 qp8 (hB (l:=[qd3]) (k:=[]) (j:=[]) (i:=[]) ([] :List Nat) ([] :List Nat) ([] :List Nat) ([] :List Nat) (⟨yt0,trivial⟩) o4 o4 o4) 1000 xp1 (keep:=(x9 55 [])) (t:=xp2 f line c) (xp0 f line c) (by
  unfold xp2;have a:=y31 (g:=f.g0) (r:=f.r0);have b:=y31 (g:=f.g1) (r:=f.r1)
  have m3:f.mode=3∨¬f.mode=3:=by omega
  simp only[Tree.holds,sL,ne_eq,sLb,sLc,eq_self,sLd,sLe,sLf];(repeat' (first|apply And.intro|intro _));
  all_goals first
   |omega
   |(refine ends (xJ6 ?_) ?_ rfl
     ·unfold resE;simp_all
     ·first
      |(rw[show y27 f=f by unfold y27 y07;rw[if_neg (by simp_all),if_neg (by simp_all),if_pos (by simp_all),if_pos (by assumption)]];exact j6.refl _)
      |(rw[show y27 f=f by unfold y27 y06 y07;simp_all];exact j6.refl _)
      |(rw[show y27 f={f with g0:=f.g0.rest f.r0} by unfold y27 y06 y07;simp_all];exact j6.refl _)
      |(rw[show y27 f={f with mode:=1} by unfold y27 y06 y07;simp_all];exact j6.refl _)
      |(rw[show y27 f={f with g0:=f.g0.rest f.r0,mode:=1} by unfold y27 y06 y07;simp_all];exact j6.refl _)
      |(rw[show y27 f={f with g1:=f.g1.rest f.r1,mode:=1} by unfold y27 y06 y07;simp_all];exact j6.refl _)
      |(rw[show y27 f={f with g0:=f.g0.rest f.r0,g1:=f.g1.rest f.r1,mode:=1} by unfold y27 y06 y07;simp_all];exact j6.refl _)
     )) (by kernel_rfl) (by kernel_rfl) (by kernel_rfl)
noncomputable def x37:WFact:=x68 144 fun f rest=>match rest with
 |[.int .i64 line,.agg [.int .i64 a0,.int .i64 a1,.int .i64 a2,.int .i64 a3,.int .i64 a4,.int .i64 a5,.int .i64 a6,.int .i64 a7]] =>some (.leaf (J (resE f),y27 f))
 |_=>none
theorem yx2:x37.ok pP:=x69 fun f rest t ht=>by
 split at ht
 ·cases ht;exact xo9 f _ ⟨_,_,_,_,_,_,_,_⟩
 ·cases ht
def xm9:Plan:=.fork (.fork (.all) (.all)) (.fork (.all) (.all))
noncomputable def xn0(f:Fw)(line:Int)(c:Gc.C):Tree StopX:= .node (c.code==1024) (.node (f.mode != 2) (.leaf (.fin (.ret (.int .i64 14) [some (.cells (Fw.cells f))]))) (.leaf (.fin (.ret (.int .i64 0) [some (.cells (Fw.cells {f with mode:=1}))])))) (.node (f.mode != 1) (.leaf (.fin (.ret (.int .i64 14) [some (.cells (Fw.cells f))]))) (.leaf (.fin (.ret (.int .i64 0) [some (.cells (Fw.cells {f with mode:=2}))]))))
theorem xm8(f:Fw)(line:Int)(c:Gc.C):xx1 (Env.ofB pP (v7 []) (d7 []) (d9 []) (d8 []) (x8 []) (x8 []) (x8 []) (x8 [])) 1000 (j8 pP 145) 1 (x9 26 []) (u9 pP 145) xm9 (u7 pP 145 [.ptr 0 0,J line,c.sv]) [some (.cells f.cells)] =xn0 f line c:=by kernel_rfl
theorem xm7(f:Fw)(line:Int)(c:Gc.C):zb3 pP 145 [J line,c.sv] f (J (yM4 f c),yM5 f c):=
 qp8 (hB (l:=[]) (k:=[]) (j:=[]) (i:=[]) ([] :List Nat) ([] :List Nat) ([] :List Nat) ([] :List Nat) (trivial) o4 o4 o4) 1000 xm9 (keep:=(x9 26 [])) (t:=xn0 f line c) (xm8 f line c) (by
  unfold xn0;simp only[Tree.holds,sL,ne_eq,sLb,sLc,eq_self,sLd,sLe,sLf];(repeat' (first|apply And.intro|intro _));
  all_goals first
   |(unfold yM4 yM5;simp only[*,if_true,if_false,not_false_eq_true,not_true_eq_false];exact ends rfl (j6.refl _) rfl)) (by kernel_rfl) (by kernel_rfl) (by kernel_rfl)
noncomputable def x36:WFact:=x68 145 fun f rest=>match rest with
 |[.int .i64 line,.agg [.int .i64 a0,.int .i64 a1,.int .i64 a2,.int .i64 a3,.int .i64 a4,.int .i64 a5,.int .i64 a6,.int .i64 a7]] =>some (.leaf (J (yM4 f ⟨a0,a1,a2,a3,a4,a5,a6,a7⟩),yM5 f ⟨a0,a1,a2,a3,a4,a5,a6,a7⟩))
 |_=>none
theorem yw9:x36.ok pP:=x69 fun f rest t ht=>by
 split at ht
 ·cases ht;exact xm7 f _ ⟨_,_,_,_,_,_,_,_⟩
 ·cases ht
def xd7:Plan:=.fork (.all) (.all)
noncomputable def xd8(f:Fw)(line:Int)(c:Gc.C):Tree StopX:= .node (!qK6 f) (.leaf (.fin (.ret (.int .i64 18) [some (.cells (Fw.cells f))]))) (.leaf (.fin (.ret (.int .i64 0) [some (.cells (Fw.cells {f with dwell:=c.s}))])))
theorem xd6(f:Fw)(line:Int)(c:Gc.C):xx1 (Env.ofB pP (v7 [z82]) (d7 []) (d9 []) (d8 []) (x8 []) (x8 []) (x8 []) (x8 [])) 1000 (j8 pP 147) 1 (x9 19 []) (u9 pP 147) xd7 (u7 pP 147 [.ptr 0 0,J line,c.sv]) [some (.cells f.cells)] =xd8 f line c:=by kernel_rfl
theorem xd5(f:Fw)(line:Int)(c:Gc.C):zb3 pP 147 [J line,c.sv] f (J (zW1 f),zW2 f c):=
 qp8 (hB (l:=[z82]) (k:=[]) (j:=[]) (i:=[]) ([] :List Nat) ([] :List Nat) ([] :List Nat) ([] :List Nat) (⟨yn6,trivial⟩) o4 o4 o4) 1000 xd7 (keep:=(x9 19 [])) (t:=xd8 f line c) (xd6 f line c) (by
  unfold xd8;simp only[Tree.holds,sL,ne_eq,sLb,sLc,eq_self,sLd,sLe,sLf];(repeat' (first|apply And.intro|intro _));
  all_goals(unfold zW1 zW2;simp only[*,if_true,if_false,Bool.false_eq_true];exact ends rfl (j6.refl _) rfl)) (by kernel_rfl) (by kernel_rfl) (by kernel_rfl)
noncomputable def x31:WFact:=x68 147 fun f rest=>match rest with
 |[.int .i64 line,.agg [.int .i64 a0,.int .i64 a1,.int .i64 a2,.int .i64 a3,.int .i64 a4,.int .i64 a5,.int .i64 a6,.int .i64 a7]] =>some (.leaf (J (zW1 f),zW2 f ⟨a0,a1,a2,a3,a4,a5,a6,a7⟩))
 |_=>none
theorem yw4:x31.ok pP:=x69 fun f rest t ht=>by
 split at ht
 ·cases ht;exact xd5 f _ ⟨_,_,_,_,_,_,_,_⟩
 ·cases ht
def xe6:Plan:=.all
noncomputable def xe7(f:Fw)(line:Int)(c:Gc.C):Tree StopX:= .leaf (.fin (.ret (.int .i64 0) [some (.cells (Fw.cells {f with fan:=c.s}))]))
theorem xe5(f:Fw)(line:Int)(c:Gc.C):xx1 (Env.ofB pP (v7 []) (d7 []) (d9 []) (d8 []) (x8 []) (x8 []) (x8 []) (x8 [])) 1000 (j8 pP 149) 1 (x9 13 []) (u9 pP 149) xe6 (u7 pP 149 [.ptr 0 0,J line,c.sv]) [some (.cells f.cells)] =xe7 f line c:=by kernel_rfl
theorem xe4(f:Fw)(line:Int)(c:Gc.C):zb3 pP 149 [J line,c.sv] f (J 0,{f with fan:=c.s}):=
 qp8 (hB (l:=[]) (k:=[]) (j:=[]) (i:=[]) ([] :List Nat) ([] :List Nat) ([] :List Nat) ([] :List Nat) (trivial) o4 o4 o4) 1000 xe6 (keep:=(x9 13 [])) (t:=xe7 f line c) (xe5 f line c) (by
  unfold xe7
  exact ends rfl (j6.refl _) rfl) (by kernel_rfl) (by kernel_rfl) (by kernel_rfl)
noncomputable def x32:WFact:=x68 149 fun f rest=>match rest with
 |[.int .i64 line,.agg [.int .i64 a0,.int .i64 a1,.int .i64 a2,.int .i64 a3,.int .i64 a4,.int .i64 a5,.int .i64 a6,.int .i64 a7]] =>some (.leaf (J 0,{f with fan:=a7}))
 |_=>none
theorem yw5:x32.ok pP:=x69 fun f rest t ht=>by
 split at ht
 ·cases ht;exact xe4 f _ ⟨_,_,_,_,_,_,_,_⟩
 ·cases ht
def xg9:Plan:=let z0:Plan:=.fork (.lit (.fork (.ln 3 (.lit .all)) (.ln 3 (.fork .all .all)))) (.lit .all);.fork (.ln 4 z0) (.ln 3 (.fork z0 z0))
noncomputable def xh0(f:Fw)(line:Int)(c:Gc.C):Tree StopX:=let y1:Tree StopX:=.req true (.leaf (.fin (.ret (.int .i64 0) [some (.cells (Fw.cells {f with waits:=(i64.wrap (↑(BitVec.ofInt 64 f.waits |||BitVec.ofInt 64 1).toNat:Int)),c0:=(f.c0.aim c.s)}))])));let y2:Tree StopX:=.req true (.leaf (.fin (.ret (.int .i64 0) [some (.cells (Fw.cells {f with waits:=(i64.wrap (↑(BitVec.ofInt 64 f.waits |||BitVec.ofInt 64 2).toNat:Int)),c1:=(f.c1.aim c.s)}))])));let y0:Tree StopX:=.req true (.node (zn3 f.c1 c.s) (.req true (.node (c.code==1109) y2 (.node (c.code==1190) y2 (.leaf (.fin (.ret (.int .i64 0) [some (.cells (Fw.cells {f with c1:=(f.c1.aim c.s)}))])))))) (.leaf (.fin (.ret (.int .i64 1) [some (.cells (Fw.cells f))])))); .node (c.code==1140) y0 (.node (c.code==1190) y0 (.req true (.node (zn3 f.c0 c.s) (.req true (.node (c.code==1109) y1 (.node (c.code==1190) y1 (.leaf (.fin (.ret (.int .i64 0) [some (.cells (Fw.cells {f with c0:=(f.c0.aim c.s)}))])))))) (.leaf (.fin (.ret (.int .i64 1) [some (.cells (Fw.cells f))]))))))
theorem xg8(f:Fw)(line:Int)(c:Gc.C):xx1 (Env.ofB pP (v7 [z34]) (d7 []) (d9 []) (d8 []) (x8 []) (x8 []) (x8 []) (x8 [])) 1000 (j8 pP 150) 1 (x9 60 []) (u9 pP 150) xg9 (u7 pP 150 [.ptr 0 0,J line,c.sv]) [some (.cells f.cells)] =xh0 f line c:=by kernel_rfl
theorem xg7(f:Fw)(line:Int)(c:Gc.C):zb3 pP 150 [J line,c.sv] f (J (qD5 f c),qD6 f c):=
 qp8 (hB (l:=[z34]) (k:=[]) (j:=[]) (i:=[]) ([] :List Nat) ([] :List Nat) ([] :List Nat) ([] :List Nat) (⟨yi0,trivial⟩) o4 o4 o4) 1000 xg9 (keep:=(x9 60 [])) (t:=xh0 f line c) (xg8 f line c) (by
  unfold xh0
  have b1:zw7 c=true↔c.code=1140∨c.code=1190:=by simp only[zw7,Bool.or_eq_true,beq_iff_eq]
  have b2:x45 c=true↔c.code=1109∨c.code=1190:=by simp only[x45,Bool.or_eq_true,beq_iff_eq]
  simp only[Tree.holds,sL,ne_eq,sLb,sLc,eq_self,sLd,sLe,sLf];(repeat' (first|apply And.intro|intro _));
  all_goals first
   |omega
   |(unfold qD6 qD7 qD5 qD8 orB;simp only[b1,b2];simp_all;first|done|exact ends rfl (j6.refl _) rfl)) (by kernel_rfl) (by kernel_rfl) (by kernel_rfl)
noncomputable def x33:WFact:=x68 150 fun f rest=>match rest with
 |[.int .i64 line,.agg [.int .i64 a0,.int .i64 a1,.int .i64 a2,.int .i64 a3,.int .i64 a4,.int .i64 a5,.int .i64 a6,.int .i64 a7]] =>some (.leaf (J (qD5 f ⟨a0,a1,a2,a3,a4,a5,a6,a7⟩),qD6 f ⟨a0,a1,a2,a3,a4,a5,a6,a7⟩))
 |_=>none
theorem yw6:x33.ok pP:=x69 fun f rest t ht=>by
 split at ht
 ·cases ht;exact xg7 f _ ⟨_,_,_,_,_,_,_,_⟩
 ·cases ht
theorem Co.step_ok{c:Co}(h:c.ok=true)(r:Int):(c.step r).ok=true∧(c.step r).target=c.target:=by
 unfold Co.step
 split
 ·rename_i hl
  have a:=zL4 hl;have o:=(Co.ok_iff c).1 h;have b:=zI2 (n:=c.sum+c.ki*(c.target-r)) (lo:=0) (hi:=c.limit) (by omega);refine⟨?_,rfl⟩;rw[Co.ok_iff];dsimp only;refine⟨o.1,o.2.1,o.2.2.1,o.2.2.2.1,o.2.2.2.2.1,?_⟩;unfold Co.acc
  split<;>omega
 ·exact⟨h,rfl⟩
theorem Co.aim_ok{c:Co}{t:Int}(h:zn3 c t=true):(c.aim t).ok=true:=by
 obtain⟨h1,h2⟩:=zn4.1 h;have o:=(Co.ok_iff c).1 h1;rw[Co.ok_iff];unfold Co.aim;dsimp only;omega
theorem Gu.touch_ok{g:Gu}(h:g.ok=true):g.touch.ok=true∧g.touch.fault=g.fault∧g.touch.low=g.low∧g.touch.high=g.high:=by
 rw[Gu.touch_yes h];have o:=(Gu.ok_iff g).1 h;refine⟨?_,rfl,rfl,rfl⟩;rw[Gu.ok_iff];dsimp only;omega
theorem Gu.stop_ok{g:Gu}(h:g.ok=true):g.stop.ok=true∧g.stop.fault=4∧g.stop.low=g.low∧g.stop.high=g.high:=by
 rw[Gu.stop_yes h];have o:=(Gu.ok_iff g).1 h;refine⟨?_,rfl,rfl,rfl⟩;rw[Gu.ok_iff];dsimp only;omega
theorem Gu.rest_ok{g:Gu}{r:Int}(h:g.ok=true)(hr:g.resE r=0):(g.rest r).ok=true∧(g.rest r).fault=0∧(g.rest r).low=g.low∧(g.rest r).high=g.high:=by
 have o:=(Gu.ok_iff g).1 h;unfold Gu.resE at hr;rw[h]at hr;dsimp only at hr;refine⟨?_,rfl,rfl,rfl⟩;rw[Gu.ok_iff];unfold Gu.rest;dsimp only
 (repeat' split at hr)<;>omega
theorem Gu.way_rng(g:Gu)(r t u:Int):g.way r t u≤7:=by
 unfold Gu.way;(repeat' split)<;>omega
theorem Gu.step_k0{g:Gu}{r t u:Int}(h:g.way r t u=0):g.step r t u=g:=by unfold Gu.step;simp only[h]
theorem Gu.step_k1{g:Gu}{r t u:Int}(h:g.way r t u=1):g.step r t u={g with fault:=1}:=by unfold Gu.step;simp only[h]
theorem Gu.step_k2{g:Gu}{r t u:Int}(h:g.way r t u=2):g.step r t u={g with fault:=2}:=by unfold Gu.step;simp only[h]
theorem Gu.step_k3{g:Gu}{r t u:Int}(h:g.way r t u=3):g.step r t u={g with quiet:=g.idle,base:=r,count:=0}:=by unfold Gu.step;simp only[h]
theorem Gu.step_k4{g:Gu}{r t u:Int}(h:g.way r t u=4):g.step r t u={g with quiet:=g.quiet+1,base:=r,count:=0}:=by unfold Gu.step;simp only[h]
theorem Gu.step_k5{g:Gu}{r t u:Int}(h:g.way r t u=5):g.step r t u={g with quiet:=g.quiet+1,base:=r,count:=0}:=by unfold Gu.step;simp only[h]
theorem Gu.step_k6{g:Gu}{r t u:Int}(h:g.way r t u=6):g.step r t u={g with quiet:=g.quiet+1,base:=g.bas r,count:=g.watch,fault:=3}:=by unfold Gu.step;simp only[h]
theorem Gu.step_k7{g:Gu}{r t u:Int}(h:g.way r t u=7):g.step r t u={g with quiet:=g.quiet+1,base:=g.bas r,count:=g.cnt r}:=by unfold Gu.step;simp only[h]
theorem Gu.step_ok{g:Gu}(h:g.ok=true)(r t u:Int):(g.step r t u).ok=true∧(g.step r t u).low=g.low∧(g.step r t u).high=g.high∧(g.step r t u).band=g.band:=by
 have o:=(Gu.ok_iff g).1 h
 have hb:g.bas r=r∨g.bas r=g.base:=by unfold Gu.bas;split<;>simp
 have hc:0≤g.cnt r:=by unfold Gu.cnt;split<;>omega
 have hw:(3≤g.way r t u→g.low≤r∧r≤g.high)∧(4≤g.way r t u→g.quiet+1<g.idle)∧(7≤g.way r t u→g.cnt r<g.watch):=by
  unfold Gu.way;rw[h];dsimp only
  (repeat' split)<;>omega
 have w7:=Gu.way_rng g r t u
 have cases8:g.way r t u=0∨g.way r t u=1∨g.way r t u=2∨g.way r t u=3∨g.way r t u=4∨g.way r t u=5∨g.way r t u=6∨g.way r t u=7:=by omega
 rcases cases8 with e|e|e|e|e|e|e|e
 ·rw[Gu.step_k0 e];exact⟨h,rfl,rfl,rfl⟩
 ·rw[Gu.step_k1 e];refine⟨?_,rfl,rfl,rfl⟩;rw[Gu.ok_iff];dsimp only;omega
 ·rw[Gu.step_k2 e];refine⟨?_,rfl,rfl,rfl⟩;rw[Gu.ok_iff];dsimp only;omega
 ·rw[Gu.step_k3 e];refine⟨?_,rfl,rfl,rfl⟩;rw[Gu.ok_iff];dsimp only;omega
 ·rw[Gu.step_k4 e];refine⟨?_,rfl,rfl,rfl⟩;rw[Gu.ok_iff];dsimp only;omega
 ·rw[Gu.step_k5 e];refine⟨?_,rfl,rfl,rfl⟩;rw[Gu.ok_iff];dsimp only;omega
 ·rw[Gu.step_k6 e];refine⟨?_,rfl,rfl,rfl⟩;rw[Gu.ok_iff];dsimp only;omega
 ·rw[Gu.step_k7 e];refine⟨?_,rfl,rfl,rfl⟩;rw[Gu.ok_iff];dsimp only;omega
theorem xI2{n k:Int}(hn:1≤n):stp n 0 k=0:=by
 have e:(2*0*sz k+n) / (2*n)=0:=by
  rw[Int.mul_zero,Int.zero_mul,Int.zero_add];exact Int.ediv_eq_zero_of_lt (by omega) (by omega)
 unfold stp;rw[e];split<;>omega
theorem xH6{n k:Int}(hn:1≤n):stp n n k=k:=by
 have e:(2*n*sz k+n) / (2*n)=sz k:=by
  rw[Int.add_comm,Int.add_mul_ediv_left _ _ (by omega),Int.ediv_eq_zero_of_lt (by omega) (by omega)];omega
 unfold stp;rw[e];unfold sz;split<;>omega
theorem zr7(c:V4):at4 c 0=z4:=by
 cases h:okC c with
 |false=>exact zr5 h
 |true=>
  have m:=(q94 h).1
  have z:clm (mx4 c) 0=0:=by unfold clm;(repeat' split)<;>omega
  rw[zr6 h,z,xI2 m,xI2 m,xI2 m,xI2 m];rfl
theorem zr3{c:V4}(h:okC c=true):at4 c (dom c)=c:=by
 have m:=(q94 h).1
 have z:clm (mx4 c) (mx4 c)=mx4 c:=by unfold clm;(repeat' split)<;>omega
 rw[zr6 h,zT9 h,z,xH6 m,xH6 m,xH6 m,xH6 m]
theorem zi9(a:V4):r9 a z4=a:=by unfold r9 z4;simp
theorem zi8(a b:V4):r9 a (xI5 b a)=b:=by
 unfold r9 xI5
 refine Prod.ext ?_ (Prod.ext ?_ (Prod.ext ?_ ?_))<;>(dsimp only;omega)
section
variable {m:Mo} {t:Int}
theorem z02(h:z00 m=true):q15 m=m.1.1:=by
 obtain⟨h1,h2⟩:=z01.1 h;have v:=(x05.1 h1).1.1;have d:=zU1 m.1.1;rw[q18 ⟨h1,by omega,by omega⟩,h2,zr3 v]
theorem q22(b:Bk)(t:Int):q15 (xD5 b t)=z4:=by
 cases h:x04 b with
 |false=>exact q16 fun c=>by rw[show(xD5 b t).1=b from rfl,h]at c;cases c.1
 |true=>
  have d:=zU1 b.1;rw[q18 (m:=xD5 b t) ⟨h,Int.le_refl 0,d.1⟩];exact zr7 b.1
theorem qQ6{b:Bk}{i t:Int}(h:x04 b=true∧1≤i∧i≤dom b.1)(ht:1≤t∧t≤1048576):1≤ivl b i t:=by
 have s:=xC6 h;have p:=qQ2 (n:=sqv b i) s.1;unfold ivl;rw[if_pos ⟨s.1,ht⟩];exact Int.le_ediv_of_mul_le (by omega) (by omega)
theorem xE4{b:Bk}(h:okS b t=true):y86 (xD5 b t) t=true:=by
 obtain⟨h1,h2⟩:=yz2.1 h;have d:=x07 h1;exact y87.2 ⟨h1,⟨Int.le_refl 0,by show(0:Int)≤dom b.1-1;omega⟩,qQ6 ⟨h1,by omega,d.1⟩ h2,Int.le_refl _⟩
theorem y92(h:y86 m t=true):1≤t∧t≤1048576:=by
 have r:=y87.1 h;exact qQ7 (b:=m.1) (i:=m.2.1+1) (by omega)
theorem xM0(h:y86 m t=true)(h1:1<m.2.2):xL8 m t=(m.1,m.2.1,m.2.2-1)∧xM1 m t=z4:=by
 unfold xL8 xM1;rw[h];simp only[if_pos h1];trivial
theorem xL9(h:y86 m t=true)(h1:¬1<m.2.2):xL8 m t=(m.1,m.2.1+1,if m.2.1+1=dom m.1.1 then 0 else ivl m.1 (m.2.1+2) t)∧xM1 m t=pul m.1.1 (m.2.1+1):=by
 unfold xL8 xM1;rw[h];simp only[if_neg h1];trivial
theorem q23(h:y86 m t=true):q15 (xL8 m t)=r9 (q15 m) (xM1 m t):=by
 have r:=y87.1 h;have d:=zU1 m.1.1
 by_cases h1:1<m.2.2
 ·obtain⟨e1,e2⟩:=xM0 h h1
  rw[e1,e2,zi9];rfl
 ·obtain⟨e1,e2⟩:=xL9 h h1
  rw[e1,e2,q18 (m:=(m.1,m.2.1+1,_)) ⟨r.1,by show(0:Int)≤m.2.1+1;omega,by show m.2.1+1≤dom m.1.1;omega⟩,q18 (m:=m) ⟨r.1,by omega,by omega⟩]
  have p:pul m.1.1 (m.2.1+1)=xI5 (at4 m.1.1 (m.2.1+1)) (at4 m.1.1 m.2.1):=by
   unfold pul;rw[v8.2 (show 1≤m.2.1+1∧m.2.1+1≤dom m.1.1 by omega),show m.2.1+1-1=m.2.1 by omega]
  rw[p,zi8]
theorem xN2(m:Mo)(t:Int):(xL8 m t).1=m.1:=by
 unfold xL8
 split
 ·split<;>rfl
 ·rfl
theorem xN6(h:y86 m t=true)(he:z00 (xL8 m t)=false):y86 (xL8 m t) t=true:=by
 have r:=y87.1 h;have d:=zU1 m.1.1
 by_cases h1:1<m.2.2
 ·obtain⟨e1,_⟩:=xM0 h h1
  rw[e1];exact y87.2 ⟨r.1,r.2.1,by show 1≤m.2.2-1;omega,by show m.2.2-1≤ivl m.1 (m.2.1+1) t;have:=r.2.2.2;omega⟩
 ·obtain⟨e1,_⟩:=xL9 h h1
  rw[e1]at he ⊢
  have hd:¬m.2.1+1=dom m.1.1:=fun c=>by
   have:z00 (m.1,m.2.1+1,if m.2.1+1=dom m.1.1 then 0 else ivl m.1 (m.2.1+2) t)=true:=z01.2 ⟨r.1,c⟩;rw[he]at this;cases this
  rw[if_neg hd];refine y87.2 ⟨r.1,⟨by show 0≤m.2.1+1;omega,by show m.2.1+1≤dom m.1.1-1;omega⟩,?_,?_⟩
  ·exact qQ6 ⟨r.1,by omega,by omega⟩ (y92 h)
  ·show ivl m.1 (m.2.1+2) t≤ivl m.1 (m.2.1+1+1) t
   rw[show m.2.1+1+1=m.2.1+2 by omega];exact Int.le_refl _
end
def yL7(f:Fw):Bool:=f.c0.ok&& (f.c1.ok&& (f.g0.ok&& (f.g1.ok&&xy9 f)))
theorem yL8{f:Fw}:yL7 f=true↔f.c0.ok=true∧f.c1.ok=true∧f.g0.ok=true∧f.g1.ok=true∧xy9 f=true:=by simp only[yL7,Bool.and_eq_true]
def qJ5(f:Fw):Int×Int:=if(q04 f).mode=3 then(0,0)else(zU9 f,zV0 f)
def qJ7(f:Fw):Fw:=x46 (q04 f)
theorem q03{f:Fw}:q02 f=true↔(f.g0.fault=0∧¬(f.g0.step f.r0 (f.c0.step f.r0).target (f.c0.duty f.r0)).fault=0)∨(f.g1.fault=0∧¬(f.g1.step f.r1 (f.c1.step f.r1).target (f.c1.duty f.r1)).fault=0):=by
 simp only[q02,ya6,qE6,Bool.or_eq_true,Bool.and_eq_true,Bool.not_eq_true',beq_iff_eq,beq_eq_false_iff_ne,ne_eq]
theorem qZ7(f:Fw):(qZ4 f).c0=f.c0:=rfl
theorem qZ8(f:Fw):(qZ4 f).c1=f.c1:=rfl
theorem qZ9(f:Fw):(qZ4 f).g0=f.g0:=rfl
theorem q00(f:Fw):(qZ4 f).g1=f.g1:=rfl
theorem x57{c:Co}{g:Gu}{r:Int}(h:r≥c.target-g.band):x55 c g r=true:=decide_eq_true h
theorem x56{c:Co}{g:Gu}{r:Int}(h:¬r≥c.target-g.band):¬x55 c g r=true:=fun k=>h (of_decide_eq_true k)
theorem x50{x:Fw}(a:x.r0≥x.c0.target-x.g0.band)(b:x.r1≥x.c1.target-x.g1.band):x46 x={x with waits:=Gc.andNot (Gc.andNot x.waits 1) 2}:=by unfold x46;rw[if_pos (x57 b),if_pos (x57 a)]
theorem x49{x:Fw}(a:x.r0≥x.c0.target-x.g0.band)(b:¬x.r1≥x.c1.target-x.g1.band):x46 x={x with waits:=Gc.andNot x.waits 1}:=by unfold x46;rw[if_neg (x56 b),if_pos (x57 a)]
theorem x48{x:Fw}(a:¬x.r0≥x.c0.target-x.g0.band)(b:x.r1≥x.c1.target-x.g1.band):x46 x={x with waits:=Gc.andNot x.waits 2}:=by unfold x46;rw[if_pos (x57 b),if_neg (x56 a)]
theorem x47{x:Fw}(a:¬x.r0≥x.c0.target-x.g0.band)(b:¬x.r1≥x.c1.target-x.g1.band):x46 x=x:=by unfold x46;rw[if_neg (x56 b),if_neg (x56 a)]
def q61(f:Fw):Bool:=xy9 f&&inR f.dwell 0 1048576
theorem q62{f:Fw}:q61 f=true↔xy9 f=true∧0≤f.dwell∧f.dwell≤1048576:=by simp only[q61,Bool.and_eq_true,v8]
theorem zx2(f:Fw):(t7 f).pos=f.pos:=by unfold t7;split<;>rfl
theorem yS2(c:V4)(i:Int):zz4 (pul c i)=true:=by
 unfold pul
 split
 ·have a:=zr2 c i
  have b:=zr2 c (i-1);rw[zz5];unfold xI5;dsimp only;omega
 ·decide
theorem xM2(m:Mo)(t:Int):zz4 (xM1 m t)=true:=by
 unfold xM1
 split
 ·split
  ·decide
  ·exact yS2 _ _
 ·decide
def xh3:Plan:=let z1:Plan:=.go (.lit (.fork (.go (.lit (.fork .all .all))) (.go (.lit (.fork .all .all)))));let z2:Plan:=.go (.lit (.fork (.go (.lit (.lit .all))) (.go (.lit (.lit .all)))));let z0:Plan:=.fork (.ln 11 (.go (.lit (.fork (.go (.lit (.fork z2 z2))) (.go (.lit (.fork z1 z1))))))) (.ln 11 (.go (.lit (.lit (.go (.lit (.fork z1 z1)))))));.go (.ln 4 (.fork (.ln 11 (.go (.lit (.fork (.ln 4 (.go (.lit (.lit (.go (.lit (.fork z2 z2))))))) (.lit (.lit z0)))))) (.ln 11 (.go (.ln 4 z0)))))
noncomputable def xh4(f:Fw):Tree StopX:=let y8:SV:=.agg [.int .i64 0,.int .i64 0];let y11:=f.c1.step f.r1;let y4:=f.g1.step f.r1 y11.target (f.c1.duty f.r1);let y12:=f.c0.step f.r0;let y5:=f.g0.step f.r0 y12.target (f.c0.duty f.r0);let y1:={f with c0:=y12,c1:=y11,g0:=y5,g1:=y4};let y6:SV:=.agg [.int .i64 (f.g0.duty f.r0 y12.target (f.c0.duty f.r0)),.int .i64 (f.g1.duty f.r1 y11.target (f.c1.duty f.r1))];let y10:Box:=.cells (Fw.cells {f with waits:=(i64.wrap (↑(BitVec.ofInt 64 f.waits &&& ~~~BitVec.ofInt 64 2).toNat:Int)),c0:=y12,c1:=y11,g0:=y5,g1:=y4});let y13:=i64.wrap (↑(BitVec.ofInt 64 (qZ4 y1).waits &&& ~~~BitVec.ofInt 64 1).toNat:Int);let y14:=i64.wrap (↑(BitVec.ofInt 64 f.waits &&& ~~~BitVec.ofInt 64 1).toNat:Int);let y7:Box:=.cells (Fw.cells {f with waits:=(i64.wrap (↑(BitVec.ofInt 64 y14 &&& ~~~BitVec.ofInt 64 2).toNat:Int)),c0:=y12,c1:=y11,g0:=y5,g1:=y4});let y9:Box:=.cells (Fw.cells {f with waits:=y14,c0:=y12,c1:=y11,g0:=y5,g1:=y4});let y15:=decide (f.r1≥i64.wrap ((qZ4 y1).c1.target-(qZ4 y1).g1.band));let y3:Tree StopX:=.req (xy9 y1) (.req true (.req true (.req true (.node (f.r0≥i64.wrap ((qZ4 y1).c0.target-(qZ4 y1).g0.band)) (.req true (.req true (.req true (.req true (.node y15 (.req true (.leaf (.fin (.ret y8 [some (.cells (Fw.cells { (qZ4 y1)with mode:=3,waits:=(i64.wrap (↑(BitVec.ofInt 64 y13 &&& ~~~BitVec.ofInt 64 2).toNat:Int))}))])))) (.leaf (.fin (.ret y8 [some (.cells (Fw.cells { (qZ4 y1)with mode:=3,waits:=y13}))])))))))) (.req true (.req true (.req true (.node y15 (.req true (.leaf (.fin (.ret y8 [some (.cells (Fw.cells { (qZ4 y1)with mode:=3,waits:=(i64.wrap (↑(BitVec.ofInt 64 (qZ4 y1).waits &&& ~~~BitVec.ofInt 64 2).toNat:Int))}))])))) (.leaf (.fin (.ret y8 [some (.cells (Fw.cells { (qZ4 y1)with mode:=3}))])))))))))));let y16:Box:=.cells (Fw.cells {f with c0:=y12,c1:=y11,g0:=y5,g1:=y4});let y2:Tree StopX:=.req true (.req true (.req true (.node (f.r0≥i64.wrap (y12.target-y5.band)) (.req true (.req true (.req true (.req true (.node (f.r1≥i64.wrap (y11.target-y4.band)) (.req true (.node (f.mode==3) (.leaf (.fin (.ret y8 [some y7]))) (.leaf (.fin (.ret y6 [some y7]))))) (.node (f.mode==3) (.leaf (.fin (.ret y8 [some y9]))) (.leaf (.fin (.ret y6 [some y9]))))))))) (.req true (.req true (.req true (.node (f.r1≥i64.wrap (y11.target-y4.band)) (.req true (.node (f.mode==3) (.leaf (.fin (.ret y8 [some y10]))) (.leaf (.fin (.ret y6 [some y10]))))) (.node (f.mode==3) (.leaf (.fin (.ret y8 [some y16]))) (.leaf (.fin (.ret y6 [some y16])))))))))));let y0:Tree StopX:=.node (f.g1.fault==0) (.req true (.node (y4.fault != 0) y3 y2)) y2; .req true (.req true (.req true (.req true (.req true (.req true (.req true (.req true (.node (f.g0.fault==0) (.req true (.req true (.req true (.req true (.req true (.req true (.req true (.req true (.req true (.node (y5.fault != 0) y3 y0)))))))))) (.req true (.req true (.req true (.req true (.req true (.req true (.req true (.req true y0))))))))))))))))
theorem xh2(f:Fw):xx1 (Env.ofB pP (v7 [z50,z78]) (d7 []) (d9 [BFact.toP zt1]) (d8 [zt1]) (x8 []) (x8 []) (x8 []) (x8 [])) 1000 (j8 pP 78) 1 (x9 141 []) (u9 pP 78) xh3 (u7 pP 78 [.ptr 0 0,.agg [J f.r0,J f.r1]]) [some (.cells f.cells)] =xh4 f:=by kernel_rfl
theorem xh1(f:Fw)(h:yL7 f=true):zb3 pP 78 [.agg [J f.r0,J f.r1]] f (.agg [J (qJ5 f).1,J (qJ5 f).2],qJ7 f):=
 qp8 (hB (l:=[z50,z78]) (k:=[]) (j:=[BFact.toP zt1]) (i:=[zt1]) ([] :List Nat) ([] :List Nat) ([] :List Nat) ([] :List Nat) (⟨yk4,yn1,trivial⟩) o4 (allQ.all (p:=PFact.ok pP) (l:=[BFact.toP zt1]) ⟨BFact.toP_ok yj5,trivial⟩) (allQ.all (p:=BFact.ok pP) (l:=[zt1]) ⟨yj5,trivial⟩)) 1000 xh3 (keep:=(x9 141 [])) (t:=xh4 f) (xh2 f) (by
  unfold xh4;have p:=yL8.1 h;have c0k:=Co.step_ok p.1 f.r0;have c1k:=Co.step_ok p.2.1 f.r1;have g0k:=Gu.step_ok p.2.2.1 f.r0 (f.c0.step f.r0).target (f.c0.duty f.r0);have g1k:=Gu.step_ok p.2.2.2.1 f.r1 (f.c1.step f.r1).target (f.c1.duty f.r1);have c0o:=(Co.ok_iff _).1 c0k.1;have c1o:=(Co.ok_iff _).1 c1k.1;have g0o:=(Gu.ok_iff _).1 g0k.1;have g1o:=(Gu.ok_iff _).1 g1k.1;have w0:=w64 (x:=(f.c0.step f.r0).target-(f.g0.step f.r0 (f.c0.step f.r0).target (f.c0.duty f.r0)).band) (by omega) (by omega);have w1:=w64 (x:=(f.c1.step f.r1).target-(f.g1.step f.r1 (f.c1.step f.r1).target (f.c1.duty f.r1)).band) (by omega) (by omega);simp only[Tree.holds,qZ7,qZ8,qZ9,q00,w0,w1,sL,ne_eq,sLb,sLc,eq_self,sLd,sLe,sLf];(repeat' (first|apply And.intro|intro _));
  all_goals first
   |exact p.2.2.2.2
   |(have e:q04 f={qZ4 (qE6 f)with mode:=3}:=if_pos (q03.2 (by omega))
     unfold qJ5 qJ7;rw[e]
     first
     |(rw[if_pos rfl];first|(rw[x50 (by assumption) (by assumption)];exact ends rfl (j6.refl _) rfl)|(rw[x49 (by assumption) (by assumption)];exact ends rfl (j6.refl _) rfl)|(rw[x48 (by assumption) (by assumption)];exact ends rfl (j6.refl _) rfl)|(rw[x47 (by assumption) (by assumption)];exact ends rfl (j6.refl _) rfl))
     |(rw[if_pos (by assumption)];first|(rw[x50 (by assumption) (by assumption)];exact ends rfl (j6.refl _) rfl)|(rw[x49 (by assumption) (by assumption)];exact ends rfl (j6.refl _) rfl)|(rw[x48 (by assumption) (by assumption)];exact ends rfl (j6.refl _) rfl)|(rw[x47 (by assumption) (by assumption)];exact ends rfl (j6.refl _) rfl))
     |(rw[if_neg (by assumption)];first|(rw[x50 (by assumption) (by assumption)];exact ends rfl (j6.refl _) rfl)|(rw[x49 (by assumption) (by assumption)];exact ends rfl (j6.refl _) rfl)|(rw[x48 (by assumption) (by assumption)];exact ends rfl (j6.refl _) rfl)|(rw[x47 (by assumption) (by assumption)];exact ends rfl (j6.refl _) rfl)))
   |(have e:q04 f=qE6 f:=if_neg (fun k=>by have k:=q03.1 k;omega)
     unfold qJ5 qJ7;rw[e]
     first
     |(rw[if_pos rfl];first|(rw[x50 (by assumption) (by assumption)];exact ends rfl (j6.refl _) rfl)|(rw[x49 (by assumption) (by assumption)];exact ends rfl (j6.refl _) rfl)|(rw[x48 (by assumption) (by assumption)];exact ends rfl (j6.refl _) rfl)|(rw[x47 (by assumption) (by assumption)];exact ends rfl (j6.refl _) rfl))
     |(rw[if_pos (by assumption)];first|(rw[x50 (by assumption) (by assumption)];exact ends rfl (j6.refl _) rfl)|(rw[x49 (by assumption) (by assumption)];exact ends rfl (j6.refl _) rfl)|(rw[x48 (by assumption) (by assumption)];exact ends rfl (j6.refl _) rfl)|(rw[x47 (by assumption) (by assumption)];exact ends rfl (j6.refl _) rfl))
     |(rw[if_neg (by assumption)];first|(rw[x50 (by assumption) (by assumption)];exact ends rfl (j6.refl _) rfl)|(rw[x49 (by assumption) (by assumption)];exact ends rfl (j6.refl _) rfl)|(rw[x48 (by assumption) (by assumption)];exact ends rfl (j6.refl _) rfl)|(rw[x47 (by assumption) (by assumption)];exact ends rfl (j6.refl _) rfl)))) (by kernel_rfl) (by kernel_rfl) (by kernel_rfl)
def zt0:BFact:=zz2 78 fun f rest=>match rest with
 |[.agg [.int .i64 a,.int .i64 b]] =>some (.req (a=f.r0) (.req (b=f.r1) (.req (yL7 f) (.leaf (.agg [J (qJ5 f).1,J (qJ5 f).2],qJ7 f)))))
 |_=>none
theorem yj4:zt0.ok pP:=zz3 fun f rest t ht=>by
 split at ht
 ·cases ht;exact fun ha hb h=>by rw[of_decide_eq_true ha,of_decide_eq_true hb];exact xh1 f h
 ·cases ht
def xk5:Plan:=.fork (.all) (.fork (.all) (.fork (.all) (.fork (.all) (.all))))
noncomputable def xk6(f:Fw):Tree StopX:=let y0:=((((t7 f).mo.1.1.1,(t7 f).mo.1.1.2.1,(t7 f).mo.1.1.2.2),(t7 f).mo.1.2.1,(t7 f).mo.1.2.2.1,(t7 f).mo.1.2.2.2),(t7 f).mo.2);let y1:=xM1 y0 (t7 f).ma.ticks;let y2:=xL8 y0 (t7 f).ma.ticks;let y3:SV:=.agg [.int .i64 0,.int .i64 0,.int .i64 0,.int .i64 0];let y4:SV:=.agg [.int .i64 y1.1,.int .i64 y1.2.1,.int .i64 y1.2.2.1,.int .i64 y1.2.2.2];let y5:=x41 ((t7 f).pos.1,(t7 f).pos.2.1,(t7 f).pos.2.2) y1; .node (f.mode==3) (.leaf (.fin (.ret y3 [some (.cells (Fw.cells f))]))) (.node (f.dwell>0) (.leaf (.fin (.ret y3 [some (.cells (Fw.cells {f with dwell:=(i64.wrap (f.dwell-1))}))]))) (.req (xy9 f) (.node (!(t7 f).moving) (.leaf (.fin (.ret y3 [some (.cells (Fw.cells (t7 f)))]))) (.node (z00 (((y2.1.1.1,y2.1.1.2.1,y2.1.1.2.2),y2.1.2.1,y2.1.2.2.1,y2.1.2.2.2),y2.2)) (.leaf (.fin (.ret y4 [some (.cells (Fw.cells { (t7 f)with pos:=y5,mo:=(((0,0,0,0),0,0,0,0),0,0),moving:=false,active:=0}))]))) (.leaf (.fin (.ret y4 [some (.cells (Fw.cells { (t7 f)with pos:=y5,mo:=y2}))])))))))
theorem xk4(f:Fw):xx1 (Env.ofB pP (v7 [qe8,z61,qc4]) (d7 []) (d9 [BFact.toP zt6]) (d8 [zt6]) (x8 []) (x8 []) (x8 []) (x8 [])) 1000 (j8 pP 79) 1 (x9 86 []) (u9 pP 79) xk5 (u7 pP 79 [.ptr 0 0]) [some (.cells f.cells)] =xk6 f:=by kernel_rfl
theorem xk3(f:Fw)(h:q61 f=true):zb3 pP 79 [] f (V4.sv (if f.mode=3 then z4 else y66 f),(if f.mode=3 then f else y65 f)):=
 qp8 (hB (l:=[qe8,z61,qc4]) (k:=[]) (j:=[BFact.toP zt6]) (i:=[zt6]) ([] :List Nat) ([] :List Nat) ([] :List Nat) ([] :List Nat) (⟨yu9,yl4,ys0,trivial⟩) o4 (allQ.all (p:=PFact.ok pP) (l:=[BFact.toP zt6]) ⟨BFact.toP_ok yj8,trivial⟩) (allQ.all (p:=BFact.ok pP) (l:=[zt6]) ⟨yj8,trivial⟩)) 1000 xk5 (keep:=(x9 86 [])) (t:=xk6 f) (xk4 f) (by
  unfold xk6;have mp:=q62.1 h
  have bp:zz4 (t7 f).pos=true:=by rw[zx2];exact(xz0.1 mp.1).1
  have wa:x41 (t7 f).pos (xM1 (t7 f).mo (t7 f).ma.ticks)=r9 (t7 f).pos (xM1 (t7 f).mo (t7 f).ma.ticks):=x42 bp (xM2 _ _)
  have w1:0<f.dwell→i64.wrap (f.dwell-1)=f.dwell-1:=fun k=>w64 (by omega) (by omega)
  refine⟨fun a=>?_,fun a=>⟨fun b=>?_,fun b=>⟨mp.1,fun c=>?_,fun c=>?_⟩⟩⟩
  ·have a:=beq_iff_eq.1 a
   rw[if_pos a,if_pos a];exact ends rfl (j6.refl _) rfl
  ·have a:=beq_eq_false_iff_ne.1 a
   have b:=of_decide_eq_true b;rw[if_neg a,if_neg a,w1 b,show y65 f={f with dwell:=f.dwell-1} from if_pos b,show y66 f=z4 from if_pos b];exact ends rfl (j6.refl _) rfl
  ·have a:=beq_eq_false_iff_ne.1 a
   have b:=of_decide_eq_false b
   have c:¬(t7 f).moving=true:=by rw[Bool.not_eq_true']at c;rw[c];exact Bool.false_ne_true
   rw[if_neg a,if_neg a,show y65 f=t7 f by unfold y65;rw[if_neg b,if_neg c],show y66 f=z4 by unfold y66;rw[if_neg b,if_neg c]];exact ends rfl (j6.refl _) rfl
  ·have a:=beq_eq_false_iff_ne.1 a
   have b:=of_decide_eq_false b
   have c:(t7 f).moving=true:=by rw[Bool.not_eq_false']at c;exact c
   rw[if_neg a,if_neg a,show y65 f=xE7 (t7 f) by unfold y65;rw[if_neg b,if_pos c],show y66 f=xM1 (t7 f).mo (t7 f).ma.ticks by unfold y66;rw[if_neg b,if_pos c]];refine⟨fun d=>?_,fun d=>?_⟩
   ·rw[show xE7 (t7 f)={t7 f with pos:=x41 (t7 f).pos (xM1 (t7 f).mo (t7 f).ma.ticks),mo:=m0,moving:=false,active:=0} by unfold xE7;rw[if_pos (show z00 (xL8 (t7 f).mo (t7 f).ma.ticks)=true from d),wa]]
    exact ends rfl (j6.refl _) rfl
   ·rw[show xE7 (t7 f)={t7 f with pos:=x41 (t7 f).pos (xM1 (t7 f).mo (t7 f).ma.ticks),mo:=xL8 (t7 f).mo (t7 f).ma.ticks} by unfold xE7;rw[if_neg (by rw[show z00 (xL8 (t7 f).mo (t7 f).ma.ticks)=false from d];exact Bool.false_ne_true),wa]]
    exact ends rfl (j6.refl _) rfl) (by kernel_rfl) (by kernel_rfl) (by kernel_rfl)
theorem q69(f:Fw)(h:q61 f=true):(Tree.node (f.mode==3) (.leaf (V4.sv z4,f)) (.leaf (V4.sv (y66 f),y65 f))).says (zb3 pP 79 [] f):=by
 have k:=xk3 f h;refine⟨fun a=>?_,fun a=>?_⟩
 ·have a:=beq_iff_eq.1 a
  rw[if_pos a,if_pos a]at k;exact k
 ·have a:=beq_eq_false_iff_ne.1 a
  rw[if_neg a,if_neg a]at k;exact k
def zt2:BFact:=zz2 79 fun f rest=>match rest with
 |[] =>some (.req (q61 f) (.node (f.mode==3) (.leaf (V4.sv z4,f)) (.leaf (V4.sv (y66 f),y65 f))))
 |_=>none
theorem yj6:zt2.ok pP:=zz3 fun f rest t ht=>by
 split at ht
 ·cases ht;exact fun h=>q69 f h
 ·cases ht
def fGv:Fact:=Gc.factC 71 fun c=>.leaf (.bool c.valid)
def zg6(f:Fw)(line:Int)(c:Gc.C):SV:=if zg2 f line c=0 then .tuple [(zg4 f line c).sv,J 0]else .tuple [.agg (f7 fw0),J (zg2 f line c)]
theorem yn3:fGv.ok pP:=Gc.factC_ok fun c=>Gc.s_valid c
noncomputable def qQ3:List Item:=xH0 (xx1 (Env.ofB pP (v7 [qf9,fGv,qf0]) (d7 [x39,x37,x36,x35,x31,x34,x32,x33]) (d9 []) (d8 []) (x8 []) (x8 []) (x8 []) (x8 [3])) 1000 (j8 pP 24) 0 (x9 114 []) (u9 pP 24) .all (u7 pP 24 [fw0.sv,J 0,(⟨0,0,0,0,0,0,0,0⟩:Gc.C).sv]) [])
def zf3:Plan:=.fork (.ln 11 (.lit .all)) (.ln 3 (.fork (.ln 7 (.lit .all)) (.lit (.lit (.fork (.ln 7 (.fork (.lit (.lit (.lit .all))) (.lit (.lit (.fork .all .all))))) (.ln 10 (.fork .all .all)))))))
noncomputable def zf4(f:Fw)(line:Int)(c:Gc.C):Tree Stop:=let y1:Tree Stop:=.leaf (.done (.tuple [.agg (f7 fw0),J 1]));let y0:Tree Stop:=.node (line>1099511627776) y1 (.leaf (.at qQ3 114 (j9 114 [(1,J line),(3,.ptr 0 0),(5,.ptr 1 0),(6,.ptr 2 0)]) [some (.cells (Fw.cells f)),some (.cells [J c.code,J c.has,J c.x,J c.y,J c.z,J c.e,J c.f,J c.s]),some (.cells (f7 fw0))])); .node (!v6 f) y1 (.node (!c.valid) y1 (.node (line != 0) (.node (line != i64.wrap (f.line+1)) y1 y0) y0))
theorem ac0(f:Fw)(line:Int)(c:Gc.C):w9 (Env.ofB pP (v7 [qf9,fGv,qf0]) (d7 [x39,x37,x36,x35,x31,x34,x32,x33]) (d9 []) (d8 []) (x8 []) (x8 []) (x8 []) (x8 [3])) 1000 (j8 pP 24) .unit (x9 114 [1,3,5,6]) (u9 pP 24) zf3 (u7 pP 24 [f.sv,J line,c.sv]) [] =zf4 f line c:=by kernel_rfl
def zf8:Plan:=let z4:Plan:=.fork .all .all;let z1:Plan:=.ln 4 (.fork .all (.ln 4 (.fork (.ln 5 (.lit .all)) (.ln 5 (.fork .all z4)))));let z2:Plan:=.fork (.ln 4 (.fork .all (.ln 4 (.fork (.ln 5 (.lit .all)) (.ln 5 (.fork .all (.lit .all))))))) z1;let z0:Plan:=.fork z1 (.fork z1 (.fork z1 (.fork z2 z2)));let z3:Plan:=.fork (.ln 4 (.fork .all (.ln 7 z4))) (.fork z0 z0);.fork (.ln 12 (.lit .all)) (.fork (.ln 12 z4) (.fork z3 z3))
noncomputable def zg0(f:Fw)(line:Int)(c:Gc.C):Tree Stop:=let y2:=j9 114 [(1,J line),(5,.ptr 0 0),(6,.ptr 1 0),(11,.ptr 2 0),(80,J 0)];let y3:Box:=.cells [J c.code,J c.has,J c.x,J c.y,J c.z,J c.e,J c.f,J c.s];let y4:Tree Stop:=.leaf (.done (.tuple [.agg (f7 fw0),J 18]));let y5:Tree Stop:=.leaf (.done (.tuple [.agg (f7 fw0),J 16]));let y9:=v5 pP 24 0;let y10:Box:=.cells (f7 fw0);let y1:Tree Stop:=.node (f.mode==3) y5 (.node (f.waits != 0) y4 (.node (f.dwell != 0) y4 (.req (v6 f) (.req (c.valid) (.node (q71 f line c != 0) (.leaf (.done (.tuple [.agg (f7 fw0),J (q71 f line c)]))) (.leaf (.at y9 114 y2 [some y3,some y10,some (.cells (Fw.cells (q76 f line c)))])))))));let y6:Tree Stop:=.node (f.mode==3) y5 (.node (f.waits != 0) y4 (.node (f.dwell != 0) y4 (.node (qD5 f c != 0) (.leaf (.done (.tuple [.agg (f7 fw0),J (qD5 f c)]))) (.leaf (.at y9 114 y2 [some y3,some y10,some (.cells (Fw.cells (qD6 f c)))])))));let y7:Tree Stop:=.node (f.mode==3) y5 (.node (yM4 f c != 0) (.leaf (.done (.tuple [.agg (f7 fw0),J (yM4 f c)]))) (.leaf (.at y9 114 y2 [some y3,some y10,some (.cells (Fw.cells (yM5 f c)))])));let y8:Tree Stop:=.node (f.mode==3) y5 (.node (f.waits != 0) y4 (.node (f.dwell != 0) y4 (.leaf (.at y9 114 y2 [some y3,some y10,some (.cells (Fw.cells {f with fan:=c.s}))]))));let y0:Tree Stop:=.node (c.code==4) (.node (f.mode==3) y5 (.node (f.waits != 0) y4 (.node (f.dwell != 0) y4 (.node (zW1 f != 0) (.leaf (.done (.tuple [.agg (f7 fw0),J (zW1 f)]))) (.leaf (.at y9 114 y2 [some y3,some y10,some (.cells (Fw.cells (zW2 f c)))])))))) (.node (c.code==28) (.node (f.mode==3) y5 (.node (f.waits != 0) y4 (.node (f.dwell != 0) y4 (.req (v6 f) (.node (qH2 f line != 0) (.leaf (.done (.tuple [.agg (f7 fw0),J (qH2 f line)]))) (.leaf (.at y9 114 y2 [some y3,some y10,some (.cells (Fw.cells (qI6 f line)))]))))))) (.node (c.code==1106) (.node (c.code==1106) y8 y6) (.node (c.code==1107) y8 y6)));let y11:Tree Stop:=.node (c.code==0) (.node (c.code==0) y1 y0) (.node (c.code==1) y1 y0); .node (c.code==1112) (.req (xH1 f line) (.leaf (.at y9 114 y2 [some y3,some y10,some (.cells (Fw.cells (xG7 (qX7 f line))))]))) (.node (c.code==1999) (.node (resE f != 0) (.leaf (.done (.tuple [.agg (f7 fw0),J (resE f)]))) (.leaf (.at y9 114 y2 [some y3,some y10,some (.cells (Fw.cells (y27 f)))]))) (.node (c.code==1025) (.node (c.code==1025) y7 y11) (.node (c.code==1024) y7 y11)))
theorem acT(f:Fw)(line:Int)(c:Gc.C):w9 (Env.ofB pP (v7 [qf9,fGv,qf0]) (d7 [x39,x37,x36,x35,x31,x34,x32,x33]) (d9 []) (d8 []) (x8 []) (x8 []) (x8 []) (x8 [])) 1000 (j8 pP 24) .unit (x9 114 [1,5,6,11,80]) qQ3 zf8 (j9 114 [(1,J line),(3,.ptr 0 0),(5,.ptr 1 0),(6,.ptr 2 0)]) [some (.cells f.cells),some (.cells c.cells),some (.cells (f7 fw0))] =zg0 f line c:=by kernel_rfl
def zf5:Plan:=.lit (.go (.lit (.go (.lit (.fork (.ln 3 (.fork .all .all)) (.ln 3 (.lit .all)))))))
noncomputable def zf7(g:Fw)(line:Int)(c:Gc.C):Tree Stop:=let y0:Tree Stop:=.leaf (.done (.tuple [.agg (Fw.cells {g with g0:=g.g0.touch,g1:=g.g1.touch}),J 0])); .req true (.req true (.req true (.req true (.node (line != 0) (.node (c.code != 1112) (.leaf (.done (.tuple [.agg (Fw.cells {g with g0:=g.g0.touch,g1:=g.g1.touch,line:=line}),J 0]))) y0) y0))))
theorem ac1(g:Fw)(line:Int)(c:Gc.C):w9 (Env.ofB pP (v7 [qf9,fGv,qf0]) (d7 [x39,x37,x36,x35,x31,x34,x32,x33]) (d9 []) (d8 []) (x8 []) (x8 []) (x8 []) (x8 [])) 1000 (j8 pP 24) .unit (x9 114 [1,5,6,11,80]) (v5 pP 24 0) zf5 (j9 114 [(1,J line),(5,.ptr 0 0),(6,.ptr 1 0),(11,.ptr 2 0),(80,J 0)]) [some (.cells c.cells),some (.cells (f7 fw0)),some (.cells g.cells)] =zf7 g line c:=by kernel_rfl
theorem kAc:Known pP (Env.ofB pP (v7 [qf9,fGv,qf0]) (d7 [x39,x37,x36,x35,x31,x34,x32,x33]) (d9 []) (d8 []) (x8 []) (x8 []) (x8 []) (x8 [])):=(hB (l:=[qf9,fGv,qf0]) (k:=[x39,x37,x36,x35,x31,x34,x32,x33]) (j:=[]) (i:=[]) ([] :List Nat) ([] :List Nat) ([] :List Nat) ([] :List Nat) (⟨yv8,yn3,yv1,trivial⟩) (allQ.all (p:=WFact.ok pP) (l:=[x39,x37,x36,x35,x31,x34,x32,x33]) ⟨yx4,yx2,yw9,yw2,yw4,yw1,yw5,yw6,trivial⟩) o4 o4)
section
variable {f:Fw} {line:Int} {c:Gc.C}
theorem q70(h:q71 f line c=0):q76 f line c=q75 f line c:=by
 unfold q71 at h
 split at h
 ·rename_i e
  unfold q76 q75;rw[if_pos e,xT0 h]
 ·rename_i e;exact absurd h e
theorem y64(h:resE f=0):y27 f=y06 f:=by
 unfold resE at h;unfold y27
 split at h
 ·omega
 ·rename_i m
  rw[if_neg m]
  split at h
  ·omega
  ·rename_i n
   rw[if_neg (fun k=>n (.inl k)),if_neg (fun k=>n (.inr k))]
theorem qG8(h:qH2 f line=0):qI6 f line=qI4 f line:=by
 unfold qH2 at h
 split at h
 ·omega
 ·rename_i n1
  split at h
  ·omega
  ·rename_i n2
   unfold qI6 qI4;rw[if_neg n1,if_neg n2]
   split
   ·rfl
   ·rename_i n3
    unfold qI9 at h;rw[if_neg n3]at h
    split at h
    ·omega
    ·rename_i n4
     split at h
     ·omega
     ·rename_i n5
      have n4:backOk (qG9 f line) (qH6 f line)=true:=by simpa using n4
      have n5:backOk (f8 (qG9 f line) (qH6 f line)) (qH9 f line)=true:=by simpa using n5
      unfold hO1 hO2;rw[if_pos n4,if_pos n5,zu5,zu8];rfl
theorem zW3(h:zW1 f=0):zW2 f c={f with dwell:=c.s}:=by
 unfold zW1 at h
 split at h
 ·rename_i e;exact if_pos e
 ·omega
theorem yM6(hc:c.code=1025):yM4 f c=(if f.mode=1 then 0 else 14)∧(yM4 f c=0→yM5 f c={f with mode:=2}):=by
 have n:¬c.code=1024:=by omega
 have e:yM4 f c=(if f.mode=1 then 0 else 14):=if_neg n;refine⟨e,fun h=>?_⟩;rw[e]at h
 split at h
 ·rename_i k
  unfold yM5;rw[if_neg n,if_pos k]
 ·omega
theorem yM7(hc:c.code=1024):yM4 f c=(if f.mode=2 then 0 else 14)∧(yM4 f c=0→yM5 f c={f with mode:=1}):=by
 have e:yM4 f c=(if f.mode=2 then 0 else 14):=if_pos hc;refine⟨e,fun h=>?_⟩;rw[e]at h
 split at h
 ·rename_i k
  unfold yM5;rw[if_pos hc,if_pos k]
 ·omega
def zZ9(g:Fw)(line:Int)(c:Gc.C):Fw:=if line=0∨c.code=1112 then xT9 g else {xT9 g with line:=line}
theorem zf6(g:Fw):b9 pP (j8 pP 24) (.tuple [(zZ9 g line c).sv,J 0]) (v5 pP 24 0) (j9 114 [(1,J line),(5,.ptr 0 0),(6,.ptr 1 0),(11,.ptr 2 0),(80,J 0)]) [some (.cells c.cells),some (.cells (f7 fw0)),some (.cells g.cells)] :=by
 refine w6 kAc (n:=1000) (hint:=.unit) (keep:=x9 114 [1,5,6,11,80]) (p:=zf5) rfl ?_;erw [ac1 g line c];unfold zf7 zZ9;refine⟨rfl,rfl,rfl,rfl,fun l=>⟨fun k=>?_,fun k=>?_⟩,fun l=>?_⟩
 ·rw[if_neg (by have:=bne_iff_ne.1 l;have:=bne_iff_ne.1 k;omega)];rfl
 ·rw[if_pos (.inr (bne_eq_false_iff_eq.1 k))];rfl
 ·rw[if_pos (.inl (bne_eq_false_iff_eq.1 l))];rfl
end
theorem xZ5{c:Gc.C}(h:c.valid=true)(n4:¬c.code=4):0≤c.s∧c.s≤400000:=by
 unfold Gc.C.valid at h;rw[Bool.and_eq_true]at h;have r:=h.2;simp only[Gc.rest,Bool.and_eq_true]at r;have h5:Gc.okW c 5=true:=r.2.2.2.2.2.1;unfold Gc.okW at h5
 have e:c.num 5=c.s:=by unfold Gc.C.num;simp
 have e1:Gc.lo c.code 5=0:=by unfold Gc.lo;simp
 have e2:Gc.hi c.code 5≤400000:=by unfold Gc.hi;simp[n4];split<;>omega
 rw[e,e1]at h5
 split at h5
 ·have:=beq_iff_eq.1 h5;omega
 ·have:=v8.1 h5;omega
section
variable {f:Fw} {c:Gc.C}
theorem qE3(v:VF f)(hc:c.valid=true)(n4:¬c.code=4):qD5 f c=0∧qD6 f c={qD7 f c with waits:=qD8 f c}:=by
 have s:=xZ5 hc n4;have a0:zn3 f.c0 c.s=true:=zn4.2 ⟨v.c0,s⟩;have a1:zn3 f.c1 c.s=true:=zn4.2 ⟨v.c1,s⟩
 have e:qD5 f c=0:=by unfold qD5;rw[if_pos a0,if_pos a1];split<;>rfl
 exact⟨e,if_pos e⟩
theorem qD9(h:c.code=1104):({qD7 f c with waits:=qD8 f c}:Fw)={f with c0:=f.c0.aim c.s}:=by
 have b:zw7 c=false:=by unfold zw7;rw[h];rfl
 have w:x45 c=false:=by unfold x45;rw[h];rfl
 unfold qD7 qD8;rw[b,w];rfl
theorem qE0(h:c.code=1109):({qD7 f c with waits:=qD8 f c}:Fw)={f with c0:=f.c0.aim c.s,waits:=orB f.waits 1}:=by
 have b:zw7 c=false:=by unfold zw7;rw[h];rfl
 have w:x45 c=true:=by unfold x45;rw[h];rfl
 unfold qD7 qD8;rw[b,w];rfl
theorem qE1(h:c.code=1140):({qD7 f c with waits:=qD8 f c}:Fw)={f with c1:=f.c1.aim c.s}:=by
 have b:zw7 c=true:=by unfold zw7;rw[h];rfl
 have w:x45 c=false:=by unfold x45;rw[h];rfl
 unfold qD7 qD8;rw[b,w];rfl
theorem qE2(h:c.code=1190):({qD7 f c with waits:=qD8 f c}:Fw)={f with c1:=f.c1.aim c.s,waits:=orB f.waits 2}:=by
 have b:zw7 c=true:=by unfold zw7;rw[h];rfl
 have w:x45 c=true:=by unfold x45;rw[h];rfl
 unfold qD7 qD8;rw[b,w];rfl
end
def doS(f:Fw)(line:Int)(c:Gc.C):SV:=if doE f line c=0 then .tuple [(zZ9 (doF f line c) line c).sv,J 0]else .tuple [.agg (f7 fw0),J (doE f line c)]
section
variable {f:Fw} {line:Int} {c:Gc.C}
theorem zT2:(doS f line c).data=true:=by unfold doS;split<;>rfl
theorem zT3{k:Int}(e:doE f line c=k)(n:¬k=0):SV.tuple [.agg (f7 fw0),.int .i64 k] =doS f line c:=by unfold doS;rw[e,if_neg n]<;>rfl
theorem zT4(e:doE f line c=0){g:Fw}(d:doF f line c=g):doS f line c=.tuple [(zZ9 g line c).sv,J 0] :=by unfold doS;rw[if_pos e,d]
abbrev AtL(f g:Fw)(line:Int)(c:Gc.C):Prop:=b9 pP (j8 pP 24) (doS f line c) (v5 pP 24 0) (j9 114 [(1,J line),(5,.ptr 0 0),(6,.ptr 1 0),(11,.ptr 2 0),(80,J 0)]) [some (.cells c.cells),some (.cells (f7 fw0)),some (.cells g.cells)]
theorem zr9(e:doE f line c=0){g:Fw}(d:doF f line c=g):AtL f g line c:=by unfold AtL;rw[zT4 e d];exact zf6 g
theorem zL7(h:c.valid=true):c.code=0∨c.code=1∨c.code=4∨c.code=28∨c.code=1024∨c.code=1025∨c.code=1104∨c.code=1106∨c.code=1107∨c.code=1109∨c.code=1112∨c.code=1140∨c.code=1190∨c.code=1999:=by
 unfold Gc.C.valid Gc.C.pre at h;simp only[Bool.and_eq_true]at h;have o:=h.1.1;simp only[Gc.okC,Bool.or_eq_true,decide_eq_true_eq]at o;rcases o with o|o|o|o
 ·omega
 ·omega
 ·unfold Gc.oneS at o;omega
 ·unfold Gc.none0 at o;omega
theorem zS8(h:c.code=1112):doE f line c=0:=if_pos h
theorem zS9(h:c.code=1112):doF f line c=xG7 (qX7 f line):=if_pos h
end
theorem q95{α:Type}{L:α→Prop}{a k:Int}{T F:Tree α}(h:a=k→T.holds L)(h':¬a=k→F.holds L):(Tree.node (a==k) T F).holds L:=⟨fun e=>h (beq_iff_eq.1 e),fun e=>h' (beq_eq_false_iff_ne.1 e)⟩
theorem q96{α:Type}{L:α→Prop}{a k:Int}{T F:Tree α}(h:¬a=k→T.holds L)(h':a=k→F.holds L):(Tree.node (a != k) T F).holds L:=⟨fun e=>h (bne_iff_ne.1 e),fun e=>h' (bne_eq_false_iff_eq.1 e)⟩
theorem f4{α:Type}{L:α→Prop}{b:Bool}{T F:Tree α}(h:b=true→T.holds L)(h':b=false→F.holds L):(Tree.node b T F).holds L:=⟨h,h'⟩
theorem f9{α:Type}{L:α→Prop}{b:Bool}{T F:Tree α}(h:b=false→T.holds L)(h':b=true→F.holds L):(Tree.node (!b) T F).holds L:=⟨fun e=>h (by simpa using e),fun e=>h' (by simpa using e)⟩
theorem o5{α:Type}{L:α→Prop}{p:Prop}[Decidable p]{T F:Tree α}(h:p→T.holds L)(h':¬p→F.holds L):(Tree.node (decide p) T F).holds L:=⟨fun e=>h (of_decide_eq_true e),fun e=>h' (of_decide_eq_false e)⟩
theorem x6{α:Type}{L:α→Prop}{b:Bool}{T:Tree α}(h:b=true)(h':T.holds L):(Tree.req b T).holds L:=⟨h,h'⟩
section
variable {f:Fw} {line:Int} {c:Gc.C}
theorem zX6(a:c.code=1999):doE f line c=resE f:=by unfold doE;rw[if_neg (by omega),if_pos a]
theorem zX0(a:¬c.code=1112)(b:¬c.code=1999)(m:f.mode=3):doE f line c=16:=by unfold doE;rw[if_neg a,if_neg b,if_pos m]
theorem zX5(a:c.code=1024∨c.code=1025)(m:¬f.mode=3):doE f line c=yM4 f c:=by
 unfold doE yM4;rw[if_neg (by omega),if_neg (by omega),if_neg m]
 by_cases h:c.code=1024
 ·rw[if_neg (by omega),if_pos h,if_pos h]
 ·rw[if_pos (by omega),if_neg h]
theorem zX7(a:¬c.code=1112∧¬c.code=1999∧¬c.code=1024∧¬c.code=1025)(m:¬f.mode=3)(w:¬f.waits=0∨¬f.dwell=0):doE f line c=18:=by
 unfold doE;rw[if_neg a.1,if_neg a.2.1,if_neg m,if_neg a.2.2.2,if_neg a.2.2.1,if_pos w]
theorem zX2(a:¬c.code=1112∧¬c.code=1999∧¬c.code=1024∧¬c.code=1025)(m:¬f.mode=3)(w:f.waits=0∧f.dwell=0):doE f line c=if c.code=0∨c.code=1 then q71 f line c else if c.code=4 then(if qK6 f=true then 0 else 18)else if c.code=28 then qH2 f line else 0:=by
 unfold doE;rw[if_neg a.1,if_neg a.2.1,if_neg m,if_neg a.2.2.2,if_neg a.2.2.1,if_neg (by omega)]
theorem zX3(k:c.code=0∨c.code=1)(m:¬f.mode=3)(w:f.waits=0∧f.dwell=0):doE f line c=q71 f line c:=by rw[zX2 (by omega) m w,if_pos k]
theorem zW9(k:c.code=4)(m:¬f.mode=3)(w:f.waits=0∧f.dwell=0):doE f line c=zW1 f:=by rw[zX2 (by omega) m w,if_neg (by omega),if_pos k];rfl
theorem zX1(k:c.code=28)(m:¬f.mode=3)(w:f.waits=0∧f.dwell=0):doE f line c=qH2 f line:=by rw[zX2 (by omega) m w,if_neg (by omega),if_neg (by omega),if_pos k]
theorem zX4(k:¬c.code=0∧¬c.code=1∧¬c.code=4∧¬c.code=28)(a:¬c.code=1112∧¬c.code=1999∧¬c.code=1024∧¬c.code=1025)(m:¬f.mode=3)(w:f.waits=0∧f.dwell=0):doE f line c=0:=by rw[zX2 a m w,if_neg (by omega),if_neg (by omega),if_neg (by omega)]
theorem zO8(a:¬c.code=1112∧¬c.code=1999∧¬c.code=1024∧¬c.code=1025):doF f line c=if c.code=0∨c.code=1 then q75 f line c else if c.code=4 then {f with dwell:=c.s} else if c.code=28 then qI4 f line else if c.code=1104 then {f with c0:=f.c0.aim c.s} else if c.code=1109 then {f with c0:=f.c0.aim c.s,waits:=orB f.waits 1} else if c.code=1140 then {f with c1:=f.c1.aim c.s} else if c.code=1190 then {f with c1:=f.c1.aim c.s,waits:=orB f.waits 2} else {f with fan:=c.s}:=by
 unfold doF;rw[if_neg a.1,if_neg a.2.1,if_neg a.2.2.2,if_neg a.2.2.1]
theorem zO9(k:c.code=0∨c.code=1)(h:q71 f line c=0):doF f line c=q76 f line c:=by rw[zO8 (by omega),if_pos k,q70 h]
theorem zO4(k:c.code=4)(h:zW1 f=0):doF f line c=zW2 f c:=by rw[zO8 (by omega),if_neg (by omega),if_pos k,zW3 h]
theorem zO7(k:c.code=28)(h:qH2 f line=0):doF f line c=qI6 f line:=by rw[zO8 (by omega),if_neg (by omega),if_neg (by omega),if_pos k,qG8 h]
theorem zP1(k:c.code=1999)(h:resE f=0):doF f line c=y27 f:=by unfold doF;rw[if_neg (by omega),if_pos k,y64 h]
theorem zP0(k:c.code=1024∨c.code=1025)(h:yM4 f c=0):doF f line c=yM5 f c:=by
 unfold doF;rw[if_neg (by omega),if_neg (by omega)]
 by_cases a:c.code=1024
 ·rw[if_neg (by omega),if_pos a,(yM7 a).2 h]
 ·rw[if_pos (by omega),(yM6 (by omega)).2 h]
theorem zO5(k:c.code=1106∨c.code=1107):doF f line c={f with fan:=c.s}:=by rw[zO8 (by omega),if_neg (by omega),if_neg (by omega),if_neg (by omega),if_neg (by omega),if_neg (by omega),if_neg (by omega),if_neg (by omega)]
theorem zO6(v:VF f)(hc:c.valid=true)(k:c.code=1104∨c.code=1109∨c.code=1140∨c.code=1190):doF f line c=qD6 f c:=by
 rw[zO8 (by omega),if_neg (by omega),if_neg (by omega),if_neg (by omega),(qE3 v hc (by omega)).2];rcases k with k|k|k|k
 ·rw[if_pos k,qD9 k]
 ·rw[if_neg (by omega),if_pos k,qE0 k]
 ·rw[if_neg (by omega),if_neg (by omega),if_pos k,qE1 k]
 ·rw[if_neg (by omega),if_neg (by omega),if_neg (by omega),if_pos k,qE2 k]
theorem zL6(hc:c.valid=true)(h:¬c.code=0∧¬c.code=1∧¬c.code=4∧¬c.code=28∧¬c.code=1024∧¬c.code=1025∧¬c.code=1106∧¬c.code=1107∧¬c.code=1112∧¬c.code=1999):c.code=1104∨c.code=1109∨c.code=1140∨c.code=1190:=by
 have:=zL7 hc;omega
set_option maxHeartbeats 4000000 in
theorem zf9(v:v6 f=true)(hc:c.valid=true)(hs:xH1 f line=true):b9 pP (j8 pP 24) (doS f line c) qQ3 (j9 114 [(1,J line),(3,.ptr 0 0),(5,.ptr 1 0),(6,.ptr 2 0)]) [some (.cells f.cells),some (.cells c.cells),some (.cells (f7 fw0))] :=by
 refine w6 kAc (n:=1000) (hint:=.unit) (keep:=x9 114 [1,5,6,11,80]) (p:=zf8) zT2 ?_;erw [acT f line c];unfold zg0;have vf:=t9 v
 repeat' first
  |refine q95 (fun _=>?_) (fun _=>?_)
  |refine q96 (fun _=>?_) (fun _=>?_)
  |refine x6 hs ?_
  |refine x6 v ?_
  |refine x6 hc ?_
 all_goals first
  |(exfalso;omega)
  |exact zT3 (zX0 (by omega) (by omega) (by assumption)) (by omega)
  |exact zT3 (zX7 (by omega) (by assumption) (by omega)) (by omega)
  |exact zT3 (zX6 (by assumption)) (by assumption)
  |exact zT3 (zX5 (by omega) (by assumption)) (by assumption)
  |exact zT3 (zX3 (by omega) (by assumption) (by omega)) (by assumption)
  |exact zT3 (zW9 (by omega) (by assumption) (by omega)) (by assumption)
  |exact zT3 (zX1 (by omega) (by assumption) (by omega)) (by assumption)
  |exact absurd (qE3 vf hc (by omega)).1 (by assumption)
  |exact⟨rfl,zr9 (zS8 (by assumption)) (zS9 (by assumption))⟩
  |exact⟨rfl,zr9 ((zX6 (by assumption)).trans (by assumption)) (zP1 (by assumption) (by assumption))⟩
  |exact⟨rfl,zr9 ((zX5 (by omega) (by assumption)).trans (by assumption)) (zP0 (by omega) (by assumption))⟩
  |exact⟨rfl,zr9 ((zX3 (by omega) (by assumption) (by omega)).trans (by assumption)) (zO9 (by omega) (by assumption))⟩
  |exact⟨rfl,zr9 ((zW9 (by omega) (by assumption) (by omega)).trans (by assumption)) (zO4 (by omega) (by assumption))⟩
  |exact⟨rfl,zr9 ((zX1 (by omega) (by assumption) (by omega)).trans (by assumption)) (zO7 (by omega) (by assumption))⟩
  |exact⟨rfl,zr9 (zX4 (by omega) (by omega) (by assumption) (by omega)) (zO5 (by omega))⟩
  |exact⟨rfl,zr9 (zX4 (by omega) (by omega) (by assumption) (by omega)) (zO6 vf hc (zL6 hc (by omega)))⟩
end
abbrev za7:=Int×Int×Int×Int×Int×Int×Int×Int
abbrev OpT:=Int×Bool×za7×Int×Int×Int
abbrev xW4:Ty:=.pair (.int .i64) (.pair .bool (.pair (.pair (.int .i64) (.pair (.int .i64) (.pair (.int .i64) (.pair (.int .i64) (.pair (.int .i64) (.pair (.int .i64) (.pair (.int .i64) (.int .i64)))))))) (.pair (.int .i64) (.pair (.int .i64) (.int .i64)))))
abbrev LO(l:List OpT):SV:=.list xW4 l
def dOp:OpT:=(0,false,(0,0,0,0,0,0,0,0),0,0,0)
def opN(x:OpT):Int:=x.2.2.2.1
def opC(x:OpT):Gc.C:=⟨x.2.2.1.1,x.2.2.1.2.1,x.2.2.1.2.2.1,x.2.2.1.2.2.2.1,x.2.2.1.2.2.2.2.1,x.2.2.1.2.2.2.2.2.1,x.2.2.1.2.2.2.2.2.2.1,x.2.2.1.2.2.2.2.2.2.2⟩
theorem k00:Known pP (Env.of pP (v7 [])):=kW trivial
theorem y56{a b e:Int}(hb:1≤b)(h:a≤e*b):rnd a b≤e:=by
 have m:=q56 (a:=a) hb;have d:=Int.mul_ediv_add_emod a b;have h1:a / b≤e:=Int.ediv_le_of_le_mul (by omega) h;unfold rnd
 split
 ·rename_i k
  by_cases q:a / b=e
  ·rw[q]at d
   have:=Int.mul_comm b e;omega
  ·omega
 ·exact h1
theorem qV8{a b e:Int}(hb:1≤b)(h:e*b≤a):e≤rnd a b:=by
 have h1:e≤a / b:=Int.le_ediv_of_mul_le (by omega) h
 unfold rnd;split<;>omega
theorem xY4{a:Ax}{p M:Int}(h:a.ok=true)(hM:0≤M)(hp: -M≤p∧p≤M): -M≤xY3 a p∧xY3 a p≤M:=by
 have o:=(Ax.ok_iff a).1 h;unfold xY3;have k:=Int.mul_le_mul_of_nonneg_left (show a.den≤a.num by omega) hM;have u1:=Int.mul_le_mul_of_nonneg_right hp.2 (show 0≤a.den by omega);have u2:=Int.mul_le_mul_of_nonneg_right hp.1 (show 0≤a.den by omega);rw[Int.neg_mul]at u2;exact⟨qV8 (by omega) (by rw[Int.neg_mul];omega),y56 (by omega) (by omega)⟩
theorem xG1{a:Ax}{p M:Int}(h:a.ok=true)(hM:0≤M)(hs: -M≤xG0 a p∧xG0 a p≤M): -M≤p∧p≤M:=by
 have o:=(Ax.ok_iff a).1 h;unfold xG0 at hs;constructor
 ·rcases Int.lt_or_le p (-M)with k|k
  ·exfalso
   have u1:=Int.mul_le_mul_of_nonneg_right (show p≤-(M+1) by omega) (show 0≤a.num by omega);have u2:=Int.mul_le_mul_of_nonneg_left (show a.den≤a.num by omega) (show 0≤M+1 by omega);have:=y56 (a:=p*a.num) (b:=a.den) (e:= -(M+1)) (by omega) (by rw[Int.neg_mul]at u1 ⊢;omega);omega
  ·exact k
 ·rcases Int.lt_or_le M p with k|k
  ·exfalso
   have u1:=Int.mul_le_mul_of_nonneg_right (show M+1≤p by omega) (show 0≤a.num by omega);have u2:=Int.mul_le_mul_of_nonneg_left (show a.den≤a.num by omega) (show 0≤M+1 by omega);have:=qV8 (a:=p*a.num) (b:=a.den) (e:=M+1) (by omega) (by omega);omega
  ·exact k
theorem yR3{m:Ma}{p:V4}(hm:m.ok=true)(hp:v9 p=true):(-16777216≤(yR2 m p).1∧(yR2 m p).1≤16777216)∧(-16777216≤(yR2 m p).2.1∧(yR2 m p).2.1≤16777216)∧(-16777216≤(yR2 m p).2.2.1∧(yR2 m p).2.2.1≤16777216)∧-16777216≤(yR2 m p).2.2.2∧(yR2 m p).2.2.2≤16777216:=by
 have o:=(Ma.ok_iff m).1 hm;have n:=r8.1 hp
 have un:(-16777216≤(xX6 m.xy p).1∧(xX6 m.xy p).1≤16777216)∧(-16777216≤(xX6 m.xy p).2.1∧(xX6 m.xy p).2.1≤16777216)∧(xX6 m.xy p).2.2=p.2.2:=by
  unfold xX6;split
  ·dsimp only;exact⟨by omega,by omega,rfl⟩
  ·exact⟨n.1,n.2.1,rfl⟩
 unfold yR2;dsimp only;exact⟨xY4 o.1 (by omega) un.1,xY4 o.2.1 (by omega) un.2.1,xY4 o.2.2.1 (by omega) (by rw[un.2.2];exact n.2.2.1),xY4 o.2.2.2.1 (by omega) (by rw[un.2.2];exact n.2.2.2)⟩
theorem qI3{f:Fw}(hm:f.ma.ok=true)(hp:v9 f.pos=true): -16777216≤qI2 f∧qI2 f≤16777216:=by
 unfold qI2;split
 ·exact xY4 ((Ma.ok_iff _).1 hm).2.2.2.1 (by omega) (r8.1 hp).2.2.2
 ·omega
theorem q68{m:Ma}{u:V3}{e:Int}(hm:m.ok=true)(h:v9 (q66 m u e)=true): -16777216≤e∧e≤16777216:=by
 have o:=(Ma.ok_iff m).1 hm;have n:=(r8.1 h).2.2.2;refine xG1 o.2.2.2.1 (by omega) ?_
 have:(q66 m u e).2.2.2=xG0 m.e e:=by unfold q66 zL8;split<;>rfl
 rw[this]at n;exact n
section
variable {l:List Bk} {caps:List Int} {e:Int}
theorem qw8(h:PlOk l caps e)(he:e≤crL l 0)(h0:gL l caps e 0=e):zc8 (crL l) (zF9 caps) (reL l) e l.length (gL l caps e):=
 (yO0 h.lim he (fun i=>(h.crR i).1) (qB8 h.lim h0) fun x hx i hi=>by
   rcases Nat.eq_zero_or_pos i with rfl|hp
   ·rw[hx.first];exact Int.le_of_eq h0.symm
   ·exact xz9 h.lim hx _ i rfl hp hi).1.2 h0
theorem yP2(h:PlOk l caps e)(he:e≤crL l 0)(h0:gL l caps e 0=e){i:Nat}(hi:i<l.length):x04 ((plB l (gL l caps e)).getD i dBk)=true:=by
 have p:=qw8 h he h0;have s:xB0 (l.getD i dBk)=true:=qx2 h.snd hi;have s1:=xB1.1 s;have a:=p.2.2 i (by omega);have b:=p.2.2 (i+1) (by omega);have a2:=a.2.1 hi;have b2:=b.2.2.1 (by omega);have a1:=a.1;have b1:=b.1;rw[yO9 hi];rw[show i+1-1=i by omega]at b2;unfold crL at a2 b2;exact x05.2 ⟨s1,⟨a1,a2⟩,b1,b2⟩
theorem yQ8{p:V4}{q r:List Bk}:∀n,(∀i,i<n→(q.getD i dBk).1=(r.getD i dBk).1)→yQ7 p q n=yQ7 p r n
 |0,_=>rfl
 |n+1,h=>by
  show r9 (yQ7 p q n) (q.getD n dBk).1=r9 (yQ7 p r n) (r.getD n dBk).1;rw[yQ8 n fun i hi=>h i (by omega),h n (by omega)]
end
section
variable {g:Fw} {d:V4} {len line:Int}
theorem zl0{i:Nat}(h:i<g.queue.length):(s9 g d len).getD i dBk=g.queue.getD i dBk:=by
 unfold s9;rw[List.getD_eq_getElem?_getD,List.getElem?_append_left h,←List.getD_eq_getElem?_getD]
theorem zk9:(s9 g d len).getD g.queue.length dBk=ya4 g.ma d len g.feed:=by
 unfold s9;rw[List.getD_eq_getElem?_getD,List.getElem?_append_right (Nat.le_refl _),Nat.sub_self];rfl
theorem zj0{i:Nat}(h:i<g.queue.length+1):((m8 g d len line).queue.getD i dBk).1=((s9 g d len).getD i dBk).1:=by
 show((plB _ _).getD i dBk).1=_;rw[yO9 (by rw[zk8];exact h)];rfl
theorem zj5{p:V4}{i:Nat}(h:i≤g.queue.length):yQ7 p (m8 g d len line).queue i=yQ7 p g.queue i:=
 yQ8 i fun k hk=>by rw[zj0 (by omega),zl0 (by omega)]
theorem zj6{p:V4}:yQ7 p (m8 g d len line).queue (g.queue.length+1)=r9 (yQ7 p g.queue g.queue.length) d:=by
 show r9 (yQ7 p _ g.queue.length) ((m8 g d len line).queue.getD g.queue.length dBk).1=_;rw[zj5 (Nat.le_refl _),zj0 (by omega),zk9];rfl
theorem zl7:qz2 (m8 g d len line)=r9 (qz2 g) d:=by
 unfold qz2;rw[zj2];exact zj6
theorem qY2{i:Nat}(hl:g.lines.length=g.queue.length):(m8 g d len line).lines.getD i 0=if i<g.queue.length then g.lines.getD i 0 else if i=g.queue.length then line else 0:=by
 show(g.lines++[line]).getD i 0=_;rw[List.getD_eq_getElem?_getD]
 split
 ·rw[List.getElem?_append_left (by omega),←List.getD_eq_getElem?_getD]
 ·split
  ·rename_i h;subst h
   rw[List.getElem?_append_right (by omega),hl,Nat.sub_self];rfl
  ·rw[List.getElem?_eq_none (by simp;omega)];rfl
theorem zm1(hq:yU8 g=true)(hp:zk6 g d len=true)(ho:zk4 g d len=true)(hl:g.queue.length<32)(hn:v9 (r9 (qz2 g) d)=true)(hr:0≤line∧line≤1099511627776):yU8 (m8 g d len line)=true:=by
 obtain⟨q1,q2,q3,q4,q5,q6,q7⟩:=yU9.1 hq;refine yU9.2 ⟨by rw[zj2];omega,zj3 q2,q3,q4,q5,q6,fun i hi=>?_⟩;rw[zj2]at hi;have o:=zk5.1 ho;refine zA8.2 ⟨yP2 (zm0 hp) o.1 o.2 (by rw[zk8];exact hi),?_,?_⟩
 ·rw[qY2 q2]
  split
  ·exact(zB0 (q7 i (by assumption))).2.1
  ·split<;>omega
 ·show v9 (yQ7 (yU5 g) (m8 g d len line).queue (i+1))=true
  rcases Nat.lt_or_ge i g.queue.length with k|k
  ·rw[zj5 (by omega)];exact(zB0 (q7 i k)).2.2
  ·obtain rfl:i=g.queue.length:=by omega
   rw[zj6];exact hn
end
theorem xZ7{c:Gc.C}(h:c.valid=true):Gc.okW c 5=true:=by
 unfold Gc.C.valid at h;rw[Bool.and_eq_true]at h;have r:=h.2;simp only[Gc.rest,Bool.and_eq_true]at r;exact r.2.2.2.2.2.1
theorem yf0(c:Gc.C):c.num 5=c.s:=by unfold Gc.C.num;simp
theorem xZ6{c:Gc.C}(h:c.valid=true):0≤c.s∧c.s≤1048576:=by
 have h5:=xZ7 h;unfold Gc.okW at h5
 have e1:Gc.lo c.code 5=0:=by unfold Gc.lo;simp
 have e2:Gc.hi c.code 5≤1048576:=by unfold Gc.hi;simp;split<;>(try split)<;>omega
 rw[yf0,e1]at h5
 split at h5
 ·have:=beq_iff_eq.1 h5;omega
 ·have:=v8.1 h5;omega
theorem xZ4{c:Gc.C}(h:c.valid=true)(k:c.code=1106∨c.code=1107):0≤c.s∧c.s≤255:=by
 have h5:=xZ7 h;unfold Gc.okW at h5;rw[yf0]at h5;rcases k with k|k
 ·have e1:Gc.lo c.code 5=0:=by unfold Gc.lo;simp
  have e2:Gc.hi c.code 5=255:=by unfold Gc.hi;simp[k]
  rw[e1,e2]at h5
  split at h5
  ·have:=beq_iff_eq.1 h5;omega
  ·exact v8.1 h5
 ·have hb:c.has=0:=by
   unfold Gc.C.valid Gc.C.pre at h;simp only[Bool.and_eq_true]at h;have q:=h.1.2.2
   have a:Gc.allW c.code=true:=by rw[k];decide
   have m:Gc.may c.code=0:=by rw[k];decide
   rw[a,m]at q
   simpa using q
  have b0:Gc.bit c.has 5=0:=by rw[hb];decide
  rw[if_pos b0]at h5;have:=beq_iff_eq.1 h5;omega
theorem x27{f:Fw}(p:yM1 f=true)(m:1≤f.mode∧f.mode≤3)(n:yf1 f=true)(mv:q79 f=true)(q:yU8 f=true)(e:(¬f.mode=3∧f.homed=true)∨(f.moving=false∧f.queue.length=0)):v6 f=true:=
 x06.2 ⟨p,q55.2 ⟨m,n⟩,mv,q,zZ8.2 e⟩
theorem x11{f:Fw}(h:v6 f=true):yf1 f=true:=(q55.1 (x06.1 h).2.1).2
theorem x12{f:Fw}(h:v6 f=true):yM1 f=true:=(x06.1 h).1
theorem yF7{f:Fw}(h:xy9 f=true):1≤e9 f:=by
 have s:=xz0.1 h
 have fl:∀ (l:List Int) (d:Int),1≤d→1≤qs9 l d:=by
  intro l
  induction l with
  |nil=>exact fun d h=>h
  |cons x l ih=>
   intro d h;unfold qs9
   by_cases k:0<x
   ·rw[if_pos k];omega
   ·rw[if_neg k];exact ih d h
 unfold e9
 split
 ·omega
 ·exact fl _ _ (by omega)
theorem xG4{f:Fw}(h1:f.mo=m0)(h2:f.active=0):xG2 f=true:=by
 unfold xG2;rw[h1,h2];decide
theorem yU6{f:Fw}(h:f.moving=false)(hm:f.mo.1.1=z4):yU5 f=f.pos:=by
 unfold yU5;rw[zy9 h,hm];exact zi9 _
theorem yV0{f:Fw}(h:f.moving=false)(hm:f.mo.1.1=z4)(q:f.queue=[])(l:f.lines=[])(p:v9 f.pos=true)(r:v9 f.ret=true):yU8 f=true:=
 yU9.2 ⟨by rw[q];decide,by rw[q,l];rfl,p,r,by rw[zy9 h];exact p,by rw[yU6 h hm];exact p,fun i hi=>by rw[q]at hi;exact absurd hi (Nat.not_lt_zero _)⟩
theorem xG6{f:Fw}(h:v6 f=true)(hm:f.moving=false):f.mo.1.1=z4:=by
 have v:=t9 h;have m:=v.moves;rw[q80 hm]at m;have q:=yU7 v.moves hm;unfold yU5 at q;generalize begin4 f=b at q;obtain⟨b1,b2,b3,b4⟩:=b;generalize f.mo.1.1=x at q;obtain⟨x1,x2,x3,x4⟩:=x;unfold r9 at q;simp only[Prod.mk.injEq]at q;unfold z4;simp only[Prod.mk.injEq];omega
theorem qZ6{f:Fw}(v:VF f):v9 (qZ5 f)=true:=by
 unfold qZ5;split
 ·exact v.beg
 ·split
  ·exact v.pos
  ·exact v.ret
theorem q01{f:Fw}(h:v6 f=true):v6 {qZ4 f with mode:=3}=true:=by
 have v:=t9 h;have vp:=x12 h;have n:=v.nums;have o1:=yF8 v.shape;have o2:=yF7 v.shape;refine x27 vp (by show 1≤(3:Int)∧(3:Int)≤3;omega) (yf2.2 ?_) ?_ ?_ (.inr ⟨rfl,rfl⟩)
 ·show _∧_∧_∧_∧_∧((0:Int)≤0∧(0:Int)≤1048576)∧((0:Int)≤0∧(0:Int)≤3)∧_∧(0≤e9 f-1∧e9 f-1≤1099511627776)∧((0:Int)≤0∧(0:Int)≤1099511627776)∧_
  exact⟨n.1,n.2.1,n.2.2.1,n.2.2.2.1,n.2.2.2.2.1,by omega,by omega,n.2.2.2.2.2.2.2.1,by omega,by omega,n.2.2.2.2.2.2.2.2.2.2⟩
 ·rw[q80 rfl];exact xG4 rfl rfl
 ·exact yV0 rfl rfl rfl rfl v.pos (qZ6 v)
theorem qY1{f:Fw}{line:Int}(h:v6 f=true)(hl:0≤line∧line≤1099511627776):v6 {f with line:=line}=true:=by
 have v:=t9 h;have vp:=x12 h;have n:=v.nums;refine x27 vp v.mode (yf2.2 ?_) v.moves v.queued v.ends;exact⟨n.1,n.2.1,n.2.2.1,n.2.2.2.1,n.2.2.2.2.1,n.2.2.2.2.2.1,n.2.2.2.2.2.2.1,n.2.2.2.2.2.2.2.1,hl,n.2.2.2.2.2.2.2.2.2⟩
theorem qX9{f:Fw}{line:Int}(h:v6 f=true)(hl:0≤line∧line≤1099511627776):v6 (qX7 f line)=true:=by
 unfold qX7;split
 ·exact h
 ·exact qY1 h hl
theorem qC1{f:Fw}{a b:Gu}(h:v6 f=true)(ha:a.ok=true)(hb:b.ok=true):v6 {f with g0:=a,g1:=b}=true:=by
 have v:=t9 h;have vn:=x11 h;exact x27 (yM2.2 ⟨v.ma,v.c0,v.c1,ha,hb⟩) v.mode vn v.moves v.queued v.ends
theorem xU0{f:Fw}(h:v6 f=true):v6 (xT9 f)=true:=qC1 h (Gu.touch_ok (t9 h).g0).1 (Gu.touch_ok (t9 h).g1).1
theorem xG9{f:Fw}(h:v6 f=true):v6 (xG8 f)=true:=qC1 h (Gu.stop_ok (t9 h).g0).1 (Gu.stop_ok (t9 h).g1).1
theorem y08{g:Gu}{r:Int}(h:g.ok=true)(k:y30 g r=true):(y07 g r).ok=true∧(y07 g r).fault=0∧(y07 g r).low=g.low∧(y07 g r).high=g.high:=by
 unfold y07
 split
 ·rename_i e;exact⟨h,e,rfl,rfl⟩
 ·rename_i e
  have:=y31.1 k;exact Gu.rest_ok h (by rcases this with k|k;exact absurd k e;exact k)
theorem y05{f:Fw}(h:resE f=0):f.mode=3∧y30 f.g0 f.r0=true∧y30 f.g1 f.r1=true:=by
 unfold resE at h
 split at h
 ·omega
 ·rename_i m
  split at h
  ·omega
  ·rename_i n
   exact⟨by omega,by simpa using fun k=>n (.inl k),by simpa using fun k=>n (.inr k)⟩
theorem y33{f:Fw}(h:v6 f=true)(e:resE f=0):v6 (y06 f)=true:=by
 have v:=t9 h;have vn:=x11 h;obtain⟨m,r0,r1⟩:=y05 e
 have en:f.moving=false∧f.queue.length=0:=by
  rcases v.ends with k|k
  ·exact absurd m k.1
  ·exact k
 exact x27 (yM2.2 ⟨v.ma,v.c0,v.c1,(y08 v.g0 r0).1,(y08 v.g1 r1).1⟩) (by show 1≤(1:Int)∧(1:Int)≤3;omega) vn v.moves v.queued (.inr en)
theorem q58{f:Fw}{m:Int}(h:v6 f=true)(k:¬f.mode=3)(hm:1≤m∧m≤2):v6 {f with mode:=m}=true:=by
 have v:=t9 h;have vp:=x12 h;have vn:=x11 h;refine x27 vp (by show 1≤m∧m≤3;omega) vn v.moves v.queued ?_;rcases v.ends with e|e
 ·exact .inl ⟨by show ¬m=3;omega,e.2⟩
 ·exact .inr e
theorem qp6{f:Fw}{n:Int}(h:v6 f=true)(hn:0≤n∧n≤255):v6 {f with fan:=n}=true:=by
 have v:=t9 h;have vp:=x12 h;have k:=v.nums;exact x27 vp v.mode (yf2.2 ⟨k.1,k.2.1,k.2.2.1,k.2.2.2.1,k.2.2.2.2.1,k.2.2.2.2.2.1,k.2.2.2.2.2.2.1,hn,k.2.2.2.2.2.2.2.2⟩) v.moves v.queued v.ends
theorem zW4{f:Fw}{n:Int}(h:v6 f=true)(hn:0≤n∧n≤1048576):v6 {f with dwell:=n}=true:=by
 have v:=t9 h;have vp:=x12 h;have k:=v.nums;exact x27 vp v.mode (yf2.2 ⟨k.1,k.2.1,k.2.2.1,k.2.2.2.1,k.2.2.2.2.1,hn,k.2.2.2.2.2.2⟩) v.moves v.queued v.ends
theorem x54{f:Fw}{n:Int}(h:v6 f=true)(hn:0≤n∧n≤3):v6 {f with waits:=n}=true:=by
 have v:=t9 h;have vp:=x12 h;have k:=v.nums;exact x27 vp v.mode (yf2.2 ⟨k.1,k.2.1,k.2.2.1,k.2.2.2.1,k.2.2.2.2.1,k.2.2.2.2.2.1,hn,k.2.2.2.2.2.2.2⟩) v.moves v.queued v.ends
theorem zC2{f:Fw}{a:Co}(h:v6 f=true)(ha:a.ok=true):v6 {f with c0:=a}=true:=by
 have v:=t9 h;have vn:=x11 h;exact x27 (yM2.2 ⟨v.ma,ha,v.c1,v.g0,v.g1⟩) v.mode vn v.moves v.queued v.ends
theorem zC3{f:Fw}{a:Co}(h:v6 f=true)(ha:a.ok=true):v6 {f with c1:=a}=true:=by
 have v:=t9 h;have vn:=x11 h;exact x27 (yM2.2 ⟨v.ma,v.c0,ha,v.g0,v.g1⟩) v.mode vn v.moves v.queued v.ends
section
variable {f:Fw} {line:Int} {c:Gc.C}
theorem q72(h:q71 f line c=0):(1≤line∧f.homed=true∧f.back=false∧f.mode=1)∧qM4 f.ma (m7 f c)=true∧q59 f.ma (m7 f c) (xK8 f c)=true∧tlE (f0 f c) (m7 f c) (xK8 f c) (q77 f c) (q73 f c)=0:=by
 by_cases k:line<1∨f.homed=false∨f.back=true∨¬f.mode=1
 ·rw[(q90 (c:=c) k).1]at h;omega
 by_cases k2:qM4 f.ma (m7 f c)=false∨q59 f.ma (m7 f c) (xK8 f c)=false
 ·rw[(q92 k k2).1]at h;omega
 by_cases k3:f.e<xK8 f c∧f.r0<f.cold
 ·rw[(q91 k k2 k3).1]at h;omega
 rw[(q89 k k2 k3).1]at h;refine⟨⟨by omega,by simpa using fun n=>k (.inr (.inl n)),by simpa using fun n=>k (.inr (.inr (.inl n))),?_⟩,by simpa using fun n=>k2 (.inl n),by simpa using fun n=>k2 (.inr n),h⟩;rcases Int.lt_trichotomy f.mode 1 with q|q|q
 ·exact absurd (.inr (.inr (.inr (by omega)))) k
 ·exact q
 ·exact absurd (.inr (.inr (.inr (by omega)))) k
theorem xS6{g:Fw}{u:V3}{e:Int}{p d:V4}(h:tlE g u e p d=0):v9 p=true∧v9 d=true∧(nz4 d=true→¬32≤g.queue.length∧zk4 g d (qW7 g u e)=true):=by
 cases hn:v9 p&&v9 d with
 |false=>rw[xS1 hn]at h;omega
 |true=>
  have n:=(Bool.and_eq_true _ _).mp hn;refine⟨n.1,n.2,fun hz=>?_⟩
  by_cases q:32≤g.queue.length
  ·rw[xS2 hn hz q]at h;omega
  ·by_cases o:zk4 g d (qW7 g u e)=true
   ·exact⟨q,o⟩
   ·rw[xS3 hn hz q o]at h;omega
theorem qr3(h:v6 f=true)(hc:c.valid=true):v6 (f0 f c)=true:=by
 unfold f0
 split
 ·have v:=t9 h
  have vp:=x12 h;have k:=v.nums;exact x27 vp v.mode (yf2.2 ⟨k.1,k.2.1,k.2.2.1,k.2.2.2.1,xZ3 hc,k.2.2.2.2.2⟩) v.moves v.queued v.ends
 ·exact h
theorem qq9:qz2 (f0 f c)=qz2 f:=by unfold f0;split<;>rfl
theorem qZ0{f:Fw}{u:V3}{e:Int}(h:v6 f=true)(hu:(-16777216≤u.1∧u.1≤16777216)∧(-16777216≤u.2.1∧u.2.1≤16777216)∧-16777216≤u.2.2∧u.2.2≤16777216)(he: -16777216≤e∧e≤16777216):v6 {f with loc:=u,e:=e}=true:=by
 have v:=t9 h;have vp:=x12 h;have k:=v.nums;exact x27 vp v.mode (yf2.2 ⟨hu.1,hu.2.1,hu.2.2,he,k.2.2.2.2⟩) v.moves v.queued v.ends
theorem zm2{g:Fw}{d:V4}{len:Int}(h:v6 g=true)(hm:¬g.mode=3∧g.homed=true)(hp:zk6 g d len=true)(ho:zk4 g d len=true)(hl:g.queue.length<32)(hn:v9 (r9 (qz2 g) d)=true)(hr:0≤line∧line≤1099511627776):v6 (m8 g d len line)=true:=by
 have v:=t9 h;have vp:=x12 h;have vn:=x11 h;exact x27 vp v.mode vn v.moves (zm1 v.queued hp ho hl hn hr) (.inl hm)
theorem q78(h:v6 f=true)(hc:c.valid=true)(hz:q71 f line c=0)(hl:line≤1099511627776):v6 (q75 f line c)=true:=by
 have v:=t9 h;obtain⟨s,ki,km,t⟩:=q72 hz;obtain⟨t1,t2,t3⟩:=xS6 t;have ii:=qM5.1 ki;have o:=(Ma.ok_iff f.ma).1 v.ma;have a1:=(Ax.ok_iff _).1 o.1;have a2:=(Ax.ok_iff _).1 o.2.1;have a3:=(Ax.ok_iff _).1 o.2.2.1;have er: -16777216≤xK8 f c∧xK8 f c≤16777216:=q68 (m:=f.ma) (u:=m7 f c) v.ma t1;have fv:=qr3 h hc
 have hmd:¬(f0 f c).mode=3∧(f0 f c).homed=true:=by
  have:(f0 f c).mode=f.mode∧(f0 f c).homed=f.homed:=by unfold f0;split<;>exact⟨rfl,rfl⟩
  rw[this.1,this.2];exact⟨by omega,s.2.1⟩
 unfold q75
 cases z:nz4 (q73 f c)with
 |false=>rw[xS7 z];exact qZ0 fv (by omega) er
 |true=>
  rw[xS8 z];obtain⟨q1,q2⟩:=t3 z;refine qZ0 (zm2 fv hmd (q93 v hc ki km t2 z).2 q2 (by omega) ?_ (by omega)) (by omega) er;rw[qq9,show q73 f c=xI5 (q77 f c) (qz2 f)from rfl,zi8];exact t1
theorem qz7{f:Fw}(hm:f.moving=false)(hz:f.mo.1.1=z4)(hq:f.queue.length=0):qz2 f=f.pos:=by
 unfold qz2;rw[hq];exact yU6 hm hz
theorem qH1(h:v6 f=true)(hi:qK6 f=true)(hm:f.mode=1):v6 (qG9 f line)=true:=by
 have v:=t9 h;have vp:=x12 h;obtain⟨i1,i2,i3⟩:=qK7.1 hi;have k:=v.nums;have q0:f.queue=[] :=List.length_eq_zero_iff.1 i2;have l0:f.lines=[] :=List.length_eq_zero_iff.1 (by rw[v.lens,i2]);have np:=r8.1 v.pos;have sm:=xG6 h i1;refine x27 vp v.mode (yf2.2 ?_) v.moves (yV0 i1 sm q0 l0 (r8.2 ?_) (qI8 v)) (.inl ⟨by show ¬f.mode=3;omega,rfl⟩)
 ·show((-16777216:Int)≤0∧(0:Int)≤16777216)∧((-16777216:Int)≤0∧(0:Int)≤16777216)∧((-16777216:Int)≤0∧(0:Int)≤16777216)∧(-16777216≤qI2 f∧qI2 f≤16777216)∧_
  exact⟨by omega,by omega,by omega,qI3 v.ma v.pos,k.2.2.2.2⟩
 ·show((-16777216:Int)≤0∧(0:Int)≤16777216)∧((-16777216:Int)≤0∧(0:Int)≤16777216)∧((-16777216:Int)≤0∧(0:Int)≤16777216)∧_
  exact⟨by omega,by omega,by omega,np.2.2.2⟩
theorem yg7{d:V4}(z:nz4 d=false):d=z4:=by
 have n:d.1=0∧d.2.1=0∧d.2.2.1=0∧d.2.2.2=0:=by unfold nz4 at z;simpa using z
 obtain⟨a1,a2,a3,a4⟩:=d;dsimp only at n;unfold z4;simp only[Prod.mk.injEq];exact n
theorem zu3{g:Fw}{d:V4}:qz2 (f8 g d)=r9 (qz2 g) d:=by
 cases z:nz4 d with
 |false=>rw[zu7 z,yg7 z,zi9]
 |true=>rw[zu9 z,zl7]
theorem zu4{g:Fw}{d:V4}:(f8 g d).queue.length≤g.queue.length+1:=by
 cases z:nz4 d with
 |false=>rw[zu7 z];omega
 |true=>rw[zu9 z,zj2];omega
theorem zv7{g:Fw}{d:V4}(h:v6 g=true)(hm:¬g.mode=3∧g.homed=true)(hp:nz4 d=true→zk6 g d 0=true)(ho:backOk g d=true)(hl:g.queue.length<32)(hn:v9 (r9 (qz2 g) d)=true):v6 (f8 g d)=true:=by
 cases z:nz4 d with
 |false=>rw[zu7 z];exact h
 |true=>
  rw[zu9 z];rw[zv1 z]at ho;exact zm2 h hm (hp z) ho hl hn (by omega)
theorem zu6{g:Fw}{d:V4}:(f8 g d).mode=g.mode∧(f8 g d).homed=g.homed∧(f8 g d).pos=g.pos:=by unfold f8;split<;>exact⟨rfl,rfl,rfl⟩
theorem qH3(h:qH2 f line=0):qK6 f=true∧f.mode=1∧qI9 f line=0:=by
 unfold qH2 at h
 split at h
 ·omega
 ·rename_i n1
  split at h
  ·omega
  ·rename_i n2;exact⟨by simpa using n1,by omega,h⟩
theorem qJ0(h:qI9 f line=0)(hb:¬qH4 f line=false):backOk (qG9 f line) (qH6 f line)=true∧backOk (f8 (qG9 f line) (qH6 f line)) (qH9 f line)=true:=by
 unfold qI9 at h;rw[if_neg hb]at h
 split at h
 ·omega
 ·rename_i n4
  split at h
  ·omega
  ·rename_i n5;exact⟨by simpa using n4,by simpa using n5⟩
theorem qJ4(h:v6 f=true)(hz:qH2 f line=0):v6 (qI4 f line)=true:=by
 have v:=t9 h;obtain⟨hi,hm,hx⟩:=qH3 hz;obtain⟨i1,i2,i3⟩:=qK7.1 hi;have h0:=qH1 (line:=line) h hi hm;unfold qI4
 split
 ·exact h0
 ·rename_i hb
  obtain⟨o1,o2⟩:=qJ0 hx hb;have r:=r8.1 (qI8 (line:=line) v);have np:=r8.1 v.pos;have g0:qz2 (qG9 f line)=(0,0,0,f.pos.2.2.2):=qz7 (f:=qG9 f line) i1 (show f.mo.1.1=z4 from xG6 h i1) i2;have md:¬(qG9 f line).mode=3∧(qG9 f line).homed=true:=⟨by show ¬f.mode=3;omega,rfl⟩
  have v1:v6 (f8 (qG9 f line) (qH6 f line))=true:=zv7 h0 md (fun z=>qJ2 v hi (qH8 v) z) o1 (by show f.queue.length<32;omega) (by
   rw[g0];refine r8.2 ?_;unfold qH6 r9;dsimp only;omega)
  have v2:v6 (f8 (f8 (qG9 f line) (qH6 f line)) (qH9 f line))=true:=zv7 v1 (by rw[zu6.1,zu6.2.1];exact md) (fun z=>qJ3 v hi o1 z) o2 (by have:=zu4 (g:=qG9 f line) (d:=qH6 f line);have e:(qG9 f line).queue.length=f.queue.length:=rfl;omega) (by
   rw[zu3,g0];refine r8.2 ?_;unfold qH6 qH9 r9;dsimp only;omega)
  have pr:=yR3 (m:=f.ma) v.ma (qI8 (line:=line) v);have v3:=t9 v2;have k:=v3.nums;have vp2:=x12 v2;exact x27 vp2 v3.mode (yf2.2 ⟨pr.1,pr.2.1,pr.2.2.1,k.2.2.2⟩) v3.moves v3.queued v3.ends
theorem qJ1(h:qH2 f line=0):(qI4 f line).pos=(0,0,0,f.pos.2.2.2):=by
 unfold qI4
 split
 ·rfl
 ·show(f8 (f8 (qG9 f line) (qH6 f line)) (qH9 f line)).pos=_
  rw[zu6.2.2,zu6.2.2];rfl
theorem zT1(h:v6 f=true)(hc:c.valid=true)(hl:0≤line∧line≤1099511627776)(e:doE f line c=0):v6 (doF f line c)=true:=by
 have v:=t9 h
 by_cases k1:c.code=1112
 ·rw[zS9 k1]
  exact q01 (xG9 (qX9 h hl))
 by_cases k2:c.code=1999
 ·rw[zX6 k2]at e
  have:doF f line c=y06 f:=by unfold doF;rw[if_neg k1,if_pos k2]
  rw[this];exact y33 h e
 by_cases m:f.mode=3
 ·rw[zX0 k1 k2 m]at e;omega
 by_cases k3:c.code=1025
 ·have:doF f line c={f with mode:=2}:=by unfold doF;rw[if_neg k1,if_neg k2,if_pos k3]
  rw[this];exact q58 h m (by omega)
 by_cases k4:c.code=1024
 ·have:doF f line c={f with mode:=1}:=by unfold doF;rw[if_neg k1,if_neg k2,if_neg k3,if_pos k4]
  rw[this];exact q58 h m (by omega)
 have kk:¬c.code=1112∧¬c.code=1999∧¬c.code=1024∧¬c.code=1025:=⟨k1,k2,k4,k3⟩
 by_cases w:¬f.waits=0∨¬f.dwell=0
 ·rw[zX7 kk m w]at e;omega
 have w':f.waits=0∧f.dwell=0:=by omega
 rw[zO8 kk];rw[zX2 kk m w']at e
 split at e
 ·rename_i a;rw[if_pos a];exact q78 h hc e hl.2
 ·rename_i a;rw[if_neg a]
  split at e
  ·rename_i b;rw[if_pos b];exact zW4 h (xZ6 hc)
  ·rename_i b;rw[if_neg b]
   split at e
   ·rename_i d;rw[if_pos d];exact qJ4 h e
   ·rename_i d;rw[if_neg d]
    have s:¬c.code=4→0≤c.s∧c.s≤400000:=xZ5 hc;have a0:(f.c0.aim c.s).ok=true:=Co.aim_ok (zn4.2 ⟨v.c0,s b⟩);have a1:(f.c1.aim c.s).ok=true:=Co.aim_ok (zn4.2 ⟨v.c1,s b⟩)
    have o1:orB f.waits 1=1:=by rw[w'.1];decide
    have o2:orB f.waits 2=2:=by rw[w'.1];decide
    split
    ·exact zC2 h a0
    ·split
     ·rw[o1];exact x54 (f:={f with c0:=f.c0.aim c.s}) (zC2 h a0) (by omega)
     ·split
      ·exact zC3 h a1
      ·split
       ·rw[o2];exact x54 (f:={f with c1:=f.c1.aim c.s}) (zC3 h a1) (by omega)
       ·refine qp6 h (xZ4 hc ?_)
        have:=zL7 hc;omega
theorem zg3(h:zg2 f line c=0):v6 f=true∧c.valid=true∧(line=0∨line=f.line+1)∧line≤1099511627776∧doE f line c=0:=by
 unfold zg2 at h
 split at h
 ·omega
 ·rename_i n
  refine⟨by simpa using fun k=>n (.inl k),by simpa using fun k=>n (.inr (.inl k)),?_,?_,h⟩
  ·by_cases k:line=0
   ·exact .inl k
   ·by_cases q:line=f.line+1
    ·exact .inr q
    ·exact absurd (.inr (.inr (.inl ⟨k,q⟩))) n
  ·rcases Int.lt_or_le 1099511627776 line with k|k
   ·exact absurd (.inr (.inr (.inr k))) n
   ·exact k
theorem zh6(h:zg2 f line c=0):0≤line∧line≤1099511627776:=by
 obtain⟨h1,_,h3,h4,_⟩:=zg3 h;have:=(t9 h1).nums;omega
theorem zh9(h:zg2 f line c=0):v6 (zg4 f line c)=true:=by
 obtain⟨h1,h2,h3,h4,h5⟩:=zg3 h;have hl:=zh6 h;unfold zg4;refine xU0 ?_
 split
 ·exact zT1 h1 h2 hl h5
 ·exact qX9 (zT1 h1 h2 hl h5) hl
end
theorem v4x{a b:V4}(h:a.1=b.1∧a.2.1=b.2.1∧a.2.2.1=b.2.2.1∧a.2.2.2=b.2.2.2):a=b:=by
 obtain⟨a1,a2,a3,a4⟩:=a;obtain⟨b1,b2,b3,b4⟩:=b;simp only[Prod.mk.injEq];exact h
theorem xH8{n i k:Int}(hn:1≤n)(hi:0≤i∧i≤n):(0≤k→0≤stp n i k∧stp n i k≤k)∧(k≤0→k≤stp n i k∧stp n i k≤0):=by
 have s0:=xJ8 k
 have e:(2*n*sz k+n) / (2*n)=sz k:=by
  rw[Int.add_comm,Int.add_mul_ediv_left _ _ (by omega),Int.ediv_eq_zero_of_lt (by omega) (by omega)];omega
 have p0:0≤2*i*sz k:=Int.mul_nonneg (by omega) s0;have lo:0≤(2*i*sz k+n) / (2*n):=Int.ediv_nonneg (by omega) (by omega)
 have up:(2*i*sz k+n) / (2*n)≤sz k:=by
  have m:=Int.mul_le_mul_of_nonneg_right (show 2*i≤2*n by omega) s0;have:=Int.ediv_le_ediv (c:=2*n) (by omega) (show 2*i*sz k+n≤2*n*sz k+n by omega);omega
 have sk:sz k=if k<0 then -k else k:=rfl
 unfold stp;constructor
 ·intro h;rw[if_neg (by omega)];rw[if_neg (by omega)]at sk;omega
 ·intro h
  by_cases z:k<0
  ·rw[if_pos z];rw[if_pos z]at sk;omega
  ·rw[if_neg z];rw[if_neg z]at sk;omega
theorem zr4{c p:V4}{i:Int}(hp:v9 p=true)(hq:v9 (r9 p c)=true):v9 (r9 p (at4 c i))=true:=by
 cases h:okC c with
 |false=>rw[zr5 h,zi9];exact hp
 |true=>
  have m:=q94 h;have cl:=zI4 (n:=mx4 c) (i:=i) m.1;have a1:=xH8 (k:=c.1) m.1 cl;have a2:=xH8 (k:=c.2.1) m.1 cl;have a3:=xH8 (k:=c.2.2.1) m.1 cl;have a4:=xH8 (k:=c.2.2.2) m.1 cl;have n1:=r8.1 hp;have n2:=r8.1 hq;unfold r9 at n2;dsimp only at n2;rw[zr6 h];refine r8.2 ?_;unfold r9;dsimp only;refine⟨?_,?_,?_,?_⟩
  ·rcases Int.le_total 0 c.1 with k|k
   ·have:=a1.1 k;omega
   ·have:=a1.2 k;omega
  ·rcases Int.le_total 0 c.2.1 with k|k
   ·have:=a2.1 k;omega
   ·have:=a2.2 k;omega
  ·rcases Int.le_total 0 c.2.2.1 with k|k
   ·have:=a3.1 k;omega
   ·have:=a3.2 k;omega
  ·rcases Int.le_total 0 c.2.2.2 with k|k
   ·have:=a4.1 k;omega
   ·have:=a4.2 k;omega
theorem q21{m:Mo}{p:V4}(hp:v9 p=true)(hq:v9 (r9 p m.1.1)=true):v9 (r9 p (q15 m))=true:=by
 by_cases h:x04 m.1=true∧0≤m.2.1∧m.2.1≤dom m.1.1
 ·rw[q18 h];exact zr4 hp hq
 ·rw[q16 h,zi9];exact hp
section
variable {f:Fw} {r s:Int}
theorem yX9(h:v6 f=true):v6 (yX8 f r s)=true:=by
 have v:=t9 h;have vp:=x12 h;have k:=v.nums;refine x27 vp v.mode (yf2.2 ⟨k.1,k.2.1,k.2.2.1,k.2.2.2.1,k.2.2.2.2.1,k.2.2.2.2.2.1,k.2.2.2.2.2.2.1,k.2.2.2.2.2.2.2.1,k.2.2.2.2.2.2.2.2.1,k.2.2.2.2.2.2.2.2.2.1,?_,k.2.2.2.2.2.2.2.2.2.2.2⟩) v.moves v.queued v.ends;unfold yX8;dsimp only
 split<;>omega
theorem qE7(h:v6 f=true):v6 (qE6 f)=true:=by
 have v:=t9 h;have vn:=x11 h;exact x27 (yM2.2 ⟨v.ma,(Co.step_ok v.c0 _).1,(Co.step_ok v.c1 _).1,(Gu.step_ok v.g0 _ _ _).1,(Gu.step_ok v.g1 _ _ _).1⟩) v.mode vn v.moves v.queued v.ends
theorem q07(h:v6 f=true):v6 (q04 f)=true:=by
 unfold q04;split
 ·exact q01 (qE7 h)
 ·exact qE7 h
theorem zo9{n:Int}(h:0≤n∧n≤3):(0≤Gc.andNot n 1∧Gc.andNot n 1≤3)∧0≤Gc.andNot n 2∧Gc.andNot n 2≤3:=by
 have:n=0∨n=1∨n=2∨n=3:=by omega
 rcases this with rfl|rfl|rfl|rfl<;>decide
theorem x51(h:v6 f=true):v6 (x46 f)=true:=by
 have k:=(t9 h).nums;have w:0≤f.waits∧f.waits≤3:=k.2.2.2.2.2.2.1
 have a:0≤(if x55 f.c0 f.g0 f.r0=true then Gc.andNot f.waits 1 else f.waits)∧(if x55 f.c0 f.g0 f.r0=true then Gc.andNot f.waits 1 else f.waits)≤3:=by
  split
  ·exact(zo9 w).1
  ·exact w
 unfold x46;refine x54 h ?_
 split
 ·exact(zo9 a).2
 ·exact a
theorem qJ9(h:v6 f=true):v6 (qJ6 f r s)=true:=x51 (q07 (yX9 h))
theorem yQ9{p:V4}{q:List Bk}:∀n,yQ7 (r9 p (q.getD 0 dBk).1) (q.drop 1) n=yQ7 p q (n+1)
 |0=>rfl
 |n+1=>by
  show r9 (yQ7 _ (q.drop 1) n) ((q.drop 1).getD n dBk).1=r9 (yQ7 p q (n+1)) (q.getD (n+1) dBk).1;rw[yQ9 n]
  congr 2
  rw[List.getD_eq_getElem?_getD,List.getElem?_drop,←List.getD_eq_getElem?_getD,Nat.add_comm]
theorem xE3(h:v6 f=true)(hc:zE6 f=true):okS (f.queue.getD 0 dBk) f.ma.ticks=true∧(xD4 f).mo=xD5 (f.queue.getD 0 dBk) f.ma.ticks:=by
 have v:=t9 h;obtain⟨c1,c2,c3,c4⟩:=zE7.1 hc;have b:=(zB0 (v.blk 0 (by omega))).1;have t:=((Ma.ok_iff f.ma).1 v.ma).2.2.2.2;have k:okS (f.queue.getD 0 dBk) f.ma.ticks=true:=yz2.2 ⟨b,by omega,by omega⟩;exact⟨k,xD8 k⟩
theorem xE2(h:v6 f=true)(hc:zE6 f=true):begin4 (xD4 f)=f.pos∧yU5 (xD4 f)=r9 (yU5 f) (f.queue.getD 0 dBk).1:=by
 have v:=t9 h;obtain⟨c1,c2,c3,c4⟩:=zE7.1 hc;obtain⟨_,m⟩:=xE3 h hc
 have b:begin4 (xD4 f)=f.pos:=by
  rw[zz0 (f:=xD4 f) rfl,m,q22];exact v4x ⟨by show f.pos.1-0=_;omega,by show f.pos.2.1-0=_;omega,by show f.pos.2.2.1-0=_;omega,by show f.pos.2.2.2-0=_;omega⟩
 refine⟨b,?_⟩;show r9 (begin4 (xD4 f)) (xD4 f).mo.1.1=_;rw[b,m,yU7 v.moves c1,zy9 c1];rfl
theorem xE5(h:v6 f=true)(hc:zE6 f=true):v6 (xD4 f)=true:=by
 have v:=t9 h;have vp:=x12 h;have n:=v.nums;obtain⟨c1,c2,c3,c4⟩:=zE7.1 hc;obtain⟨ok,m⟩:=xE3 h hc;obtain⟨b,q0⟩:=xE2 h hc;have l0:=(zB0 (v.blk 0 (by omega))).2.1;have p1:v9 (r9 (yU5 f) (f.queue.getD 0 dBk).1)=true:=(zB0 (v.blk 0 (by omega))).2.2
 have len:(xD4 f).queue.length=f.queue.length-1:=by show(f.queue.drop 1).length=_;rw[List.length_drop]
 have hom:f.homed=true:=by
  rcases v.ends with k|k
  ·exact k.2
  ·omega
 refine x27 vp v.mode (yf2.2 ⟨n.1,n.2.1,n.2.2.1,n.2.2.2.1,n.2.2.2.2.1,n.2.2.2.2.2.1,n.2.2.2.2.2.2.1,n.2.2.2.2.2.2.2.1,n.2.2.2.2.2.2.2.2.1,l0,n.2.2.2.2.2.2.2.2.2.2⟩) ?_ ?_ (.inl ⟨c3,hom⟩)
 ·rw[q81 (f:=xD4 f) rfl,m];exact xE4 ok
 ·refine yU9.2 ⟨by rw[len];have:=v.len;omega,?_,v.pos,v.ret,by rw[b];exact v.pos,by rw[q0];exact p1,fun i hi=>?_⟩
  ·rw[len];show(f.lines.drop 1).length=_;rw[List.length_drop,v.lens]
  ·rw[len]at hi
   have k:=zB0 (v.blk (i+1) (by omega));rw[q0];refine zA8.2 ⟨?_,?_,?_⟩
   ·show x04 ((f.queue.drop 1).getD i dBk)=true
    rw[List.getD_eq_getElem?_getD,List.getElem?_drop,←List.getD_eq_getElem?_getD,Nat.add_comm];exact k.1
   ·show 0≤(f.lines.drop 1).getD i 0∧(f.lines.drop 1).getD i 0≤1099511627776
    rw[List.getD_eq_getElem?_getD,List.getElem?_drop,←List.getD_eq_getElem?_getD,Nat.add_comm];exact k.2.1
   ·show v9 (yQ7 _ (f.queue.drop 1) (i+1))=true
    rw[yQ9];exact k.2.2
theorem zy7(h:v6 f=true):v6 (t7 f)=true:=by
 cases c:zE6 f with
 |true=>rw[zx3 c];exact xE5 h c
 |false=>rw[zx1 c];exact h
theorem xF9(e:z00 (xL8 f.mo f.ma.ticks)=true):xE7 f={f with pos:=r9 f.pos (xM1 f.mo f.ma.ticks),mo:=m0,moving:=false,active:=0}:=if_pos e
theorem xF3(e:z00 (xL8 f.mo f.ma.ticks)=false):xE7 f={f with pos:=r9 f.pos (xM1 f.mo f.ma.ticks),mo:=xL8 f.mo f.ma.ticks}:=if_neg (by rw[e];exact Bool.false_ne_true)
theorem xF4:(xE7 f).pos=r9 f.pos (xM1 f.mo f.ma.ticks):=by unfold xE7;split<;>rfl
theorem xF1(h:v6 f=true)(hm:f.moving=true):yU5 (xE7 f)=yU5 f∧begin4 (xE7 f)=(if z00 (xL8 f.mo f.ma.ticks)=true then yU5 f else begin4 f):=by
 have v:=t9 h;have m:=v.moves;rw[q81 hm]at m;have mt:=q23 m
 cases e:z00 (xL8 f.mo f.ma.ticks)with
 |true=>
  have em:=z02 e;rw[xN2,mt]at em
  have q:yU5 f=r9 f.pos (xM1 f.mo f.ma.ticks):=by
   unfold yU5;rw[zz0 hm,←em];unfold r9 xI5;exact v4x ⟨by dsimp only;omega,by dsimp only;omega,by dsimp only;omega,by dsimp only;omega⟩
  rw[xF9 e,if_pos rfl,q];refine⟨?_,?_⟩
  ·unfold yU5;rw[zy9 rfl];exact zi9 _
  ·rw[zy9 rfl]
 |false=>
  have b:begin4 (xE7 f)=begin4 f:=by
   rw[xF3 e,zz0 (f:={f with pos:=r9 f.pos (xM1 f.mo f.ma.ticks),mo:=xL8 f.mo f.ma.ticks}) hm,zz0 hm,mt];unfold r9 xI5;exact v4x ⟨by dsimp only;omega,by dsimp only;omega,by dsimp only;omega,by dsimp only;omega⟩
  refine⟨?_,by rw[b,if_neg Bool.false_ne_true]⟩;unfold yU5;rw[b,xF3 e];show r9 (begin4 f) (xL8 f.mo f.ma.ticks).1.1=_;rw[xN2]
theorem xF7(h:v6 f=true)(hm:f.moving=true):v6 (xE7 f)=true:=by
 have v:=t9 h;have vp:=x12 h;have vn:=x11 h;have n:=v.nums;have m:=v.moves;rw[q81 hm]at m;obtain⟨q0,b⟩:=xF1 h hm
 have en:¬f.mode=3∧f.homed=true:=by
  rcases v.ends with k|k
  ·exact k
  ·rw[hm]at k;cases k.1
 have same:(xE7 f).queue=f.queue∧(xE7 f).lines=f.lines∧(xE7 f).ret=f.ret∧(xE7 f).mode=f.mode∧(xE7 f).homed=f.homed:=by unfold xE7;split<;>exact⟨rfl,rfl,rfl,rfl,rfl⟩
 have pn:v9 (xE7 f).pos=true:=by
  rw[xF4];have mt:=q23 m;have k:=q21 (m:=xL8 f.mo f.ma.ticks) (p:=begin4 f) v.beg (by rw[xN2];exact v.q0);rw[mt,zz0 hm]at k
  have e:r9 (xI5 f.pos (q15 f.mo)) (r9 (q15 f.mo) (xM1 f.mo f.ma.ticks))=r9 f.pos (xM1 f.mo f.ma.ticks):=by
   unfold r9 xI5;exact v4x ⟨by dsimp only;omega,by dsimp only;omega,by dsimp only;omega,by dsimp only;omega⟩
  rw[e]at k;exact k
 have qd:yU8 (xE7 f)=true:=yU9.2 ⟨by rw[same.1];exact v.len,by rw[same.1,same.2.1];exact v.lens,pn,by rw[same.2.2.1];exact v.ret,by
  rw[b];split
  ·exact v.q0
  ·exact v.beg,by rw[q0];exact v.q0,fun i hi=>by
  rw[same.1]at hi
  rw[q0,same.1,same.2.1];exact v.blk i hi⟩
 cases e:z00 (xL8 f.mo f.ma.ticks)with
 |true=>
  rw[xF9 e]at qd ⊢;refine x27 vp v.mode (yf2.2 ⟨n.1,n.2.1,n.2.2.1,n.2.2.2.1,n.2.2.2.2.1,n.2.2.2.2.2.1,n.2.2.2.2.2.2.1,n.2.2.2.2.2.2.2.1,n.2.2.2.2.2.2.2.2.1,?_,n.2.2.2.2.2.2.2.2.2.2⟩) ?_ qd (.inl en)
  ·show(0:Int)≤0∧(0:Int)≤1099511627776;omega
  ·rw[q80 rfl];exact xG4 rfl rfl
 |false=>
  rw[xF3 e]at qd ⊢;refine x27 vp v.mode vn ?_ qd (.inl en);rw[q81 (f:={f with pos:=r9 f.pos (xM1 f.mo f.ma.ticks),mo:=xL8 f.mo f.ma.ticks}) hm];exact xN6 m e
theorem y83(h:v6 f=true)(hm:¬f.mode=3):v6 (y65 f)=true:=by
 have v:=t9 h;have n:=v.nums;unfold y65
 split
 ·exact zW4 h (by omega)
 ·split
  ·rename_i k;exact xF7 (zy7 h) k
  ·exact zy7 h
theorem y76(h:v6 f=true):(y65 f).pos=r9 f.pos (y66 f):=by
 unfold y65 y66
 split
 ·exact(zi9 _).symm
 ·split
  ·rw[xF4,zx2]
  ·rw[zx2];exact(zi9 _).symm
theorem q06:(q04 f).pos=f.pos:=by unfold q04;split<;>rfl
theorem qJ8:(qJ6 f r s).pos=f.pos:=by
 show(q04 (yX8 f r s)).pos=f.pos;rw[q06];rfl
theorem xN8(h:v6 f=true):v6 (xL6 f r s)=true:=by
 unfold xL6;rw[h,if_neg (by decide)]
 split
 ·exact qJ9 h
 ·rename_i k;exact y83 (qJ9 h) k
theorem xL7(h:v6 f=true):xL6 f r s=if(qJ6 f r s).mode=3 then qJ6 f r s else y65 (qJ6 f r s):=by unfold xL6;rw[h];rfl
theorem xM5(h:v6 f=true):xM3 f r s=if(qJ6 f r s).mode=3 then z4 else y66 (qJ6 f r s):=by unfold xM3;rw[h];rfl
theorem xL5(h:v6 f=true):xL4 f r s=if(qJ6 f r s).mode=3 then(0,0)else(zU9 (yX8 f r s),zV0 (yX8 f r s)):=by unfold xL4;rw[h];rfl
theorem xN5(h:v6 f=true):(xL6 f r s).pos=r9 f.pos (xM3 f r s):=by
 rw[xL7 h,xM5 h]
 split
 ·rw[qJ8];exact(zi9 _).symm
 ·rw[y76 (qJ9 h),qJ8]
theorem y70:(y65 f).homed=f.homed:=by
 have b:(t7 f).homed=f.homed:=by unfold t7;split<;>rfl
 have s:∀g:Fw,(xE7 g).homed=g.homed:=fun g=>by unfold xE7;split<;>rfl
 unfold y65
 split
 ·rfl
 ·split
  ·rw[s,b]
  ·exact b
end
def zw8(f:Fw):Bool:=v6 f&&zE6 f
def zy3(f:Fw):Fw:=if v6 f=true then t7 f else f
def zx9(f:Fw):SV:=.tuple [(zy3 f).sv,.bool (zw8 f)]
theorem zy5{f:Fw}(h:v6 f=true):zy3 f=t7 f:=if_pos h
theorem zy4{f:Fw}(h:v6 f=false):zy3 f=f:=if_neg (by rw[h];exact Bool.false_ne_true)
theorem zy0{f:Fw}(h:v6 f=false):SV.tuple [.agg f.cells,.bool false] =zx9 f:=by unfold zx9 zw8;rw[zy4 h,h];rfl
theorem zy1{f:Fw}(h:v6 f=true)(c:zE6 f=false):SV.tuple [.agg f.cells,.bool false] =zx9 f:=by unfold zx9 zw8;rw[zy5 h,zx1 c,h,c];rfl
theorem zy2{f:Fw}(h:v6 f=true)(c:zE6 f=true):SV.tuple [.agg (t7 f).cells,.bool true] =zx9 f:=by unfold zx9 zw8;rw[zy5 h,h,c];rfl
def xN1(f:Fw)(r s:Int):SV:=.tuple [(xL6 f r s).sv,V4.sv (xM3 f r s),.agg [J (xL4 f r s).1,J (xL4 f r s).2]]
theorem xS0{f:Fw}(v:v6 f=true):(if 1099511627776<i64.wrap (f.ticks+1)then 1099511627776 else i64.wrap (f.ticks+1))=(if f.ticks+1<1099511627776 then f.ticks+1 else 1099511627776):=by
 have n:=(t9 v).nums;rw[w64 (x:=f.ticks+1) (by omega) (by omega)]
 split<;>split<;>omega
theorem xR8{f g:Fw}{r s:Int}(v:v6 f=true)(h:g=yX8 f r s):yL7 g=true:=by
 subst h;have u:=t9 (yX9 (r:=r) (s:=s) v);exact yL8.2 ⟨u.c0,u.c1,u.g0,u.g1,u.shape⟩
theorem xR6{f g:Fw}{r s:Int}(v:v6 f=true)(h:g=yX8 f r s):q61 (qJ7 g)=true:=by
 subst h;have u:=t9 (qJ9 (r:=r) (s:=s) v);have n:=u.nums;exact q62.2 ⟨u.shape,show 0≤(qJ6 f r s).dwell∧(qJ6 f r s).dwell≤1048576 by omega⟩
theorem xR3{f:Fw}{r s:Int}(v:v6 f=true):qJ5 (yX8 f r s)=xL4 f r s:=by
 rw[xL5 v];rfl
theorem xR4{f g:Fw}{r s:Int}(v:v6 f=true)(h:g=yX8 f r s)(m:(qJ7 g).mode=3):SV.tuple [.agg (qJ7 g).cells,V4.sv z4,.agg [J (qJ5 g).1,J (qJ5 g).2]] =xN1 f r s:=by
 subst h;have m:(qJ6 f r s).mode=3:=m;unfold xN1;rw[xR3 v,xL7 v,xM5 v,if_pos m,if_pos m];rfl
theorem xR5{f g:Fw}{r s:Int}(v:v6 f=true)(h:g=yX8 f r s)(m:¬(qJ7 g).mode=3):SV.tuple [.agg (y65 (qJ7 g)).cells,V4.sv (y66 (qJ7 g)),.agg [J (qJ5 g).1,J (qJ5 g).2]] =xN1 f r s:=by
 subst h;have m:¬(qJ6 f r s).mode=3:=m;unfold xN1;rw[xR3 v,xL7 v,xM5 v,if_neg m,if_neg m];rfl
theorem xR7{f:Fw}{r s:Int}(v:v6 f=false):SV.tuple [.agg f.cells,V4.sv z4,.agg [J 0,J 0]] =xN1 f r s:=by
 unfold xN1 xL6 xM3 xL4;rw[v];rfl
theorem xb8(f:Fw):SCall pP 29 [f.sv] (zx9 f):=
 xw9 (hB (l:=[qf9]) (k:=[]) (j:=[BFact.toP zt6]) (i:=[zt6]) ([] :List Nat) ([] :List Nat) ([] :List Nat) ([] :List Nat) (⟨yv8,trivial⟩) o4 (allQ.all (p:=PFact.ok pP) (l:=[BFact.toP zt6]) ⟨BFact.toP_ok yj8,trivial⟩) (allQ.all (p:=BFact.ok pP) (l:=[zt6]) ⟨yj8,trivial⟩)) 1000 (.fork (.all) (.fork (.all) (.all)))
  (t:=.node (!v6 f)
 (.leaf (SV.tuple [SV.agg (Fw.cells f),SV.bool false]))
 (.req (xy9 f) (.node (!zE6 f)
   (.leaf (SV.tuple [SV.agg (Fw.cells f),SV.bool false]))
   (.leaf (SV.tuple [SV.agg (Fw.cells (t7 f)),SV.bool true])))))
   (by kernel_rfl) (by
    refine f9 (fun v=>zy0 v) fun v=>x6 (t9 v).shape (f9 (fun c=>zy1 v c) fun c=>zy2 v c)) (by kernel_rfl) (by rfl)
theorem xs7(f:Fw)(r s:Int):SCall pP 27 [f.sv,.agg [J r,J s]] (xN1 f r s):=
 xw9 (hB (l:=[qf9]) (k:=[]) (j:=[BFact.toP zt0,BFact.toP zt2]) (i:=[zt0,zt2]) ([] :List Nat) ([] :List Nat) ([] :List Nat) ([] :List Nat) (⟨yv8,trivial⟩) o4 (allQ.all (p:=PFact.ok pP) (l:=[BFact.toP zt0,BFact.toP zt2]) ⟨BFact.toP_ok yj4,BFact.toP_ok yj6,trivial⟩) (allQ.all (p:=BFact.ok pP) (l:=[zt0,zt2]) ⟨yj4,yj6,trivial⟩)) 1000 (.fork (.all) (.fork (.all) (.all)))
  (t:=let y2:={f with ticks:=(if 1099511627776<i64.wrap (f.ticks+1)then 1099511627776 else i64.wrap (f.ticks+1)),r0:=r,r1:=s};let y0:=qJ7 y2;let y3:=(((y0.mo.1.1.1,y0.mo.1.1.2.1,y0.mo.1.1.2.2),y0.mo.1.2.1,y0.mo.1.2.2.1,y0.mo.1.2.2.2),y0.mo.2);let y1:={y0 with pos:=(y0.pos.1,y0.pos.2.1,y0.pos.2.2),loc:=(y0.loc.1,y0.loc.2),mo:=y3,ret:=(y0.ret.1,y0.ret.2.1,y0.ret.2.2)};.node (!v6 f) (.leaf (.tuple [.agg (Fw.cells f),.agg [J 0,J 0,J 0,J 0],.agg [J 0,J 0]])) (.req (r=r) (.req (s=s) (.req (yL7 y2) (.req (q61 y1) (.node (y0.mode==3) (.leaf (.tuple [.agg (Fw.cells {y0 with pos:=(y0.pos.1,y0.pos.2.1,y0.pos.2.2),loc:=(y0.loc.1,y0.loc.2),mo:=y3,ret:=(y0.ret.1,y0.ret.2.1,y0.ret.2.2)}),.agg [J 0,J 0,J 0,J 0],.agg [J (qJ5 y2).1,J (qJ5 y2).2]])) (.leaf (.tuple [.agg (Fw.cells (y65 y1)),.agg [J (y66 y1).1,J (y66 y1).2.1,J (y66 y1).2.2.1,J (y66 y1).2.2.2],.agg [J (qJ5 y2).1,J (qJ5 y2).2]]))))))))
  (by kernel_rfl) (by
   refine f9 (fun v=>xR7 v) fun v=>?_
   have h:({f with ticks:=(if 1099511627776<i64.wrap (f.ticks+1)then 1099511627776 else i64.wrap (f.ticks+1)),r0:=r,r1:=s}:Fw)=yX8 f r s:=by unfold yX8;rw[xS0 v]
   exact x6 (decide_eq_true rfl) (x6 (decide_eq_true rfl) (x6 (xR8 v h) (x6 (xR6 v h) (q95 (fun m=>xR4 v h m) fun m=>xR5 v h m))))) (by kernel_rfl) (by rfl)
section
variable {f:Fw} {line:Int} {c:Gc.C}
theorem zg7:(zg6 f line c).data=true:=by unfold zg6;split<;>rfl
theorem zg5:zg4 f line c=zZ9 (doF f line c) line c:=by
 unfold zg4 zZ9 qX7
 by_cases h:c.code=1112
 ·rw[if_pos h,if_pos (.inr h)]
 ·rw[if_neg h]
  by_cases k:line=0
  ·rw[if_pos k,if_pos (.inl k)]
  ·rw[if_neg k,if_neg (by omega)];rfl
theorem zh3(h:v6 f=false∨c.valid=false∨(¬line=0∧¬line=f.line+1)∨1099511627776<line):SV.tuple [.agg (f7 fw0),.int .i64 1] =zg6 f line c:=by
 have e:zg2 f line c=1:=if_pos h;unfold zg6;rw[e,if_neg (by omega)];rfl
theorem zh5(v:v6 f=true)(hc:c.valid=true)(hl:line=0∨line=f.line+1)(hm:line≤1099511627776):zg6 f line c=doS f line c:=by
 have e:zg2 f line c=doE f line c:=if_neg (by rw[v,hc];simp only[Bool.true_eq_false,false_or];omega);unfold zg6 doS;rw[e,zg5]
theorem qS3:Known pP (Env.ofB pP (v7 [qf9,fGv,qf0]) (d7 [x39,x37,x36,x35,x31,x34,x32,x33]) (d9 []) (d8 []) (x8 []) (x8 []) (x8 []) (x8 [3])):=
 hB (l:=[qf9,fGv,qf0]) (k:=[x39,x37,x36,x35,x31,x34,x32,x33]) (j:=[]) (i:=[]) [] [] [] [3] ⟨yv8,yn3,yv1,trivial⟩ (allQ.all (p:=WFact.ok pP) (l:=[x39,x37,x36,x35,x31,x34,x32,x33]) ⟨yx4,yx2,yw9,yw2,yw4,yw1,yw5,yw6,trivial⟩) o4 o4
set_option maxHeartbeats 4000000 in
theorem xa4(f:Fw)(line:Int)(c:Gc.C):SCall pP 24 [f.sv,J line,c.sv] (zg6 f line c):=by
 refine m6 rfl zg7 (by kernel_rfl) (w6 qS3 (n:=1000) (hint:=.unit) (keep:=x9 114 [1,3,5,6]) (p:=zf3) (boxes:=[]) zg7 ?_);have q:=ac0 f line c;unfold u7 u9 at q;erw [q];unfold zf4
 have go:v6 f=true→c.valid=true→(line=0∨line=f.line+1)→line≤1099511627776→b9 pP (j8 pP 24) (zg6 f line c) qQ3 (j9 114 [(1,J line),(3,.ptr 0 0),(5,.ptr 1 0),(6,.ptr 2 0)]) [some (.cells f.cells),some (.cells c.cells),some (.cells (f7 fw0))] :=fun v hc hl hm=>by
  have n:=(t9 v).nums;rw[zh5 v hc hl hm];exact zf9 v hc (xH2.2 ⟨(t9 v).shape,by omega,hm⟩)
 refine f9 (fun v=>zh3 (.inl v)) fun v=>f9 (fun hc=>zh3 (.inr (.inl hc))) fun hc=>?_
 have n:=(t9 v).nums;have w:i64.wrap (f.line+1)=f.line+1:=w64 (by omega) (by omega);rw[w]
 refine q96 (fun h0=>q96 (fun h1=>zh3 (.inr (.inr (.inl ⟨h0,h1⟩)))) fun h1=>o5 (fun h2=>zh3 (.inr (.inr (.inr (by omega))))) fun h2=>?_) fun h0=>o5 (fun h2=>zh3 (.inr (.inr (.inr (by omega))))) fun h2=>?_
 ·exact⟨o9 _ _,go v hc (.inr h1) (by omega)⟩
 ·exact⟨o9 _ _,go v hc (.inl h0) (by omega)⟩
end
def z31:Fact:=qi8 24 fun f rest=>match rest with
 |[.int .i64 line,.agg [.int .i64 a0,.int .i64 a1,.int .i64 a2,.int .i64 a3,.int .i64 a4,.int .i64 a5,.int .i64 a6,.int .i64 a7]] =>some (.node (zg2 f line ⟨a0,a1,a2,a3,a4,a5,a6,a7⟩=0) (.leaf (.tuple [(zg4 f line ⟨a0,a1,a2,a3,a4,a5,a6,a7⟩).sv,J 0])) (.leaf (.tuple [fw0.sv,J (zg2 f line ⟨a0,a1,a2,a3,a4,a5,a6,a7⟩)])))
 |_=>none
theorem zg8{P:Program}{g:FuncId}{args:List SV}{f:Fw}{line:Int}{c:Gc.C}(k:SCall P g args (zg6 f line c)):(Tree.node (zg2 f line c=0) (.leaf (.tuple [(zg4 f line c).sv,J 0])) (.leaf (.tuple [fw0.sv,J (zg2 f line c)]))).says (SCall P g args):=by
 unfold zg6 at k;refine⟨fun h=>?_,fun h=>?_⟩
 ·rw[if_pos (of_decide_eq_true h)]at k;exact k
 ·rw[if_neg (of_decide_eq_false h)]at k;exact xx0 k (yc7 (yc3 _ rfl rfl))
theorem yh7:z31.ok pP:=qi9 fun f rest t ht=>by
 split at ht
 ·cases ht;exact zg8 (xa4 f _ ⟨_,_,_,_,_,_,_,_⟩)
 ·cases ht
def zq8:List SV→Option Ma
 |[.int .i64 a0,.int .i64 a1,.int .i64 a2,.int .i64 a3,.int .i64 a4,.int .i64 a5,.int .i64 a6,.int .i64 a7,.int .i64 a8,.int .i64 a9,.int .i64 a10,.int .i64 a11,.int .i64 a12,.int .i64 a13,.int .i64 a14,.int .i64 a15,.int .i64 a16,.int .i64 a17,.int .i64 a18,.int .i64 a19,.int .i64 a20,.int .i64 a21,.int .i64 a22,.int .i64 a23,.int .i64 a24,.int .i64 a25,.int .i64 a26,.int .i64 a27,.bool xy,.int .i64 t] =>some ⟨⟨a0,a1,a2,a3,a4,a5,a6⟩,⟨a7,a8,a9,a10,a11,a12,a13⟩,⟨a14,a15,a16,a17,a18,a19,a20⟩,⟨a21,a22,a23,a24,a25,a26,a27⟩,xy,t⟩
 |_=>none
theorem zq9{l:List SV}{m:Ma}(h:zq8 l=some m):l=m.cells:=by
 unfold zq8 at h
 split at h
 ·cases h;rfl
 ·cases h
def zq2:List SV→Option (Co×Co)
 |[.int .i64 c0,.int .i64 c1,.int .i64 c2,.int .i64 c3,.int .i64 c4,.int .i64 c5,.int .i64 c6,.int .i64 c7,.int .i64 c8,.int .i64 c9,.int .i64 c10,.int .i64 c11] =>some (⟨c0,c1,c2,c3,c4,c5⟩,⟨c6,c7,c8,c9,c10,c11⟩)
 |_=>none
theorem zq3{l:List SV}{m:(Co×Co)}(h:zq2 l=some m):l=m.1.cells++m.2.cells:=by
 unfold zq2 at h
 split at h
 ·cases h;rfl
 ·cases h
def zq6:List SV→Option (Gu×Gu)
 |[.int .i64 g0,.int .i64 g1,.int .i64 g2,.int .i64 g3,.int .i64 g4,.int .i64 g5,.int .i64 g6,.int .i64 g7,.int .i64 g8,.int .i64 g9,.bool u,.int .i64 h0,.int .i64 h1,.int .i64 h2,.int .i64 h3,.int .i64 h4,.int .i64 h5,.int .i64 h6,.int .i64 h7,.int .i64 h8,.int .i64 h9,.bool v] =>some (⟨g0,g1,g2,g3,g4,g5,g6,g7,g8,g9,u⟩,⟨h0,h1,h2,h3,h4,h5,h6,h7,h8,h9,v⟩)
 |_=>none
theorem zq7{l:List SV}{m:(Gu×Gu)}(h:zq6 l=some m):l=m.1.cells++m.2.cells:=by
 unfold zq6 at h
 split at h
 ·cases h;rfl
 ·cases h
def qm4(f:FuncId):Fact:=⟨f,fun args=>match args with
 |[.agg lm,.agg lc,.agg lg,.int .i64 cold] =>match zq8 lm with
  |some m=>match zq2 lc with
   |some c=>match zq6 lg with
    |some g=>some (.node (ya7 m c.1 c.2 g.1 g.2 cold) (.leaf (.tuple [(x7 m c.1 c.2 g.1 g.2 cold).sv,J 0])) (.leaf (.tuple [fw0.sv,J 1])))
    |none=>none
   |none=>none
  |none=>none
 |_=>none⟩
def qa8:Fact:=qm4 61
def z41:Fact:=qh6 29 fun f=>.leaf (zx9 f)
def qe9:Fact:=qi8 27 fun f rest=>match rest with
 |[.agg [.int .i64 r,.int .i64 s]] =>some (.leaf (xN1 f r s))
 |_=>none
theorem qm5{f:FuncId}(k:∀m c d g h cold,SCall pP f [Ma.sv m,.agg (Co.cells c++Co.cells d),.agg (Gu.cells g++Gu.cells h),J cold] (ya9 m c d g h cold)):(qm4 f).ok pP:=fun args t ht=>by
 simp only[qm4]at ht
 split at ht
 ·split at ht
  ·rename_i hm
   split at ht
   ·rename_i hc
    split at ht
    ·rename_i hg
     cases ht;rw[zq9 hm,zq3 hc,zq7 hg];refine⟨fun h1=>?_,fun h1=>?_⟩
     ·refine xx0 (v:=ya9 _ _ _ _ _ _) (k _ _ _ _ _ _) ?_
      rw[yb1 h1];exact yc7 (yc3 _ rfl rfl)
     ·refine xx0 (v:=ya9 _ _ _ _ _ _) (k _ _ _ _ _ _) ?_
      rw[yb0 h1];exact yc7 (yc3 _ rfl rfl)
    ·cases ht
   ·cases ht
  ·cases ht
 ·cases ht
theorem yq0:qa8.ok pP:=qm5 xl4
theorem yj1:z41.ok pP:=qh7 fun f=>xb8 f
theorem yv0:qe9.ok pP:=qi9 fun f rest t ht=>by
 split at ht
 ·cases ht;exact xs7 f _ _
 ·cases ht
section
variable {f:Fw} {ex:Int} {cn:V4}
end
section
variable {f:Fw} {line:Int} {c:Gc.C} {ex:Int} {cn:V4}
end
section
variable {f:Fw} {r s ex:Int} {cn:V4}
end
section
variable {f:Fw} {line:Int} {c:Gc.C} {a b:Int×Int}
end
section
variable {f:Fw} {r s:Int} {a b:Int×Int}
end
def lineV(f:Fw)(b:Bool):Int:=if b=true then f.line+1 else 0
def z96(g:FuncId):Fact:=qi8 g fun f rest=>match rest with
 |[.agg [.int .i64 _,.bool b,.int .i64 _,.int .i64 _,.int .i64 _,.int .i64 _,.int .i64 _,.int .i64 _,.int .i64 _,.int .i64 _,.int .i64 _,.int .i64 _,.int .i64 _]] =>some (.req (inR f.line 0 1099511627776) (.leaf (J (lineV f b))))
 |_=>none
def opL(kd:Int)(nb:Bool)(c:Gc.C)(n r s:Int):List SV:=[J kd,.bool nb,J c.code,J c.has,J c.x,J c.y,J c.z,J c.e,J c.f,J c.s,J n,J r,J s]
def shI(a:List Int):Bool:=decide (a.length≤1000)
def shB(a:List Bk):Bool:=decide (a.length≤1000)
structure Fl where
 pages:List (List UInt8)
 fuse:Int
 dead:Bool
 keep:Int
def Fl.cells(f:Fl):List SV:=[.list .str f.pages,J f.fuse,.bool f.dead,J f.keep]
def Fl.sv(f:Fl):SV:=.agg f.cells
def qh8(f:FuncId)(h:Fl→Tree SV):Fact:=⟨f,fun args=>match args with
 |[.agg [.list .str p,.int .i64 a,.bool d,.int .i64 k]] =>some (h ⟨p,a,d,k⟩)
 |_=>none⟩
theorem qi7{P:Program}{f:FuncId}{h:Fl→Tree SV}(k:∀c,(h c).says (SCall P f [c.sv])):(qh8 f h).ok P:=fun args t ht=>by
 simp only[qh8]at ht
 split at ht
 ·cases ht;exact k ⟨_,_,_,_⟩
 ·cases ht
def x14:Plan:=.all
noncomputable def x15(f:Fl):Tree Stop:= .leaf (.at (v5 pP 102 0) 46 (j9 46 [(1,.ptr 0 0),(6,.list Ty.str f.pages),(7,J (↑f.pages.length:Int)),(8,J 0)]) [some (.cells [.list Ty.str f.pages,J f.fuse,.bool f.dead,J f.keep])])
theorem x13(f:Fl):w9 (Env.of pP (v7 [])) 1000 (j8 pP 102) .unit (x9 46 [1,6,7,8]) (u9 pP 102) x14 (u7 pP 102 [f.sv]) [] =x15 f:=by kernel_rfl
def x17:Plan:=.fork (.fork .all .all) (.fork (.ln 4 (.fork (.ln 3 (.fork (.ln 3 (.fork (.ln 3 (.fork (.lit (.lit (.lit .all))) (.lit (.lit (.lit .all))))) (.ln 6 (.lit .all)))) (.ln 10 (.lit .all)))) (.ln 14 (.lit .all)))) (.ln 19 (.lit .all)))
noncomputable def x18(f:Fl)(i:Int):Tree Stop:= .node (i< (↑f.pages.length:Int)) (.req (0≤i&&i< (↑f.pages.length:Int)) (.node (((List.length (f.pages.getD i.toNat ([] :List UInt8)):Nat):Int) != 64) (.leaf (.done (.bool false))) (.leaf (.at (v5 pP 102 0) 46 (j9 46 [(1,.ptr 0 0),(6,.list Ty.str f.pages),(7,J (↑f.pages.length:Int)),(8,J (i64.wrap (i+1)))]) [some (.cells [.list Ty.str f.pages,J f.fuse,.bool f.dead,J f.keep])])))) (.node ((↑f.pages.length:Int)≥2) (.node ((↑f.pages.length:Int)≤256) (.node (f.fuse≥0) (.node (f.fuse≤1048576) (.node (f.keep≥0) (.leaf (.done (.bool (f.keep≤64)))) (.leaf (.done (.bool false)))) (.leaf (.done (.bool false)))) (.leaf (.done (.bool false)))) (.leaf (.done (.bool false)))) (.leaf (.done (.bool false))))
theorem x16(f:Fl)(i:Int):w9 (Env.of pP (v7 [])) 1000 (j8 pP 102) .unit (x9 46 [1,6,7,8]) (v5 pP 102 0) x17 (j9 46 [(1,.ptr 0 0),(6,.list .str f.pages),(7,J f.pages.length),(8,J i)]) [some (.cells f.cells)] =x18 f i:=by kernel_rfl
def x21:Plan:=.all
noncomputable def x22(f:Fl):Tree Stop:= .leaf (.at (v5 pP 109 0) 46 (j9 46 [(1,.ptr 0 0),(6,.list Ty.str f.pages),(7,J (↑f.pages.length:Int)),(8,J 0)]) [some (.cells [.list Ty.str f.pages,J f.fuse,.bool f.dead,J f.keep])])
theorem x20(f:Fl):w9 (Env.of pP (v7 [])) 1000 (j8 pP 109) .unit (x9 46 [1,6,7,8]) (u9 pP 109) x21 (u7 pP 109 [f.sv]) [] =x22 f:=by kernel_rfl
def x24:Plan:=.fork (.fork .all .all) (.fork (.ln 4 (.fork (.ln 3 (.fork (.ln 3 (.fork (.ln 3 (.fork (.lit (.lit (.lit .all))) (.lit (.lit (.lit .all))))) (.ln 6 (.lit .all)))) (.ln 10 (.lit .all)))) (.ln 14 (.lit .all)))) (.ln 19 (.lit .all)))
noncomputable def x25(f:Fl)(i:Int):Tree Stop:= .node (i< (↑f.pages.length:Int)) (.req (0≤i&&i< (↑f.pages.length:Int)) (.node (((List.length (f.pages.getD i.toNat ([] :List UInt8)):Nat):Int) != 64) (.leaf (.done (.bool false))) (.leaf (.at (v5 pP 109 0) 46 (j9 46 [(1,.ptr 0 0),(6,.list Ty.str f.pages),(7,J (↑f.pages.length:Int)),(8,J (i64.wrap (i+1)))]) [some (.cells [.list Ty.str f.pages,J f.fuse,.bool f.dead,J f.keep])])))) (.node ((↑f.pages.length:Int)≥2) (.node ((↑f.pages.length:Int)≤256) (.node (f.fuse≥0) (.node (f.fuse≤1048576) (.node (f.keep≥0) (.leaf (.done (.bool (f.keep≤64)))) (.leaf (.done (.bool false)))) (.leaf (.done (.bool false)))) (.leaf (.done (.bool false)))) (.leaf (.done (.bool false)))) (.leaf (.done (.bool false))))
theorem x23(f:Fl)(i:Int):w9 (Env.of pP (v7 [])) 1000 (j8 pP 109) .unit (x9 46 [1,6,7,8]) (v5 pP 109 0) x24 (j9 46 [(1,.ptr 0 0),(6,.list .str f.pages),(7,J f.pages.length),(8,J i)]) [some (.cells f.cells)] =x25 f i:=by kernel_rfl
def qq2:Plan:=.fork (.all) (.all)
noncomputable def qq3(f:Fl):Tree Stop:= .node (f.pages.isEmpty) (.leaf (.done (.agg [.list Ty.str [],J f.fuse,.bool f.dead,J f.keep]))) (.req ((0+f.pages.length)*16≤140737488355328) (.leaf (.done (.agg [.list Ty.str f.pages,J f.fuse,.bool f.dead,J f.keep]))))
theorem fcp(f:Fl):w9 (Env.of pP (v7 [])) 1000 (j8 pP 130) .str (x9 9 []) (u9 pP 130) qq2 (u7 pP 130 [f.sv]) [] =qq3 f:=by kernel_rfl
def qq0:Plan:=.fork (.all) (.all)
noncomputable def qq1(f:Fl):Tree Stop:= .node (f.pages.isEmpty) (.leaf (.done (.agg [.list Ty.str [],J f.fuse,.bool f.dead,J f.keep]))) (.req ((0+f.pages.length)*16≤140737488355328) (.leaf (.done (.agg [.list Ty.str f.pages,J f.fuse,.bool f.dead,J f.keep]))))
theorem qp9(f:Fl):w9 (Env.of pP (v7 [])) 1000 (j8 pP 116) .str (x9 9 []) (u9 pP 116) qq0 (u7 pP 116 [f.sv]) [] =qq1 f:=by kernel_rfl
theorem q97{α:Type}{L:α→Prop}{b:Bool}{T F:Tree α}(hb:b=true)(h:T.holds L):(Tree.node b T F).holds L:=⟨fun _=>h,fun k=>by rw[hb]at k;cases k⟩
theorem qS2:Known pP (Env.of pP (v7 [])):=kW trivial
def o6(f:Fl):Bool:=decide (f.pages.length≤1000)
def yL3(l:List (List UInt8)):Bool:=l.all fun p=>decide (p.length=64)
def flB(f:Fl):Bool:=yL3 f.pages&& (2≤f.pages.length&&f.pages.length≤256&&inR f.fuse 0 1048576&&inR f.keep 0 64)
def qt7(f:Fl):Bool:=2≤f.pages.length&&f.pages.length≤256&&inR f.fuse 0 1048576&&inR f.keep 0 64
theorem qt3{f:Fl}:flB f=true↔(∀p∈f.pages,p.length=64)∧2≤f.pages.length∧f.pages.length≤256∧(0≤f.fuse∧f.fuse≤1048576)∧0≤f.keep∧f.keep≤64:=by
 simp[flB,yL3,v8,and_assoc]
theorem zU7{α:Type}{l:List α}{d:α}{i:Nat}(h:i<l.length):l.drop i=l.getD i d::l.drop (i+1):=by
 rw[List.drop_eq_getElem_cons h,List.getD_eq_getElem?_getD,List.getElem?_eq_getElem h];rfl
theorem x19(f:Fl)(hl:f.pages.length≤1000):∀ (k i:Nat) (v:Bool),i+k=f.pages.length→v=((f.pages.drop i).all (fun p=>decide (p.length=64))&&qt7 f)→
  b9 pP (j8 pP 102) (.bool v) (v5 pP 102 0) (j9 46 [(1,.ptr 0 0),(6,.list .str f.pages),(7,J f.pages.length),(8,J i)]) [some (.cells f.cells)]
 |k,i,v,hi,hv=>by
  refine w6 qS2 (n:=1000) (hint:=.unit) (keep:=x9 46 [1,6,7,8]) (p:=x17) rfl ?_;erw [x16 f i];unfold x18
  have t0:(i:Int).toNat=i:=by omega
  have w1:i64.wrap ((i:Int)+1)=((i+1:Nat):Int):=by rw[w64 (by omega) (by omega)];omega
  rw[t0,w1]
  refine o5 (fun a=>?_) fun a=>?_
  ·match k,hi with
   |0,hi=>omega
   |k+1,hi=>
    rw[zU7 (d:=([] :List UInt8)) (by omega:i<f.pages.length),List.all_cons]at hv;refine x6 (by simp;omega) (q96 (fun c=>?_) fun c=>?_)
    ·have:¬(f.pages.getD i []).length=64:=fun k=>c (by rw[k];rfl)
     rw[decide_eq_false this]at hv;subst hv;rfl
    ·have:(f.pages.getD i []).length=64:=by have:=c;omega
     rw[decide_eq_true this,Bool.true_and]at hv;exact⟨o9 _ _,x19 f hl k (i+1) v (by omega) hv⟩
  ·have z:f.pages.drop i=[] :=List.drop_eq_nil_of_le (by omega)
   rw[z]at hv;have hv:v=qt7 f:=hv
   have q:∀b:Bool,b=qt7 f→SV.bool b=SV.bool v:=fun b e=>by rw[hv,e]
   refine o5 (fun b1=>o5 (fun b2=>o5 (fun b3=>o5 (fun b4=>o5 (fun b5=>q _ ?_) fun b5=>q _ ?_) fun b4=>q _ ?_) fun b3=>q _ ?_) fun b2=>q _ ?_) fun b1=>q _ ?_
   all_goals
    rw[Bool.eq_iff_iff];simp only[qt7,Bool.and_eq_true,v8,decide_eq_true_eq,Bool.false_eq_true,false_iff];omega
theorem x26(f:Fl)(hl:f.pages.length≤1000):∀ (k i:Nat) (v:Bool),i+k=f.pages.length→v=((f.pages.drop i).all (fun p=>decide (p.length=64))&&qt7 f)→
  b9 pP (j8 pP 109) (.bool v) (v5 pP 109 0) (j9 46 [(1,.ptr 0 0),(6,.list .str f.pages),(7,J f.pages.length),(8,J i)]) [some (.cells f.cells)]
 |k,i,v,hi,hv=>by
  refine w6 qS2 (n:=1000) (hint:=.unit) (keep:=x9 46 [1,6,7,8]) (p:=x24) rfl ?_;erw [x23 f i];unfold x25
  have t0:(i:Int).toNat=i:=by omega
  have w1:i64.wrap ((i:Int)+1)=((i+1:Nat):Int):=by rw[w64 (by omega) (by omega)];omega
  rw[t0,w1]
  refine o5 (fun a=>?_) fun a=>?_
  ·match k,hi with
   |0,hi=>omega
   |k+1,hi=>
    rw[zU7 (d:=([] :List UInt8)) (by omega:i<f.pages.length),List.all_cons]at hv;refine x6 (by simp;omega) (q96 (fun c=>?_) fun c=>?_)
    ·have:¬(f.pages.getD i []).length=64:=fun k=>c (by rw[k];rfl)
     rw[decide_eq_false this]at hv;subst hv;rfl
    ·have:(f.pages.getD i []).length=64:=by have:=c;omega
     rw[decide_eq_true this,Bool.true_and]at hv;exact⟨o9 _ _,x26 f hl k (i+1) v (by omega) hv⟩
  ·have z:f.pages.drop i=[] :=List.drop_eq_nil_of_le (by omega)
   rw[z]at hv;have hv:v=qt7 f:=hv
   have q:∀b:Bool,b=qt7 f→SV.bool b=SV.bool v:=fun b e=>by rw[hv,e]
   refine o5 (fun b1=>o5 (fun b2=>o5 (fun b3=>o5 (fun b4=>o5 (fun b5=>q _ ?_) fun b5=>q _ ?_) fun b4=>q _ ?_) fun b3=>q _ ?_) fun b2=>q _ ?_) fun b1=>q _ ?_
   all_goals
    rw[Bool.eq_iff_iff];simp only[qt7,Bool.and_eq_true,v8,decide_eq_true_eq,Bool.false_eq_true,false_iff];omega
theorem xf0(f:Fl)(h:o6 f=true):SCall pP 102 [f.sv] (.bool (flB f)):=by
 have hl:f.pages.length≤1000:=of_decide_eq_true h;refine m6 rfl rfl (by kernel_rfl) (w6 qS2 (n:=1000) (hint:=.unit) (keep:=x9 46 [1,6,7,8]) (p:=x14) (boxes:=[]) rfl ?_);have q:=x13 f;unfold u7 u9 at q;erw [q];unfold x15;exact⟨o9 _ _,x19 f hl f.pages.length 0 _ (by omega) (by rw[List.drop_zero];simp only[flB,yL3,qt7])⟩
theorem xf1(f:Fl)(h:o6 f=true):SCall pP 109 [f.sv] (.bool (flB f)):=by
 have hl:f.pages.length≤1000:=of_decide_eq_true h;refine m6 rfl rfl (by kernel_rfl) (w6 qS2 (n:=1000) (hint:=.unit) (keep:=x9 46 [1,6,7,8]) (p:=x21) (boxes:=[]) rfl ?_);have q:=x20 f;unfold u7 u9 at q;erw [q];unfold x22;exact⟨o9 _ _,x26 f hl f.pages.length 0 _ (by omega) (by rw[List.drop_zero];simp only[flB,yL3,qt7])⟩
theorem xf2(f:Fl)(h:o6 f=true):SCall pP 130 [f.sv] f.sv:=by
 have hl:f.pages.length≤1000:=of_decide_eq_true h;refine m6 rfl rfl (by kernel_rfl) (w6 qS2 (n:=1000) (hint:=.str) (keep:=x9 9 []) (p:=qq2) (boxes:=[]) rfl ?_);have q:=fcp f;unfold u7 u9 at q;erw [q];unfold qq3;refine⟨fun e=>?_,fun e=>x6 (decide_eq_true (by omega)) rfl⟩;have e:f.pages=[] :=List.isEmpty_iff.1 e;show SV.agg _=SV.agg f.cells;unfold Fl.cells;rw[e];rfl
theorem xf3(f:Fl)(h:o6 f=true):SCall pP 116 [f.sv] f.sv:=by
 have hl:f.pages.length≤1000:=of_decide_eq_true h;refine m6 rfl rfl (by kernel_rfl) (w6 qS2 (n:=1000) (hint:=.str) (keep:=x9 9 []) (p:=qq0) (boxes:=[]) rfl ?_);have q:=qp9 f;unfold u7 u9 at q;erw [q];unfold qq1;refine⟨fun e=>?_,fun e=>x6 (decide_eq_true (by omega)) rfl⟩;have e:f.pages=[] :=List.isEmpty_iff.1 e;show SV.agg _=SV.agg f.cells;unfold Fl.cells;rw[e];rfl
def z64:Fact:=qh8 102 fun f=>.req (o6 f) (.leaf (.bool (flB f)))
theorem yl7:z64.ok pP:=qi7 fun f h=>xf0 f h
def z65:Fact:=qh8 109 fun f=>.req (o6 f) (.leaf (.bool (flB f)))
theorem yl8:z65.ok pP:=qi7 fun f h=>xf1 f h
def z66:Fact:=qh8 130 fun f=>.req (o6 f) (.leaf f.sv)
theorem yl9:z66.ok pP:=qi7 fun f h=>xf2 f h
def z67:Fact:=qh8 116 fun f=>.req (o6 f) (.leaf f.sv)
theorem ym0:z67.ok pP:=qi7 fun f h=>xf3 f h
def qC7(f:Fl)(i:Int):Bool:=flB f&&inR i 0 (f.pages.length-1)
def b7(f:Fl)(n k:Int):Fl:=match f.dead||!flB f with
 |true=>f
 |false=>match decide (n<1)with
  |true=>⟨f.pages,0,true,0⟩
  |false=>⟨f.pages,if 1048576<n then 1048576 else n,f.dead,if(if 64<k then 64 else k)>0 then if 64<k then 64 else k else 0⟩
def flPow(f:Fl):Fl:=match flB f with
 |true=>⟨f.pages,0,false,0⟩
 |false=>f
def qh9(f:FuncId)(h:Fl→Int→Tree SV):Fact:=⟨f,fun args=>match args with
 |[.agg [.list .str p,.int .i64 a,.bool d,.int .i64 k],.int .i64 i] =>some (h ⟨p,a,d,k⟩ i)
 |_=>none⟩
theorem qi4{P:Program}{f:FuncId}{h:Fl→Int→Tree SV}(k:∀c i,(h c i).says (SCall P f [c.sv,J i])):(qh9 f h).ok P:=fun args t ht=>by
 simp only[qh9]at ht
 split at ht
 ·cases ht;exact k ⟨_,_,_,_⟩ _
 ·cases ht
def qi0(f:FuncId)(h:Fl→Int→Int→Tree SV):Fact:=⟨f,fun args=>match args with
 |[.agg [.list .str p,.int .i64 a,.bool d,.int .i64 k],.int .i64 i,.int .i64 j] =>some (h ⟨p,a,d,k⟩ i j)
 |_=>none⟩
theorem qi1{P:Program}{f:FuncId}{h:Fl→Int→Int→Tree SV}(k:∀c i j,(h c i j).says (SCall P f [c.sv,J i,J j])):(qi0 f h).ok P:=fun args t ht=>by
 simp only[qi0]at ht
 split at ht
 ·cases ht;exact k ⟨_,_,_,_⟩ _ _
 ·cases ht
theorem xg6(f:Fl)(i:Int)(h:o6 f=true):SCall pP 302 [f.sv,J i] (.bool (qC7 f i)):=
 o8 mix [z64,z66] ⟨yl7,yl9,trivial⟩ 1000 (.fork (.lit (.lit (.fork (.ln 4 (.lit .all)) (.ln 4 (.lit .all))))) (.ln 7 (.lit .all)))
  (t:=.req (o6 f) (.node (flB f)
 (.node (i≥0)
  (.leaf (SV.bool (i< (↑f.pages.length:Int))))
  (.leaf (SV.bool false)))
 (.leaf (SV.bool false))))
  (by kernel_rfl) (by
   refine x6 h ?_;unfold qC7
   refine f4 (fun v=>?_) (fun v=>?_)<;>rw[v]
   ·refine o5 (fun a=>?_) fun a=>?_
    ·show SV.bool _=SV.bool _
     congr 1
     rw[Bool.eq_iff_iff];simp only[Bool.true_and,v8,decide_eq_true_eq];omega
    ·show SV.bool _=SV.bool _
     congr 1
     symm;rw[Bool.true_and,Bool.eq_false_iff];intro k;rw[v8]at k;omega
   ·rfl) (by kernel_rfl) (by kernel_rfl)
def z80:Fact:=qh9 302 fun f i=>.req (o6 f) (.leaf (.bool (qC7 f i)))
theorem yn4:z80.ok pP:=qi4 fun f i h=>xg6 f i h
theorem xf4(f:Fl)(n k:Int)(h:o6 f=true):SCall pP 56 [f.sv,J n,J k] ((b7 f n k).sv):=
 o8 mix [z64,z66] ⟨yl7,yl9,trivial⟩ 1000 (.fork (.ln 3 (.lit .all)) (.ln 3 (.fork .all (.fork .all .all))))
  (t:=let y0:Tree SV:=.leaf (.agg [.list Ty.str f.pages,J f.fuse,.bool f.dead,J f.keep]);.req (o6 f) (.node (f.dead) y0 (.req (o6 f) (.node (!flB f) y0 (.node (n<1) (.leaf (.agg [.list Ty.str f.pages,J 0,.bool true,J 0])) (.leaf (.agg [.list Ty.str f.pages,J (if 1048576<n then 1048576 else n),.bool f.dead,J (if(if 64<k then 64 else k)>0 then if 64<k then 64 else k else 0)])))))))
  (by kernel_rfl) (by unfold b7;refine x6 h ?_;cases d:f.dead<;>cases v:flB f<;>simp only[Tree.holds,Bool.not_true,Bool.not_false,Bool.or_true,Bool.or_false,Bool.true_or,Bool.false_or,Bool.false_eq_true,h,true_and,false_implies,implies_true,true_implies,and_true]<;>(try(cases b:decide (n<1)<;>simp))<;>(try simp[Fl.sv,Fl.cells,d,J])) (by kernel_rfl) (by kernel_rfl)
theorem xf7(f:Fl)(h:o6 f=true):SCall pP 55 [f.sv] ((flPow f).sv):=
 o8 mix [z64,z66] ⟨yl7,yl9,trivial⟩ 1000 (.fork (.all) (.all))
  (t:=.req (o6 f) (.req (o6 f) (.node (flB f)
  (.leaf (SV.agg [SV.list Ty.str f.pages,SV.int IntKind.i64 0,SV.bool false,SV.int IntKind.i64 0]))
  (.leaf (SV.agg [SV.list Ty.str f.pages,SV.int IntKind.i64 f.fuse,SV.bool f.dead,SV.int IntKind.i64 f.keep])))))
  (by kernel_rfl) (by unfold flPow;exact x6 h (x6 h (f4 (fun v=>by rw[v];rfl) fun v=>by rw[v];rfl))) (by kernel_rfl) (by kernel_rfl)
def U16(n:Int):SV:=.int .u16 n
def zC4:Plan:=.all
noncomputable def zC5(s:List UInt8):Tree Stop:= .leaf (.at (v5 pP 300 0) 32 (j9 32 [(0,SV.str s),(3,SV.int IntKind.u16 65535),(7,J (↑s.length:Int)),(8,J 0)]) [])
theorem ca0(s:List UInt8):w9 (Env.of pP (v7 [])) 1000 (j8 pP 300) .unit (x9 32 [0,3,7,8]) (u9 pP 300) zC4 (u7 pP 300 [.str s]) [] =zC5 s:=by kernel_rfl
def zC6:Plan:=.fork (.all) (.all)
noncomputable def zC7(s:List UInt8)(r i:Int):Tree Stop:= .node (i< (↑s.length:Int)) (.req (0≤i&&i< (↑s.length:Int)) (.req true (.leaf (.at (v5 pP 300 1) 32 (j9 32 [(0,SV.str s),(3,SV.int IntKind.u16 (IntKind.u16.wrap (↑(BitVec.ofInt 16 r ^^^ BitVec.ofInt 16 (IntKind.u16.wrap (IntKind.u16.wrap (↑(s.getD i.toNat 0).toNat:Int)*256))).toNat:Int))),(7,J (↑s.length:Int)),(8,J i),(18,J 0)]) [])))) (.leaf (.done (J (i64.wrap r))))
theorem ca1(s:List UInt8)(r i:Int):w9 (Env.of pP (v7 [])) 1000 (j8 pP 300) .unit (x9 32 [0,3,7,8,18]) (v5 pP 300 0) zC6 (j9 32 [(0,.str s),(3,U16 r),(7,J s.length),(8,J i)]) [] =zC7 s r i:=by kernel_rfl
def zC8:Plan:=.fork (.fork (.all) (.all)) (.all)
noncomputable def zC9(s:List UInt8)(r i k:Int):Tree Stop:= .node (k<8) (.req true (.node (IntKind.u16.wrap (↑(BitVec.ofInt 16 r &&&BitVec.ofInt 16 32768).toNat:Int) != 0) (.leaf (.at (v5 pP 300 1) 32 (j9 32 [(0,SV.str s),(3,SV.int IntKind.u16 (IntKind.u16.wrap (↑(BitVec.ofInt 16 (IntKind.u16.wrap (r*2)) ^^^ BitVec.ofInt 16 4129).toNat:Int))),(7,J (↑s.length:Int)),(8,J i),(18,J (i64.wrap (k+1)))]) [])) (.leaf (.at (v5 pP 300 1) 32 (j9 32 [(0,SV.str s),(3,SV.int IntKind.u16 (IntKind.u16.wrap (r*2))),(7,J (↑s.length:Int)),(8,J i),(18,J (i64.wrap (k+1)))]) [])))) (.leaf (.at (v5 pP 300 0) 32 (j9 32 [(0,SV.str s),(3,SV.int IntKind.u16 r),(7,J (↑s.length:Int)),(8,J (i64.wrap (i+1))),(18,J k)]) []))
theorem ca2(s:List UInt8)(r i k:Int):w9 (Env.of pP (v7 [])) 1000 (j8 pP 300) .unit (x9 32 [0,3,7,8,18]) (v5 pP 300 1) zC8 (j9 32 [(0,.str s),(3,U16 r),(7,J s.length),(8,J i),(18,J k)]) [] =zC9 s r i k:=by kernel_rfl
def zG6:Plan:=.all
noncomputable def zG7(s:List UInt8):Tree Stop:= .leaf (.at (v5 pP 254 0) 26 (j9 26 [(0,SV.str s),(3,J 65535),(4,J 0)]) [])
theorem cb0(s:List UInt8):w9 (Env.of pP (v7 [])) 1000 (j8 pP 254) .unit (x9 26 [0,3,4]) (u9 pP 254) zG6 (u7 pP 254 [.str s]) [] =zG7 s:=by kernel_rfl
def zG8:Plan:=.fork (.all) (.all)
noncomputable def zG9(s:List UInt8)(r i:Int):Tree Stop:= .node (i< (↑s.length:Int)) (.req (0≤i&&i< (↑s.length:Int)) (.leaf (.at (v5 pP 254 1) 26 (j9 26 [(0,SV.str s),(3,J (i64.wrap (↑(BitVec.ofInt 64 r ^^^ BitVec.ofInt 64 (i64.wrap (i64.wrap (↑(s.getD i.toNat 0).toNat:Int)*256))).toNat:Int))),(4,J i),(5,J 0)]) []))) (.leaf (.done (J r)))
theorem cb1(s:List UInt8)(r i:Int):w9 (Env.of pP (v7 [])) 1000 (j8 pP 254) .unit (x9 26 [0,3,4,5]) (v5 pP 254 0) zG8 (j9 26 [(0,.str s),(3,J r),(4,J i)]) [] =zG9 s r i:=by kernel_rfl
def zH0:Plan:=.fork (.fork (.all) (.all)) (.all)
noncomputable def zH1(s:List UInt8)(r i k:Int):Tree Stop:= .node (k<8) (.node (r≥32768) (.leaf (.at (v5 pP 254 1) 26 (j9 26 [(0,SV.str s),(3,J (i64.wrap (↑(BitVec.ofInt 64 (i64.wrap (i64.wrap (r-32768)*2)) ^^^ BitVec.ofInt 64 4129).toNat:Int))),(4,J i),(5,J (i64.wrap (k+1)))]) [])) (.leaf (.at (v5 pP 254 1) 26 (j9 26 [(0,SV.str s),(3,J (i64.wrap (r*2))),(4,J i),(5,J (i64.wrap (k+1)))]) []))) (.leaf (.at (v5 pP 254 0) 26 (j9 26 [(0,SV.str s),(3,J r),(4,J (i64.wrap (i+1))),(5,J k)]) []))
theorem cb2(s:List UInt8)(r i k:Int):w9 (Env.of pP (v7 [])) 1000 (j8 pP 254) .unit (x9 26 [0,3,4,5]) (v5 pP 254 1) zH0 (j9 26 [(0,.str s),(3,J r),(4,J i),(5,J k)]) [] =zH1 s r i k:=by kernel_rfl
def zD0:Plan:=.fork (.all) (.all)
noncomputable def zD1(s:List UInt8)(r i k:Int):Tree Stop:= .node (i< (↑s.length:Int)) (.req (0≤i&&i< (↑s.length:Int)) (.req true (.leaf (.at (v5 pP 300 1) 32 (j9 32 [(0,SV.str s),(3,SV.int IntKind.u16 (IntKind.u16.wrap (↑(BitVec.ofInt 16 r ^^^ BitVec.ofInt 16 (IntKind.u16.wrap (IntKind.u16.wrap (↑(s.getD i.toNat 0).toNat:Int)*256))).toNat:Int))),(7,J (↑s.length:Int)),(8,J i),(18,J 0)]) [])))) (.leaf (.done (J (i64.wrap r))))
theorem ca3(s:List UInt8)(r i k:Int):w9 (Env.of pP (v7 [])) 1000 (j8 pP 300) .unit (x9 32 [0,3,7,8,18]) (v5 pP 300 0) zD0 (j9 32 [(0,.str s),(3,U16 r),(7,J s.length),(8,J i),(18,J k)]) [] =zD1 s r i k:=by kernel_rfl
def zH2:Plan:=.fork (.all) (.all)
noncomputable def zH3(s:List UInt8)(r i k:Int):Tree Stop:= .node (i< (↑s.length:Int)) (.req (0≤i&&i< (↑s.length:Int)) (.leaf (.at (v5 pP 254 1) 26 (j9 26 [(0,SV.str s),(3,J (i64.wrap (↑(BitVec.ofInt 64 r ^^^ BitVec.ofInt 64 (i64.wrap (i64.wrap (↑(s.getD i.toNat 0).toNat:Int)*256))).toNat:Int))),(4,J i),(5,J 0)]) []))) (.leaf (.done (J r)))
theorem cb3(s:List UInt8)(r i k:Int):w9 (Env.of pP (v7 [])) 1000 (j8 pP 254) .unit (x9 26 [0,3,4,5]) (v5 pP 254 0) zH2 (j9 26 [(0,.str s),(3,J r),(4,J i),(5,J k)]) [] =zH3 s r i k:=by kernel_rfl
def zL9(r:Nat):Nat:=if 32768≤r then((r-32768)*2) ^^^ 4129 else r*2
def zM1:Nat→Nat→Nat
 |0,r=>r
 |k+1,r=>zM1 k (zL9 r)
def zM3:List UInt8→Nat→Nat
 |[],r=>r
 |b::l,r=>zM3 l (zM1 8 (r ^^^ b.toNat*256))
def crc(s:List UInt8):Nat:=zM3 s 65535
theorem zM0{r:Nat}(h:r<65536):zL9 r<65536:=by
 unfold zL9
 split
 ·exact Nat.xor_lt_two_pow (n:=16) (by omega) (by decide)
 ·omega
theorem zM2:∀ (k:Nat) {r:Nat},r<65536→zM1 k r<65536
 |0,_,h=>h
 |k+1,_,h=>zM2 k (zM0 h)
theorem zM5{r:Nat}(b:UInt8)(h:r<65536):r ^^^ b.toNat*256<65536:=
 Nat.xor_lt_two_pow (n:=16) h (by have:=b.toNat_lt;omega)
theorem zM4:∀ (s:List UInt8) {r:Nat},r<65536→zM3 s r<65536
 |[],_,h=>h
 |b::s,_,h=>zM4 s (zM2 8 (zM5 b h))
theorem zM6(s:List UInt8):crc s<65536:=zM4 s (by decide)
theorem x90{n:Int}(h:0≤n)(h':n<65536):IntKind.u16.wrap n=n:=by
 unfold IntKind.wrap;have e:n % (2 ^ IntKind.u16.bits:Int)=n:=Int.emod_eq_of_lt h h';simp only[e];rw[if_neg (by simp[IntKind.signed])]
theorem jb9{a b:Nat}(ha:a<65536)(hb:b<65536):IntKind.u16.wrap (((BitVec.ofInt 16 (a:Int) ^^^ BitVec.ofInt 16 (b:Int)).toNat:Nat):Int)=((a ^^^ b:Nat):Int):=by
 have e:(BitVec.ofInt 16 (a:Int) ^^^ BitVec.ofInt 16 (b:Int)).toNat=a ^^^ b:=by
  rw[BitVec.ofInt_natCast,BitVec.ofInt_natCast,BitVec.toNat_xor,BitVec.toNat_ofNat,BitVec.toNat_ofNat,Nat.mod_eq_of_lt (by omega),Nat.mod_eq_of_lt (by omega)]
 rw[e];have:=Nat.xor_lt_two_pow (n:=16) ha hb;exact x90 (by omega) (by omega)
theorem jc0{a b:Nat}(ha:a<65536)(hb:b<65536):i64.wrap (((BitVec.ofInt 64 (a:Int) ^^^ BitVec.ofInt 64 (b:Int)).toNat:Nat):Int)=((a ^^^ b:Nat):Int):=by
 have e:(BitVec.ofInt 64 (a:Int) ^^^ BitVec.ofInt 64 (b:Int)).toNat=a ^^^ b:=by
  rw[BitVec.ofInt_natCast,BitVec.ofInt_natCast,BitVec.toNat_xor,BitVec.toNat_ofNat,BitVec.toNat_ofNat,Nat.mod_eq_of_lt (by omega),Nat.mod_eq_of_lt (by omega)]
 rw[e];have:=Nat.xor_lt_two_pow (n:=16) ha hb;exact w64 (by omega) (by omega)
theorem qE8:∀{a:Nat},a<65536→((IntKind.u16.wrap (((BitVec.ofInt 16 (a:Int) &&&BitVec.ofInt 16 32768).toNat:Nat):Int) != 0)=decide (32768≤a)):=by
 intro a ha
 have e:(BitVec.ofInt 16 (a:Int) &&&BitVec.ofInt 16 32768).toNat=a &&&32768:=by
  rw[BitVec.ofInt_natCast,show BitVec.ofInt 16 32768=BitVec.ofNat 16 32768 from rfl,BitVec.toNat_and,BitVec.toNat_ofNat,BitVec.toNat_ofNat,Nat.mod_eq_of_lt (by omega),Nat.mod_eq_of_lt (by omega)]
 rw[e]
 have e2:a &&&32768=if 32768≤a then 32768 else 0:=by
  apply Nat.eq_of_testBit_eq;intro j;rw[Nat.testBit_and,show(32768:Nat)=2 ^ 15 from rfl,Nat.testBit_two_pow]
  by_cases hj:15=j
  ·subst hj
   rw[Nat.testBit_eq_decide_div_mod_eq]
   split
   ·rename_i h
    rw[Nat.testBit_two_pow,decide_eq_true (show a / 2 ^ 15 % 2=1 by omega)];rfl
   ·rename_i h
    rw[decide_eq_false (show ¬a / 2 ^ 15 % 2=1 by omega),Nat.zero_testBit];rfl
  ·rw[decide_eq_false hj,Bool.and_false]
   split
   ·rw[Nat.testBit_two_pow,decide_eq_false hj]
   ·rw[Nat.zero_testBit]
 rw[e2]
 by_cases h:32768≤a
 ·rw[if_pos h,decide_eq_true h];decide
 ·rw[if_neg h,decide_eq_false h];decide
theorem zD2(s:List UInt8)(i:Nat)(hi:i<s.length)(hl:s.length≤1099511627776)(v:Int):∀ (j k r:Nat),k+j=8→r<65536→
  b9 pP (j8 pP 300) (J v) (v5 pP 300 0) (j9 32 [(0,.str s),(3,U16 (zM1 j r:Nat)),(7,J s.length),(8,J (i+1:Nat)),(18,J 8)]) [] →
  b9 pP (j8 pP 300) (J v) (v5 pP 300 1) (j9 32 [(0,.str s),(3,U16 r),(7,J s.length),(8,J i),(18,J k)]) []
 |j,k,r,hk,hr,H=>by
  refine w6 qS2 (n:=1000) (hint:=.unit) (keep:=x9 32 [0,3,7,8,18]) (p:=zC8) rfl ?_;erw [ca2 s r i k];unfold zC9
  have wi:i64.wrap ((i:Int)+1)=((i+1:Nat):Int):=by rw[w64 (by omega) (by omega)];omega
  have wk:i64.wrap ((k:Int)+1)=((k+1:Nat):Int):=by rw[w64 (by omega) (by omega)];omega
  rw[wi,wk]
  match j,hk,H with
  |0,hk,H=>
   have e8:k=8:=by omega
   subst e8;exact⟨fun a=>absurd (of_decide_eq_true a) (by decide),fun _=>⟨o9 _ _,H⟩⟩
  |j+1,hk,H=>
   refine o5 (fun a=>?_) fun a=>absurd (show((k:Nat):Int)<8 by omega) a
   have H':b9 pP (j8 pP 300) (J v) (v5 pP 300 0) (j9 32 [(0,.str s),(3,U16 (zM1 j (zL9 r):Nat)),(7,J s.length),(8,J (i+1:Nat)),(18,J 8)]) [] :=H;refine x6 rfl ?_;rw[qE8 hr]
   refine o5 (fun b=>?_) fun b=>?_
   ·have e:zL9 r=((r-32768)*2) ^^^ 4129:=if_pos b
    have w:IntKind.u16.wrap ((r:Int)*2)=(((r-32768)*2:Nat):Int):=by
     unfold IntKind.wrap
     have e:((r:Int)*2) % (2 ^ IntKind.u16.bits:Int)=(((r-32768)*2:Nat):Int):=by
      show((r:Int)*2) % 65536=_;omega
     simp only[e];rw[if_neg (by simp[IntKind.signed])]
    rw[w];refine⟨o9 _ _,?_⟩;have x:=jb9 (a:=(r-32768)*2) (b:=4129) (by omega) (by decide);have x:IntKind.u16.wrap (((BitVec.ofInt 16 (((r-32768)*2:Nat):Int) ^^^ BitVec.ofInt 16 4129).toNat:Nat):Int)=_:=x;rw[x,←e];exact zD2 s i hi hl v j (k+1) (zL9 r) (by omega) (zM0 hr) H'
   ·have e:zL9 r=r*2:=if_neg b
    rw[x90 (by omega) (by omega),show(r:Int)*2=((zL9 r:Nat):Int) by rw[e];omega];exact⟨o9 _ _,zD2 s i hi hl v j (k+1) (zL9 r) (by omega) (zM0 hr) H'⟩
theorem zD3(s:List UInt8)(hl:s.length≤1099511627776):∀ (m i r:Nat) (v:Nat),i+m=s.length→r<65536→v=zM3 (s.drop i) r→
  b9 pP (j8 pP 300) (J v) (v5 pP 300 0) (j9 32 [(0,.str s),(3,U16 r),(7,J s.length),(8,J i),(18,J 8)]) []
 |m,i,r,v,hi,hr,hv=>by
  refine w6 qS2 (n:=1000) (hint:=.unit) (keep:=x9 32 [0,3,7,8,18]) (p:=zD0) rfl ?_;erw [ca3 s r i 8];unfold zD1
  have t0:(i:Int).toNat=i:=by omega
  rw[t0]
  refine o5 (fun a=>?_) fun a=>?_
  ·match m,hi with
   |0,hi=>omega
   |m+1,hi=>
    have hb:=(s.getD i 0).toNat_lt;rw[zU7 (d:=(0:UInt8)) (by omega:i<s.length)]at hv;have hv:v=zM3 (s.drop (i+1)) (zM1 8 (r ^^^ (s.getD i 0).toNat*256)):=hv;have hx:=zM5 (s.getD i 0) hr;refine x6 (by simp;omega) (x6 rfl ?_);rw[x90 (n:=((s.getD i 0).toNat:Int)) (by omega) (by omega),x90 (n:=((s.getD i 0).toNat:Int)*256) (by omega) (by omega),show(((s.getD i 0).toNat:Nat):Int)*256=(((s.getD i 0).toNat*256:Nat):Int) by omega,jb9 hr (by omega)];exact⟨o9 _ _,zD2 s i (by omega) hl _ 8 0 _ rfl hx (zD3 s hl m (i+1) _ v (by omega) (zM2 8 hx) hv)⟩
  ·have z:s.drop i=[] :=List.drop_eq_nil_of_le (by omega)
   rw[z]at hv;have hv:v=r:=hv;subst hv;rw[w64 (by omega) (by omega)];exact rfl
theorem xc7(s:List UInt8)(hl:s.length≤1099511627776):SCall pP 300 [.str s] (J (crc s)):=by
 refine m6 rfl rfl (by kernel_rfl) (w6 qS2 (n:=1000) (hint:=.unit) (keep:=x9 32 [0,3,7,8]) (p:=zC4) (boxes:=[]) rfl ?_);have q:=ca0 s;unfold u7 u9 at q;erw [q];unfold zC5;refine⟨o9 _ _,?_⟩;refine w6 qS2 (n:=1000) (hint:=.unit) (keep:=x9 32 [0,3,7,8,18]) (p:=zC6) rfl ?_;erw [ca1 s 65535 0];unfold zC7
 refine o5 (fun a=>?_) fun a=>?_
 ·have hb:=(s.getD 0 0).toNat_lt
  have hx:=zM5 (s.getD 0 0) (show 65535<65536 by decide);refine x6 (by simp;omega) (x6 rfl ?_);rw[show(0:Int).toNat=0 from rfl,x90 (n:=((s.getD 0 0).toNat:Int)) (by omega) (by omega),x90 (n:=((s.getD 0 0).toNat:Int)*256) (by omega) (by omega),show(((s.getD 0 0).toNat:Nat):Int)*256=(((s.getD 0 0).toNat*256:Nat):Int) by omega];have x:=jb9 (a:=65535) (b:=(s.getD 0 0).toNat*256) (by decide) (by omega);have x:IntKind.u16.wrap (((BitVec.ofInt 16 65535 ^^^ BitVec.ofInt 16 (((s.getD 0 0).toNat*256:Nat):Int)).toNat:Nat):Int)=_:=x;rw[x];refine⟨o9 _ _,zD2 s 0 (by omega) hl _ 8 0 _ rfl hx (zD3 s hl (s.length-1) 1 _ _ (by omega) (zM2 8 hx) ?_)⟩;have e:=zU7 (d:=(0:UInt8)) (show 0<s.length by omega);rw[List.drop_zero]at e;unfold crc
  conv=>lhs;rw[e]
  rfl
 ·have z:s=[] :=List.length_eq_zero_iff.1 (by omega)
  subst z;rfl
theorem zH4(s:List UInt8)(i:Nat)(hi:i<s.length)(hl:s.length≤1099511627776)(v:Int):∀ (j k r:Nat),k+j=8→r<65536→
  b9 pP (j8 pP 254) (J v) (v5 pP 254 0) (j9 26 [(0,.str s),(3,J (zM1 j r:Nat)),(4,J (i+1:Nat)),(5,J 8)]) [] →
  b9 pP (j8 pP 254) (J v) (v5 pP 254 1) (j9 26 [(0,.str s),(3,J r),(4,J i),(5,J k)]) []
 |j,k,r,hk,hr,H=>by
  refine w6 qS2 (n:=1000) (hint:=.unit) (keep:=x9 26 [0,3,4,5]) (p:=zH0) rfl ?_;erw [cb2 s r i k];unfold zH1
  have wi:i64.wrap ((i:Int)+1)=((i+1:Nat):Int):=by rw[w64 (by omega) (by omega)];omega
  have wk:i64.wrap ((k:Int)+1)=((k+1:Nat):Int):=by rw[w64 (by omega) (by omega)];omega
  rw[wi,wk]
  match j,hk,H with
  |0,hk,H=>
   have e8:k=8:=by omega
   subst e8;exact⟨fun a=>absurd (of_decide_eq_true a) (by decide),fun _=>⟨o9 _ _,H⟩⟩
  |j+1,hk,H=>
   refine o5 (fun a=>?_) fun a=>absurd (show((k:Nat):Int)<8 by omega) a
   have H':b9 pP (j8 pP 254) (J v) (v5 pP 254 0) (j9 26 [(0,.str s),(3,J (zM1 j (zL9 r):Nat)),(4,J (i+1:Nat)),(5,J 8)]) [] :=H
   refine o5 (fun b=>?_) fun b=>?_
   ·have e:zL9 r=((r-32768)*2) ^^^ 4129:=if_pos (by omega)
    rw[w64 (x:=(r:Int)-32768) (by omega) (by omega),w64 (x:=((r:Int)-32768)*2) (by omega) (by omega),show((r:Int)-32768)*2=(((r-32768)*2:Nat):Int) by omega];refine⟨o9 _ _,?_⟩;have x:=jc0 (a:=(r-32768)*2) (b:=4129) (by omega) (by decide);have x:i64.wrap (((BitVec.ofInt 64 (((r-32768)*2:Nat):Int) ^^^ BitVec.ofInt 64 4129).toNat:Nat):Int)=_:=x;rw[x,←e];exact zH4 s i hi hl v j (k+1) (zL9 r) (by omega) (zM0 hr) H'
   ·have e:zL9 r=r*2:=if_neg (by omega)
    rw[w64 (by omega) (by omega),show(r:Int)*2=((zL9 r:Nat):Int) by rw[e];omega];exact⟨o9 _ _,zH4 s i hi hl v j (k+1) (zL9 r) (by omega) (zM0 hr) H'⟩
theorem zH5(s:List UInt8)(hl:s.length≤1099511627776):∀ (m i r:Nat) (v:Nat),i+m=s.length→r<65536→v=zM3 (s.drop i) r→
  b9 pP (j8 pP 254) (J v) (v5 pP 254 0) (j9 26 [(0,.str s),(3,J r),(4,J i),(5,J 8)]) []
 |m,i,r,v,hi,hr,hv=>by
  refine w6 qS2 (n:=1000) (hint:=.unit) (keep:=x9 26 [0,3,4,5]) (p:=zH2) rfl ?_;erw [cb3 s r i 8];unfold zH3
  have t0:(i:Int).toNat=i:=by omega
  rw[t0]
  refine o5 (fun a=>?_) fun a=>?_
  ·match m,hi with
   |0,hi=>omega
   |m+1,hi=>
    have hb:=(s.getD i 0).toNat_lt;rw[zU7 (d:=(0:UInt8)) (by omega:i<s.length)]at hv;have hv:v=zM3 (s.drop (i+1)) (zM1 8 (r ^^^ (s.getD i 0).toNat*256)):=hv;have hx:=zM5 (s.getD i 0) hr;refine x6 (by simp;omega) ?_;rw[w64 (x:=((s.getD i 0).toNat:Int)) (by omega) (by omega),w64 (x:=((s.getD i 0).toNat:Int)*256) (by omega) (by omega),show(((s.getD i 0).toNat:Nat):Int)*256=(((s.getD i 0).toNat*256:Nat):Int) by omega,jc0 hr (by omega)];exact⟨o9 _ _,zH4 s i (by omega) hl _ 8 0 _ rfl hx (zH5 s hl m (i+1) _ v (by omega) (zM2 8 hx) hv)⟩
  ·have z:s.drop i=[] :=List.drop_eq_nil_of_le (by omega)
   rw[z]at hv;have hv:v=r:=hv;subst hv;exact rfl
theorem xc8(s:List UInt8)(hl:s.length≤1099511627776):SCall pP 254 [.str s] (J (crc s)):=by
 refine m6 rfl rfl (by kernel_rfl) (w6 qS2 (n:=1000) (hint:=.unit) (keep:=x9 26 [0,3,4]) (p:=zG6) (boxes:=[]) rfl ?_);have q:=cb0 s;unfold u7 u9 at q;erw [q];unfold zG7;refine⟨o9 _ _,?_⟩;refine w6 qS2 (n:=1000) (hint:=.unit) (keep:=x9 26 [0,3,4,5]) (p:=zG8) rfl ?_;erw [cb1 s 65535 0];unfold zG9
 refine o5 (fun a=>?_) fun a=>?_
 ·have hb:=(s.getD 0 0).toNat_lt
  have hx:=zM5 (s.getD 0 0) (show 65535<65536 by decide);refine x6 (by simp;omega) ?_;rw[show(0:Int).toNat=0 from rfl,w64 (x:=((s.getD 0 0).toNat:Int)) (by omega) (by omega),w64 (x:=((s.getD 0 0).toNat:Int)*256) (by omega) (by omega),show(((s.getD 0 0).toNat:Nat):Int)*256=(((s.getD 0 0).toNat*256:Nat):Int) by omega];have x:=jc0 (a:=65535) (b:=(s.getD 0 0).toNat*256) (by decide) (by omega);have x:i64.wrap (((BitVec.ofInt 64 65535 ^^^ BitVec.ofInt 64 (((s.getD 0 0).toNat*256:Nat):Int)).toNat:Nat):Int)=_:=x;rw[x];refine⟨o9 _ _,zH4 s 0 (by omega) hl _ 8 0 _ rfl hx (zH5 s hl (s.length-1) 1 _ _ (by omega) (zM2 8 hx) ?_)⟩;have e:=zU7 (d:=(0:UInt8)) (show 0<s.length by omega);rw[List.drop_zero]at e;unfold crc
  conv=>lhs;rw[e]
  rfl
 ·have z:s=[] :=List.length_eq_zero_iff.1 (by omega)
  subst z;rfl
end Go.Proofs.YtnkaepnblikcdaaGreat
