/-
  What the statement needs: an evaluator of the model, contracts of the functions that it reaches, and the plain law.
-/
import Derived.Test.YtnkaepnblikcdaaGreatVE4
import Derived.Test.YtnkaepnblikcdaaGreatVE3
set_option maxRecDepth 100000
set_option linter.unusedVariables false
set_option linter.unusedSimpArgs false
open Go.IntKind (i64 u64)
namespace Go.Proofs.YtnkaepnblikcdaaGreat
open Go.Sx
def inV(p:V3):Bool:=inR p.1 (-33554432) 33554432&& (inR p.2.1 (-33554432) 33554432&&inR p.2.2 (-33554432) 33554432)
theorem qK9{p:V3}:inV p=true↔(-33554432≤p.1∧p.1≤33554432)∧(-33554432≤p.2.1∧p.2.1≤33554432)∧-33554432≤p.2.2∧p.2.2≤33554432:=by simp only[inV,Bool.and_eq_true,v8]
def inE(n:Int):Bool:=inR n (-1152921504606846976) 1152921504606846976
def qV7(f:Fw)(p:V3)(e:Int):Bool:=inV f.loc&& (inV p&& (inE f.e&&inE e))
theorem qV8{f:Fw}{p:V3}{e:Int}:qV7 f p e=true↔inV f.loc=true∧inV p=true∧(-1152921504606846976≤f.e∧f.e≤1152921504606846976)∧-1152921504606846976≤e∧e≤1152921504606846976:=by simp only[qV7,inE,Bool.and_eq_true,v8]
theorem xy4{x:Int}(h: -67108864≤x∧x≤67108864):i64.wrap (x*x)=x*x∧0≤x*x∧x*x≤4503599627370496:=by
 have h1:0≤x*x:=by
  rcases Int.le_total 0 x with k|k
  ·exact Int.mul_nonneg k k
  ·have:=Int.mul_nonneg (show 0≤-x by omega) (show 0≤-x by omega);rwa [Int.neg_mul_neg]at this
 have h2:x*x≤67108864*67108864:=by
  rcases Int.le_total 0 x with k|k
  ·exact Int.mul_le_mul h.2 h.2 k (by omega)
  ·have:=Int.mul_le_mul (show -x≤67108864 by omega) (show -x≤67108864 by omega) (show 0≤-x by omega) (by omega)
   rwa [Int.neg_mul_neg]at this
 exact⟨w64 (by omega) (by omega),h1,by omega⟩
theorem xy7{a b:V3}(ha:inV a=true)(hb:inV b=true):i64.wrap (b.1-a.1)=b.1-a.1∧i64.wrap (b.2.1-a.2.1)=b.2.1-a.2.1∧i64.wrap (b.2.2-a.2.2)=b.2.2-a.2.2∧
  i64.wrap (i64.wrap (i64.wrap ((b.1-a.1)*(b.1-a.1))+i64.wrap ((b.2.1-a.2.1)*(b.2.1-a.2.1)))+i64.wrap ((b.2.2-a.2.2)*(b.2.2-a.2.2)))=sqs a b∧inR (sqs a b) 0 9223372036854775807=true:=by
 rw[qK9]at ha hb
 obtain⟨e1,p1,q1⟩:=xy4 (x:=b.1-a.1) (by omega)
 obtain⟨e2,p2,q2⟩:=xy4 (x:=b.2.1-a.2.1) (by omega)
 obtain⟨e3,p3,q3⟩:=xy4 (x:=b.2.2-a.2.2) (by omega)
 refine⟨w64 (by omega) (by omega),w64 (by omega) (by omega),w64 (by omega) (by omega),?_,v8.2 (by unfold sqs;omega)⟩
 rw[e1,e2,e3,w64 (x:=(b.1-a.1)*(b.1-a.1)+(b.2.1-a.2.1)*(b.2.1-a.2.1)) (by omega) (by omega),w64 (by omega) (by omega)]
 rfl
def xg1:Plan:=.fork (.all) (.all)
noncomputable def xg2(f:Fw)(p:V3)(e:Int):Tree StopX:=let y0:=i64.wrap (i64.wrap (i64.wrap (i64.wrap (p.1-f.loc.1)*i64.wrap (p.1-f.loc.1))+i64.wrap (i64.wrap (p.2.1-f.loc.2.1)*i64.wrap (p.2.1-f.loc.2.1)))+i64.wrap (i64.wrap (p.2.2-f.loc.2.2)*i64.wrap (p.2.2-f.loc.2.2))); .req (inR y0 0 9223372036854775807) (.node (isq y0==0) (.leaf (.fin (.ret (I64 (if i64.wrap (f.e-e)>i64.wrap (e-f.e)then i64.wrap (f.e-e)else i64.wrap (e-f.e))) [some (.cells (Fw.cells f))]))) (.leaf (.fin (.ret (I64 (isq y0)) [some (.cells (Fw.cells f))]))))
theorem xg0(f:Fw)(p:V3)(e:Int):xt5 (Env.ofB pP (v6 [z82]) (d7 []) (d9 []) (d8 []) (x7 []) (x7 []) (x7 []) (x7 [])) 1000 (j7 pP 216) 1 (x8 72 []) (u7 pP 216) xg1 (v9 pP 216 [.ptr 0 0,V3.sv p,I64 e]) [some (.cells f.cells)] =xg2 f p e:=by kernel_rfl
theorem xf9(f:Fw)(p:V3)(e:Int)(h:qV7 f p e=true):zb3 pP 216 [V3.sv p,I64 e] f (I64 (qV4 f p e),f):=
 qo7 (hB (l:=[z82]) (k:=[]) (j:=[]) (i:=[]) ([] :List Nat) ([] :List Nat) ([] :List Nat) ([] :List Nat) (⟨ym5,trivial⟩) o4 o4 o4) 1000 xg1 (keep:=(x8 72 [])) (t:=xg2 f p e) (xg0 f p e) (by
  unfold xg2
  have lp:=qV8.1 h
  obtain⟨x1,x2,x3,x4,x5⟩:=xy7 lp.1 lp.2.1
  have w1:=w64 (x:=e-f.e) (by omega) (by omega)
  have w2:=w64 (x:=f.e-e) (by omega) (by omega)
  rw[x1,x2,x3]
  simp only[x4,x5,w1,w2,Tree.holds,sL,ne_eq,sLb,sLc,eq_self,sLd,sLe,sLf];(repeat' (first|apply And.intro|intro _));
  all_goals first
   |rfl
   |(refine ends ?_ (x9.refl _) rfl;unfold qV4;refine xF9 ?_;(repeat' split)<;>omega)) (by kernel_rfl) (by kernel_rfl) (by kernel_rfl)
def zi3:Plan:=.all
noncomputable def zi4(f:Fw)(c:V4)(len line:Int):Tree StopX:= .req (yv9 len&&yv9 f.feed) (.req (qq5 f.queue.length) (.req (decide ((f.queue.length+ [(c,zg9 f.ma c,0,i64.wrap (xx7 f.ma c len f.feed*xx7 f.ma c len f.feed),0)].length)*64≤140737488355328)) (.req (decide (0≤(↑(f.queue++[(c,zg9 f.ma c,0,i64.wrap (xx7 f.ma c len f.feed*xx7 f.ma c len f.feed),0)]).length:Int))&& (↑(f.queue++[(c,zg9 f.ma c,0,i64.wrap (xx7 f.ma c len f.feed*xx7 f.ma c len f.feed),0)]).length:Int)==(↑(f.queue++[(c,zg9 f.ma c,0,i64.wrap (xx7 f.ma c len f.feed*xx7 f.ma c len f.feed),0)]).length:Int)&&decide (8*(↑(f.queue++[(c,zg9 f.ma c,0,i64.wrap (xx7 f.ma c len f.feed*xx7 f.ma c len f.feed),0)]).length:Int)≤140737488355328)&&decide ((↑(f.queue++[(c,zg9 f.ma c,0,i64.wrap (xx7 f.ma c len f.feed*xx7 f.ma c len f.feed),0)]).length:Int)≤(9223372036854775807:Int))) (.leaf (.at (j9 pP 215 0) 137 (j8 137 [(0,.ptr 0 0),(3,I64 line),(10,SV.row 1),(11,SV.row 2),(12,I64 1)]) [some (.cells (Fw.cells f)),some (.rows t6 (f.queue++[(c,zg9 f.ma c,0,i64.wrap (xx7 f.ma c len f.feed*xx7 f.ma c len f.feed),0)])),some (.rows (Ty.int IntKind.i64) (List.replicate (↑(f.queue++[(c,zg9 f.ma c,0,i64.wrap (xx7 f.ma c len f.feed*xx7 f.ma c len f.feed),0)]).length:Int).toNat (0:Int)))])))))
theorem ad0(f:Fw)(c:V4)(len line:Int):xt5 (Env.ofC (Env.ofB pP (v6 [qd1,z28,z84]) (d7 [qb5.frz]) (d9 []) (d8 []) (x7 []) (x7 []) (x7 []) (x7 [])) (yF3 [yf6,yf7])) 1000 (j7 pP 215) 1 (x8 137 [0,3,10,11,12]) (u7 pP 215) zi3 (v9 pP 215 [.ptr 0 0,V4.sv c,I64 len,I64 line]) [some (.cells f.cells)] =zi4 f c len line:=by kernel_rfl
def zi6:Plan:=let z0:Plan:=.fork (.fork (.lit (.all)) (.lit (.all))) (.lit (.all));.fork (.all) (.fork z0 (.fork z0 z0))
noncomputable def zi7(f:Fw)(line:Int)(q:List Bk)(s:List Int)(i:Int):Tree StopX:=let y0:Tree StopX:=.leaf (.fin (.ret (I64 2) [some (.cells (Fw.cells f))]));let y1:=decide ((f.lines.length+ [line].length)*8≤140737488355328);let y2:=f.queue.getD 0 dBk; .node (decide (i< (↑q.length:Int))) (.req (decide (0≤i64.wrap (i-1))&&decide (i64.wrap (i-1)< (↑q.length:Int))) (.req (decide ((i64.wrap (i-1)).toNat<q.length)) (.req (decide (0≤i)&&decide (i< (↑q.length:Int))) (.req (decide (i.toNat<q.length)) (.req (decide (0≤i)&&decide (i< (↑s.length:Int))) (.req (decide (i.toNat<s.length)) (.leaf (.at (j9 pP 215 0) 137 (j8 137 [(0,.ptr 0 0),(3,I64 line),(10,SV.row 1),(11,SV.row 2),(12,I64 (i64.wrap (i+1)))]) [some (.cells (Fw.cells f)),some (.rows t6 q),some (.rows (Ty.int IntKind.i64) (s.set i.toNat (i64.wrap (qQ5 f.ma (q.getD (i64.wrap (i-1)).toNat dBk).1 (q.getD i.toNat dBk).1*qQ5 f.ma (q.getD (i64.wrap (i-1)).toNat dBk).1 (q.getD i.toNat dBk).1))))])))))))) (.node (f.moving) (.req (yw8 q s f.mo.1.2.2.2.2) (.node (decide (f.mo.1.2.2.2.2≤crL q 0)) (.node (decide (gL q s f.mo.1.2.2.2.2 0=f.mo.1.2.2.2.2)) (.req (qq5 f.lines.length) (.req y1 (.leaf (.fin (.ret (I64 0) [some (.cells (Fw.cells {f with queue:=(plB q (gL q s f.mo.1.2.2.2.2)),lines:=(f.lines++[line])}))]))))) y0) y0)) (.node (decide ((↑f.queue.length:Int)>0)) (.req (decide (0< (↑f.queue.length:Int))) (.req (yw8 q s y2.2.2.1) (.node (decide (y2.2.2.1≤crL q 0)) (.node (decide (gL q s y2.2.2.1 0=y2.2.2.1)) (.req (qq5 f.lines.length) (.req y1 (.leaf (.fin (.ret (I64 0) [some (.cells (Fw.cells {f with queue:=(plB q (gL q s y2.2.2.1)),lines:=(f.lines++[line])}))]))))) y0) y0))) (.req (yw8 q s 0) (.node (decide (0≤crL q 0)) (.node (decide (gL q s 0 0=0)) (.req (qq5 f.lines.length) (.req y1 (.leaf (.fin (.ret (I64 0) [some (.cells (Fw.cells {f with queue:=(plB q (gL q s 0)),lines:=(f.lines++[line])}))]))))) y0) y0))))
theorem ad1(f:Fw)(line:Int)(q:List Bk)(s:List Int)(i:Int):xt5 (Env.ofC (Env.ofB pP (v6 [qd1,z28,z84]) (d7 [qb5.frz]) (d9 []) (d8 []) (x7 []) (x7 []) (x7 []) (x7 [])) (yF3 [yf6,yf7])) 1000 (j7 pP 215) 1 (x8 137 [0,3,10,11,12]) (j9 pP 215 0) zi6 (j8 137 [(0,.ptr 0 0),(3,I64 line),(10,.row 1),(11,.row 2),(12,I64 i)]) [some (.cells f.cells),some (.rows t6 q),some (.rows (.int .i64) s)] =zi7 f line q s i:=by kernel_rfl
def zk6(f:Fw)(c:V4)(len:Int):Bool:=okL f.ma c&& (yv9 len&& (yv9 f.feed&& (f.queue.all xx3&& (qW2 f&& (decide (f.queue.length≤1000)&&inR (z02 f) 0 1099511627776)))))
theorem zk7{f:Fw}{c:V4}{len:Int}:zk6 f c len=true↔okL f.ma c=true∧yv9 len=true∧yv9 f.feed=true∧(∀b∈f.queue,xx3 b=true)∧f.lines.length=f.queue.length∧f.queue.length≤1000∧0≤z02 f∧z02 f≤1099511627776:=by
 simp only[zk6,Bool.and_eq_true,List.all_eq_true,qW3,decide_eq_true_eq,v8]
theorem yw0{x:Int}:yv9 x=true↔-9223372036854775808≤x∧x≤9223372036854775807:=v8
theorem zF6(m:Ma)(q:List Bk)(i:Nat):0≤zF5 m q i∧zF5 m q i≤1099511627776:=by
 unfold zF5
 split
 ·omega
 ·have:=xy6 (qQ7 m (q.getD (i-1) dBk).1 (q.getD i dBk).1);omega
theorem zG3(m:Ma)(q:List Bk):(zG2 m q).length=q.length:=by simp[zG2]
theorem zk8(f:Fw)(c:V4)(len:Int):(r9 f c len).length=f.queue.length+1:=by simp[r9]
theorem q93{f:Fw}{c:V4}{len:Int}(h:zk6 f c len=true):xx3 (q92 f.ma c len f.feed)=true:=by
 obtain⟨h1,h2,h3,_⟩:=zk7.1 h
 have a:=zh1 h1
 have s:=xx9 h1 (l:=len) (f:=f.feed) (yw0.1 h2).2 (yw0.1 h3).2
 have q:=xy5 (v:=xx7 f.ma c len f.feed) (M:=1048576) (by omega)
 exact xx4.2 ⟨(yw4.1 h1).2,a,by show 1≤xx7 f.ma c len f.feed*xx7 f.ma c len f.feed;omega,by show xx7 f.ma c len f.feed*xx7 f.ma c len f.feed≤1099511627776;omega⟩
theorem zm0{f:Fw}{c:V4}{len:Int}(h:zk6 f c len=true):PlOk (r9 f c len) (zG2 f.ma (r9 f c len)) (z02 f):=by
 have p:=zk7.1 h
 refine⟨by rw[zk8];omega,fun b hb=>?_,zG3 _ _,fun x hx=>?_,p.2.2.2.2.2.2⟩
 ·unfold r9 at hb
  rcases List.mem_append.1 hb with hb|hb
  ·exact p.2.2.2.1 b hb
  ·rw[List.mem_singleton.1 hb];exact q93 h
 ·unfold zG2 at hx
  obtain⟨i,_,rfl⟩:=List.mem_map.1 hx
  exact zF6 _ _ _
theorem zl9{f:Fw}{c:V4}{len:Int}(h:zk6 f c len=true):yw8 (r9 f c len) (zG2 f.ma (r9 f c len)) (z02 f)=true:=
 yw9.2 ⟨by have:=(zk7.1 h).2.2.2.2.2.1;rw[zk8];omega,zm0 h⟩
def zl1(f:Fw)(c:V4)(len:Int):Int:=if zk4 f c len=true then 0 else 2
def zl4(f:Fw)(c:V4)(len line:Int):Fw:=if zk4 f c len=true then f7 f c len line else f
theorem zG4{m:Ma}{q:List Bk}{s:List Int}(hs:s.length=q.length)(h:∀t,t<q.length→s.getD t 0=zF5 m q t):s=zG2 m q:=qX0 hs h
theorem wsq{v:Int}(hv:0≤v∧v≤1048576):i64.wrap (v*v)=v*v:=by
 have:=xy6 hv
 exact w64 (by omega) (by omega)
theorem zF7(m:Ma)(q:List Bk){i:Nat}(h:1≤i):zF5 m q i=qQ5 m (q.getD (i-1) dBk).1 (q.getD i dBk).1*qQ5 m (q.getD (i-1) dBk).1 (q.getD i dBk).1:=if_neg (by omega)
theorem zl3{f:Fw}{c:V4}{len:Int}(h:zk4 f c len=true):zl1 f c len=0:=if_pos h
theorem zl2{f:Fw}{c:V4}{len:Int}(h:¬zk4 f c len=true):zl1 f c len=2:=if_neg h
theorem zl6{f:Fw}{c:V4}{len line:Int}(h:zk4 f c len=true):zl4 f c len line=f7 f c len line:=if_pos h
theorem zl5{f:Fw}{c:V4}{len line:Int}(h:¬zk4 f c len=true):zl4 f c len line=f:=if_neg h
theorem wrA:∀x∈[qb5.frz],x.ok pP:=allQ.all (p:=WFact.ok pP) (l:=[qb5.frz]) ⟨Fact.frz_ok yq1,trivial⟩
theorem kA:Known pP (Env.ofC (Env.ofB pP (v6 [qd1,z28,z84]) (d7 [qb5.frz]) (d9 []) (d8 []) (x7 []) (x7 []) (x7 []) (x7 [])) (yF3 [yf6,yf7])):=
 qS5 (hB (l:=[qd1,z28,z84]) (k:=[qb5.frz]) (j:=[]) (i:=[]) [] [] [] [] ⟨ys0,yg4,ym7,trivial⟩ wrA o4 o4) (allQ.all (p:=OFact.ok pP) (l:=[yf6,yf7]) ⟨yo7,yo8,trivial⟩)
theorem zi5{f:Fw}{c:V4}{len:Int}(line:Int)(h:zk6 f c len=true):∀ (k i:Nat) (s:List Int),i+k=f.queue.length+1→1≤i→s.length=f.queue.length+1→(∀t,t<i→s.getD t 0=zF5 f.ma (r9 f c len) t)→
  zd3 pP (j7 pP 215) [] 1 (.ret (I64 (zl1 f c len)) [some (.cells (zl4 f c len line).cells)]) (j9 pP 215 0) (j8 137 [(0,.ptr 0 0),(3,I64 line),(10,.row 1),(11,.row 2),(12,I64 i)]) [some (.cells f.cells),some (.rows t6 (r9 f c len)),some (.rows (.int .i64) s)]
 |k,i,s,hi,h1,hs,hc=>by
  have p:=zk7.1 h
  have pl:=zl9 h
  have ql:=zk8 f c len
  refine y70 kA (n:=1000) (keep:=x8 137 [0,3,10,11,12]) (p:=zi6) (by show 1≤3;omega) ?_
  erw [ad1 f line (r9 f c len) s i]
  unfold zi7
  have t0:(i:Int).toNat=i:=by omega
  have wm:i64.wrap ((i:Int)-1)=((i-1:Nat):Int):=by rw[w64 (by omega) (by omega)];omega
  have tm:((i-1:Nat):Int).toNat=i-1:=by omega
  have w1:i64.wrap ((i:Int)+1)=((i+1:Nat):Int):=by rw[w64 (by omega) (by omega)];omega
  have jr:=qQ7 f.ma ((r9 f c len).getD (i-1) dBk).1 ((r9 f c len).getD i dBk).1
  match k,hi with
  |k+1,hi=>
   have hi2:(i:Int)< (r9 f c len).length:=by omega
   have ih:=zi5 line h k (i+1) (s.set i (zF5 f.ma (r9 f c len) i)) (by omega) (by omega) (by simpa using hs) (fun t ht=>by
    rw[xu5 (by omega)]
    split
    ·rename_i e;rw[e]
    ·exact hc t (by omega))
   rw[zF7 f.ma (r9 f c len) h1]at ih
   simp only[t0,wm,tm,w1,wsq jr,hi2,Tree.holds,decide_eq_true_eq,decide_eq_false_iff_not,Bool.and_eq_true,not_true_eq_false,false_implies,true_and,and_true,true_implies]
   exact⟨by omega,by omega,by omega,by omega,by omega,by omega,o8 _ _,ih⟩
  |0,hi=>
   have hi2:¬((i:Int)< (r9 f c len).length):=by omega
   have es:s=zG2 f.ma (r9 f c len):=zG4 (by omega) fun t ht=>hc t (by omega)
   subst es
   have f2:qq5 f.lines.length=true:=qq6.2 (by omega)
   have l2:(f.lines.length+ [line].length)*8≤140737488355328:=by simp;omega
   have key:∀e,e=z02 f→(yw8 (r9 f c len) (zG2 f.ma (r9 f c len)) e=true∧((e≤crL (r9 f c len) 0→(gL (r9 f c len) (zG2 f.ma (r9 f c len)) e 0=e→Fin.ret (SV.int IntKind.i64 0) [some (Box.cells (Fw.cells {f with queue:=plB (r9 f c len) (gL (r9 f c len) (zG2 f.ma (r9 f c len)) e),lines:=f.lines++[line]}))] =.ret (I64 (zl1 f c len)) [some (.cells (zl4 f c len line).cells)])∧(¬gL (r9 f c len) (zG2 f.ma (r9 f c len)) e 0=e→Fin.ret (SV.int IntKind.i64 2) [some (Box.cells (Fw.cells f))] =.ret (I64 (zl1 f c len)) [some (.cells (zl4 f c len line).cells)]))∧(¬e≤crL (r9 f c len) 0→Fin.ret (SV.int IntKind.i64 2) [some (Box.cells (Fw.cells f))] =.ret (I64 (zl1 f c len)) [some (.cells (zl4 f c len line).cells)]))):=fun e he=>by
    subst he
    refine⟨pl,fun a=>⟨fun b=>?_,fun b=>?_⟩,fun a=>?_⟩
    ·have o:=zk5.2 ⟨a,b⟩
     rw[zl3 o,zl6 o];rfl
    ·have o:¬zk4 f c len=true:=fun o=>b (zk5.1 o).2
     rw[zl2 o,zl5 o];rfl
    ·have o:¬zk4 f c len=true:=fun o=>a (zk5.1 o).1
     rw[zl2 o,zl5 o];rfl
   have l0:(f.queue.length:Int)>0↔¬f.queue.length=0:=by omega
   cases hm:f.moving
   ·by_cases hq:f.queue.length=0
    ·have kk:=key 0 (by unfold z02;rw[hm,if_neg (by decide),if_pos hq])
     have hq0:¬((f.queue.length:Int)>0):=by omega
     simp only[hm]at kk
     simp only[hi2,hq0,f2,l2,Tree.holds,decide_eq_true_eq,decide_eq_false_iff_not,false_implies,true_and,true_implies,not_false_eq_true,Bool.false_eq_true]
     exact⟨kk.1,fun a=>⟨fun b=>(kk.2.1 a).1 b,fun b=>(kk.2.1 a).2 b⟩,fun a=>kk.2.2 a⟩
    ·have kk:=key (f.queue.getD 0 dBk).2.2.1 (by unfold z02;rw[hm,if_neg (by decide),if_neg hq])
     have hq0:(f.queue.length:Int)>0:=by omega
     have hq1:(0:Int)<f.queue.length:=by omega
     simp only[hm]at kk
     simp only[hi2,hq0,hq1,f2,l2,Tree.holds,decide_eq_true_eq,decide_eq_false_iff_not,false_implies,true_and,true_implies,not_false_eq_true,not_true_eq_false,Bool.false_eq_true,and_true]
     exact⟨kk.1,fun a=>⟨fun b=>(kk.2.1 a).1 b,fun b=>(kk.2.1 a).2 b⟩,fun a=>kk.2.2 a⟩
   ·have kk:=key f.mo.1.2.2.2.2 (by unfold z02;rw[hm,if_pos rfl])
    simp only[hm]at kk
    simp only[hi2,hm,f2,l2,Tree.holds,decide_eq_true_eq,decide_eq_false_iff_not,false_implies,true_and,true_implies,not_false_eq_true,Bool.true_eq_false,and_true]
    exact⟨kk.1,fun a=>⟨fun b=>(kk.2.1 a).1 b,fun b=>(kk.2.1 a).2 b⟩,fun a=>kk.2.2 a⟩
theorem y84(f:Fw)(c:V4)(len line:Int)(h:zk6 f c len=true):zb3 pP 215 [V4.sv c,I64 len,I64 line] f (I64 (zl1 f c len),zl4 f c len line):=by
 have p:=zk7.1 h
 have ql:=zk8 f c len
 have sr:=xx9 p.1 (l:=len) (f:=f.feed) (yw0.1 p.2.1).2 (yw0.1 p.2.2.1).2
 have w:=wsq (v:=xx7 f.ma c len f.feed) (by omega)
 refine qo6 (cs:=(zl4 f c len line).cells) (by kernel_rfl) rfl rfl rfl (x9.refl _) (y70 kA (n:=1000) (keep:=x8 137 [0,3,10,11,12]) (p:=zi3) (Nat.le_refl _) ?_)
 have q:=ad0 f c len line
 unfold v9 u7 at q
 erw [q]
 unfold zi4
 have lp:=zi5 line h f.queue.length 1 (List.replicate (r9 f c len).length 0) (by omega) (by omega) (by simp[ql]) (fun t ht=>by
  have:t=0:=by omega
  subst this
  rw[ql];rfl)
 have tn:((r9 f c len).length:Int).toNat=(r9 f c len).length:=by omega
 rw[w]
 simp only[show f.queue++[(c,zg9 f.ma c,0,xx7 f.ma c len f.feed*xx7 f.ma c len f.feed,0)] =r9 f c len from rfl,tn,Tree.holds,Bool.and_eq_true,decide_eq_true_eq,beq_self_eq_true,and_true,true_and]
 refine⟨⟨p.2.1,p.2.2.1⟩,qq6.2 (by omega),by simp;omega,⟨⟨by omega,by omega⟩,by omega⟩,o8 _ _,lp⟩
def zs8:BFact:=zz1 215 fun f rest=>match rest with
 |[.agg [.int .i64 a,.int .i64 b,.int .i64 c,.int .i64 d],.int .i64 len,.int .i64 line] =>some (.req (zk6 f (a,b,c,d) len) (.node (zk4 f (a,b,c,d) len) (.leaf (I64 0,f7 f (a,b,c,d) len line)) (.leaf (I64 2,f))))
 |_=>none
theorem yh5:zs8.ok pP:=zz2 fun f rest t ht=>by
 split at ht
 ·rename_i a b c d len line
  injection ht with ht;subst ht
  intro h
  have k:=y84 f (a,b,c,d) len line h
  refine⟨fun o=>?_,fun o=>?_⟩
  ·rw[zl3 o,zl6 o]at k;exact k
  ·have o:¬zk4 f (a,b,c,d) len=true:=by rw[o];exact Bool.false_ne_true
   rw[zl2 o,zl5 o]at k;exact k
 ·cases ht
def yT4:BFact:=y33 213 fun f rest=>match rest with
 |[.agg [.int .i64 a0,.int .i64 a1,.int .i64 a2,.int .i64 a3,.int .i64 a4,.int .i64 a5,.int .i64 a6,.int .i64 a7]] =>some (.leaf (.tuple [V3.sv (f6 f ⟨a0,a1,a2,a3,a4,a5,a6,a7⟩),I64 (xH1 f ⟨a0,a1,a2,a3,a4,a5,a6,a7⟩)]))
 |_=>none
theorem yr6:yT4.ok pP:=y34 fun f rest t ht=>by
 split at ht
 ·injection ht with ht;subst ht;exact xo6 f ⟨_,_,_,_,_,_,_,_⟩
 ·cases ht
def yT0:BFact:=y33 216 fun f rest=>match rest with
 |[.agg [.int .i64 x,.int .i64 y,.int .i64 z],.int .i64 e] =>some (.req (qV7 f (x,y,z) e) (.leaf (I64 (qV4 f (x,y,z) e))))
 |_=>none
theorem yr4:yT0.ok pP:=y34 fun f rest t ht=>by
 split at ht
 ·injection ht with ht;subst ht;exact fun h=>xf9 f (_,_,_) _ h
 ·cases ht
noncomputable def qP1:List Item:=xD3 (xt5 (Env.ofB pP (v6 [z96,z81,z70,z95,qa0]) (d7 []) (d9 [BFact.toP yT4]) (d8 [yT4]) (x7 []) (x7 []) (x7 []) (x7 [12])) 1000 (j7 pP 146) 1 (x8 152 []) (u7 pP 146) .all (v9 pP 146 [.ptr 0 0,I64 1,(⟨0,0,0,0,0,0,0,0⟩:Gc.C).sv]) [some (.cells fw0.cells)])
def q71:Plan:=let z1:Plan:=.lit (.lit (.lit .all));let z0:Plan:=.fork (.fork z1 (.ln 3 (.fork (.ln 12 (.fork .all .all)) (.ln 12 (.lit .all))))) (.fork z1 z1);.fork (.ln 19 (.lit .all)) (.ln 6 (.fork (.ln 12 (.lit .all)) (.ln 5 (.fork (.ln 6 (.lit .all)) (.ln 6 (.fork .all (.fork z0 z0)))))))
noncomputable def q72(f:Fw)(line:Int)(c:Gc.C):Tree StopX:=let y3:={f with feed:=c.f};let y5:Tree StopX:=.leaf (.fin (.ret (I64 14) [some (.cells (Fw.cells f))]));let y6:Box:=.cells (Fw.cells {f with feed:=c.f});let y7:Tree StopX:=.leaf (.fin (.ret (I64 8) [some (.cells (Fw.cells f))]));let y8:=((f6 y3 c).1,(f6 y3 c).2);let y0:=q53 f.ma y8 (xH1 y3 c);let y2:Tree StopX:=.req (q66 y3&&yS7 y3) (.leaf (.at qP1 152 (j8 152 [(0,.ptr 0 0),(1,I64 line),(7,.ptr 1 0),(8,I64 (xH1 y3 c)),(9,.ptr 2 0),(11,.ptr 3 0)]) [some y6,some (.cells [I64 (f6 y3 c).1,I64 (f6 y3 c).2.1,I64 (f6 y3 c).2.2]),some (.cells [I64 y0.1,I64 y0.2.1,I64 y0.2.2.1,I64 y0.2.2.2]),some (.cells [I64 (wsub4 y0 (qy4 y3)).1,I64 (wsub4 y0 (qy4 y3)).2.1,I64 (wsub4 y0 (qy4 y3)).2.2.1,I64 (wsub4 y0 (qy4 y3)).2.2.2])]));let y9:=((f6 f c).1,(f6 f c).2);let y4:=q53 f.ma y9 (xH1 f c);let y1:Tree StopX:=.req (q66 f&&yS7 f) (.leaf (.at qP1 152 (j8 152 [(0,.ptr 0 0),(1,I64 line),(7,.ptr 1 0),(8,I64 (xH1 f c)),(9,.ptr 2 0),(11,.ptr 3 0)]) [some (.cells (Fw.cells f)),some (.cells [I64 (f6 f c).1,I64 (f6 f c).2.1,I64 (f6 f c).2.2]),some (.cells [I64 y4.1,I64 y4.2.1,I64 y4.2.2.1,I64 y4.2.2.2]),some (.cells [I64 (wsub4 y4 (qy4 f)).1,I64 (wsub4 y4 (qy4 f)).2.1,I64 (wsub4 y4 (qy4 f)).2.2.1,I64 (wsub4 y4 (qy4 f)).2.2.2])]));let y10:Tree StopX:=.leaf (.fin (.ret (I64 8) [some y6])); .node (decide (line<1)) y5 (.node (!f.homed) y5 (.node (f.back) y5 (.node (f.mode != 1) y5 (.node (i64.wrap (↑(BitVec.ofInt 64 c.has &&&BitVec.ofInt 64 16).toNat:Int) != 0) (.node (q46 f.ma y8 (xH1 y3 c)) (.node (!qL2 f.ma y8) y10 (.node (decide (xH1 y3 c>f.e)) (.req true (.node (decide (f.r0<f.cold)) (.leaf (.fin (.ret (I64 15) [some y6]))) y2)) y2)) (.node (!qL2 f.ma y8) y10 y10)) (.node (q46 f.ma y9 (xH1 f c)) (.node (!qL2 f.ma y9) y7 (.node (decide (xH1 f c>f.e)) (.req true (.node (decide (f.r0<f.cold)) (.leaf (.fin (.ret (I64 15) [some (.cells (Fw.cells f))]))) y1)) y1)) (.node (!qL2 f.ma y9) y7 y7))))))
theorem mv0(f:Fw)(line:Int)(c:Gc.C):xt5 (Env.ofB pP (v6 [z96,z81,z70,z95,qa0]) (d7 []) (d9 [BFact.toP yT4]) (d8 [yT4]) (x7 []) (x7 []) (x7 []) (x7 [12])) 1000 (j7 pP 146) 1 (x8 152 [0,1,7,8,9,11]) (u7 pP 146) q71 (v9 pP 146 [.ptr 0 0,I64 line,c.sv]) [some (.cells f.cells)] =q72 f line c:=by kernel_rfl
def q73:Plan:=let z0:Plan:=.fork (.fork (.lit .all) (.lit .all)) .all;.fork (.ln 3 (.lit .all)) (.ln 3 (.fork .all (.fork (.ln 7 (.fork .all z0)) (.ln 8 z0))))
noncomputable def q75(f:Fw)(line:Int)(u:V3)(e:Int)(p d:V4):Tree StopX:=let y1:Tree StopX:=.leaf (.fin (.ret (I64 2) [some (.cells (Fw.cells f))]));let y2:=!(d.1==0&& (d.2.1==0&& (d.2.2.1==0&& (d.2.2.2==0&&true))));let y0:Tree StopX:=.node y2 (.req (qV7 f u e) (.req (qV7 f u e) (.req (zk6 f d (qV4 f u e)) (.node (zk4 f d (qV4 f u e)) (.leaf (.fin (.ret (I64 0) [some (.cells (Fw.cells { (f7 f d (qV4 f u e) line)with loc:=u,e:=e}))]))) y1)))) (.leaf (.fin (.ret (I64 0) [some (.cells (Fw.cells {f with loc:=u,e:=e}))]))); .node (!v7 p) y1 (.node (!v7 d) y1 (.node y2 (.node (decide ((↑f.queue.length:Int)≥32)) (.leaf (.fin (.ret (I64 18) [some (.cells (Fw.cells f))]))) y0) y0))
theorem mv1(f:Fw)(line:Int)(u:V3)(e:Int)(p d:V4):xt5 (Env.ofB pP (v6 [z96,z81,z70,z95,qa0]) (d7 []) (d9 [BFact.toP zs8,BFact.toP yT0]) (d8 [zs8,yT0]) (x7 []) (x7 []) (x7 []) (x7 [])) 1000 (j7 pP 146) 1 (x8 152 [0,1,7,8,9,11]) qP1 q73 (j8 152 [(0,.ptr 0 0),(1,I64 line),(7,.ptr 1 0),(8,I64 e),(9,.ptr 2 0),(11,.ptr 3 0)]) [some (.cells f.cells),some (.cells (V3.cells u)),some (.cells (V4.cells p)),some (.cells (V4.cells d))] =q75 f line u e p d:=by kernel_rfl
theorem nzT(d:V4):(!(d.1==0&& (d.2.1==0&& (d.2.2.1==0&& (d.2.2.2==0&&true)))))=nz4 d:=by
 unfold nz4;rw[Bool.and_true]
section
variable {g:Fw} {line e:Int} {u:V3} {p d:V4}
theorem xO4(h:(v7 p&&v7 d)=false):tlE g u e p d=2:=by unfold tlE;rw[h]
theorem xO7(h:(v7 p&&v7 d)=true)(k:nz4 d=false):tlE g u e p d=0:=by unfold tlE;rw[h,k]
theorem xO5(h:(v7 p&&v7 d)=true)(k:nz4 d=true)(q:32≤g.queue.length):tlE g u e p d=18:=by unfold tlE;rw[h,k];exact if_pos q
theorem xO8(h:(v7 p&&v7 d)=true)(k:nz4 d=true)(q:¬32≤g.queue.length)(o:zk4 g d (qV4 g u e)=true):tlE g u e p d=0:=by unfold tlE;rw[h,k];dsimp only;rw[if_neg q,if_pos o]
theorem xO6(h:(v7 p&&v7 d)=true)(k:nz4 d=true)(q:¬32≤g.queue.length)(o:¬zk4 g d (qV4 g u e)=true):tlE g u e p d=2:=by unfold tlE;rw[h,k];dsimp only;rw[if_neg q,if_neg o]
theorem xP2(h:¬tlE g u e p d=0):tlO g line u e p d=g:=if_neg h
theorem xP3(h:tlE g u e p d=0):tlO g line u e p d=tlF g line u e d:=if_pos h
theorem xP0(k:nz4 d=false):tlF g line u e d={g with loc:=u,e:=e}:=by unfold tlF;rw[k]
theorem xP1(k:nz4 d=true):tlF g line u e d={f7 g d (qV4 g u e) line with loc:=u,e:=e}:=by unfold tlF;rw[k]
theorem kMv:Known pP (Env.ofB pP (v6 [z96,z81,z70,z95,qa0]) (d7 []) (d9 [BFact.toP zs8,BFact.toP yT0]) (d8 [zs8,yT0]) (x7 []) (x7 []) (x7 []) (x7 [])):=
 hB (l:=[z96,z81,z70,z95,qa0]) (k:=[]) (j:=[BFact.toP zs8,BFact.toP yT0]) (i:=[zs8,yT0]) [] [] [] [] ⟨yn8,ym4,yl3,yn7,yo2,trivial⟩ o4 (allQ.all (p:=PFact.ok pP) (l:=[BFact.toP zs8,BFact.toP yT0]) ⟨BFact.toP_ok yh5,BFact.toP_ok yr4,trivial⟩) (allQ.all (p:=BFact.ok pP) (l:=[zs8,yT0]) ⟨yh5,yr4,trivial⟩)
theorem kMh:Known pP (Env.ofB pP (v6 [z96,z81,z70,z95,qa0]) (d7 []) (d9 [BFact.toP yT4]) (d8 [yT4]) (x7 []) (x7 []) (x7 []) (x7 [12])):=
 hB (l:=[z96,z81,z70,z95,qa0]) (k:=[]) (j:=[BFact.toP yT4]) (i:=[yT4]) [] [] [] [12] ⟨yn8,ym4,yl3,yn7,yo2,trivial⟩ o4 (allQ.all (p:=PFact.ok pP) (l:=[BFact.toP yT4]) ⟨BFact.toP_ok yr6,trivial⟩) (allQ.all (p:=BFact.ok pP) (l:=[yT4]) ⟨yr6,trivial⟩)
theorem q74(hl:v7 d=true→nz4 d=true→¬32≤g.queue.length→qV7 g u e=true∧zk6 g d (qV4 g u e)=true):
  zd3 pP (j7 pP 146) [] 1 (.ret (I64 (tlE g u e p d)) [some (.cells (tlO g line u e p d).cells)]) qP1 (j8 152 [(0,.ptr 0 0),(1,I64 line),(7,.ptr 1 0),(8,I64 e),(9,.ptr 2 0),(11,.ptr 3 0)]) [some (.cells g.cells),some (.cells (V3.cells u)),some (.cells (V4.cells p)),some (.cells (V4.cells d))] :=by
 refine y70 kMv (n:=1000) (keep:=x8 152 [0,1,7,8,9,11]) (p:=q73) (by show 1≤4;omega) ?_
 erw [mv1 g line u e p d]
 unfold q75
 rw[nzT]
 cases hp:v7 p
 ·have h:(v7 p&&v7 d)=false:=by rw[hp];rfl
  have k:=xO4 (g:=g) (u:=u) (e:=e) h
  rw[k,xP2 (by rw[k];decide)]
  exact⟨fun _=>rfl,fun c=>by cases c⟩
 cases hd:v7 d
 ·have h:(v7 p&&v7 d)=false:=by rw[hp,hd];rfl
  have k:=xO4 (g:=g) (u:=u) (e:=e) h
  rw[k,xP2 (by rw[k];decide)]
  exact⟨fun c=>(by cases c),fun _=>⟨fun _=>rfl,fun c=>by cases c⟩⟩
 have h:(v7 p&&v7 d)=true:=by rw[hp,hd];rfl
 refine⟨fun c=>(by cases c),fun _=>⟨fun c=>(by cases c),fun _=>?_⟩⟩
 cases hz:nz4 d
 ·have k:=xO7 (g:=g) (u:=u) (e:=e) h hz
  rw[k,xP3 k,xP0 hz]
  exact⟨fun c=>(by cases c),fun _=>⟨fun c=>(by cases c),fun _=>rfl⟩⟩
 by_cases hq:32≤g.queue.length
 ·have k:=xO5 (g:=g) (u:=u) (e:=e) h hz hq
  rw[k,xP2 (by rw[k];decide)]
  exact⟨fun _=>⟨fun _=>rfl,fun c=>absurd (of_decide_eq_false c) (fun n=>n (by omega))⟩,fun c=>by cases c⟩
 ·obtain⟨l1,l2⟩:=hl hd hz hq
  refine⟨fun _=>⟨fun c=>absurd (of_decide_eq_true c) (by omega),fun _=>⟨fun _=>⟨l1,l1,l2,fun o=>?_,fun o=>?_⟩,fun c=>by cases c⟩⟩,fun c=>by cases c⟩
  ·have k:=xO8 (g:=g) (u:=u) (e:=e) h hz hq o
   rw[k,xP3 k,xP1 hz];rfl
  ·have k:=xO6 (g:=g) (u:=u) (e:=e) h hz hq (by rw[o];exact Bool.false_ne_true)
   rw[k,xP2 (by rw[k];decide)];rfl
end
structure VF (f:Fw):Prop where
 ma:f.ma.ok=true
 c0:f.c0.ok=true
 c1:f.c1.ok=true
 g0:f.g0.ok=true
 g1:f.g1.ok=true
 mode:1≤f.mode∧f.mode≤3
 nums:(-16777216≤f.loc.1∧f.loc.1≤16777216)∧(-16777216≤f.loc.2.1∧f.loc.2.1≤16777216)∧(-16777216≤f.loc.2.2∧f.loc.2.2≤16777216)∧(-16777216≤f.e∧f.e≤16777216)∧(0≤f.feed∧f.feed≤1048576)∧(0≤f.dwell∧f.dwell≤1048576)∧(0≤f.waits∧f.waits≤3)∧(0≤f.fan∧f.fan≤255)∧(0≤f.line∧f.line≤1099511627776)∧(0≤f.active∧f.active≤1099511627776)∧(0≤f.ticks∧f.ticks≤1099511627776)∧0≤f.cold∧f.cold≤400000
 moves:q66 f=true
 queued:yS7 f=true
 ends:(¬f.mode=3∧f.homed=true)∨(f.moving=false∧f.queue.length=0)
 len:f.queue.length≤32
 lens:f.lines.length=f.queue.length
 pos:v7 f.pos=true
 ret:v7 f.ret=true
 beg:v7 (begin4 f)=true
 q0:v7 (yS4 f)=true
 blk:∀i,i<f.queue.length→zA6 (yS4 f) f.queue f.lines i=true
theorem p7{f:Fw}(h:v5 f=true):VF f:=by
 obtain⟨h1,h2,h3,h4,h5⟩:=xW9.1 h
 obtain⟨a1,a2,a3,a4,a5⟩:=yK1.1 h1
 obtain⟨b1,b2⟩:=q42.1 h2
 obtain⟨q1,q2,q3,q4,q5,q6,q7⟩:=yS8.1 h4
 exact⟨a1,a2,a3,a4,a5,b1,ye0.1 b2,h3,h4,zZ6.1 h5,q1,q2,q3,q4,q5,q6,q7⟩
theorem qw5{α:Type}{l:List α}{x d:α}(h:x∈l):∃i,i<l.length∧l.getD i d=x:=by
 obtain⟨i,hi,e⟩:=List.getElem_of_mem h
 exact⟨i,hi,by rw[List.getD_eq_getElem?_getD,List.getElem?_eq_getElem hi];exact e⟩
theorem zA9{p:V4}{q:List Bk}{ls:List Int}{i:Nat}(h:zA6 p q ls i=true):xW7 (q.getD i dBk)=true∧(0≤ls.getD i 0∧ls.getD i 0≤1099511627776)∧v7 (yO6 p q (i+1))=true:=by
 simp only[zA6,Bool.and_eq_true,v8]at h;exact h
theorem VF.blocks{f:Fw}(v:VF f):∀b∈f.queue,xW7 b=true:=fun b hb=>by
 obtain⟨i,hi,rfl⟩:=qw5 (d:=dBk) hb
 exact(zA9 (v.blk i hi)).1
theorem VF.linesR{f:Fw}(v:VF f):∀n∈f.lines,0≤n∧n≤1099511627776:=fun n hn=>by
 obtain⟨i,hi,rfl⟩:=qw5 (d:=(0:Int)) hn
 exact(zA9 (v.blk i (by have:=v.lens;omega))).2.1
theorem VF.shape{f:Fw}(v:VF f):xv2 f=true:=xv3.2 ⟨q89 v.pos,v.lens,v.len,by have:=v.nums;omega,by have:=v.nums;omega,v.linesR⟩
theorem VF.goal{f:Fw}(v:VF f):v7 (qy4 f)=true:=by
 unfold qy4
 cases hq:f.queue.length with
 |zero=>exact v.q0
 |succ n=>exact(zA9 (v.blk n (by omega))).2.2
theorem VF.sound{f:Fw}(v:VF f):∀b∈f.queue,xx3 b=true:=fun b hb=>by
 have:=v.blocks b hb
 unfold xW7 at this
 rw[Bool.and_eq_true]at this
 exact this.1
theorem VF.entry{f:Fw}(v:VF f):0≤z02 f∧z02 f≤1099511627776:=by
 unfold z02
 split
 ·rename_i hm
  have m:=v.moves
  rw[q68 hm]at m
  have r:=xW8.1 (y66.1 m).1
  omega
 ·split
  ·omega
  ·rename_i hq
   have r:=xW8.1 (zA9 (v.blk 0 (by omega))).1
   omega
theorem q54{m:Ma}{u:V3}{e:Int}(h:q46 m u e=true):zz3 (q53 m u e)=true:=by
 obtain⟨h1,h2,h3,h4⟩:=q47.1 h
 have o:=(Ma.ok_iff m).1 (xz3.1 h1).1
 have r1:=(xz6 o.1 (xz3.1 h1).2).2
 have r2:=(xz6 o.2.1 (xz3.1 h2).2).2
 have r3:=(xz6 o.2.2.1 (xz3.1 h3).2).2
 have r4:=(xz6 o.2.2.2.1 (xz3.1 h4).2).2
 rw[zz4]
 unfold q53 zL7
 split<;>dsimp only<;>omega
theorem qV5{f:Fw}{u:V3}{e:Int}(h:qV7 f u e=true):0≤qV4 f u e∧qV4 f u e≤4611686018427387904:=by
 have p:=qV8.1 h
 have a:=qO8 (sqs f.loc u)
 have b:=qO6 (sqs f.loc u)
 unfold qV4
 split
 ·split<;>omega
 ·omega
theorem xV6{c:Gc.C}(h:c.valid=true):0≤c.f∧c.f≤1048576:=by
 unfold Gc.C.valid at h
 rw[Bool.and_eq_true]at h
 have r:=h.2
 simp only[Gc.rest,Bool.and_eq_true]at r
 have h4:Gc.okW c 4=true:=r.2.2.2.2.1
 unfold Gc.okW at h4
 have e:c.num 4=c.f:=by unfold Gc.C.num;simp
 have e1:Gc.lo c.code 4=1:=by unfold Gc.lo;simp
 have e2:Gc.hi c.code 4=1048576:=by unfold Gc.hi;simp
 rw[e,e1,e2]at h4
 split at h4
 ·have:=beq_iff_eq.1 h4;omega
 ·have:=v8.1 h4;omega
section
variable {f:Fw} {line:Int} {c:Gc.C}
theorem q77(k:line<1∨f.homed=false∨f.back=true∨¬f.mode=1):q58 f line c=14∧q63 f line c=f:=by
 have e:q61 f line c=14:=if_pos k
 unfold q58 q63
 rw[e]
 exact⟨if_neg (by decide),by rw[if_neg (by decide),if_pos rfl]⟩
theorem q79(k:¬(line<1∨f.homed=false∨f.back=true∨¬f.mode=1))(k2:qL2 f.ma (f6 f c)=false∨q46 f.ma (f6 f c) (xH1 f c)=false):q58 f line c=8∧q63 f line c=b7 f c:=by
 have e:q61 f line c=8:=by unfold q61;rw[if_neg k,if_pos k2]
 unfold q58 q63
 rw[e]
 exact⟨if_neg (by decide),by rw[if_neg (by decide),if_neg (by decide)]⟩
theorem q78(k:¬(line<1∨f.homed=false∨f.back=true∨¬f.mode=1))(k2:¬(qL2 f.ma (f6 f c)=false∨q46 f.ma (f6 f c) (xH1 f c)=false))(k3:f.e<xH1 f c∧f.r0<f.cold):q58 f line c=15∧q63 f line c=b7 f c:=by
 have e:q61 f line c=15:=by unfold q61;rw[if_neg k,if_neg k2,if_pos k3]
 unfold q58 q63
 rw[e]
 exact⟨if_neg (by decide),by rw[if_neg (by decide),if_neg (by decide)]⟩
theorem q76(k:¬(line<1∨f.homed=false∨f.back=true∨¬f.mode=1))(k2:¬(qL2 f.ma (f6 f c)=false∨q46 f.ma (f6 f c) (xH1 f c)=false))(k3:¬(f.e<xH1 f c∧f.r0<f.cold)):q58 f line c=tlE (b7 f c) (f6 f c) (xH1 f c) (q64 f c) (q60 f c)∧q63 f line c=tlO (b7 f c) line (f6 f c) (xH1 f c) (q64 f c) (q60 f c):=by
 have e:q61 f line c=0:=by unfold q61;rw[if_neg k,if_neg k2,if_neg k3]
 unfold q58 q63
 rw[e]
 exact⟨if_pos rfl,if_pos rfl⟩
theorem qq2(h:qC1 c.has 16=true):b7 f c={f with feed:=c.f}:=if_pos h
theorem qq1(h:¬qC1 c.has 16=true):b7 f c=f:=if_neg h
theorem qq3(v:VF f)(hc:c.valid=true):0≤(b7 f c).feed∧(b7 f c).feed≤1048576:=by
 unfold b7
 split
 ·exact xV6 hc
 ·have:=v.nums;omega
theorem q80(v:VF f)(hc:c.valid=true)(ki:qL2 f.ma (f6 f c)=true)(km:q46 f.ma (f6 f c) (xH1 f c)=true){d:V4}(hd:v7 d=true)(hz:nz4 d=true):qV7 (b7 f c) (f6 f c) (xH1 f c)=true∧zk6 (b7 f c) d (qV4 (b7 f c) (f6 f c) (xH1 f c))=true:=by
 have n:=v.nums
 have o:=(Ma.ok_iff f.ma).1 v.ma
 have ii:=qL3.1 ki
 have a1:=(Ax.ok_iff _).1 o.1
 have a2:=(Ax.ok_iff _).1 o.2.1
 have a3:=(Ax.ok_iff _).1 o.2.2.1
 have mm:=(q47.1 km).2.2.2
 have me:=(xz3.1 mm).2
 have iu:inV (f6 f c)=true:=qK9.2 (by omega)
 have il:inV f.loc=true:=qK9.2 (by omega)
 have fl:(b7 f c).loc=f.loc:=by unfold b7;split<;>rfl
 have fe:(b7 f c).e=f.e:=by unfold b7;split<;>rfl
 have fm:(b7 f c).ma=f.ma:=by unfold b7;split<;>rfl
 have fq:(b7 f c).queue=f.queue:=by unfold b7;split<;>rfl
 have fn:(b7 f c).lines=f.lines:=by unfold b7;split<;>rfl
 have fy:z02 (b7 f c)=z02 f:=by unfold b7;split<;>rfl
 have lp:qV7 (b7 f c) (f6 f c) (xH1 f c)=true:=qV8.2 ⟨by rw[fl];exact il,iu,by rw[fe];omega,by omega⟩
 have lr:=qV5 lp
 have fr:=qq3 v hc
 have en:=v.entry
 refine⟨lp,zk7.2 ⟨yw4.2 ⟨by rw[fm];exact v.ma,?_⟩,yw0.2 (by omega),yw0.2 (by omega),by rw[fq];exact v.sound,by rw[fn,fq];exact v.lens,by rw[fq];have:=v.len;omega,by rw[fy];exact en⟩⟩
 unfold okC;rw[hd,hz];rfl
theorem xh9(h:v5 f=true)(hc:c.valid=true):zb3 pP 146 [I64 line,c.sv] f (I64 (q58 f line c),q63 f line c):=by
 have v:=p7 h
 refine qo6 (cs:=(q63 f line c).cells) (by kernel_rfl) rfl rfl rfl (x9.refl _) (y70 kMh (n:=1000) (keep:=x8 152 [0,1,7,8,9,11]) (p:=q71) (Nat.le_refl _) ?_)
 have q:=mv0 f line c
 unfold v9 u7 at q
 erw [q]
 unfold q72
 by_cases k:line<1∨f.homed=false∨f.back=true∨¬f.mode=1
 ·obtain⟨eA,eO⟩:=q77 (c:=c) k
  rw[eA,eO]
  refine⟨fun _=>rfl,fun a=>⟨fun _=>rfl,fun b=>⟨fun _=>rfl,fun d=>⟨fun _=>rfl,fun e=>?_⟩⟩⟩⟩
  exfalso
  have a:=of_decide_eq_false a
  have e:=bne_eq_false_iff_eq.1 e
  rcases k with k|k|k|k
  ·exact a k
  ·rw[k]at b;cases b
  ·rw[k]at d;cases d
  ·exact k e
 ·have mq:(q66 f&&yS7 f)=true:=by rw[v.moves,v.queued];rfl
  refine⟨fun a=>absurd (.inl (of_decide_eq_true a)) k,fun _=>⟨fun a=>absurd (.inr (.inl (by simpa using a))) k,fun _=>⟨fun a=>absurd (.inr (.inr (.inl a))) k,fun _=>⟨fun a=>absurd (.inr (.inr (.inr (bne_iff_ne.1 a)))) k,fun _=>?_⟩⟩⟩⟩
  have out:∀g:Fw,b7 f c=g→(qL2 f.ma (f6 f c)=true→q46 f.ma (f6 f c) (xH1 f c)=true→¬(f.e<xH1 f c∧f.r0<f.cold)→
    zd3 pP (j7 pP 146) [] 1 (.ret (I64 (q58 f line c)) [some (.cells (q63 f line c).cells)]) qP1 (j8 152 [(0,.ptr 0 0),(1,I64 line),(7,.ptr 1 0),(8,I64 (xH1 f c)),(9,.ptr 2 0),(11,.ptr 3 0)]) [some (.cells g.cells),some (.cells (V3.cells (f6 f c))),some (.cells (V4.cells (q64 f c))),some (.cells (V4.cells (wsub4 (q64 f c) (qy4 f))))]):=fun g hg ki km kk=>by
   obtain⟨eA,eO⟩:=q76 k (fun n=>by rcases n with n|n;rw[ki]at n;cases n;rw[km]at n;cases n) kk
   have hw:wsub4 (q64 f c) (qy4 f)=q60 f c:=x48 (q54 km) (q89 v.goal)
   rw[eA,eO,hw,←hg]
   exact q74 fun hd hz _=>q80 v hc ki km hd hz
  refine⟨fun w=>?_,fun w=>?_⟩
  ·have hf:b7 f c={f with feed:=c.f}:=qq2 (qC2.2 (bne_iff_ne.1 w))
   refine⟨fun m=>⟨fun i=>?_,fun i=>⟨fun t=>⟨rfl,fun r=>?_,fun r=>⟨mq,o8 _ _,?_⟩⟩,fun t=>⟨mq,o8 _ _,?_⟩⟩⟩,fun m=>⟨fun i=>?_,fun i=>?_⟩⟩
   ·obtain⟨eA,eO⟩:=q79 (c:=c) k (.inl (by have i:(!qL2 f.ma (f6 f c))=true:=i;simpa using i))
    rw[eA,eO,hf];rfl
   ·have i:(!qL2 f.ma (f6 f c))=false:=i
    have m:q46 f.ma (f6 f c) (xH1 f c)=true:=m
    obtain⟨eA,eO⟩:=q78 (c:=c) k (fun n=>by rcases n with n|n;rw[n]at i;cases i;rw[m]at n;cases n) ⟨of_decide_eq_true t,of_decide_eq_true r⟩
    rw[eA,eO,hf];rfl
   ·have i:(!qL2 f.ma (f6 f c))=false:=i
    exact out _ hf (by simpa using i) m fun n=>absurd n.2 (of_decide_eq_false r)
   ·have i:(!qL2 f.ma (f6 f c))=false:=i
    exact out _ hf (by simpa using i) m fun n=>absurd n.1 (of_decide_eq_false t)
   ·obtain⟨eA,eO⟩:=q79 (c:=c) k (.inr m)
    rw[eA,eO,hf];rfl
   ·obtain⟨eA,eO⟩:=q79 (c:=c) k (.inr m)
    rw[eA,eO,hf];rfl
  ·have hf:b7 f c=f:=qq1 (fun n=>by rw[bne_eq_false_iff_eq]at w;exact qC2.1 n w)
   refine⟨fun m=>⟨fun i=>?_,fun i=>⟨fun t=>⟨rfl,fun r=>?_,fun r=>⟨mq,o8 _ _,?_⟩⟩,fun t=>⟨mq,o8 _ _,?_⟩⟩⟩,fun m=>⟨fun i=>?_,fun i=>?_⟩⟩
   ·obtain⟨eA,eO⟩:=q79 (c:=c) k (.inl (by have i:(!qL2 f.ma (f6 f c))=true:=i;simpa using i))
    rw[eA,eO,hf];rfl
   ·have i:(!qL2 f.ma (f6 f c))=false:=i
    have m:q46 f.ma (f6 f c) (xH1 f c)=true:=m
    obtain⟨eA,eO⟩:=q78 (c:=c) k (fun n=>by rcases n with n|n;rw[n]at i;cases i;rw[m]at n;cases n) ⟨of_decide_eq_true t,of_decide_eq_true r⟩
    rw[eA,eO,hf];rfl
   ·have i:(!qL2 f.ma (f6 f c))=false:=i
    exact out _ hf (by simpa using i) m fun n=>absurd n.2 (of_decide_eq_false r)
   ·have i:(!qL2 f.ma (f6 f c))=false:=i
    exact out _ hf (by simpa using i) m fun n=>absurd n.1 (of_decide_eq_false t)
   ·obtain⟨eA,eO⟩:=q79 (c:=c) k (.inr m)
    rw[eA,eO,hf];rfl
   ·obtain⟨eA,eO⟩:=q79 (c:=c) k (.inr m)
    rw[eA,eO,hf];rfl
end
noncomputable def xZ7:WFact:=x29 146 fun f rest=>match rest with
 |[.int .i64 line,.agg [.int .i64 a0,.int .i64 a1,.int .i64 a2,.int .i64 a3,.int .i64 a4,.int .i64 a5,.int .i64 a6,.int .i64 a7]] =>some (.req (v5 f) (.req (Gc.C.valid ⟨a0,a1,a2,a3,a4,a5,a6,a7⟩) (.leaf (I64 (q58 f line ⟨a0,a1,a2,a3,a4,a5,a6,a7⟩),q63 f line ⟨a0,a1,a2,a3,a4,a5,a6,a7⟩))))
 |_=>none
theorem yu1:xZ7.ok pP:=x30 fun f rest t ht=>by
 split at ht
 ·injection ht with ht;subst ht;exact fun h hc=>xh9 (c:=⟨_,_,_,_,_,_,_,_⟩) h hc
 ·cases ht
def qD8:Plan:=let z0:Plan:=.fork .all .all;.fork .all (.fork .all (.fork (.ln 5 (.fork (.fork (.lit .all) (.lit .all)) (.fork z0 z0))) (.ln 6 (.fork z0 z0))))
noncomputable def qD9(f:Fw)(line:Int)(c:Gc.C):Tree StopX:=let y1:=j8 148 [(0,.ptr 0 0),(115,.agg [I64 0,I64 0,I64 f.pos.2.2.1,I64 0,I64 f.pos.1,I64 f.pos.2.1,I64 0,I64 0]),(116,I64 0)];let y2:=j8 148 [(0,.ptr 0 0),(115,.agg [I64 0,I64 0,I64 f.ret.2.2.1,I64 0,I64 f.ret.1,I64 f.ret.2.1,I64 0,I64 0]),(116,I64 0)];let y3:=(0,0,0,f.pos.2.2.2);let y4:=j9 pP 148 0;let y5:=xU6 (axM f.ma 3) f.pos.2.2.2;let y0:Tree StopX:=.req true (.req (true) (.req true (.node (xT6 f.ma f.pos.2.2.2) (.node (!f.back) (.leaf (.fin (.ret (I64 0) [some (.cells (Fw.cells {f with homed:=true,pos:=y3,loc:=(0,0,0),e:=y5}))]))) (.req true (.req (true) (.req true (.leaf (.at y4 148 y2 [some (.cells (Fw.cells {f with homed:=true,pos:=y3,loc:=(0,0,0),e:=y5,back:=false}))])))))) (.node (!f.back) (.leaf (.fin (.ret (I64 0) [some (.cells (Fw.cells {f with homed:=true,pos:=y3,loc:=(0,0,0),e:=0}))]))) (.req true (.req (true) (.req true (.leaf (.at y4 148 y2 [some (.cells (Fw.cells {f with homed:=true,pos:=y3,loc:=(0,0,0),e:=0,back:=false}))]))))))))); .node (!qJ4 f) (.leaf (.fin (.ret (I64 18) [some (.cells (Fw.cells f))]))) (.node (f.mode != 1) (.leaf (.fin (.ret (I64 14) [some (.cells (Fw.cells f))]))) (.node (line==0) (.node (f.homed) (.req true (.req (true) (.req true (.node (xT6 f.ma f.pos.2.2.2) (.req true (.req (true) (.req true (.leaf (.at y4 148 y1 [some (.cells (Fw.cells {f with homed:=true,pos:=y3,loc:=(0,0,0),e:=y5,back:=false,ret:=f.pos}))]))))) (.req true (.req (true) (.req true (.leaf (.at y4 148 y1 [some (.cells (Fw.cells {f with homed:=true,pos:=y3,loc:=(0,0,0),e:=0,back:=false,ret:=f.pos}))]))))))))) y0) y0))
theorem hm0(f:Fw)(line:Int)(c:Gc.C):xt5 (Env.ofB pP (v6 [z76,qe9,qb7]) (d7 []) (d9 [BFact.toP zs8]) (d8 [zs8]) (x7 []) (x7 []) (x7 []) (x7 [])) 1000 (j7 pP 148) 1 (x8 148 [0,115,116]) (u7 pP 148) qD8 (v9 pP 148 [.ptr 0 0,I64 line,c.sv]) [some (.cells f.cells)] =qD9 f line c:=by kernel_rfl
def qE0:Plan:=.lit (.fork (.all) (.fork (.lit (.all)) (.lit (.all))))
noncomputable def qE2(g:Fw)(c d:V4):Tree StopX:=let y0:=j8 148 [(0,.ptr 0 0),(115,.agg [I64 c.1,I64 c.2.1,I64 c.2.2.1,I64 c.2.2.2,I64 d.1,I64 d.2.1,I64 d.2.2.1,I64 d.2.2.2]),(116,I64 1)]; .req (true) (.node (c.1==0&& (c.2.1==0&& (c.2.2.1==0&& (c.2.2.2==0&&true)))) (.leaf (.at (j9 pP 148 0) 148 y0 [some (.cells (Fw.cells g))])) (.req (zk6 g c 0) (.node (zk4 g c 0) (.leaf (.at (j9 pP 148 0) 148 y0 [some (.cells (Fw.cells (f7 g c 0 0)))])) (.leaf (.fin (.ret (I64 2) [some (.cells (Fw.cells g))]))))))
theorem hm1(g:Fw)(c d:V4):xt5 (Env.ofB pP (v6 [z76,qe9,qb7]) (d7 []) (d9 [BFact.toP zs8]) (d8 [zs8]) (x7 []) (x7 []) (x7 []) (x7 [])) 1000 (j7 pP 148) 1 (x8 148 [0,115,116]) (j9 pP 148 0) qE0 (j8 148 [(0,.ptr 0 0),(115,.agg (V4.cells c++V4.cells d)),(116,I64 0)]) [some (.cells g.cells)] =qE2 g c d:=by kernel_rfl
def qE3:Plan:=.lit (.fork (.all) (.fork (.lit (.all)) (.lit (.all))))
noncomputable def qE5(g:Fw)(c d:V4):Tree StopX:=let y0:=j8 148 [(0,.ptr 0 0),(115,.agg [I64 c.1,I64 c.2.1,I64 c.2.2.1,I64 c.2.2.2,I64 d.1,I64 d.2.1,I64 d.2.2.1,I64 d.2.2.2]),(116,I64 2)]; .req (true) (.node (d.1==0&& (d.2.1==0&& (d.2.2.1==0&& (d.2.2.2==0&&true)))) (.leaf (.at (j9 pP 148 0) 148 y0 [some (.cells (Fw.cells g))])) (.req (zk6 g d 0) (.node (zk4 g d 0) (.leaf (.at (j9 pP 148 0) 148 y0 [some (.cells (Fw.cells (f7 g d 0 0)))])) (.leaf (.fin (.ret (I64 2) [some (.cells (Fw.cells g))]))))))
theorem hm2(g:Fw)(c d:V4):xt5 (Env.ofB pP (v6 [z76,qe9,qb7]) (d7 []) (d9 [BFact.toP zs8]) (d8 [zs8]) (x7 []) (x7 []) (x7 []) (x7 [])) 1000 (j7 pP 148) 1 (x8 148 [0,115,116]) (j9 pP 148 0) qE3 (j8 148 [(0,.ptr 0 0),(115,.agg (V4.cells c++V4.cells d)),(116,I64 1)]) [some (.cells g.cells)] =qE5 g c d:=by kernel_rfl
def qE6:Plan:=.lit (.all)
noncomputable def qE8(g:Fw)(c d:V4):Tree StopX:= .req (g.ma.ok&&v7 g.ret) (.leaf (.fin (.ret (I64 0) [some (.cells (Fw.cells {g with loc:=((yP1 g.ma g.ret).1,(yP1 g.ma g.ret).2.1,(yP1 g.ma g.ret).2.2.1)}))])))
theorem hm3(g:Fw)(c d:V4):xt5 (Env.ofB pP (v6 [z76,qe9,qb7]) (d7 []) (d9 [BFact.toP zs8]) (d8 [zs8]) (x7 []) (x7 []) (x7 []) (x7 [])) 1000 (j7 pP 148) 1 (x8 148 [0,115,116]) (j9 pP 148 0) qE6 (j8 148 [(0,.ptr 0 0),(115,.agg (V4.cells c++V4.cells d)),(116,I64 2)]) [some (.cells g.cells)] =qE8 g c d:=by kernel_rfl
theorem yM9(l:List Bk)(g:Nat→Int):(plB l g).length=l.length:=by simp[plB]
theorem yM8{l:List Bk}{g:Nat→Int}{i:Nat}(h:i<l.length):(plB l g).getD i dBk=xt9 (l.getD i dBk) (g i) (g (i+1)):=by
 unfold plB
 rw[List.getD_eq_getElem?_getD,List.getElem?_map,List.getElem?_range h];rfl
theorem xx5(b:Bk)(x y:Int):xx3 (xt9 b x y)=xx3 b:=rfl
section
variable {g:Fw} {c:V4} {len line:Int}
theorem zj2:(f7 g c len line).queue.length=g.queue.length+1:=by
 show(plB _ _).length=_
 rw[yM9,zk8]
theorem zj3(h:g.lines.length=g.queue.length):(f7 g c len line).lines.length=(f7 g c len line).queue.length:=by
 rw[zj2];show(g.lines++[line]).length=_;simp[h]
theorem zj8(h:zk6 g c len=true):∀b∈(f7 g c len line).queue,xx3 b=true:=fun b hb=>by
 obtain⟨i,hi,e⟩:=qw5 (d:=dBk) hb
 have hi2:i< (r9 g c len).length:=by rw[zj2]at hi;rw[zk8];exact hi
 have e2:=yM8 (g:=gL (r9 g c len) (zG2 g.ma (r9 g c len)) (z02 g)) hi2
 rw[←e]
 show xx3 ((plB _ _).getD i dBk)=true
 rw[e2,xx5]
 exact qw4 (p:=fun b=>xx3 b=true) (zm0 h).snd hi2
theorem zj1(o:zk4 g c len=true):z02 (f7 g c len line)=z02 g:=by
 have k:=(zk5.1 o).2
 have hl:(f7 g c len line).queue.length=g.queue.length+1:=zj2
 by_cases hm:g.moving=true
 ·unfold z02
  rw[show(f7 g c len line).moving=g.moving from rfl,if_pos hm,if_pos hm];rfl
 ·have e1:z02 (f7 g c len line)=((f7 g c len line).queue.getD 0 dBk).2.2.1:=by
   unfold z02
   rw[show(f7 g c len line).moving=g.moving from rfl,if_neg hm,if_neg (by omega)]
  rw[e1]
  show((plB _ _).getD 0 dBk).2.2.1=_
  rw[yM8 (by rw[zk8];omega)]
  exact k
theorem zj7{d:V4}{len2:Int}(h:zk6 g c len=true)(o:zk4 g c len=true)(hd:okL g.ma d=true)(hl:yv9 len2=true)(hq:g.queue.length≤900):zk6 (f7 g c len line) d len2=true:=by
 have p:=zk7.1 h
 exact zk7.2 ⟨hd,hl,p.2.2.1,zj8 h,zj3 p.2.2.2.2.1,by rw[zj2];omega,by rw[zj1 o];exact p.2.2.2.2.2.2⟩
end
def hE2(g:Fw)(d:V4):Int:=if backOk g d=true then 0 else 2
def hO2(g:Fw)(d:V4):Fw:=if backOk g d=true then {f5 g d with loc:=yP0 g.ma g.ret} else g
def hE1(g:Fw)(c d:V4):Int:=if backOk g c=true then hE2 (f5 g c) d else 2
def hO1(g:Fw)(c d:V4):Fw:=if backOk g c=true then hO2 (f5 g c) d else g
theorem yf4(d:V4):(d.1==0&& (d.2.1==0&& (d.2.2.1==0&& (d.2.2.2==0&&true))))=!nz4 d:=by
 unfold nz4;rw[Bool.and_true,Bool.not_not]
theorem kHm:Known pP (Env.ofB pP (v6 [z76,qe9,qb7]) (d7 []) (d9 [BFact.toP zs8]) (d8 [zs8]) (x7 []) (x7 []) (x7 []) (x7 [])):=
 hB (l:=[z76,qe9,qb7]) (k:=[]) (j:=[BFact.toP zs8]) (i:=[zs8]) [] [] [] [] ⟨ym0,yt7,yq3,trivial⟩ o4 (allQ.all (p:=PFact.ok pP) (l:=[BFact.toP zs8]) ⟨BFact.toP_ok yh5,trivial⟩) (allQ.all (p:=BFact.ok pP) (l:=[zs8]) ⟨yh5,trivial⟩)
section
variable {g:Fw} {c d:V4}
theorem zu8(h:nz4 c=true):f5 g c=f7 g c 0 0:=if_pos h
theorem zu6(h:nz4 c=false):f5 g c=g:=if_neg (by rw[h];exact Bool.false_ne_true)
theorem zu9(h:nz4 c=false):backOk g c=true:=by unfold backOk;rw[h];rfl
theorem zv0(h:nz4 c=true):backOk g c=zk4 g c 0:=by unfold backOk;rw[h];rfl
theorem zu4:(f5 g c).ma=g.ma:=by unfold f5;split<;>rfl
theorem zu7:(f5 g c).ret=g.ret:=by unfold f5;split<;>rfl
theorem qE7(h:g.ma.ok=true∧v7 g.ret=true):zd3 pP (j7 pP 148) [] 1 (.ret (I64 0) [some (.cells ({g with loc:=yP0 g.ma g.ret}:Fw).cells)]) (j9 pP 148 0) (j8 148 [(0,.ptr 0 0),(115,.agg (V4.cells c++V4.cells d)),(116,I64 2)]) [some (.cells g.cells)] :=by
 refine y70 kHm (n:=1000) (keep:=x8 148 [0,115,116]) (p:=qE6) (Nat.le_refl _) ?_
 erw [hm3 g c d]
 unfold qE8
 exact⟨by rw[h.1,h.2];rfl,rfl⟩
theorem qE4(h:g.ma.ok=true∧v7 g.ret=true)(hd:nz4 d=true→zk6 g d 0=true):zd3 pP (j7 pP 148) [] 1 (.ret (I64 (hE2 g d)) [some (.cells (hO2 g d).cells)]) (j9 pP 148 0) (j8 148 [(0,.ptr 0 0),(115,.agg (V4.cells c++V4.cells d)),(116,I64 1)]) [some (.cells g.cells)] :=by
 refine y70 kHm (n:=1000) (keep:=x8 148 [0,115,116]) (p:=qE3) (Nat.le_refl _) ?_
 erw [hm2 g c d]
 unfold qE5
 rw[yf4]
 cases hz:nz4 d
 ·have o:=zu9 (g:=g) hz
  have e1:hE2 g d=0:=if_pos o
  have e2:hO2 g d={g with loc:=yP0 g.ma g.ret}:=by unfold hO2;rw[if_pos o,zu6 hz]
  rw[e1,e2]
  exact⟨rfl,fun _=>⟨o8 _ _,qE7 h⟩,fun k=>by cases k⟩
 ·have o:=zv0 (g:=g) hz
  refine⟨rfl,fun k=>(by cases k),fun _=>⟨hd hz,fun a=>⟨o8 _ _,?_⟩,fun a=>?_⟩⟩
  ·have e1:hE2 g d=0:=if_pos (by rw[o,a])
   have e2:hO2 g d={f7 g d 0 0 with loc:=yP0 g.ma g.ret}:=by unfold hO2;rw[if_pos (by rw[o,a]),zu8 hz]
   rw[e1,e2]
   exact qE7 (g:=f7 g d 0 0) h
  ·have e1:hE2 g d=2:=if_neg (by rw[o,a];exact Bool.false_ne_true)
   have e2:hO2 g d=g:=if_neg (by rw[o,a];exact Bool.false_ne_true)
   rw[e1,e2];rfl
theorem qE1(h:g.ma.ok=true∧v7 g.ret=true)(hc:nz4 c=true→zk6 g c 0=true)(hd:backOk g c=true→nz4 d=true→zk6 (f5 g c) d 0=true):zd3 pP (j7 pP 148) [] 1 (.ret (I64 (hE1 g c d)) [some (.cells (hO1 g c d).cells)]) (j9 pP 148 0) (j8 148 [(0,.ptr 0 0),(115,.agg (V4.cells c++V4.cells d)),(116,I64 0)]) [some (.cells g.cells)] :=by
 refine y70 kHm (n:=1000) (keep:=x8 148 [0,115,116]) (p:=qE0) (Nat.le_refl _) ?_
 erw [hm1 g c d]
 unfold qE2
 rw[yf4]
 cases hz:nz4 c
 ·have o:=zu9 (g:=g) hz
  have e1:hE1 g c d=hE2 g d:=by unfold hE1;rw[if_pos o,zu6 hz]
  have e2:hO1 g c d=hO2 g d:=by unfold hO1;rw[if_pos o,zu6 hz]
  have hd:=hd o
  rw[zu6 hz]at hd
  rw[e1,e2]
  exact⟨rfl,fun _=>⟨o8 _ _,qE4 h hd⟩,fun k=>by cases k⟩
 ·have o:=zv0 (g:=g) hz
  refine⟨rfl,fun k=>(by cases k),fun _=>⟨hc hz,fun a=>⟨o8 _ _,?_⟩,fun a=>?_⟩⟩
  ·have oo:backOk g c=true:=by rw[o,a]
   have e1:hE1 g c d=hE2 (f7 g c 0 0) d:=by unfold hE1;rw[if_pos oo,zu8 hz]
   have e2:hO1 g c d=hO2 (f7 g c 0 0) d:=by unfold hO1;rw[if_pos oo,zu8 hz]
   have hd:=hd oo
   rw[zu8 hz]at hd
   rw[e1,e2]
   exact qE4 (g:=f7 g c 0 0) h hd
  ·have e1:hE1 g c d=2:=if_neg (by rw[o,a];exact Bool.false_ne_true)
   have e2:hO1 g c d=g:=if_neg (by rw[o,a];exact Bool.false_ne_true)
   rw[e1,e2];rfl
end
def qH4(f:Fw)(line:Int):Fw:=if qJ4 f=false then f else if ¬f.mode=1 then f else if qG2 f line=false then qF7 f line else hO1 (qF7 f line) (qG4 f line) (qG7 f line)
theorem yw5{m:Ma}{c:V4}(hm:m.ok=true)(hn:v7 c=true)(hz:nz4 c=true):okL m c=true:=yw4.2 ⟨hm,by unfold okC;rw[hn,hz];rfl⟩
section
variable {f:Fw} {line:Int}
theorem qH6(v:VF f):v7 (qH5 f line)=true:=by
 unfold qH5
 split
 ·exact v.pos
 ·exact v.ret
theorem qG6(v:VF f):v7 (qG4 f line)=true:=by
 have r:=t8.1 (qH6 (line:=line) v)
 exact t8.2 (by unfold qG4;dsimp only;omega)
theorem qG9(v:VF f):v7 (qG7 f line)=true:=by
 have r:=t8.1 (qH6 (line:=line) v)
 exact t8.2 (by unfold qG7;dsimp only;omega)
theorem qI0(v:VF f)(hi:qJ4 f=true){c:V4}(hn:v7 c=true)(hz:nz4 c=true):zk6 (qF7 f line) c 0=true:=by
 obtain⟨i1,i2,i3⟩:=qJ5.1 hi
 have n:=v.nums
 have en:z02 (qF7 f line)=0:=by
  unfold z02
  rw[if_neg (show ¬(qF7 f line).moving=true by show ¬f.moving=true;rw[i1];exact Bool.false_ne_true),if_pos (show(qF7 f line).queue.length=0 from i2)]
 exact zk7.2 ⟨yw5 v.ma hn hz,by decide,yw0.2 (show -9223372036854775808≤f.feed∧f.feed≤9223372036854775807 by omega),v.sound,v.lens,(show f.queue.length≤1000 by omega),by omega,by omega⟩
theorem qI1(v:VF f)(hi:qJ4 f=true)(o:backOk (qF7 f line) (qG4 f line)=true)(hz:nz4 (qG7 f line)=true):zk6 (f5 (qF7 f line) (qG4 f line)) (qG7 f line) 0=true:=by
 obtain⟨i1,i2,i3⟩:=qJ5.1 hi
 cases hc:nz4 (qG4 f line)with
 |false=>rw[zu6 hc];exact qI0 v hi (qG9 v) hz
 |true=>
  rw[zu8 hc]
  rw[zv0 hc]at o
  exact zj7 (qI0 v hi (qG6 v) hc) o (yw5 v.ma (qG9 v) hz) (by decide) (show f.queue.length≤900 by omega)
theorem qF1(v:VF f)(hi:qJ4 f=true)(hm:f.mode=1)(hb:qG2 f line=true){g:Fw}{c d:V4}(hg:qF7 f line=g)(hc:qG4 f line=c)(hd:qG7 f line=d):
  zd3 pP (j7 pP 148) [] 1 (.ret (I64 (qG0 f line)) [some (.cells (qH4 f line).cells)]) (j9 pP 148 0) (j8 148 [(0,.ptr 0 0),(115,.agg (V4.cells c++V4.cells d)),(116,I64 0)]) [some (.cells g.cells)] :=by
 have n1:¬qJ4 f=false:=by rw[hi];decide
 have n2:¬¬f.mode=1:=fun k=>k hm
 have n3:¬qG2 f line=false:=by rw[hb];decide
 have eO:qH4 f line=hO1 (qF7 f line) (qG4 f line) (qG7 f line):=by unfold qH4;rw[if_neg n1,if_neg n2,if_neg n3]
 have eA:qG0 f line=hE1 (qF7 f line) (qG4 f line) (qG7 f line):=by
  unfold qG0 qH7 hE1 hE2
  rw[if_neg n1,if_neg n2,if_neg n3]
  cases backOk (qF7 f line) (qG4 f line)<;>cases backOk (f5 (qF7 f line) (qG4 f line)) (qG7 f line)<;>rfl
 rw[eO,eA]
 subst hg hc hd
 exact qE1 ⟨v.ma,qH6 v⟩ (fun hz=>qI0 v hi (qG6 v) hz) fun o hz=>qI1 v hi o hz
theorem qF3(hi:qJ4 f=true)(hm:f.mode=1)(hb:qG2 f line=false):qG0 f line=0∧qH4 f line=qF7 f line:=by
 have n1:¬qJ4 f=false:=by rw[hi];decide
 have n2:¬¬f.mode=1:=fun k=>k hm
 unfold qG0 qH7 qH4
 rw[if_neg n1,if_neg n2,if_pos hb,if_neg n1,if_neg n2,if_pos hb]
 exact⟨rfl,rfl⟩
theorem qG3:qG2 f line=true↔(line=0∧f.homed=true)∨f.back=true:=by simp only[qG2,Bool.or_eq_true,Bool.and_eq_true,beq_iff_eq]
theorem qF8{r:V4}{e:Int}(hr:qH5 f line=r)(he:qH0 f=e):qF7 f line={f with ret:=r,back:=false,pos:=(0,0,0,f.pos.2.2.2),homed:=true,loc:=(0,0,0),e:=e}:=by subst hr he;rfl
theorem qG5{r:V4}(hr:qH5 f line=r):qG4 f line=(0,0,r.2.2.1,0):=by subst hr;rfl
theorem qG8{r:V4}(hr:qH5 f line=r):qG7 f line=(r.1,r.2.1,0,0):=by subst hr;rfl
set_option maxHeartbeats 4000000 in
theorem xe9(c:Gc.C)(h:v5 f=true):zb3 pP 148 [I64 line,c.sv] f (I64 (qG0 f line),qH4 f line):=by
 have v:=p7 h
 refine qo6 (cs:=(qH4 f line).cells) (by kernel_rfl) rfl rfl rfl (x9.refl _) (y70 kHm (n:=1000) (keep:=x8 148 [0,115,116]) (p:=qD8) (Nat.le_refl _) ?_)
 have q:=hm0 f line c
 unfold v9 u7 at q
 erw [q]
 unfold qD9
 cases hi:qJ4 f
 ·have eA:qG0 f line=18:=if_pos hi
  have eO:qH4 f line=f:=if_pos hi
  rw[eA,eO]
  exact⟨fun _=>rfl,fun k=>by cases k⟩
 refine⟨fun k=>(by cases k),fun _=>⟨fun k=>?_,fun k=>?_⟩⟩
 ·have k:=bne_iff_ne.1 k
  have n1:¬qJ4 f=false:=by rw[hi];decide
  have eA:qG0 f line=14:=by unfold qG0;rw[if_neg n1,if_pos k]
  have eO:qH4 f line=f:=by unfold qH4;rw[if_neg n1,if_pos k]
  rw[eA,eO];rfl
 have hm:f.mode=1:=bne_eq_false_iff_eq.1 k
 have eE:∀b,xT6 f.ma f.pos.2.2.2=b→qH0 f=(if b=true then xU6 f.ma.e f.pos.2.2.2 else 0):=fun b hb=>by unfold qH0;rw[hb]
 have rNo:¬(line=0∧f.homed=true)→qH5 f line=f.ret:=fun n=>if_neg n
 have rYes:line=0∧f.homed=true→qH5 f line=f.pos:=fun n=>if_pos n
 have bNo:¬(line=0∧f.homed=true)→f.back=false→qG2 f line=false:=fun n b=>by
  rw[Bool.eq_false_iff,ne_eq,qG3];rintro (k|k)
  ·exact n k
  ·rw[b]at k;cases k
 -- with the nozzle to be led back, and without
 have fin:∀e,qH0 f=e→¬(line=0∧f.homed=true)→f.back=false→Fin.ret (SV.int IntKind.i64 0) [some (Box.cells (Fw.cells {f with homed:=true,pos:=(0,0,0,f.pos.2.2.2),loc:=(0,0,0),e:=e}))] =.ret (I64 (qG0 f line)) [some (.cells (qH4 f line).cells)] :=fun e he n b=>by
  obtain⟨eA,eO⟩:=qF3 hi hm (bNo n b)
  rw[eA,eO,qF8 (rNo n) he,←b];rfl
 refine⟨fun l=>⟨fun o=>⟨rfl,rfl,rfl,fun u=>⟨rfl,rfl,rfl,o8 _ _,?_⟩,fun u=>⟨rfl,rfl,rfl,o8 _ _,?_⟩⟩,fun o=>⟨rfl,rfl,rfl,fun u=>⟨fun b=>?_,fun b=>⟨rfl,rfl,rfl,o8 _ _,?_⟩⟩,fun u=>⟨fun b=>?_,fun b=>⟨rfl,rfl,rfl,o8 _ _,?_⟩⟩⟩⟩,fun l=>⟨rfl,rfl,rfl,fun u=>⟨fun b=>?_,fun b=>⟨rfl,rfl,rfl,o8 _ _,?_⟩⟩,fun u=>⟨fun b=>?_,fun b=>⟨rfl,rfl,rfl,o8 _ _,?_⟩⟩⟩⟩
 ·have r:=rYes ⟨beq_iff_eq.1 l,o⟩
  exact qF1 v hi hm (qG3.2 (.inl ⟨beq_iff_eq.1 l,o⟩)) (qF8 r (eE _ u)) (qG5 r) (qG8 r)
 ·have r:=rYes ⟨beq_iff_eq.1 l,o⟩
  exact qF1 v hi hm (qG3.2 (.inl ⟨beq_iff_eq.1 l,o⟩)) (qF8 r (eE _ u)) (qG5 r) (qG8 r)
 ·exact fin _ (eE _ u) (fun n=>by rw[o]at n;cases n.2) (by simpa using b)
 ·have r:=rNo (fun n=>by rw[o]at n;cases n.2)
  exact qF1 v hi hm (qG3.2 (.inr (by simpa using b))) (qF8 r (eE _ u)) (qG5 r) (qG8 r)
 ·exact fin _ (eE _ u) (fun n=>by rw[o]at n;cases n.2) (by simpa using b)
 ·have r:=rNo (fun n=>by rw[o]at n;cases n.2)
  exact qF1 v hi hm (qG3.2 (.inr (by simpa using b))) (qF8 r (eE _ u)) (qG5 r) (qG8 r)
 ·exact fin _ (eE _ u) (fun n=>beq_eq_false_iff_ne.1 l n.1) (by simpa using b)
 ·have r:=rNo (fun n=>beq_eq_false_iff_ne.1 l n.1)
  exact qF1 v hi hm (qG3.2 (.inr (by simpa using b))) (qF8 r (eE _ u)) (qG5 r) (qG8 r)
 ·exact fin _ (eE _ u) (fun n=>beq_eq_false_iff_ne.1 l n.1) (by simpa using b)
 ·have r:=rNo (fun n=>beq_eq_false_iff_ne.1 l n.1)
  exact qF1 v hi hm (qG3.2 (.inr (by simpa using b))) (qF8 r (eE _ u)) (qG5 r) (qG8 r)
end
noncomputable def xZ6:WFact:=x29 148 fun f rest=>match rest with
 |[.int .i64 line,.agg [.int .i64 a0,.int .i64 a1,.int .i64 a2,.int .i64 a3,.int .i64 a4,.int .i64 a5,.int .i64 a6,.int .i64 a7]] =>some (.req (v5 f) (.leaf (I64 (qG0 f line),qH4 f line)))
 |_=>none
theorem yu0:xZ6.ok pP:=x30 fun f rest t ht=>by
 split at ht
 ·injection ht with ht;subst ht;exact fun h=>xe9 ⟨_,_,_,_,_,_,_,_⟩ h
 ·cases ht
def xD4(f:Fw)(line:Int):Bool:=xv2 f&&inR line 0 1099511627776
theorem xD5{f:Fw}{line:Int}:xD4 f line=true↔xv2 f=true∧0≤line∧line≤1099511627776:=by simp only[xD4,Bool.and_eq_true,v8]
theorem qW5{f:Fw}{line:Int}(h:line=0):qW4 f line=f:=if_pos h
theorem qW7{f:Fw}{line:Int}(h:¬line=0):qW4 f line={f with line:=line}:=if_neg h
theorem xv5{f:Fw}{line:Int}(h:xv2 f=true)(hl:0≤line∧line≤1099511627776):xv2 {f with line:=line}=true:=by
 have s:=xv3.1 h
 exact xv3.2 ⟨s.1,s.2.1,s.2.2.1,hl,s.2.2.2.2⟩
def yZ0(f:Fw):Fw:=if ¬f.mode=3 then f else if yZ3 f.g0 f.r0=false then f else if yZ3 f.g1 f.r1=false then {f with g0:=yY6 f.g0 f.r0} else yY5 f
def yK3(f:Fw)(c:Gc.C):Int:=if c.code=1024 then(if f.mode=2 then 0 else 14)else(if f.mode=1 then 0 else 14)
def yK4(f:Fw)(c:Gc.C):Fw:=if c.code=1024 then(if f.mode=2 then {f with mode:=1} else f)else(if f.mode=1 then {f with mode:=2} else f)
def zV9(f:Fw):Int:=if qJ4 f=true then 0 else 18
def zW0(f:Fw)(c:Gc.C):Fw:=if qJ4 f=true then {f with dwell:=c.s} else f
def zw6(c:Gc.C):Bool:=c.code==1140||c.code==1190
def x06(c:Gc.C):Bool:=c.code==1109||c.code==1190
def qC3(f:Fw)(c:Gc.C):Int:=if zw6 c=true then(if zn3 f.c1 c.s=true then 0 else 1)else(if zn3 f.c0 c.s=true then 0 else 1)
def qC5(f:Fw)(c:Gc.C):Fw:=if zw6 c=true then {f with c1:=f.c1.aim c.s} else {f with c0:=f.c0.aim c.s}
def qC6(f:Fw)(c:Gc.C):Int:=if x06 c=true then(if zw6 c=true then orB f.waits 2 else orB f.waits 1)else f.waits
def qC4(f:Fw)(c:Gc.C):Fw:=if qC3 f c=0 then {qC5 f c with waits:=qC6 f c} else f
def xo2:Plan:=let z0:Plan:=.go (.lit (.go (.lit (.go (.lit (.all))))));.fork z0 z0
noncomputable def xo3(f:Fw)(line:Int)(c:Gc.C):Tree StopX:= .node (decide (line>0)) (.req true (.req (true) (.req true (.req (true) (.req (xv2 ({f with g0:=f.g0.stop,g1:=f.g1.stop,line:=line})) (.leaf (.fin (.ret (.int .i64 0) [some (.cells (Fw.cells { (qY1 ({f with g0:=f.g0.stop,g1:=f.g1.stop,line:=line}))with mode:=3}))])))))))) (.req true (.req (true) (.req true (.req (true) (.req (xv2 ({f with g0:=f.g0.stop,g1:=f.g1.stop})) (.leaf (.fin (.ret (.int .i64 0) [some (.cells (Fw.cells { (qY1 ({f with g0:=f.g0.stop,g1:=f.g1.stop}))with mode:=3}))]))))))))
theorem xo1(f:Fw)(line:Int)(c:Gc.C):xt5 (Env.ofB pP (v6 [qd4]) (d7 []) (d9 [BFact.toP zt0]) (d8 [zt0]) (x7 []) (x7 []) (x7 []) (x7 [])) 1000 (j7 pP 143) 1 (x8 39 []) (u7 pP 143) xo2 (v9 pP 143 [.ptr 0 0,I64 line,c.sv]) [some (.cells f.cells)] =xo3 f line c:=by kernel_rfl
theorem xo0(f:Fw)(line:Int)(c:Gc.C)(h:xD4 f line=true):zb3 pP 143 [I64 line,c.sv] f (I64 0,xD0 (qW4 f line)):=
 qo7 (hB (l:=[qd4]) (k:=[]) (j:=[BFact.toP zt0]) (i:=[zt0]) ([] :List Nat) ([] :List Nat) ([] :List Nat) ([] :List Nat) (⟨ys3,trivial⟩) o4 (allQ.all (p:=PFact.ok pP) (l:=[BFact.toP zt0]) ⟨BFact.toP_ok yi2,trivial⟩) (allQ.all (p:=BFact.ok pP) (l:=[zt0]) ⟨yi2,trivial⟩)) 1000 xo2 (keep:=(x8 39 [])) (t:=xo3 f line c) (xo1 f line c) (by
  unfold xo3
  have sp:=xD5.1 h
  have s1:=sp.1
  have s2:=xv5 sp.1 sp.2
  simp only[Tree.holds,sL,ne_eq,sLb,sLc,eq_self,sLd,sLe,sLf];(repeat' (first|apply And.intro|intro _));
  all_goals first
   |exact s1
   |exact s2
   |omega
   |(rw[qW7 (by omega)];exact ends rfl (x9.refl _) rfl)
   |(rw[qW5 (by omega)];exact ends rfl (x9.refl _) rfl)) (by kernel_rfl) (by kernel_rfl) (by kernel_rfl)
noncomputable def x01:WFact:=x29 143 fun f rest=>match rest with
 |[.int .i64 line,.agg [.int .i64 a0,.int .i64 a1,.int .i64 a2,.int .i64 a3,.int .i64 a4,.int .i64 a5,.int .i64 a6,.int .i64 a7]] =>some (.req (xD4 f line) (.leaf (I64 0,xD0 (qW4 f line))))
 |_=>none
theorem yv3:x01.ok pP:=x30 fun f rest t ht=>by
 split at ht
 ·injection ht with ht;subst ht;exact fun h=>xo0 f _ ⟨_,_,_,_,_,_,_,_⟩ h
 ·cases ht
def xm2:Plan:=let z1:Plan:=.go (.lit (.all));let z0:Plan:=.go (.lit (.fork z1 (.fork (.lit z1) (.fork (.all) z1))));.fork (.all) (.go (.lit (.fork z0 (.fork (.lit z0) (.fork (.all) z0)))))
noncomputable def xm3(f:Fw)(line:Int)(c:Gc.C):Tree StopX:=let y0:=Gu.mk 0 0 0 0 0 0 0 0 0 0 false;let y1:SV:=.int .i64 0;let y2:=decide (f.g1.resE f.r1=0); .node (f.mode != 3) (.leaf (.fin (.ret (.int .i64 14) [some (.cells (Fw.cells f))]))) (.req true (.node (f.g0.fault==0) (.req true (.node (f.g1.fault==0) (.leaf (.fin (.ret y1 [some (.cells (Fw.cells {f with mode:=1}))]))) (.req true (.node y2 (.req true (.leaf (.fin (.ret y1 [some (.cells (Fw.cells {f with mode:=1,g1:=(f.g1.rest f.r1)}))])))) (.node (f.g1.resE f.r1 != 0) (.leaf (.fin (.ret (.int .i64 16) [some (.cells (Fw.cells f))]))) (.req true (.leaf (.fin (.ret y1 [some (.cells (Fw.cells {f with mode:=1,g1:=y0}))]))))))))) (.req true (.node (decide (f.g0.resE f.r0=0)) (.req true (.req (true) (.node (f.g1.fault==0) (.leaf (.fin (.ret y1 [some (.cells (Fw.cells {f with mode:=1,g0:=(f.g0.rest f.r0)}))]))) (.req true (.node y2 (.req true (.leaf (.fin (.ret y1 [some (.cells (Fw.cells {f with mode:=1,g0:=(f.g0.rest f.r0),g1:=(f.g1.rest f.r1)}))])))) (.node (f.g1.resE f.r1 != 0) (.leaf (.fin (.ret (.int .i64 16) [some (.cells (Fw.cells {f with g0:=(f.g0.rest f.r0)}))]))) (.req true (.leaf (.fin (.ret y1 [some (.cells (Fw.cells {f with mode:=1,g0:=(f.g0.rest f.r0),g1:=y0}))])))))))))) (.node (f.g0.resE f.r0 != 0) (.leaf (.fin (.ret (.int .i64 16) [some (.cells (Fw.cells f))]))) (.req true (.req (true) (.node (f.g1.fault==0) (.leaf (.fin (.ret y1 [some (.cells (Fw.cells {f with mode:=1,g0:=y0}))]))) (.req true (.node y2 (.req true (.leaf (.fin (.ret y1 [some (.cells (Fw.cells {f with mode:=1,g0:=y0,g1:=(f.g1.rest f.r1)}))])))) (.node (f.g1.resE f.r1 != 0) (.leaf (.fin (.ret (.int .i64 16) [some (.cells (Fw.cells {f with g0:=y0}))]))) (.req true (.leaf (.fin (.ret y1 [some (.cells (Fw.cells {f with mode:=1,g0:=y0,g1:=y0}))])))))))))))))))
theorem xm1(f:Fw)(line:Int)(c:Gc.C):xt5 (Env.ofB pP (v6 [qc5]) (d7 []) (d9 []) (d8 []) (x7 []) (x7 []) (x7 []) (x7 [])) 1000 (j7 pP 144) 1 (x8 55 []) (u7 pP 144) xm2 (v9 pP 144 [.ptr 0 0,I64 line,c.sv]) [some (.cells f.cells)] =xm3 f line c:=by kernel_rfl
theorem xm0(f:Fw)(line:Int)(c:Gc.C):zb3 pP 144 [I64 line,c.sv] f (I64 (resE f),yZ0 f):=
 qo7 (hB (l:=[qc5]) (k:=[]) (j:=[]) (i:=[]) ([] :List Nat) ([] :List Nat) ([] :List Nat) ([] :List Nat) (⟨yr2,trivial⟩) o4 o4 o4) 1000 xm2 (keep:=(x8 55 [])) (t:=xm3 f line c) (xm1 f line c) (by
  unfold xm3
  have a:=yZ4 (g:=f.g0) (r:=f.r0)
  have b:=yZ4 (g:=f.g1) (r:=f.r1)
  have m3:f.mode=3∨¬f.mode=3:=by omega
  simp only[Tree.holds,sL,ne_eq,sLb,sLc,eq_self,sLd,sLe,sLf];(repeat' (first|apply And.intro|intro _));
  all_goals first
   |omega
   |(refine ends (xF9 ?_) ?_ rfl
     ·unfold resE;simp_all
     ·first
      |(rw[show yZ0 f=f by unfold yZ0 yY6;rw[if_neg (by simp_all),if_neg (by simp_all),if_pos (by simp_all),if_pos (by assumption)]];exact x9.refl _)
      |(rw[show yZ0 f=f by unfold yZ0 yY5 yY6;simp_all];exact x9.refl _)
      |(rw[show yZ0 f={f with g0:=f.g0.rest f.r0} by unfold yZ0 yY5 yY6;simp_all];exact x9.refl _)
      |(rw[show yZ0 f={f with mode:=1} by unfold yZ0 yY5 yY6;simp_all];exact x9.refl _)
      |(rw[show yZ0 f={f with g0:=f.g0.rest f.r0,mode:=1} by unfold yZ0 yY5 yY6;simp_all];exact x9.refl _)
      |(rw[show yZ0 f={f with g1:=f.g1.rest f.r1,mode:=1} by unfold yZ0 yY5 yY6;simp_all];exact x9.refl _)
      |(rw[show yZ0 f={f with g0:=f.g0.rest f.r0,g1:=f.g1.rest f.r1,mode:=1} by unfold yZ0 yY5 yY6;simp_all];exact x9.refl _)
     )) (by kernel_rfl) (by kernel_rfl) (by kernel_rfl)
noncomputable def xZ9:WFact:=x29 144 fun f rest=>match rest with
 |[.int .i64 line,.agg [.int .i64 a0,.int .i64 a1,.int .i64 a2,.int .i64 a3,.int .i64 a4,.int .i64 a5,.int .i64 a6,.int .i64 a7]] =>some (.leaf (I64 (resE f),yZ0 f))
 |_=>none
theorem yv1:xZ9.ok pP:=x30 fun f rest t ht=>by
 split at ht
 ·injection ht with ht;subst ht;exact xm0 f _ ⟨_,_,_,_,_,_,_,_⟩
 ·cases ht
def xk0:Plan:=.fork (.fork (.all) (.all)) (.fork (.all) (.all))
noncomputable def xk1(f:Fw)(line:Int)(c:Gc.C):Tree StopX:= .node (c.code==1024) (.node (f.mode != 2) (.leaf (.fin (.ret (.int .i64 14) [some (.cells (Fw.cells f))]))) (.leaf (.fin (.ret (.int .i64 0) [some (.cells (Fw.cells {f with mode:=1}))])))) (.node (f.mode != 1) (.leaf (.fin (.ret (.int .i64 14) [some (.cells (Fw.cells f))]))) (.leaf (.fin (.ret (.int .i64 0) [some (.cells (Fw.cells {f with mode:=2}))]))))
theorem xj9(f:Fw)(line:Int)(c:Gc.C):xt5 (Env.ofB pP (v6 []) (d7 []) (d9 []) (d8 []) (x7 []) (x7 []) (x7 []) (x7 [])) 1000 (j7 pP 145) 1 (x8 26 []) (u7 pP 145) xk0 (v9 pP 145 [.ptr 0 0,I64 line,c.sv]) [some (.cells f.cells)] =xk1 f line c:=by kernel_rfl
theorem xj8(f:Fw)(line:Int)(c:Gc.C):zb3 pP 145 [I64 line,c.sv] f (I64 (yK3 f c),yK4 f c):=
 qo7 (hB (l:=[]) (k:=[]) (j:=[]) (i:=[]) ([] :List Nat) ([] :List Nat) ([] :List Nat) ([] :List Nat) (trivial) o4 o4 o4) 1000 xk0 (keep:=(x8 26 [])) (t:=xk1 f line c) (xj9 f line c) (by
  unfold xk1
  simp only[Tree.holds,sL,ne_eq,sLb,sLc,eq_self,sLd,sLe,sLf];(repeat' (first|apply And.intro|intro _));
  all_goals first
   |(unfold yK3 yK4;simp only[*,if_true,if_false,not_false_eq_true,not_true_eq_false];exact ends rfl (x9.refl _) rfl)) (by kernel_rfl) (by kernel_rfl) (by kernel_rfl)
noncomputable def xZ8:WFact:=x29 145 fun f rest=>match rest with
 |[.int .i64 line,.agg [.int .i64 a0,.int .i64 a1,.int .i64 a2,.int .i64 a3,.int .i64 a4,.int .i64 a5,.int .i64 a6,.int .i64 a7]] =>some (.leaf (I64 (yK3 f ⟨a0,a1,a2,a3,a4,a5,a6,a7⟩),yK4 f ⟨a0,a1,a2,a3,a4,a5,a6,a7⟩))
 |_=>none
theorem yu8:xZ8.ok pP:=x30 fun f rest t ht=>by
 split at ht
 ·injection ht with ht;subst ht;exact xj8 f _ ⟨_,_,_,_,_,_,_,_⟩
 ·cases ht
def xb2:Plan:=.fork (.all) (.all)
noncomputable def xb3(f:Fw)(line:Int)(c:Gc.C):Tree StopX:= .node (!qJ4 f) (.leaf (.fin (.ret (.int .i64 18) [some (.cells (Fw.cells f))]))) (.leaf (.fin (.ret (.int .i64 0) [some (.cells (Fw.cells {f with dwell:=c.s}))])))
theorem xb1(f:Fw)(line:Int)(c:Gc.C):xt5 (Env.ofB pP (v6 [z76]) (d7 []) (d9 []) (d8 []) (x7 []) (x7 []) (x7 []) (x7 [])) 1000 (j7 pP 147) 1 (x8 19 []) (u7 pP 147) xb2 (v9 pP 147 [.ptr 0 0,I64 line,c.sv]) [some (.cells f.cells)] =xb3 f line c:=by kernel_rfl
theorem xb0(f:Fw)(line:Int)(c:Gc.C):zb3 pP 147 [I64 line,c.sv] f (I64 (zV9 f),zW0 f c):=
 qo7 (hB (l:=[z76]) (k:=[]) (j:=[]) (i:=[]) ([] :List Nat) ([] :List Nat) ([] :List Nat) ([] :List Nat) (⟨ym0,trivial⟩) o4 o4 o4) 1000 xb2 (keep:=(x8 19 [])) (t:=xb3 f line c) (xb1 f line c) (by
  unfold xb3
  simp only[Tree.holds,sL,ne_eq,sLb,sLc,eq_self,sLd,sLe,sLf];(repeat' (first|apply And.intro|intro _));
  all_goals(unfold zV9 zW0;simp only[*,if_true,if_false,Bool.false_eq_true];exact ends rfl (x9.refl _) rfl)) (by kernel_rfl) (by kernel_rfl) (by kernel_rfl)
noncomputable def xZ3:WFact:=x29 147 fun f rest=>match rest with
 |[.int .i64 line,.agg [.int .i64 a0,.int .i64 a1,.int .i64 a2,.int .i64 a3,.int .i64 a4,.int .i64 a5,.int .i64 a6,.int .i64 a7]] =>some (.leaf (I64 (zV9 f),zW0 f ⟨a0,a1,a2,a3,a4,a5,a6,a7⟩))
 |_=>none
theorem yu3:xZ3.ok pP:=x30 fun f rest t ht=>by
 split at ht
 ·injection ht with ht;subst ht;exact xb0 f _ ⟨_,_,_,_,_,_,_,_⟩
 ·cases ht
def xb9:Plan:=.all
noncomputable def xc0(f:Fw)(line:Int)(c:Gc.C):Tree StopX:= .leaf (.fin (.ret (.int .i64 0) [some (.cells (Fw.cells {f with fan:=c.s}))]))
theorem xb8(f:Fw)(line:Int)(c:Gc.C):xt5 (Env.ofB pP (v6 []) (d7 []) (d9 []) (d8 []) (x7 []) (x7 []) (x7 []) (x7 [])) 1000 (j7 pP 149) 1 (x8 13 []) (u7 pP 149) xb9 (v9 pP 149 [.ptr 0 0,I64 line,c.sv]) [some (.cells f.cells)] =xc0 f line c:=by kernel_rfl
theorem xb7(f:Fw)(line:Int)(c:Gc.C):zb3 pP 149 [I64 line,c.sv] f (I64 0,{f with fan:=c.s}):=
 qo7 (hB (l:=[]) (k:=[]) (j:=[]) (i:=[]) ([] :List Nat) ([] :List Nat) ([] :List Nat) ([] :List Nat) (trivial) o4 o4 o4) 1000 xb9 (keep:=(x8 13 [])) (t:=xc0 f line c) (xb8 f line c) (by
  unfold xc0
  exact ends rfl (x9.refl _) rfl) (by kernel_rfl) (by kernel_rfl) (by kernel_rfl)
noncomputable def xZ4:WFact:=x29 149 fun f rest=>match rest with
 |[.int .i64 line,.agg [.int .i64 a0,.int .i64 a1,.int .i64 a2,.int .i64 a3,.int .i64 a4,.int .i64 a5,.int .i64 a6,.int .i64 a7]] =>some (.leaf (I64 0,{f with fan:=a7}))
 |_=>none
theorem yu4:xZ4.ok pP:=x30 fun f rest t ht=>by
 split at ht
 ·injection ht with ht;subst ht;exact xb7 f _ ⟨_,_,_,_,_,_,_,_⟩
 ·cases ht
def xe3:Plan:=let z0:Plan:=.fork (.lit (.fork (.ln 3 (.lit .all)) (.ln 3 (.fork .all .all)))) (.lit .all);.fork (.ln 4 z0) (.ln 3 (.fork z0 z0))
noncomputable def xe4(f:Fw)(line:Int)(c:Gc.C):Tree StopX:=let y1:Tree StopX:=.req true (.leaf (.fin (.ret (.int .i64 0) [some (.cells (Fw.cells {f with waits:=(i64.wrap (↑(BitVec.ofInt 64 f.waits |||BitVec.ofInt 64 1).toNat:Int)),c0:=(f.c0.aim c.s)}))])));let y2:Tree StopX:=.req true (.leaf (.fin (.ret (.int .i64 0) [some (.cells (Fw.cells {f with waits:=(i64.wrap (↑(BitVec.ofInt 64 f.waits |||BitVec.ofInt 64 2).toNat:Int)),c1:=(f.c1.aim c.s)}))])));let y0:Tree StopX:=.req true (.node (zn3 f.c1 c.s) (.req true (.node (c.code==1109) y2 (.node (c.code==1190) y2 (.leaf (.fin (.ret (.int .i64 0) [some (.cells (Fw.cells {f with c1:=(f.c1.aim c.s)}))])))))) (.leaf (.fin (.ret (.int .i64 1) [some (.cells (Fw.cells f))])))); .node (c.code==1140) y0 (.node (c.code==1190) y0 (.req true (.node (zn3 f.c0 c.s) (.req true (.node (c.code==1109) y1 (.node (c.code==1190) y1 (.leaf (.fin (.ret (.int .i64 0) [some (.cells (Fw.cells {f with c0:=(f.c0.aim c.s)}))])))))) (.leaf (.fin (.ret (.int .i64 1) [some (.cells (Fw.cells f))]))))))
theorem xe2(f:Fw)(line:Int)(c:Gc.C):xt5 (Env.ofB pP (v6 [z32]) (d7 []) (d9 []) (d8 []) (x7 []) (x7 []) (x7 []) (x7 [])) 1000 (j7 pP 150) 1 (x8 60 []) (u7 pP 150) xe3 (v9 pP 150 [.ptr 0 0,I64 line,c.sv]) [some (.cells f.cells)] =xe4 f line c:=by kernel_rfl
theorem xd9(f:Fw)(line:Int)(c:Gc.C):zb3 pP 150 [I64 line,c.sv] f (I64 (qC3 f c),qC4 f c):=
 qo7 (hB (l:=[z32]) (k:=[]) (j:=[]) (i:=[]) ([] :List Nat) ([] :List Nat) ([] :List Nat) ([] :List Nat) (⟨yg8,trivial⟩) o4 o4 o4) 1000 xe3 (keep:=(x8 60 [])) (t:=xe4 f line c) (xe2 f line c) (by
  unfold xe4
  have b1:zw6 c=true↔c.code=1140∨c.code=1190:=by simp only[zw6,Bool.or_eq_true,beq_iff_eq]
  have b2:x06 c=true↔c.code=1109∨c.code=1190:=by simp only[x06,Bool.or_eq_true,beq_iff_eq]
  simp only[Tree.holds,sL,ne_eq,sLb,sLc,eq_self,sLd,sLe,sLf];(repeat' (first|apply And.intro|intro _));
  all_goals first
   |omega
   |(unfold qC4 qC5 qC3 qC6 orB;simp only[b1,b2];simp_all;first|done|exact ends rfl (x9.refl _) rfl)) (by kernel_rfl) (by kernel_rfl) (by kernel_rfl)
noncomputable def xZ5:WFact:=x29 150 fun f rest=>match rest with
 |[.int .i64 line,.agg [.int .i64 a0,.int .i64 a1,.int .i64 a2,.int .i64 a3,.int .i64 a4,.int .i64 a5,.int .i64 a6,.int .i64 a7]] =>some (.leaf (I64 (qC3 f ⟨a0,a1,a2,a3,a4,a5,a6,a7⟩),qC4 f ⟨a0,a1,a2,a3,a4,a5,a6,a7⟩))
 |_=>none
theorem yu5:xZ5.ok pP:=x30 fun f rest t ht=>by
 split at ht
 ·injection ht with ht;subst ht;exact xd9 f _ ⟨_,_,_,_,_,_,_,_⟩
 ·cases ht
theorem Co.step_ok{c:Co}(h:c.ok=true)(r:Int):(c.step r).ok=true∧(c.step r).target=c.target:=by
 unfold Co.step
 split
 ·rename_i hl
  have a:=zL3 hl
  have o:=(Co.ok_iff c).1 h
  have b:=zI1 (n:=c.sum+c.ki*(c.target-r)) (lo:=0) (hi:=c.limit) (by omega)
  refine⟨?_,rfl⟩
  rw[Co.ok_iff]
  dsimp only
  refine⟨o.1,o.2.1,o.2.2.1,o.2.2.2.1,o.2.2.2.2.1,?_⟩
  unfold Co.acc
  split<;>omega
 ·exact⟨h,rfl⟩
theorem Co.aim_ok{c:Co}{t:Int}(h:zn3 c t=true):(c.aim t).ok=true:=by
 obtain⟨h1,h2⟩:=zn4.1 h
 have o:=(Co.ok_iff c).1 h1
 rw[Co.ok_iff]
 unfold Co.aim
 dsimp only
 omega
theorem Gu.touch_ok{g:Gu}(h:g.ok=true):g.touch.ok=true∧g.touch.fault=g.fault∧g.touch.low=g.low∧g.touch.high=g.high:=by
 rw[Gu.touch_yes h]
 have o:=(Gu.ok_iff g).1 h
 refine⟨?_,rfl,rfl,rfl⟩
 rw[Gu.ok_iff];dsimp only;omega
theorem Gu.stop_ok{g:Gu}(h:g.ok=true):g.stop.ok=true∧g.stop.fault=4∧g.stop.low=g.low∧g.stop.high=g.high:=by
 rw[Gu.stop_yes h]
 have o:=(Gu.ok_iff g).1 h
 refine⟨?_,rfl,rfl,rfl⟩
 rw[Gu.ok_iff];dsimp only;omega
theorem Gu.rest_ok{g:Gu}{r:Int}(h:g.ok=true)(hr:g.resE r=0):(g.rest r).ok=true∧(g.rest r).fault=0∧(g.rest r).low=g.low∧(g.rest r).high=g.high:=by
 have o:=(Gu.ok_iff g).1 h
 unfold Gu.resE at hr
 rw[h]at hr
 dsimp only at hr
 refine⟨?_,rfl,rfl,rfl⟩
 rw[Gu.ok_iff];unfold Gu.rest;dsimp only
 (repeat' split at hr)<;>omega
theorem Gu.way_rng(g:Gu)(r t u:Int):g.way r t u≤7:=by
 unfold Gu.way;(repeat' split)<;>omega
theorem Gu.step_k0{g:Gu}{r t u:Int}(h:g.way r t u=0):g.step r t u=g:=by unfold Gu.step;simp only[h]
theorem Gu.step_k1{g:Gu}{r t u:Int}(h:g.way r t u=1):g.step r t u={g with fault:=1}:=by unfold Gu.step;simp only[h]
theorem Gu.step_k2{g:Gu}{r t u:Int}(h:g.way r t u=2):g.step r t u={g with fault:=2}:=by unfold Gu.step;simp only[h]
theorem Gu.step_k3{g:Gu}{r t u:Int}(h:g.way r t u=3):g.step r t u={g with quiet:=g.idle,base:=r,count:=0}:=by unfold Gu.step;simp only[h]
theorem Gu.step_k4{g:Gu}{r t u:Int}(h:g.way r t u=4):g.step r t u={g with quiet:=g.quiet+1,base:=r,count:=0}:=by unfold Gu.step;simp only[h]
theorem Gu.step_k5{g:Gu}{r t u:Int}(h:g.way r t u=5):g.step r t u={g with quiet:=g.quiet+1,base:=r,count:=0}:=by unfold Gu.step;simp only[h]
theorem Gu.step_k6{g:Gu}{r t u:Int}(h:g.way r t u=6):g.step r t u={g with quiet:=g.quiet+1,base:=g.bas r,count:=g.watch,fault:=3}:=by unfold Gu.step;simp only[h]
theorem Gu.step_k7{g:Gu}{r t u:Int}(h:g.way r t u=7):g.step r t u={g with quiet:=g.quiet+1,base:=g.bas r,count:=g.cnt r}:=by unfold Gu.step;simp only[h]
theorem Gu.step_ok{g:Gu}(h:g.ok=true)(r t u:Int):(g.step r t u).ok=true∧(g.step r t u).low=g.low∧(g.step r t u).high=g.high∧(g.step r t u).band=g.band:=by
 have o:=(Gu.ok_iff g).1 h
 have hb:g.bas r=r∨g.bas r=g.base:=by unfold Gu.bas;split<;>simp
 have hc:0≤g.cnt r:=by unfold Gu.cnt;split<;>omega
 have hw:(3≤g.way r t u→g.low≤r∧r≤g.high)∧(4≤g.way r t u→g.quiet+1<g.idle)∧(7≤g.way r t u→g.cnt r<g.watch):=by
  unfold Gu.way
  rw[h]
  dsimp only
  (repeat' split)<;>omega
 have w7:=Gu.way_rng g r t u
 have cases8:g.way r t u=0∨g.way r t u=1∨g.way r t u=2∨g.way r t u=3∨g.way r t u=4∨g.way r t u=5∨g.way r t u=6∨g.way r t u=7:=by omega
 rcases cases8 with e|e|e|e|e|e|e|e
 ·rw[Gu.step_k0 e];exact⟨h,rfl,rfl,rfl⟩
 ·rw[Gu.step_k1 e];refine⟨?_,rfl,rfl,rfl⟩;rw[Gu.ok_iff];dsimp only;omega
 ·rw[Gu.step_k2 e];refine⟨?_,rfl,rfl,rfl⟩;rw[Gu.ok_iff];dsimp only;omega
 ·rw[Gu.step_k3 e];refine⟨?_,rfl,rfl,rfl⟩;rw[Gu.ok_iff];dsimp only;omega
 ·rw[Gu.step_k4 e];refine⟨?_,rfl,rfl,rfl⟩;rw[Gu.ok_iff];dsimp only;omega
 ·rw[Gu.step_k5 e];refine⟨?_,rfl,rfl,rfl⟩;rw[Gu.ok_iff];dsimp only;omega
 ·rw[Gu.step_k6 e];refine⟨?_,rfl,rfl,rfl⟩;rw[Gu.ok_iff];dsimp only;omega
 ·rw[Gu.step_k7 e];refine⟨?_,rfl,rfl,rfl⟩;rw[Gu.ok_iff];dsimp only;omega
theorem xE5{n k:Int}(hn:1≤n):stp n 0 k=0:=by
 have e:(2*0*sz k+n) / (2*n)=0:=by
  rw[Int.mul_zero,Int.zero_mul,Int.zero_add]
  exact Int.ediv_eq_zero_of_lt (by omega) (by omega)
 unfold stp;rw[e];split<;>omega
theorem xD9{n k:Int}(hn:1≤n):stp n n k=k:=by
 have e:(2*n*sz k+n) / (2*n)=sz k:=by
  rw[Int.add_comm,Int.add_mul_ediv_left _ _ (by omega),Int.ediv_eq_zero_of_lt (by omega) (by omega)];omega
 unfold stp;rw[e];unfold sz;split<;>omega
theorem zr6(c:V4):at4 c 0=z4:=by
 cases h:okC c with
 |false=>exact zr4 h
 |true=>
  have m:=(q81 h).1
  have z:clm (mx4 c) 0=0:=by unfold clm;(repeat' split)<;>omega
  rw[zr5 h,z,xE5 m,xE5 m,xE5 m,xE5 m];rfl
theorem zr2{c:V4}(h:okC c=true):at4 c (dom c)=c:=by
 have m:=(q81 h).1
 have z:clm (mx4 c) (mx4 c)=mx4 c:=by unfold clm;(repeat' split)<;>omega
 rw[zr5 h,zT8 h,z,xD9 m,xD9 m,xD9 m,xD9 m]
theorem zi9(a:V4):r8 a z4=a:=by unfold r8 z4;simp
theorem zi8(a b:V4):r8 a (xE8 b a)=b:=by
 unfold r8 xE8
 refine Prod.ext ?_ (Prod.ext ?_ (Prod.ext ?_ ?_))<;>(dsimp only;omega)
section
variable {m:Mo} {t:Int}
theorem z00(h:zZ8 m=true):q02 m=m.1.1:=by
 obtain⟨h1,h2⟩:=zZ9.1 h
 have v:=(xW8.1 h1).1.1
 have d:=zU0 m.1.1
 rw[q05 ⟨h1,by omega,by omega⟩,h2,zr2 v]
theorem q09(b:Bk)(t:Int):q02 (xz8 b t)=z4:=by
 cases h:xW7 b with
 |false=>exact q03 fun c=>by rw[show(xz8 b t).1=b from rfl,h]at c;cases c.1
 |true=>
  have d:=zU0 b.1
  rw[q05 (m:=xz8 b t) ⟨h,Int.le_refl 0,d.1⟩]
  exact zr6 b.1
theorem qP3{b:Bk}{i t:Int}(h:xW7 b=true∧1≤i∧i≤dom b.1)(ht:1≤t∧t≤1048576):1≤ivl b i t:=by
 have s:=xy9 h
 have p:=qO9 (n:=sqv b i) s.1
 unfold ivl
 rw[if_pos ⟨s.1,ht⟩]
 exact Int.le_ediv_of_mul_le (by omega) (by omega)
theorem xA7{b:Bk}(h:okS b t=true):y65 (xz8 b t) t=true:=by
 obtain⟨h1,h2⟩:=yx1.1 h
 have d:=xX0 h1
 exact y66.2 ⟨h1,⟨Int.le_refl 0,by show(0:Int)≤dom b.1-1;omega⟩,qP3 ⟨h1,by omega,d.1⟩ h2,Int.le_refl _⟩
theorem y71(h:y65 m t=true):1≤t∧t≤1048576:=by
 have r:=y66.1 h
 exact qP4 (b:=m.1) (i:=m.2.1+1) (by omega)
theorem xI3(h:y65 m t=true)(h1:1<m.2.2):xI1 m t=(m.1,m.2.1,m.2.2-1)∧xI4 m t=z4:=by
 unfold xI1 xI4;rw[h];simp only[if_pos h1];trivial
theorem xI2(h:y65 m t=true)(h1:¬1<m.2.2):xI1 m t=(m.1,m.2.1+1,if m.2.1+1=dom m.1.1 then 0 else ivl m.1 (m.2.1+2) t)∧xI4 m t=pul m.1.1 (m.2.1+1):=by
 unfold xI1 xI4;rw[h];simp only[if_neg h1];trivial
theorem q10(h:y65 m t=true):q02 (xI1 m t)=r8 (q02 m) (xI4 m t):=by
 have r:=y66.1 h
 have d:=zU0 m.1.1
 by_cases h1:1<m.2.2
 ·obtain⟨e1,e2⟩:=xI3 h h1
  rw[e1,e2,zi9];rfl
 ·obtain⟨e1,e2⟩:=xI2 h h1
  rw[e1,e2,q05 (m:=(m.1,m.2.1+1,_)) ⟨r.1,by show(0:Int)≤m.2.1+1;omega,by show m.2.1+1≤dom m.1.1;omega⟩,q05 (m:=m) ⟨r.1,by omega,by omega⟩]
  have p:pul m.1.1 (m.2.1+1)=xE8 (at4 m.1.1 (m.2.1+1)) (at4 m.1.1 m.2.1):=by
   unfold pul
   rw[v8.2 (show 1≤m.2.1+1∧m.2.1+1≤dom m.1.1 by omega),show m.2.1+1-1=m.2.1 by omega]
  rw[p,zi8]
theorem xJ5(m:Mo)(t:Int):(xI1 m t).1=m.1:=by
 unfold xI1
 split
 ·split<;>rfl
 ·rfl
theorem xJ9(h:y65 m t=true)(he:zZ8 (xI1 m t)=false):y65 (xI1 m t) t=true:=by
 have r:=y66.1 h
 have d:=zU0 m.1.1
 by_cases h1:1<m.2.2
 ·obtain⟨e1,_⟩:=xI3 h h1
  rw[e1]
  exact y66.2 ⟨r.1,r.2.1,by show 1≤m.2.2-1;omega,by show m.2.2-1≤ivl m.1 (m.2.1+1) t;have:=r.2.2.2;omega⟩
 ·obtain⟨e1,_⟩:=xI2 h h1
  rw[e1]at he ⊢
  have hd:¬m.2.1+1=dom m.1.1:=fun c=>by
   have:zZ8 (m.1,m.2.1+1,if m.2.1+1=dom m.1.1 then 0 else ivl m.1 (m.2.1+2) t)=true:=zZ9.2 ⟨r.1,c⟩
   rw[he]at this;cases this
  rw[if_neg hd]
  refine y66.2 ⟨r.1,⟨by show 0≤m.2.1+1;omega,by show m.2.1+1≤dom m.1.1-1;omega⟩,?_,?_⟩
  ·exact qP3 ⟨r.1,by omega,by omega⟩ (y71 h)
  ·show ivl m.1 (m.2.1+2) t≤ivl m.1 (m.2.1+1+1) t
   rw[show m.2.1+1+1=m.2.1+2 by omega];exact Int.le_refl _
end
def yJ6(f:Fw):Bool:=f.c0.ok&& (f.c1.ok&& (f.g0.ok&& (f.g1.ok&&xv2 f)))
theorem yJ7{f:Fw}:yJ6 f=true↔f.c0.ok=true∧f.c1.ok=true∧f.g0.ok=true∧f.g1.ok=true∧xv2 f=true:=by simp only[yJ6,Bool.and_eq_true]
def qI3(f:Fw):Int×Int:=if(qZ1 f).mode=3 then(0,0)else(zU7 f,zU8 f)
def qI5(f:Fw):Fw:=x07 (qZ1 f)
theorem qZ0{f:Fw}:qY9 f=true↔(f.g0.fault=0∧¬(f.g0.step f.r0 (f.c0.step f.r0).target (f.c0.duty f.r0)).fault=0)∨(f.g1.fault=0∧¬(f.g1.step f.r1 (f.c1.step f.r1).target (f.c1.duty f.r1)).fault=0):=by
 simp only[qY9,q94,qD4,Bool.or_eq_true,Bool.and_eq_true,Bool.not_eq_true',beq_iff_eq,beq_eq_false_iff_ne,ne_eq]
theorem qY4(f:Fw):(qY1 f).c0=f.c0:=rfl
theorem qY5(f:Fw):(qY1 f).c1=f.c1:=rfl
theorem qY6(f:Fw):(qY1 f).g0=f.g0:=rfl
theorem qY7(f:Fw):(qY1 f).g1=f.g1:=rfl
theorem x18{c:Co}{g:Gu}{r:Int}(h:r≥c.target-g.band):x16 c g r=true:=decide_eq_true h
theorem x17{c:Co}{g:Gu}{r:Int}(h:¬r≥c.target-g.band):¬x16 c g r=true:=fun k=>h (of_decide_eq_true k)
theorem x11{x:Fw}(a:x.r0≥x.c0.target-x.g0.band)(b:x.r1≥x.c1.target-x.g1.band):x07 x={x with waits:=Gc.andNot (Gc.andNot x.waits 1) 2}:=by unfold x07;rw[if_pos (x18 b),if_pos (x18 a)]
theorem x10{x:Fw}(a:x.r0≥x.c0.target-x.g0.band)(b:¬x.r1≥x.c1.target-x.g1.band):x07 x={x with waits:=Gc.andNot x.waits 1}:=by unfold x07;rw[if_neg (x17 b),if_pos (x18 a)]
theorem x09{x:Fw}(a:¬x.r0≥x.c0.target-x.g0.band)(b:x.r1≥x.c1.target-x.g1.band):x07 x={x with waits:=Gc.andNot x.waits 2}:=by unfold x07;rw[if_pos (x18 b),if_neg (x17 a)]
theorem x08{x:Fw}(a:¬x.r0≥x.c0.target-x.g0.band)(b:¬x.r1≥x.c1.target-x.g1.band):x07 x=x:=by unfold x07;rw[if_neg (x17 b),if_neg (x17 a)]
def q48(f:Fw):Bool:=xv2 f&&inR f.dwell 0 1048576
theorem q49{f:Fw}:q48 f=true↔xv2 f=true∧0≤f.dwell∧f.dwell≤1048576:=by simp only[q48,Bool.and_eq_true,v8]
theorem zx1(f:Fw):(t7 f).pos=f.pos:=by unfold t7;split<;>rfl
theorem yQ1(c:V4)(i:Int):zz3 (pul c i)=true:=by
 unfold pul
 split
 ·have a:=zr1 c i
  have b:=zr1 c (i-1)
  rw[zz4];unfold xE8;dsimp only;omega
 ·decide
theorem xI5(m:Mo)(t:Int):zz3 (xI4 m t)=true:=by
 unfold xI4
 split
 ·split
  ·decide
  ·exact yQ1 _ _
 ·decide
def xe7:Plan:=let z1:Plan:=.go (.lit (.fork (.go (.lit (.fork .all .all))) (.go (.lit (.fork .all .all)))));let z2:Plan:=.go (.lit (.fork (.go (.lit (.lit .all))) (.go (.lit (.lit .all)))));let z0:Plan:=.fork (.ln 11 (.go (.lit (.fork (.go (.lit (.fork z2 z2))) (.go (.lit (.fork z1 z1))))))) (.ln 11 (.go (.lit (.lit (.go (.lit (.fork z1 z1)))))));.go (.ln 4 (.fork (.ln 11 (.go (.lit (.fork (.ln 4 (.go (.lit (.lit (.go (.lit (.fork z2 z2))))))) (.lit (.lit z0)))))) (.ln 11 (.go (.ln 4 z0)))))
noncomputable def xe8(f:Fw):Tree StopX:=let y8:SV:=.agg [.int .i64 0,.int .i64 0];let y11:=f.c1.step f.r1;let y4:=f.g1.step f.r1 y11.target (f.c1.duty f.r1);let y12:=f.c0.step f.r0;let y5:=f.g0.step f.r0 y12.target (f.c0.duty f.r0);let y1:={f with c0:=y12,c1:=y11,g0:=y5,g1:=y4};let y6:SV:=.agg [.int .i64 (f.g0.duty f.r0 y12.target (f.c0.duty f.r0)),.int .i64 (f.g1.duty f.r1 y11.target (f.c1.duty f.r1))];let y10:Box:=.cells (Fw.cells {f with waits:=(i64.wrap (↑(BitVec.ofInt 64 f.waits &&& ~~~BitVec.ofInt 64 2).toNat:Int)),c0:=y12,c1:=y11,g0:=y5,g1:=y4});let y13:=i64.wrap (↑(BitVec.ofInt 64 (qY1 y1).waits &&& ~~~BitVec.ofInt 64 1).toNat:Int);let y14:=i64.wrap (↑(BitVec.ofInt 64 f.waits &&& ~~~BitVec.ofInt 64 1).toNat:Int);let y7:Box:=.cells (Fw.cells {f with waits:=(i64.wrap (↑(BitVec.ofInt 64 y14 &&& ~~~BitVec.ofInt 64 2).toNat:Int)),c0:=y12,c1:=y11,g0:=y5,g1:=y4});let y9:Box:=.cells (Fw.cells {f with waits:=y14,c0:=y12,c1:=y11,g0:=y5,g1:=y4});let y15:=decide (f.r1≥i64.wrap ((qY1 y1).c1.target-(qY1 y1).g1.band));let y3:Tree StopX:=.req (xv2 y1) (.req true (.req (true) (.req true (.node (decide (f.r0≥i64.wrap ((qY1 y1).c0.target-(qY1 y1).g0.band))) (.req true (.req (true) (.req true (.req (true) (.node y15 (.req true (.leaf (.fin (.ret y8 [some (.cells (Fw.cells { (qY1 y1)with mode:=3,waits:=(i64.wrap (↑(BitVec.ofInt 64 y13 &&& ~~~BitVec.ofInt 64 2).toNat:Int))}))])))) (.leaf (.fin (.ret y8 [some (.cells (Fw.cells { (qY1 y1)with mode:=3,waits:=y13}))])))))))) (.req true (.req (true) (.req true (.node y15 (.req true (.leaf (.fin (.ret y8 [some (.cells (Fw.cells { (qY1 y1)with mode:=3,waits:=(i64.wrap (↑(BitVec.ofInt 64 (qY1 y1).waits &&& ~~~BitVec.ofInt 64 2).toNat:Int))}))])))) (.leaf (.fin (.ret y8 [some (.cells (Fw.cells { (qY1 y1)with mode:=3}))])))))))))));let y16:Box:=.cells (Fw.cells {f with c0:=y12,c1:=y11,g0:=y5,g1:=y4});let y2:Tree StopX:=.req true (.req (true) (.req true (.node (decide (f.r0≥i64.wrap (y12.target-y5.band))) (.req true (.req (true) (.req true (.req (true) (.node (decide (f.r1≥i64.wrap (y11.target-y4.band))) (.req true (.node (f.mode==3) (.leaf (.fin (.ret y8 [some y7]))) (.leaf (.fin (.ret y6 [some y7]))))) (.node (f.mode==3) (.leaf (.fin (.ret y8 [some y9]))) (.leaf (.fin (.ret y6 [some y9]))))))))) (.req true (.req (true) (.req true (.node (decide (f.r1≥i64.wrap (y11.target-y4.band))) (.req true (.node (f.mode==3) (.leaf (.fin (.ret y8 [some y10]))) (.leaf (.fin (.ret y6 [some y10]))))) (.node (f.mode==3) (.leaf (.fin (.ret y8 [some y16]))) (.leaf (.fin (.ret y6 [some y16])))))))))));let y0:Tree StopX:=.node (f.g1.fault==0) (.req true (.node (y4.fault != 0) y3 y2)) y2; .req (true) (.req true (.req (true) (.req true (.req (true) (.req true (.req (true) (.req true (.node (f.g0.fault==0) (.req true (.req (true) (.req true (.req (true) (.req true (.req (true) (.req true (.req (true) (.req true (.node (y5.fault != 0) y3 y0)))))))))) (.req true (.req (true) (.req true (.req (true) (.req true (.req (true) (.req true (.req (true) y0))))))))))))))))
theorem xe6(f:Fw):xt5 (Env.ofB pP (v6 [z47,z72]) (d7 []) (d9 [BFact.toP zt0]) (d8 [zt0]) (x7 []) (x7 []) (x7 []) (x7 [])) 1000 (j7 pP 78) 1 (x8 141 []) (u7 pP 78) xe7 (v9 pP 78 [.ptr 0 0,.agg [I64 f.r0,I64 f.r1]]) [some (.cells f.cells)] =xe8 f:=by kernel_rfl
theorem xe5(f:Fw)(h:yJ6 f=true):zb3 pP 78 [.agg [I64 f.r0,I64 f.r1]] f (.agg [I64 (qI3 f).1,I64 (qI3 f).2],qI5 f):=
 qo7 (hB (l:=[z47,z72]) (k:=[]) (j:=[BFact.toP zt0]) (i:=[zt0]) ([] :List Nat) ([] :List Nat) ([] :List Nat) ([] :List Nat) (⟨yj1,yl5,trivial⟩) o4 (allQ.all (p:=PFact.ok pP) (l:=[BFact.toP zt0]) ⟨BFact.toP_ok yi2,trivial⟩) (allQ.all (p:=BFact.ok pP) (l:=[zt0]) ⟨yi2,trivial⟩)) 1000 xe7 (keep:=(x8 141 [])) (t:=xe8 f) (xe6 f) (by
  unfold xe8
  have p:=yJ7.1 h
  have c0k:=Co.step_ok p.1 f.r0
  have c1k:=Co.step_ok p.2.1 f.r1
  have g0k:=Gu.step_ok p.2.2.1 f.r0 (f.c0.step f.r0).target (f.c0.duty f.r0)
  have g1k:=Gu.step_ok p.2.2.2.1 f.r1 (f.c1.step f.r1).target (f.c1.duty f.r1)
  have c0o:=(Co.ok_iff _).1 c0k.1
  have c1o:=(Co.ok_iff _).1 c1k.1
  have g0o:=(Gu.ok_iff _).1 g0k.1
  have g1o:=(Gu.ok_iff _).1 g1k.1
  have w0:=w64 (x:=(f.c0.step f.r0).target-(f.g0.step f.r0 (f.c0.step f.r0).target (f.c0.duty f.r0)).band) (by omega) (by omega)
  have w1:=w64 (x:=(f.c1.step f.r1).target-(f.g1.step f.r1 (f.c1.step f.r1).target (f.c1.duty f.r1)).band) (by omega) (by omega)
  simp only[Tree.holds,qY4,qY5,qY6,qY7,w0,w1,sL,ne_eq,sLb,sLc,eq_self,sLd,sLe,sLf];(repeat' (first|apply And.intro|intro _));
  all_goals first
   |exact p.2.2.2.2
   |(have e:qZ1 f={qY1 (qD4 f)with mode:=3}:=if_pos (qZ0.2 (by omega))
     unfold qI3 qI5;rw[e]
     first
     |(rw[if_pos rfl];first|(rw[x11 (by assumption) (by assumption)];exact ends rfl (x9.refl _) rfl)|(rw[x10 (by assumption) (by assumption)];exact ends rfl (x9.refl _) rfl)|(rw[x09 (by assumption) (by assumption)];exact ends rfl (x9.refl _) rfl)|(rw[x08 (by assumption) (by assumption)];exact ends rfl (x9.refl _) rfl))
     |(rw[if_pos (by assumption)];first|(rw[x11 (by assumption) (by assumption)];exact ends rfl (x9.refl _) rfl)|(rw[x10 (by assumption) (by assumption)];exact ends rfl (x9.refl _) rfl)|(rw[x09 (by assumption) (by assumption)];exact ends rfl (x9.refl _) rfl)|(rw[x08 (by assumption) (by assumption)];exact ends rfl (x9.refl _) rfl))
     |(rw[if_neg (by assumption)];first|(rw[x11 (by assumption) (by assumption)];exact ends rfl (x9.refl _) rfl)|(rw[x10 (by assumption) (by assumption)];exact ends rfl (x9.refl _) rfl)|(rw[x09 (by assumption) (by assumption)];exact ends rfl (x9.refl _) rfl)|(rw[x08 (by assumption) (by assumption)];exact ends rfl (x9.refl _) rfl)))
   |(have e:qZ1 f=qD4 f:=if_neg (fun k=>by have k:=qZ0.1 k;omega)
     unfold qI3 qI5;rw[e]
     first
     |(rw[if_pos rfl];first|(rw[x11 (by assumption) (by assumption)];exact ends rfl (x9.refl _) rfl)|(rw[x10 (by assumption) (by assumption)];exact ends rfl (x9.refl _) rfl)|(rw[x09 (by assumption) (by assumption)];exact ends rfl (x9.refl _) rfl)|(rw[x08 (by assumption) (by assumption)];exact ends rfl (x9.refl _) rfl))
     |(rw[if_pos (by assumption)];first|(rw[x11 (by assumption) (by assumption)];exact ends rfl (x9.refl _) rfl)|(rw[x10 (by assumption) (by assumption)];exact ends rfl (x9.refl _) rfl)|(rw[x09 (by assumption) (by assumption)];exact ends rfl (x9.refl _) rfl)|(rw[x08 (by assumption) (by assumption)];exact ends rfl (x9.refl _) rfl))
     |(rw[if_neg (by assumption)];first|(rw[x11 (by assumption) (by assumption)];exact ends rfl (x9.refl _) rfl)|(rw[x10 (by assumption) (by assumption)];exact ends rfl (x9.refl _) rfl)|(rw[x09 (by assumption) (by assumption)];exact ends rfl (x9.refl _) rfl)|(rw[x08 (by assumption) (by assumption)];exact ends rfl (x9.refl _) rfl)))) (by kernel_rfl) (by kernel_rfl) (by kernel_rfl)
def zs9:BFact:=zz1 78 fun f rest=>match rest with
 |[.agg [.int .i64 a,.int .i64 b]] =>some (.req (decide (a=f.r0)) (.req (decide (b=f.r1)) (.req (yJ6 f) (.leaf (.agg [I64 (qI3 f).1,I64 (qI3 f).2],qI5 f)))))
 |_=>none
theorem yi1:zs9.ok pP:=zz2 fun f rest t ht=>by
 split at ht
 ·injection ht with ht;subst ht;exact fun ha hb h=>by rw[of_decide_eq_true ha,of_decide_eq_true hb];exact xe5 f h
 ·cases ht
def xh7:Plan:=.fork (.all) (.fork (.all) (.fork (.all) (.fork (.all) (.all))))
noncomputable def xh8(f:Fw):Tree StopX:=let y0:=((((t7 f).mo.1.1.1,(t7 f).mo.1.1.2.1,(t7 f).mo.1.1.2.2),(t7 f).mo.1.2.1,(t7 f).mo.1.2.2.1,(t7 f).mo.1.2.2.2),(t7 f).mo.2);let y1:=xI4 y0 (t7 f).ma.ticks;let y2:=xI1 y0 (t7 f).ma.ticks;let y3:SV:=.agg [.int .i64 0,.int .i64 0,.int .i64 0,.int .i64 0];let y4:SV:=.agg [.int .i64 y1.1,.int .i64 y1.2.1,.int .i64 y1.2.2.1,.int .i64 y1.2.2.2];let y5:=m8 ((t7 f).pos.1,(t7 f).pos.2.1,(t7 f).pos.2.2) y1; .node (f.mode==3) (.leaf (.fin (.ret y3 [some (.cells (Fw.cells f))]))) (.node (decide (f.dwell>0)) (.leaf (.fin (.ret y3 [some (.cells (Fw.cells {f with dwell:=(i64.wrap (f.dwell-1))}))]))) (.req (xv2 f) (.node (!(t7 f).moving) (.leaf (.fin (.ret y3 [some (.cells (Fw.cells (t7 f)))]))) (.node (zZ8 (((y2.1.1.1,y2.1.1.2.1,y2.1.1.2.2),y2.1.2.1,y2.1.2.2.1,y2.1.2.2.2),y2.2)) (.leaf (.fin (.ret y4 [some (.cells (Fw.cells { (t7 f)with pos:=y5,mo:=(((0,0,0,0),0,0,0,0),0,0),moving:=false,active:=0}))]))) (.leaf (.fin (.ret y4 [some (.cells (Fw.cells { (t7 f)with pos:=y5,mo:=y2}))])))))))
theorem xh6(f:Fw):xt5 (Env.ofB pP (v6 [qd9,z57,qb6]) (d7 []) (d9 [BFact.toP zt5]) (d8 [zt5]) (x7 []) (x7 []) (x7 []) (x7 [])) 1000 (j7 pP 79) 1 (x8 86 []) (u7 pP 79) xh7 (v9 pP 79 [.ptr 0 0]) [some (.cells f.cells)] =xh8 f:=by kernel_rfl
theorem xh5(f:Fw)(h:q48 f=true):zb3 pP 79 [] f (V4.sv (if f.mode=3 then z4 else y45 f),(if f.mode=3 then f else y44 f)):=
 qo7 (hB (l:=[qd9,z57,qb6]) (k:=[]) (j:=[BFact.toP zt5]) (i:=[zt5]) ([] :List Nat) ([] :List Nat) ([] :List Nat) ([] :List Nat) (⟨ys9,yk0,yq2,trivial⟩) o4 (allQ.all (p:=PFact.ok pP) (l:=[BFact.toP zt5]) ⟨BFact.toP_ok yi5,trivial⟩) (allQ.all (p:=BFact.ok pP) (l:=[zt5]) ⟨yi5,trivial⟩)) 1000 xh7 (keep:=(x8 86 [])) (t:=xh8 f) (xh6 f) (by
  unfold xh8
  have mp:=q49.1 h
  have bp:zz3 (t7 f).pos=true:=by rw[zx1];exact(xv3.1 mp.1).1
  have wa:m8 (t7 f).pos (xI4 (t7 f).mo (t7 f).ma.ticks)=r8 (t7 f).pos (xI4 (t7 f).mo (t7 f).ma.ticks):=x03 bp (xI5 _ _)
  have w1:0<f.dwell→i64.wrap (f.dwell-1)=f.dwell-1:=fun k=>w64 (by omega) (by omega)
  refine⟨fun a=>?_,fun a=>⟨fun b=>?_,fun b=>⟨mp.1,fun c=>?_,fun c=>?_⟩⟩⟩
  ·have a:=beq_iff_eq.1 a
   rw[if_pos a,if_pos a];exact ends rfl (x9.refl _) rfl
  ·have a:=beq_eq_false_iff_ne.1 a
   have b:=of_decide_eq_true b
   rw[if_neg a,if_neg a,w1 b,show y44 f={f with dwell:=f.dwell-1} from if_pos b,show y45 f=z4 from if_pos b]
   exact ends rfl (x9.refl _) rfl
  ·have a:=beq_eq_false_iff_ne.1 a
   have b:=of_decide_eq_false b
   have c:¬(t7 f).moving=true:=by rw[Bool.not_eq_true']at c;rw[c];exact Bool.false_ne_true
   rw[if_neg a,if_neg a,show y44 f=t7 f by unfold y44;rw[if_neg b,if_neg c],show y45 f=z4 by unfold y45;rw[if_neg b,if_neg c]]
   exact ends rfl (x9.refl _) rfl
  ·have a:=beq_eq_false_iff_ne.1 a
   have b:=of_decide_eq_false b
   have c:(t7 f).moving=true:=by rw[Bool.not_eq_false']at c;exact c
   rw[if_neg a,if_neg a,show y44 f=xB0 (t7 f) by unfold y44;rw[if_neg b,if_pos c],show y45 f=xI4 (t7 f).mo (t7 f).ma.ticks by unfold y45;rw[if_neg b,if_pos c]]
   refine⟨fun d=>?_,fun d=>?_⟩
   ·rw[show xB0 (t7 f)={t7 f with pos:=m8 (t7 f).pos (xI4 (t7 f).mo (t7 f).ma.ticks),mo:=m0,moving:=false,active:=0} by unfold xB0;rw[if_pos (show zZ8 (xI1 (t7 f).mo (t7 f).ma.ticks)=true from d),wa]]
    exact ends rfl (x9.refl _) rfl
   ·rw[show xB0 (t7 f)={t7 f with pos:=m8 (t7 f).pos (xI4 (t7 f).mo (t7 f).ma.ticks),mo:=xI1 (t7 f).mo (t7 f).ma.ticks} by unfold xB0;rw[if_neg (by rw[show zZ8 (xI1 (t7 f).mo (t7 f).ma.ticks)=false from d];exact Bool.false_ne_true),wa]]
    exact ends rfl (x9.refl _) rfl) (by kernel_rfl) (by kernel_rfl) (by kernel_rfl)
theorem q56(f:Fw)(h:q48 f=true):(Tree.node (f.mode==3) (.leaf (V4.sv z4,f)) (.leaf (V4.sv (y45 f),y44 f))).says (zb3 pP 79 [] f):=by
 have k:=xh5 f h
 refine⟨fun a=>?_,fun a=>?_⟩
 ·have a:=beq_iff_eq.1 a
  rw[if_pos a,if_pos a]at k;exact k
 ·have a:=beq_eq_false_iff_ne.1 a
  rw[if_neg a,if_neg a]at k;exact k
def zt1:BFact:=zz1 79 fun f rest=>match rest with
 |[] =>some (.req (q48 f) (.node (f.mode==3) (.leaf (V4.sv z4,f)) (.leaf (V4.sv (y45 f),y44 f))))
 |_=>none
theorem yi3:zt1.ok pP:=zz2 fun f rest t ht=>by
 split at ht
 ·injection ht with ht;subst ht;exact fun h=>q56 f h
 ·cases ht
def fGv:Fact:=Gc.factC 71 fun c=>.leaf (.bool c.valid)
def zg6(f:Fw)(line:Int)(c:Gc.C):SV:=if zg2 f line c=0 then .tuple [(zg4 f line c).sv,I64 0]else .tuple [.agg (f4 fw0),I64 (zg2 f line c)]
theorem yl7:fGv.ok pP:=Gc.factC_ok fun c=>Gc.s_valid c
noncomputable def qP0:List Item:=xD3 (xt5 (Env.ofB pP (v6 [qf0,fGv,qe1]) (d7 [x01,xZ9,xZ8,xZ7,xZ3,xZ6,xZ4,xZ5]) (d9 []) (d8 []) (x7 []) (x7 []) (x7 []) (x7 [3])) 1000 (j7 pP 24) 0 (x8 114 []) (u7 pP 24) .all (v9 pP 24 [fw0.sv,I64 0,(⟨0,0,0,0,0,0,0,0⟩:Gc.C).sv]) [])
def zf3:Plan:=.fork (.ln 11 (.lit .all)) (.ln 3 (.fork (.ln 7 (.lit .all)) (.lit (.lit (.fork (.ln 7 (.fork (.lit (.lit (.lit .all))) (.lit (.lit (.fork .all .all))))) (.ln 10 (.fork .all .all)))))))
noncomputable def zf4(f:Fw)(line:Int)(c:Gc.C):Tree Stop:=let y1:Tree Stop:=.leaf (.done (.tuple [.agg (f4 fw0),I64 1]));let y0:Tree Stop:=.node (decide (line>1099511627776)) y1 (.leaf (.at qP0 114 (j8 114 [(1,I64 line),(3,.ptr 0 0),(5,.ptr 1 0),(6,.ptr 2 0)]) [some (.cells (Fw.cells f)),some (.cells [I64 c.code,I64 c.has,I64 c.x,I64 c.y,I64 c.z,I64 c.e,I64 c.f,I64 c.s]),some (.cells (f4 fw0))])); .node (!v5 f) y1 (.node (!c.valid) y1 (.node (line != 0) (.node (line != i64.wrap (f.line+1)) y1 y0) y0))
theorem ac0(f:Fw)(line:Int)(c:Gc.C):w9 (Env.ofB pP (v6 [qf0,fGv,qe1]) (d7 [x01,xZ9,xZ8,xZ7,xZ3,xZ6,xZ4,xZ5]) (d9 []) (d8 []) (x7 []) (x7 []) (x7 []) (x7 [3])) 1000 (j7 pP 24) .unit (x8 114 [1,3,5,6]) (u7 pP 24) zf3 (v9 pP 24 [f.sv,I64 line,c.sv]) [] =zf4 f line c:=by kernel_rfl
def zf8:Plan:=let z4:Plan:=.fork .all .all;let z1:Plan:=.ln 4 (.fork .all (.ln 4 (.fork (.ln 5 (.lit .all)) (.ln 5 (.fork .all z4)))));let z2:Plan:=.fork (.ln 4 (.fork .all (.ln 4 (.fork (.ln 5 (.lit .all)) (.ln 5 (.fork .all (.lit .all))))))) z1;let z0:Plan:=.fork z1 (.fork z1 (.fork z1 (.fork z2 z2)));let z3:Plan:=.fork (.ln 4 (.fork .all (.ln 7 z4))) (.fork z0 z0);.fork (.ln 12 (.lit .all)) (.fork (.ln 12 z4) (.fork z3 z3))
noncomputable def zg0(f:Fw)(line:Int)(c:Gc.C):Tree Stop:=let y2:=j8 114 [(1,I64 line),(5,.ptr 0 0),(6,.ptr 1 0),(11,.ptr 2 0),(80,I64 0)];let y3:Box:=.cells [I64 c.code,I64 c.has,I64 c.x,I64 c.y,I64 c.z,I64 c.e,I64 c.f,I64 c.s];let y4:Tree Stop:=.leaf (.done (.tuple [.agg (f4 fw0),I64 18]));let y5:Tree Stop:=.leaf (.done (.tuple [.agg (f4 fw0),I64 16]));let y9:=j9 pP 24 0;let y10:Box:=.cells (f4 fw0);let y1:Tree Stop:=.node (f.mode==3) y5 (.node (f.waits != 0) y4 (.node (f.dwell != 0) y4 (.req (v5 f) (.req (c.valid) (.node (q58 f line c != 0) (.leaf (.done (.tuple [.agg (f4 fw0),I64 (q58 f line c)]))) (.leaf (.at y9 114 y2 [some y3,some y10,some (.cells (Fw.cells (q63 f line c)))])))))));let y6:Tree Stop:=.node (f.mode==3) y5 (.node (f.waits != 0) y4 (.node (f.dwell != 0) y4 (.node (qC3 f c != 0) (.leaf (.done (.tuple [.agg (f4 fw0),I64 (qC3 f c)]))) (.leaf (.at y9 114 y2 [some y3,some y10,some (.cells (Fw.cells (qC4 f c)))])))));let y7:Tree Stop:=.node (f.mode==3) y5 (.node (yK3 f c != 0) (.leaf (.done (.tuple [.agg (f4 fw0),I64 (yK3 f c)]))) (.leaf (.at y9 114 y2 [some y3,some y10,some (.cells (Fw.cells (yK4 f c)))])));let y8:Tree Stop:=.node (f.mode==3) y5 (.node (f.waits != 0) y4 (.node (f.dwell != 0) y4 (.leaf (.at y9 114 y2 [some y3,some y10,some (.cells (Fw.cells {f with fan:=c.s}))]))));let y0:Tree Stop:=.node (c.code==4) (.node (f.mode==3) y5 (.node (f.waits != 0) y4 (.node (f.dwell != 0) y4 (.node (zV9 f != 0) (.leaf (.done (.tuple [.agg (f4 fw0),I64 (zV9 f)]))) (.leaf (.at y9 114 y2 [some y3,some y10,some (.cells (Fw.cells (zW0 f c)))])))))) (.node (c.code==28) (.node (f.mode==3) y5 (.node (f.waits != 0) y4 (.node (f.dwell != 0) y4 (.req (v5 f) (.node (qG0 f line != 0) (.leaf (.done (.tuple [.agg (f4 fw0),I64 (qG0 f line)]))) (.leaf (.at y9 114 y2 [some y3,some y10,some (.cells (Fw.cells (qH4 f line)))]))))))) (.node (c.code==1106) (.node (c.code==1106) y8 y6) (.node (c.code==1107) y8 y6)));let y11:Tree Stop:=.node (c.code==0) (.node (c.code==0) y1 y0) (.node (c.code==1) y1 y0); .node (c.code==1112) (.req (xD4 f line) (.leaf (.at y9 114 y2 [some y3,some y10,some (.cells (Fw.cells (xD0 (qW4 f line))))]))) (.node (c.code==1999) (.node (resE f != 0) (.leaf (.done (.tuple [.agg (f4 fw0),I64 (resE f)]))) (.leaf (.at y9 114 y2 [some y3,some y10,some (.cells (Fw.cells (yZ0 f)))]))) (.node (c.code==1025) (.node (c.code==1025) y7 y11) (.node (c.code==1024) y7 y11)))
theorem acT(f:Fw)(line:Int)(c:Gc.C):w9 (Env.ofB pP (v6 [qf0,fGv,qe1]) (d7 [x01,xZ9,xZ8,xZ7,xZ3,xZ6,xZ4,xZ5]) (d9 []) (d8 []) (x7 []) (x7 []) (x7 []) (x7 [])) 1000 (j7 pP 24) .unit (x8 114 [1,5,6,11,80]) qP0 zf8 (j8 114 [(1,I64 line),(3,.ptr 0 0),(5,.ptr 1 0),(6,.ptr 2 0)]) [some (.cells f.cells),some (.cells c.cells),some (.cells (f4 fw0))] =zg0 f line c:=by kernel_rfl
def zf5:Plan:=.lit (.go (.lit (.go (.lit (.fork (.ln 3 (.fork .all .all)) (.ln 3 (.lit .all)))))))
noncomputable def zf7(g:Fw)(line:Int)(c:Gc.C):Tree Stop:= .req (true) (.req true (.req (true) (.req true (.node (line != 0) (.node (c.code != 1112) (.leaf (.done (.tuple [.agg (Fw.cells {g with g0:=g.g0.touch,g1:=g.g1.touch,line:=line}),I64 0]))) (.leaf (.done (.tuple [.agg (Fw.cells {g with g0:=g.g0.touch,g1:=g.g1.touch}),I64 0])))) (.leaf (.done (.tuple [.agg (Fw.cells {g with g0:=g.g0.touch,g1:=g.g1.touch}),I64 0])))))))
theorem ac1(g:Fw)(line:Int)(c:Gc.C):w9 (Env.ofB pP (v6 [qf0,fGv,qe1]) (d7 [x01,xZ9,xZ8,xZ7,xZ3,xZ6,xZ4,xZ5]) (d9 []) (d8 []) (x7 []) (x7 []) (x7 []) (x7 [])) 1000 (j7 pP 24) .unit (x8 114 [1,5,6,11,80]) (j9 pP 24 0) zf5 (j8 114 [(1,I64 line),(5,.ptr 0 0),(6,.ptr 1 0),(11,.ptr 2 0),(80,I64 0)]) [some (.cells c.cells),some (.cells (f4 fw0)),some (.cells g.cells)] =zf7 g line c:=by kernel_rfl
theorem kAc:Known pP (Env.ofB pP (v6 [qf0,fGv,qe1]) (d7 [x01,xZ9,xZ8,xZ7,xZ3,xZ6,xZ4,xZ5]) (d9 []) (d8 []) (x7 []) (x7 []) (x7 []) (x7 [])):=(hB (l:=[qf0,fGv,qe1]) (k:=[x01,xZ9,xZ8,xZ7,xZ3,xZ6,xZ4,xZ5]) (j:=[]) (i:=[]) ([] :List Nat) ([] :List Nat) ([] :List Nat) ([] :List Nat) (⟨yt8,yl7,yt1,trivial⟩) (allQ.all (p:=WFact.ok pP) (l:=[x01,xZ9,xZ8,xZ7,xZ3,xZ6,xZ4,xZ5]) ⟨yv3,yv1,yu8,yu1,yu3,yu0,yu4,yu5,trivial⟩) o4 o4)
section
variable {f:Fw} {line:Int} {c:Gc.C}
theorem q57(h:q58 f line c=0):q63 f line c=q62 f line c:=by
 unfold q58 at h
 split at h
 ·rename_i e
  unfold q63 q62
  rw[if_pos e,xP3 h]
 ·rename_i e;exact absurd h e
theorem y43(h:resE f=0):yZ0 f=yY5 f:=by
 unfold resE at h
 unfold yZ0
 split at h
 ·omega
 ·rename_i m
  rw[if_neg m]
  split at h
  ·omega
  ·rename_i n
   rw[if_neg (fun k=>n (.inl k)),if_neg (fun k=>n (.inr k))]
theorem qF6(h:qG0 f line=0):qH4 f line=qH2 f line:=by
 unfold qG0 at h
 split at h
 ·omega
 ·rename_i n1
  split at h
  ·omega
  ·rename_i n2
   unfold qH4 qH2
   rw[if_neg n1,if_neg n2]
   split
   ·rfl
   ·rename_i n3
    unfold qH7 at h
    rw[if_neg n3]at h
    split at h
    ·omega
    ·rename_i n4
     split at h
     ·omega
     ·rename_i n5
      have n4:backOk (qF7 f line) (qG4 f line)=true:=by simpa using n4
      have n5:backOk (f5 (qF7 f line) (qG4 f line)) (qG7 f line)=true:=by simpa using n5
      unfold hO1 hO2
      rw[if_pos n4,if_pos n5,zu4,zu7];rfl
theorem zW1(h:zV9 f=0):zW0 f c={f with dwell:=c.s}:=by
 unfold zV9 at h
 split at h
 ·rename_i e;exact if_pos e
 ·omega
theorem yK5(hc:c.code=1025):yK3 f c=(if f.mode=1 then 0 else 14)∧(yK3 f c=0→yK4 f c={f with mode:=2}):=by
 have n:¬c.code=1024:=by omega
 have e:yK3 f c=(if f.mode=1 then 0 else 14):=if_neg n
 refine⟨e,fun h=>?_⟩
 rw[e]at h
 split at h
 ·rename_i k
  unfold yK4;rw[if_neg n,if_pos k]
 ·omega
theorem yK6(hc:c.code=1024):yK3 f c=(if f.mode=2 then 0 else 14)∧(yK3 f c=0→yK4 f c={f with mode:=1}):=by
 have e:yK3 f c=(if f.mode=2 then 0 else 14):=if_pos hc
 refine⟨e,fun h=>?_⟩
 rw[e]at h
 split at h
 ·rename_i k
  unfold yK4;rw[if_pos hc,if_pos k]
 ·omega
def zZ7(g:Fw)(line:Int)(c:Gc.C):Fw:=if line=0∨c.code=1112 then xQ2 g else {xQ2 g with line:=line}
theorem zf6(g:Fw):b8 pP (j7 pP 24) (.tuple [(zZ7 g line c).sv,I64 0]) (j9 pP 24 0) (j8 114 [(1,I64 line),(5,.ptr 0 0),(6,.ptr 1 0),(11,.ptr 2 0),(80,I64 0)]) [some (.cells c.cells),some (.cells (f4 fw0)),some (.cells g.cells)] :=by
 refine w6 kAc (n:=1000) (hint:=.unit) (keep:=x8 114 [1,5,6,11,80]) (p:=zf5) rfl ?_
 erw [ac1 g line c]
 unfold zf7 zZ7
 refine⟨rfl,rfl,rfl,rfl,fun l=>⟨fun k=>?_,fun k=>?_⟩,fun l=>?_⟩
 ·rw[if_neg (by have:=bne_iff_ne.1 l;have:=bne_iff_ne.1 k;omega)];rfl
 ·rw[if_pos (.inr (bne_eq_false_iff_eq.1 k))];rfl
 ·rw[if_pos (.inl (bne_eq_false_iff_eq.1 l))];rfl
end
theorem xV8{c:Gc.C}(h:c.valid=true)(n4:¬c.code=4):0≤c.s∧c.s≤400000:=by
 unfold Gc.C.valid at h
 rw[Bool.and_eq_true]at h
 have r:=h.2
 simp only[Gc.rest,Bool.and_eq_true]at r
 have h5:Gc.okW c 5=true:=r.2.2.2.2.2.1
 unfold Gc.okW at h5
 have e:c.num 5=c.s:=by unfold Gc.C.num;simp
 have e1:Gc.lo c.code 5=0:=by unfold Gc.lo;simp
 have e2:Gc.hi c.code 5≤400000:=by unfold Gc.hi;simp[n4];split<;>omega
 rw[e,e1]at h5
 split at h5
 ·have:=beq_iff_eq.1 h5;omega
 ·have:=v8.1 h5;omega
section
variable {f:Fw} {c:Gc.C}
theorem qD1(v:VF f)(hc:c.valid=true)(n4:¬c.code=4):qC3 f c=0∧qC4 f c={qC5 f c with waits:=qC6 f c}:=by
 have s:=xV8 hc n4
 have a0:zn3 f.c0 c.s=true:=zn4.2 ⟨v.c0,s⟩
 have a1:zn3 f.c1 c.s=true:=zn4.2 ⟨v.c1,s⟩
 have e:qC3 f c=0:=by unfold qC3;rw[if_pos a0,if_pos a1];split<;>rfl
 exact⟨e,if_pos e⟩
theorem qC7(h:c.code=1104):({qC5 f c with waits:=qC6 f c}:Fw)={f with c0:=f.c0.aim c.s}:=by
 have b:zw6 c=false:=by unfold zw6;rw[h];rfl
 have w:x06 c=false:=by unfold x06;rw[h];rfl
 unfold qC5 qC6;rw[b,w];rfl
theorem qC8(h:c.code=1109):({qC5 f c with waits:=qC6 f c}:Fw)={f with c0:=f.c0.aim c.s,waits:=orB f.waits 1}:=by
 have b:zw6 c=false:=by unfold zw6;rw[h];rfl
 have w:x06 c=true:=by unfold x06;rw[h];rfl
 unfold qC5 qC6;rw[b,w];rfl
theorem qC9(h:c.code=1140):({qC5 f c with waits:=qC6 f c}:Fw)={f with c1:=f.c1.aim c.s}:=by
 have b:zw6 c=true:=by unfold zw6;rw[h];rfl
 have w:x06 c=false:=by unfold x06;rw[h];rfl
 unfold qC5 qC6;rw[b,w];rfl
theorem qD0(h:c.code=1190):({qC5 f c with waits:=qC6 f c}:Fw)={f with c1:=f.c1.aim c.s,waits:=orB f.waits 2}:=by
 have b:zw6 c=true:=by unfold zw6;rw[h];rfl
 have w:x06 c=true:=by unfold x06;rw[h];rfl
 unfold qC5 qC6;rw[b,w];rfl
end
def doS(f:Fw)(line:Int)(c:Gc.C):SV:=if doE f line c=0 then .tuple [(zZ7 (doF f line c) line c).sv,I64 0]else .tuple [.agg (f4 fw0),I64 (doE f line c)]
section
variable {f:Fw} {line:Int} {c:Gc.C}
theorem zT1:(doS f line c).data=true:=by unfold doS;split<;>rfl
theorem zT2{k:Int}(e:doE f line c=k)(n:¬k=0):SV.tuple [.agg (f4 fw0),.int .i64 k] =doS f line c:=by unfold doS;rw[e,if_neg n]<;>rfl
theorem zT3(e:doE f line c=0){g:Fw}(d:doF f line c=g):doS f line c=.tuple [(zZ7 g line c).sv,I64 0] :=by unfold doS;rw[if_pos e,d]
abbrev AtL(f g:Fw)(line:Int)(c:Gc.C):Prop:=b8 pP (j7 pP 24) (doS f line c) (j9 pP 24 0) (j8 114 [(1,I64 line),(5,.ptr 0 0),(6,.ptr 1 0),(11,.ptr 2 0),(80,I64 0)]) [some (.cells c.cells),some (.cells (f4 fw0)),some (.cells g.cells)]
theorem zr8(e:doE f line c=0){g:Fw}(d:doF f line c=g):AtL f g line c:=by unfold AtL;rw[zT3 e d];exact zf6 g
theorem zL6(h:c.valid=true):c.code=0∨c.code=1∨c.code=4∨c.code=28∨c.code=1024∨c.code=1025∨c.code=1104∨c.code=1106∨c.code=1107∨c.code=1109∨c.code=1112∨c.code=1140∨c.code=1190∨c.code=1999:=by
 unfold Gc.C.valid Gc.C.pre at h
 simp only[Bool.and_eq_true]at h
 have o:=h.1.1
 simp only[Gc.okC,Bool.or_eq_true,decide_eq_true_eq]at o
 rcases o with o|o|o|o
 ·omega
 ·omega
 ·unfold Gc.oneS at o;omega
 ·unfold Gc.none0 at o;omega
theorem zS7(h:c.code=1112):doE f line c=0:=if_pos h
theorem zS8(h:c.code=1112):doF f line c=xD0 (qW4 f line):=if_pos h
end
theorem q82{α:Type}{L:α→Prop}{a k:Int}{T F:Tree α}(h:a=k→T.holds L)(h':¬a=k→F.holds L):(Tree.node (a==k) T F).holds L:=⟨fun e=>h (beq_iff_eq.1 e),fun e=>h' (beq_eq_false_iff_ne.1 e)⟩
theorem q83{α:Type}{L:α→Prop}{a k:Int}{T F:Tree α}(h:¬a=k→T.holds L)(h':a=k→F.holds L):(Tree.node (a != k) T F).holds L:=⟨fun e=>h (bne_iff_ne.1 e),fun e=>h' (bne_eq_false_iff_eq.1 e)⟩
theorem f9{α:Type}{L:α→Prop}{b:Bool}{T F:Tree α}(h:b=true→T.holds L)(h':b=false→F.holds L):(Tree.node b T F).holds L:=⟨h,h'⟩
theorem q84{α:Type}{L:α→Prop}{b:Bool}{T F:Tree α}(h:b=false→T.holds L)(h':b=true→F.holds L):(Tree.node (!b) T F).holds L:=⟨fun e=>h (by simpa using e),fun e=>h' (by simpa using e)⟩
theorem o5{α:Type}{L:α→Prop}{p:Prop}[Decidable p]{T F:Tree α}(h:p→T.holds L)(h':¬p→F.holds L):(Tree.node (decide p) T F).holds L:=⟨fun e=>h (of_decide_eq_true e),fun e=>h' (of_decide_eq_false e)⟩
theorem x6{α:Type}{L:α→Prop}{b:Bool}{T:Tree α}(h:b=true)(h':T.holds L):(Tree.req b T).holds L:=⟨h,h'⟩
section
variable {f:Fw} {line:Int} {c:Gc.C}
theorem zX4(a:c.code=1999):doE f line c=resE f:=by unfold doE;rw[if_neg (by omega),if_pos a]
theorem zW8(a:¬c.code=1112)(b:¬c.code=1999)(m:f.mode=3):doE f line c=16:=by unfold doE;rw[if_neg a,if_neg b,if_pos m]
theorem zX3(a:c.code=1024∨c.code=1025)(m:¬f.mode=3):doE f line c=yK3 f c:=by
 unfold doE yK3
 rw[if_neg (by omega),if_neg (by omega),if_neg m]
 by_cases h:c.code=1024
 ·rw[if_neg (by omega),if_pos h,if_pos h]
 ·rw[if_pos (by omega),if_neg h]
theorem zX5(a:¬c.code=1112∧¬c.code=1999∧¬c.code=1024∧¬c.code=1025)(m:¬f.mode=3)(w:¬f.waits=0∨¬f.dwell=0):doE f line c=18:=by
 unfold doE
 rw[if_neg a.1,if_neg a.2.1,if_neg m,if_neg a.2.2.2,if_neg a.2.2.1,if_pos w]
theorem zX0(a:¬c.code=1112∧¬c.code=1999∧¬c.code=1024∧¬c.code=1025)(m:¬f.mode=3)(w:f.waits=0∧f.dwell=0):doE f line c=if c.code=0∨c.code=1 then q58 f line c else if c.code=4 then(if qJ4 f=true then 0 else 18)else if c.code=28 then qG0 f line else 0:=by
 unfold doE
 rw[if_neg a.1,if_neg a.2.1,if_neg m,if_neg a.2.2.2,if_neg a.2.2.1,if_neg (by omega)]
theorem zX1(k:c.code=0∨c.code=1)(m:¬f.mode=3)(w:f.waits=0∧f.dwell=0):doE f line c=q58 f line c:=by rw[zX0 (by omega) m w,if_pos k]
theorem zW7(k:c.code=4)(m:¬f.mode=3)(w:f.waits=0∧f.dwell=0):doE f line c=zV9 f:=by rw[zX0 (by omega) m w,if_neg (by omega),if_pos k];rfl
theorem zW9(k:c.code=28)(m:¬f.mode=3)(w:f.waits=0∧f.dwell=0):doE f line c=qG0 f line:=by rw[zX0 (by omega) m w,if_neg (by omega),if_neg (by omega),if_pos k]
theorem zX2(k:¬c.code=0∧¬c.code=1∧¬c.code=4∧¬c.code=28)(a:¬c.code=1112∧¬c.code=1999∧¬c.code=1024∧¬c.code=1025)(m:¬f.mode=3)(w:f.waits=0∧f.dwell=0):doE f line c=0:=by rw[zX0 a m w,if_neg (by omega),if_neg (by omega),if_neg (by omega)]
theorem zO7(a:¬c.code=1112∧¬c.code=1999∧¬c.code=1024∧¬c.code=1025):doF f line c=if c.code=0∨c.code=1 then q62 f line c else if c.code=4 then {f with dwell:=c.s} else if c.code=28 then qH2 f line else if c.code=1104 then {f with c0:=f.c0.aim c.s} else if c.code=1109 then {f with c0:=f.c0.aim c.s,waits:=orB f.waits 1} else if c.code=1140 then {f with c1:=f.c1.aim c.s} else if c.code=1190 then {f with c1:=f.c1.aim c.s,waits:=orB f.waits 2} else {f with fan:=c.s}:=by
 unfold doF;rw[if_neg a.1,if_neg a.2.1,if_neg a.2.2.2,if_neg a.2.2.1]
theorem zO8(k:c.code=0∨c.code=1)(h:q58 f line c=0):doF f line c=q63 f line c:=by rw[zO7 (by omega),if_pos k,q57 h]
theorem zO3(k:c.code=4)(h:zV9 f=0):doF f line c=zW0 f c:=by rw[zO7 (by omega),if_neg (by omega),if_pos k,zW1 h]
theorem zO6(k:c.code=28)(h:qG0 f line=0):doF f line c=qH4 f line:=by rw[zO7 (by omega),if_neg (by omega),if_neg (by omega),if_pos k,qF6 h]
theorem zP0(k:c.code=1999)(h:resE f=0):doF f line c=yZ0 f:=by unfold doF;rw[if_neg (by omega),if_pos k,y43 h]
theorem zO9(k:c.code=1024∨c.code=1025)(h:yK3 f c=0):doF f line c=yK4 f c:=by
 unfold doF;rw[if_neg (by omega),if_neg (by omega)]
 by_cases a:c.code=1024
 ·rw[if_neg (by omega),if_pos a,(yK6 a).2 h]
 ·rw[if_pos (by omega),(yK5 (by omega)).2 h]
theorem zO4(k:c.code=1106∨c.code=1107):doF f line c={f with fan:=c.s}:=by rw[zO7 (by omega),if_neg (by omega),if_neg (by omega),if_neg (by omega),if_neg (by omega),if_neg (by omega),if_neg (by omega),if_neg (by omega)]
theorem zO5(v:VF f)(hc:c.valid=true)(k:c.code=1104∨c.code=1109∨c.code=1140∨c.code=1190):doF f line c=qC4 f c:=by
 rw[zO7 (by omega),if_neg (by omega),if_neg (by omega),if_neg (by omega),(qD1 v hc (by omega)).2]
 rcases k with k|k|k|k
 ·rw[if_pos k,qC7 k]
 ·rw[if_neg (by omega),if_pos k,qC8 k]
 ·rw[if_neg (by omega),if_neg (by omega),if_pos k,qC9 k]
 ·rw[if_neg (by omega),if_neg (by omega),if_neg (by omega),if_pos k,qD0 k]
theorem zL5(hc:c.valid=true)(h:¬c.code=0∧¬c.code=1∧¬c.code=4∧¬c.code=28∧¬c.code=1024∧¬c.code=1025∧¬c.code=1106∧¬c.code=1107∧¬c.code=1112∧¬c.code=1999):c.code=1104∨c.code=1109∨c.code=1140∨c.code=1190:=by
 have:=zL6 hc;omega
set_option maxHeartbeats 4000000 in
theorem zf9(v:v5 f=true)(hc:c.valid=true)(hs:xD4 f line=true):b8 pP (j7 pP 24) (doS f line c) qP0 (j8 114 [(1,I64 line),(3,.ptr 0 0),(5,.ptr 1 0),(6,.ptr 2 0)]) [some (.cells f.cells),some (.cells c.cells),some (.cells (f4 fw0))] :=by
 refine w6 kAc (n:=1000) (hint:=.unit) (keep:=x8 114 [1,5,6,11,80]) (p:=zf8) zT1 ?_
 erw [acT f line c]
 unfold zg0
 have vf:=p7 v
 repeat' first
  |refine q82 (fun _=>?_) (fun _=>?_)
  |refine q83 (fun _=>?_) (fun _=>?_)
  |refine x6 hs ?_
  |refine x6 v ?_
  |refine x6 hc ?_
 all_goals first
  |(exfalso;omega)
  |exact zT2 (zW8 (by omega) (by omega) (by assumption)) (by omega)
  |exact zT2 (zX5 (by omega) (by assumption) (by omega)) (by omega)
  |exact zT2 (zX4 (by assumption)) (by assumption)
  |exact zT2 (zX3 (by omega) (by assumption)) (by assumption)
  |exact zT2 (zX1 (by omega) (by assumption) (by omega)) (by assumption)
  |exact zT2 (zW7 (by omega) (by assumption) (by omega)) (by assumption)
  |exact zT2 (zW9 (by omega) (by assumption) (by omega)) (by assumption)
  |exact absurd (qD1 vf hc (by omega)).1 (by assumption)
  |exact⟨rfl,zr8 (zS7 (by assumption)) (zS8 (by assumption))⟩
  |exact⟨rfl,zr8 ((zX4 (by assumption)).trans (by assumption)) (zP0 (by assumption) (by assumption))⟩
  |exact⟨rfl,zr8 ((zX3 (by omega) (by assumption)).trans (by assumption)) (zO9 (by omega) (by assumption))⟩
  |exact⟨rfl,zr8 ((zX1 (by omega) (by assumption) (by omega)).trans (by assumption)) (zO8 (by omega) (by assumption))⟩
  |exact⟨rfl,zr8 ((zW7 (by omega) (by assumption) (by omega)).trans (by assumption)) (zO3 (by omega) (by assumption))⟩
  |exact⟨rfl,zr8 ((zW9 (by omega) (by assumption) (by omega)).trans (by assumption)) (zO6 (by omega) (by assumption))⟩
  |exact⟨rfl,zr8 (zX2 (by omega) (by omega) (by assumption) (by omega)) (zO4 (by omega))⟩
  |exact⟨rfl,zr8 (zX2 (by omega) (by omega) (by assumption) (by omega)) (zO5 vf hc (zL5 hc (by omega)))⟩
end
abbrev za7:=Int×Int×Int×Int×Int×Int×Int×Int
abbrev OpT:=Int×Bool×za7×Int×Int×Int
abbrev xS7:Ty:=.pair (.int .i64) (.pair .bool (.pair (.pair (.int .i64) (.pair (.int .i64) (.pair (.int .i64) (.pair (.int .i64) (.pair (.int .i64) (.pair (.int .i64) (.pair (.int .i64) (.int .i64)))))))) (.pair (.int .i64) (.pair (.int .i64) (.int .i64)))))
abbrev LO(l:List OpT):SV:=.list xS7 l
def dOp:OpT:=(0,false,(0,0,0,0,0,0,0,0),0,0,0)
def opN(x:OpT):Int:=x.2.2.2.1
def opC(x:OpT):Gc.C:=⟨x.2.2.1.1,x.2.2.1.2.1,x.2.2.1.2.2.1,x.2.2.1.2.2.2.1,x.2.2.1.2.2.2.2.1,x.2.2.1.2.2.2.2.2.1,x.2.2.1.2.2.2.2.2.2.1,x.2.2.1.2.2.2.2.2.2.2⟩
theorem k00:Known pP (Env.of pP (v6 [])):=kW trivial
theorem y35{a b e:Int}(hb:1≤b)(h:a≤e*b):rnd a b≤e:=by
 have m:=q43 (a:=a) hb
 have d:=Int.mul_ediv_add_emod a b
 have h1:a / b≤e:=Int.ediv_le_of_le_mul (by omega) h
 unfold rnd
 split
 ·rename_i k
  by_cases q:a / b=e
  ·rw[q]at d
   have:=Int.mul_comm b e
   omega
  ·omega
 ·exact h1
theorem qU5{a b e:Int}(hb:1≤b)(h:e*b≤a):e≤rnd a b:=by
 have h1:e≤a / b:=Int.le_ediv_of_mul_le (by omega) h
 unfold rnd;split<;>omega
theorem xU7{a:Ax}{p M:Int}(h:a.ok=true)(hM:0≤M)(hp: -M≤p∧p≤M): -M≤xU6 a p∧xU6 a p≤M:=by
 have o:=(Ax.ok_iff a).1 h
 unfold xU6
 have k:=Int.mul_le_mul_of_nonneg_left (show a.den≤a.num by omega) hM
 have u1:=Int.mul_le_mul_of_nonneg_right hp.2 (show 0≤a.den by omega)
 have u2:=Int.mul_le_mul_of_nonneg_right hp.1 (show 0≤a.den by omega)
 rw[Int.neg_mul]at u2
 exact⟨qU5 (by omega) (by rw[Int.neg_mul];omega),y35 (by omega) (by omega)⟩
theorem xC4{a:Ax}{p M:Int}(h:a.ok=true)(hM:0≤M)(hs: -M≤xC3 a p∧xC3 a p≤M): -M≤p∧p≤M:=by
 have o:=(Ax.ok_iff a).1 h
 unfold xC3 at hs
 constructor
 ·rcases Int.lt_or_le p (-M)with k|k
  ·exfalso
   have u1:=Int.mul_le_mul_of_nonneg_right (show p≤-(M+1) by omega) (show 0≤a.num by omega)
   have u2:=Int.mul_le_mul_of_nonneg_left (show a.den≤a.num by omega) (show 0≤M+1 by omega)
   have:=y35 (a:=p*a.num) (b:=a.den) (e:= -(M+1)) (by omega) (by rw[Int.neg_mul]at u1 ⊢;omega)
   omega
  ·exact k
 ·rcases Int.lt_or_le M p with k|k
  ·exfalso
   have u1:=Int.mul_le_mul_of_nonneg_right (show M+1≤p by omega) (show 0≤a.num by omega)
   have u2:=Int.mul_le_mul_of_nonneg_left (show a.den≤a.num by omega) (show 0≤M+1 by omega)
   have:=qU5 (a:=p*a.num) (b:=a.den) (e:=M+1) (by omega) (by omega)
   omega
  ·exact k
theorem yP2{m:Ma}{p:V4}(hm:m.ok=true)(hp:v7 p=true):(-16777216≤(yP1 m p).1∧(yP1 m p).1≤16777216)∧(-16777216≤(yP1 m p).2.1∧(yP1 m p).2.1≤16777216)∧(-16777216≤(yP1 m p).2.2.1∧(yP1 m p).2.2.1≤16777216)∧-16777216≤(yP1 m p).2.2.2∧(yP1 m p).2.2.2≤16777216:=by
 have o:=(Ma.ok_iff m).1 hm
 have n:=t8.1 hp
 have un:(-16777216≤(xT9 m.xy p).1∧(xT9 m.xy p).1≤16777216)∧(-16777216≤(xT9 m.xy p).2.1∧(xT9 m.xy p).2.1≤16777216)∧(xT9 m.xy p).2.2=p.2.2:=by
  unfold xT9;split
  ·dsimp only;exact⟨by omega,by omega,rfl⟩
  ·exact⟨n.1,n.2.1,rfl⟩
 unfold yP1;dsimp only
 exact⟨xU7 o.1 (by omega) un.1,xU7 o.2.1 (by omega) un.2.1,xU7 o.2.2.1 (by omega) (by rw[un.2.2];exact n.2.2.1),xU7 o.2.2.2.1 (by omega) (by rw[un.2.2];exact n.2.2.2)⟩
theorem qH1{f:Fw}(hm:f.ma.ok=true)(hp:v7 f.pos=true): -16777216≤qH0 f∧qH0 f≤16777216:=by
 unfold qH0;split
 ·exact xU7 ((Ma.ok_iff _).1 hm).2.2.2.1 (by omega) (t8.1 hp).2.2.2
 ·omega
theorem q55{m:Ma}{u:V3}{e:Int}(hm:m.ok=true)(h:v7 (q53 m u e)=true): -16777216≤e∧e≤16777216:=by
 have o:=(Ma.ok_iff m).1 hm
 have n:=(t8.1 h).2.2.2
 refine xC4 o.2.2.2.1 (by omega) ?_
 have:(q53 m u e).2.2.2=xC3 m.e e:=by unfold q53 zL7;split<;>rfl
 rw[this]at n;exact n
section
variable {l:List Bk} {caps:List Int} {e:Int}
theorem qw0(h:PlOk l caps e)(he:e≤crL l 0)(h0:gL l caps e 0=e):zc8 (crL l) (zF8 caps) (reL l) e l.length (gL l caps e):=
 (yL9 h.lim he (fun i=>(h.crR i).1) (qA6 h.lim h0) fun x hx i hi=>by
   rcases Nat.eq_zero_or_pos i with rfl|hp
   ·rw[hx.first];exact Int.le_of_eq h0.symm
   ·exact xw2 h.lim hx _ i rfl hp hi).1.2 h0
theorem yN1(h:PlOk l caps e)(he:e≤crL l 0)(h0:gL l caps e 0=e){i:Nat}(hi:i<l.length):xW7 ((plB l (gL l caps e)).getD i dBk)=true:=by
 have p:=qw0 h he h0
 have s:xx3 (l.getD i dBk)=true:=qw4 h.snd hi
 have s1:=xx4.1 s
 have a:=p.2.2 i (by omega)
 have b:=p.2.2 (i+1) (by omega)
 have a2:=a.2.1 hi
 have b2:=b.2.2.1 (by omega)
 have a1:=a.1
 have b1:=b.1
 rw[yM8 hi]
 rw[show i+1-1=i by omega]at b2
 unfold crL at a2 b2
 exact xW8.2 ⟨s1,⟨a1,a2⟩,b1,b2⟩
theorem yO7{p:V4}{q r:List Bk}:∀n,(∀i,i<n→(q.getD i dBk).1=(r.getD i dBk).1)→yO6 p q n=yO6 p r n
 |0,_=>rfl
 |n+1,h=>by
  show r8 (yO6 p q n) (q.getD n dBk).1=r8 (yO6 p r n) (r.getD n dBk).1
  rw[yO7 n fun i hi=>h i (by omega),h n (by omega)]
end
section
variable {g:Fw} {d:V4} {len line:Int}
theorem zl0{i:Nat}(h:i<g.queue.length):(r9 g d len).getD i dBk=g.queue.getD i dBk:=by
 unfold r9
 rw[List.getD_eq_getElem?_getD,List.getElem?_append_left h,←List.getD_eq_getElem?_getD]
theorem zk9:(r9 g d len).getD g.queue.length dBk=q92 g.ma d len g.feed:=by
 unfold r9
 rw[List.getD_eq_getElem?_getD,List.getElem?_append_right (Nat.le_refl _),Nat.sub_self];rfl
theorem zj0{i:Nat}(h:i<g.queue.length+1):((f7 g d len line).queue.getD i dBk).1=((r9 g d len).getD i dBk).1:=by
 show((plB _ _).getD i dBk).1=_
 rw[yM8 (by rw[zk8];exact h)];rfl
theorem zj5{p:V4}{i:Nat}(h:i≤g.queue.length):yO6 p (f7 g d len line).queue i=yO6 p g.queue i:=
 yO7 i fun k hk=>by rw[zj0 (by omega),zl0 (by omega)]
theorem zj6{p:V4}:yO6 p (f7 g d len line).queue (g.queue.length+1)=r8 (yO6 p g.queue g.queue.length) d:=by
 show r8 (yO6 p _ g.queue.length) ((f7 g d len line).queue.getD g.queue.length dBk).1=_
 rw[zj5 (Nat.le_refl _),zj0 (by omega),zk9];rfl
theorem zl7:qy4 (f7 g d len line)=r8 (qy4 g) d:=by
 unfold qy4
 rw[zj2]
 exact zj6
theorem qW9{i:Nat}(hl:g.lines.length=g.queue.length):(f7 g d len line).lines.getD i 0=if i<g.queue.length then g.lines.getD i 0 else if i=g.queue.length then line else 0:=by
 show(g.lines++[line]).getD i 0=_
 rw[List.getD_eq_getElem?_getD]
 split
 ·rw[List.getElem?_append_left (by omega),←List.getD_eq_getElem?_getD]
 ·split
  ·rename_i h;subst h
   rw[List.getElem?_append_right (by omega),hl,Nat.sub_self];rfl
  ·rw[List.getElem?_eq_none (by simp;omega)];rfl
theorem zm1(hq:yS7 g=true)(hp:zk6 g d len=true)(ho:zk4 g d len=true)(hl:g.queue.length<32)(hn:v7 (r8 (qy4 g) d)=true)(hr:0≤line∧line≤1099511627776):yS7 (f7 g d len line)=true:=by
 obtain⟨q1,q2,q3,q4,q5,q6,q7⟩:=yS8.1 hq
 refine yS8.2 ⟨by rw[zj2];omega,zj3 q2,q3,q4,q5,q6,fun i hi=>?_⟩
 rw[zj2]at hi
 have o:=zk5.1 ho
 refine zA7.2 ⟨yN1 (zm0 hp) o.1 o.2 (by rw[zk8];exact hi),?_,?_⟩
 ·rw[qW9 q2]
  split
  ·exact(zA9 (q7 i (by assumption))).2.1
  ·split<;>omega
 ·show v7 (yO6 (yS4 g) (f7 g d len line).queue (i+1))=true
  rcases Nat.lt_or_ge i g.queue.length with k|k
  ·rw[zj5 (by omega)];exact(zA9 (q7 i k)).2.2
  ·obtain rfl:i=g.queue.length:=by omega
   rw[zj6];exact hn
end
theorem xW0{c:Gc.C}(h:c.valid=true):Gc.okW c 5=true:=by
 unfold Gc.C.valid at h
 rw[Bool.and_eq_true]at h
 have r:=h.2
 simp only[Gc.rest,Bool.and_eq_true]at r
 exact r.2.2.2.2.2.1
theorem yd8(c:Gc.C):c.num 5=c.s:=by unfold Gc.C.num;simp
theorem xV9{c:Gc.C}(h:c.valid=true):0≤c.s∧c.s≤1048576:=by
 have h5:=xW0 h
 unfold Gc.okW at h5
 have e1:Gc.lo c.code 5=0:=by unfold Gc.lo;simp
 have e2:Gc.hi c.code 5≤1048576:=by unfold Gc.hi;simp;split<;>(try split)<;>omega
 rw[yd8,e1]at h5
 split at h5
 ·have:=beq_iff_eq.1 h5;omega
 ·have:=v8.1 h5;omega
theorem xV7{c:Gc.C}(h:c.valid=true)(k:c.code=1106∨c.code=1107):0≤c.s∧c.s≤255:=by
 have h5:=xW0 h
 unfold Gc.okW at h5
 rw[yd8]at h5
 rcases k with k|k
 ·have e1:Gc.lo c.code 5=0:=by unfold Gc.lo;simp
  have e2:Gc.hi c.code 5=255:=by unfold Gc.hi;simp[k]
  rw[e1,e2]at h5
  split at h5
  ·have:=beq_iff_eq.1 h5;omega
  ·exact v8.1 h5
 ·have hb:c.has=0:=by
   unfold Gc.C.valid Gc.C.pre at h
   simp only[Bool.and_eq_true]at h
   have q:=h.1.2.2
   have a:Gc.allW c.code=true:=by rw[k];decide
   have m:Gc.may c.code=0:=by rw[k];decide
   rw[a,m]at q
   simpa using q
  have b0:Gc.bit c.has 5=0:=by rw[hb];decide
  rw[if_pos b0]at h5
  have:=beq_iff_eq.1 h5;omega
theorem xY9{f:Fw}(p:yK0 f=true)(m:1≤f.mode∧f.mode≤3)(n:yd9 f=true)(mv:q66 f=true)(q:yS7 f=true)(e:(¬f.mode=3∧f.homed=true)∨(f.moving=false∧f.queue.length=0)):v5 f=true:=
 xW9.2 ⟨p,q42.2 ⟨m,n⟩,mv,q,zZ6.2 e⟩
theorem xX3{f:Fw}(h:v5 f=true):yd9 f=true:=(q42.1 (xW9.1 h).2.1).2
theorem xX4{f:Fw}(h:v5 f=true):yK0 f=true:=(xW9.1 h).1
theorem yD6{f:Fw}(h:xv2 f=true):1≤n8 f:=by
 have s:=xv3.1 h
 have fl:∀ (l:List Int) (d:Int),1≤d→1≤qs0 l d:=by
  intro l
  induction l with
  |nil=>exact fun d h=>h
  |cons x l ih=>
   intro d h
   unfold qs0
   by_cases k:0<x
   ·rw[if_pos k];omega
   ·rw[if_neg k];exact ih d h
 unfold n8
 split
 ·omega
 ·exact fl _ _ (by omega)
theorem xC7{f:Fw}(h1:f.mo=m0)(h2:f.active=0):xC5 f=true:=by
 unfold xC5;rw[h1,h2];decide
theorem yS5{f:Fw}(h:f.moving=false)(hm:f.mo.1.1=z4):yS4 f=f.pos:=by
 unfold yS4;rw[zy8 h,hm];exact zi9 _
theorem yS9{f:Fw}(h:f.moving=false)(hm:f.mo.1.1=z4)(q:f.queue=[])(l:f.lines=[])(p:v7 f.pos=true)(r:v7 f.ret=true):yS7 f=true:=
 yS8.2 ⟨by rw[q];decide,by rw[q,l];rfl,p,r,by rw[zy8 h];exact p,by rw[yS5 h hm];exact p,fun i hi=>by rw[q]at hi;exact absurd hi (Nat.not_lt_zero _)⟩
theorem xC9{f:Fw}(h:v5 f=true)(hm:f.moving=false):f.mo.1.1=z4:=by
 have v:=p7 h
 have m:=v.moves
 rw[q67 hm]at m
 have q:=yS6 v.moves hm
 unfold yS4 at q
 generalize begin4 f=b at q
 obtain⟨b1,b2,b3,b4⟩:=b
 generalize f.mo.1.1=x at q
 obtain⟨x1,x2,x3,x4⟩:=x
 unfold r8 at q
 simp only[Prod.mk.injEq]at q
 unfold z4
 simp only[Prod.mk.injEq]
 omega
theorem qY3{f:Fw}(v:VF f):v7 (qY2 f)=true:=by
 unfold qY2;split
 ·exact v.beg
 ·split
  ·exact v.pos
  ·exact v.ret
theorem qY8{f:Fw}(h:v5 f=true):v5 {qY1 f with mode:=3}=true:=by
 have v:=p7 h
 have vp:=xX4 h
 have n:=v.nums
 have o1:=yD7 v.shape
 have o2:=yD6 v.shape
 refine xY9 vp (by show 1≤(3:Int)∧(3:Int)≤3;omega) (ye0.2 ?_) ?_ ?_ (.inr ⟨rfl,rfl⟩)
 ·show _∧_∧_∧_∧_∧((0:Int)≤0∧(0:Int)≤1048576)∧((0:Int)≤0∧(0:Int)≤3)∧_∧(0≤n8 f-1∧n8 f-1≤1099511627776)∧((0:Int)≤0∧(0:Int)≤1099511627776)∧_
  exact⟨n.1,n.2.1,n.2.2.1,n.2.2.2.1,n.2.2.2.2.1,by omega,by omega,n.2.2.2.2.2.2.2.1,by omega,by omega,n.2.2.2.2.2.2.2.2.2.2⟩
 ·rw[q67 rfl];exact xC7 rfl rfl
 ·exact yS9 rfl rfl rfl rfl v.pos (qY3 v)
theorem qW8{f:Fw}{line:Int}(h:v5 f=true)(hl:0≤line∧line≤1099511627776):v5 {f with line:=line}=true:=by
 have v:=p7 h
 have vp:=xX4 h
 have n:=v.nums
 refine xY9 vp v.mode (ye0.2 ?_) v.moves v.queued v.ends
 exact⟨n.1,n.2.1,n.2.2.1,n.2.2.2.1,n.2.2.2.2.1,n.2.2.2.2.2.1,n.2.2.2.2.2.2.1,n.2.2.2.2.2.2.2.1,hl,n.2.2.2.2.2.2.2.2.2⟩
theorem qW6{f:Fw}{line:Int}(h:v5 f=true)(hl:0≤line∧line≤1099511627776):v5 (qW4 f line)=true:=by
 unfold qW4;split
 ·exact h
 ·exact qW8 h hl
theorem qA9{f:Fw}{a b:Gu}(h:v5 f=true)(ha:a.ok=true)(hb:b.ok=true):v5 {f with g0:=a,g1:=b}=true:=by
 have v:=p7 h
 have vn:=xX3 h
 exact xY9 (yK1.2 ⟨v.ma,v.c0,v.c1,ha,hb⟩) v.mode vn v.moves v.queued v.ends
theorem xQ3{f:Fw}(h:v5 f=true):v5 (xQ2 f)=true:=qA9 h (Gu.touch_ok (p7 h).g0).1 (Gu.touch_ok (p7 h).g1).1
theorem xD2{f:Fw}(h:v5 f=true):v5 (xD1 f)=true:=qA9 h (Gu.stop_ok (p7 h).g0).1 (Gu.stop_ok (p7 h).g1).1
theorem yY7{g:Gu}{r:Int}(h:g.ok=true)(k:yZ3 g r=true):(yY6 g r).ok=true∧(yY6 g r).fault=0∧(yY6 g r).low=g.low∧(yY6 g r).high=g.high:=by
 unfold yY6
 split
 ·rename_i e;exact⟨h,e,rfl,rfl⟩
 ·rename_i e
  have:=yZ4.1 k
  exact Gu.rest_ok h (by rcases this with k|k;exact absurd k e;exact k)
theorem yY4{f:Fw}(h:resE f=0):f.mode=3∧yZ3 f.g0 f.r0=true∧yZ3 f.g1 f.r1=true:=by
 unfold resE at h
 split at h
 ·omega
 ·rename_i m
  split at h
  ·omega
  ·rename_i n
   exact⟨by omega,by simpa using fun k=>n (.inl k),by simpa using fun k=>n (.inr k)⟩
theorem yZ6{f:Fw}(h:v5 f=true)(e:resE f=0):v5 (yY5 f)=true:=by
 have v:=p7 h
 have vn:=xX3 h
 obtain⟨m,r0,r1⟩:=yY4 e
 have en:f.moving=false∧f.queue.length=0:=by
  rcases v.ends with k|k
  ·exact absurd m k.1
  ·exact k
 exact xY9 (yK1.2 ⟨v.ma,v.c0,v.c1,(yY7 v.g0 r0).1,(yY7 v.g1 r1).1⟩) (by show 1≤(1:Int)∧(1:Int)≤3;omega) vn v.moves v.queued (.inr en)
theorem q45{f:Fw}{m:Int}(h:v5 f=true)(k:¬f.mode=3)(hm:1≤m∧m≤2):v5 {f with mode:=m}=true:=by
 have v:=p7 h
 have vp:=xX4 h
 have vn:=xX3 h
 refine xY9 vp (by show 1≤m∧m≤3;omega) vn v.moves v.queued ?_
 rcases v.ends with e|e
 ·exact .inl ⟨by show ¬m=3;omega,e.2⟩
 ·exact .inr e
theorem qo5{f:Fw}{n:Int}(h:v5 f=true)(hn:0≤n∧n≤255):v5 {f with fan:=n}=true:=by
 have v:=p7 h
 have vp:=xX4 h
 have k:=v.nums
 exact xY9 vp v.mode (ye0.2 ⟨k.1,k.2.1,k.2.2.1,k.2.2.2.1,k.2.2.2.2.1,k.2.2.2.2.2.1,k.2.2.2.2.2.2.1,hn,k.2.2.2.2.2.2.2.2⟩) v.moves v.queued v.ends
theorem zW2{f:Fw}{n:Int}(h:v5 f=true)(hn:0≤n∧n≤1048576):v5 {f with dwell:=n}=true:=by
 have v:=p7 h
 have vp:=xX4 h
 have k:=v.nums
 exact xY9 vp v.mode (ye0.2 ⟨k.1,k.2.1,k.2.2.1,k.2.2.2.1,k.2.2.2.2.1,hn,k.2.2.2.2.2.2⟩) v.moves v.queued v.ends
theorem x15{f:Fw}{n:Int}(h:v5 f=true)(hn:0≤n∧n≤3):v5 {f with waits:=n}=true:=by
 have v:=p7 h
 have vp:=xX4 h
 have k:=v.nums
 exact xY9 vp v.mode (ye0.2 ⟨k.1,k.2.1,k.2.2.1,k.2.2.2.1,k.2.2.2.2.1,k.2.2.2.2.2.1,hn,k.2.2.2.2.2.2.2⟩) v.moves v.queued v.ends
theorem zC1{f:Fw}{a:Co}(h:v5 f=true)(ha:a.ok=true):v5 {f with c0:=a}=true:=by
 have v:=p7 h
 have vn:=xX3 h
 exact xY9 (yK1.2 ⟨v.ma,ha,v.c1,v.g0,v.g1⟩) v.mode vn v.moves v.queued v.ends
theorem zC2{f:Fw}{a:Co}(h:v5 f=true)(ha:a.ok=true):v5 {f with c1:=a}=true:=by
 have v:=p7 h
 have vn:=xX3 h
 exact xY9 (yK1.2 ⟨v.ma,v.c0,ha,v.g0,v.g1⟩) v.mode vn v.moves v.queued v.ends
section
variable {f:Fw} {line:Int} {c:Gc.C}
theorem q59(h:q58 f line c=0):(1≤line∧f.homed=true∧f.back=false∧f.mode=1)∧qL2 f.ma (f6 f c)=true∧q46 f.ma (f6 f c) (xH1 f c)=true∧tlE (b7 f c) (f6 f c) (xH1 f c) (q64 f c) (q60 f c)=0:=by
 by_cases k:line<1∨f.homed=false∨f.back=true∨¬f.mode=1
 ·rw[(q77 (c:=c) k).1]at h;omega
 by_cases k2:qL2 f.ma (f6 f c)=false∨q46 f.ma (f6 f c) (xH1 f c)=false
 ·rw[(q79 k k2).1]at h;omega
 by_cases k3:f.e<xH1 f c∧f.r0<f.cold
 ·rw[(q78 k k2 k3).1]at h;omega
 rw[(q76 k k2 k3).1]at h
 refine⟨⟨by omega,by simpa using fun n=>k (.inr (.inl n)),by simpa using fun n=>k (.inr (.inr (.inl n))),?_⟩,by simpa using fun n=>k2 (.inl n),by simpa using fun n=>k2 (.inr n),h⟩
 rcases Int.lt_trichotomy f.mode 1 with q|q|q
 ·exact absurd (.inr (.inr (.inr (by omega)))) k
 ·exact q
 ·exact absurd (.inr (.inr (.inr (by omega)))) k
theorem xO9{g:Fw}{u:V3}{e:Int}{p d:V4}(h:tlE g u e p d=0):v7 p=true∧v7 d=true∧(nz4 d=true→¬32≤g.queue.length∧zk4 g d (qV4 g u e)=true):=by
 cases hn:v7 p&&v7 d with
 |false=>rw[xO4 hn]at h;omega
 |true=>
  have n:=(Bool.and_eq_true _ _).mp hn
  refine⟨n.1,n.2,fun hz=>?_⟩
  by_cases q:32≤g.queue.length
  ·rw[xO5 hn hz q]at h;omega
  ·by_cases o:zk4 g d (qV4 g u e)=true
   ·exact⟨q,o⟩
   ·rw[xO6 hn hz q o]at h;omega
theorem qq4(h:v5 f=true)(hc:c.valid=true):v5 (b7 f c)=true:=by
 unfold b7
 split
 ·have v:=p7 h
  have vp:=xX4 h
  have k:=v.nums
  exact xY9 vp v.mode (ye0.2 ⟨k.1,k.2.1,k.2.2.1,k.2.2.2.1,xV6 hc,k.2.2.2.2.2⟩) v.moves v.queued v.ends
 ·exact h
theorem qq0:qy4 (b7 f c)=qy4 f:=by unfold b7;split<;>rfl
theorem qX7{f:Fw}{u:V3}{e:Int}(h:v5 f=true)(hu:(-16777216≤u.1∧u.1≤16777216)∧(-16777216≤u.2.1∧u.2.1≤16777216)∧-16777216≤u.2.2∧u.2.2≤16777216)(he: -16777216≤e∧e≤16777216):v5 {f with loc:=u,e:=e}=true:=by
 have v:=p7 h
 have vp:=xX4 h
 have k:=v.nums
 exact xY9 vp v.mode (ye0.2 ⟨hu.1,hu.2.1,hu.2.2,he,k.2.2.2.2⟩) v.moves v.queued v.ends
theorem zm2{g:Fw}{d:V4}{len:Int}(h:v5 g=true)(hm:¬g.mode=3∧g.homed=true)(hp:zk6 g d len=true)(ho:zk4 g d len=true)(hl:g.queue.length<32)(hn:v7 (r8 (qy4 g) d)=true)(hr:0≤line∧line≤1099511627776):v5 (f7 g d len line)=true:=by
 have v:=p7 h
 have vp:=xX4 h
 have vn:=xX3 h
 exact xY9 vp v.mode vn v.moves (zm1 v.queued hp ho hl hn hr) (.inl hm)
theorem q65(h:v5 f=true)(hc:c.valid=true)(hz:q58 f line c=0)(hl:line≤1099511627776):v5 (q62 f line c)=true:=by
 have v:=p7 h
 obtain⟨s,ki,km,t⟩:=q59 hz
 obtain⟨t1,t2,t3⟩:=xO9 t
 have ii:=qL3.1 ki
 have o:=(Ma.ok_iff f.ma).1 v.ma
 have a1:=(Ax.ok_iff _).1 o.1
 have a2:=(Ax.ok_iff _).1 o.2.1
 have a3:=(Ax.ok_iff _).1 o.2.2.1
 have er: -16777216≤xH1 f c∧xH1 f c≤16777216:=q55 (m:=f.ma) (u:=f6 f c) v.ma t1
 have fv:=qq4 h hc
 have hmd:¬(b7 f c).mode=3∧(b7 f c).homed=true:=by
  have:(b7 f c).mode=f.mode∧(b7 f c).homed=f.homed:=by unfold b7;split<;>exact⟨rfl,rfl⟩
  rw[this.1,this.2];exact⟨by omega,s.2.1⟩
 unfold q62
 cases z:nz4 (q60 f c)with
 |false=>rw[xP0 z];exact qX7 fv (by omega) er
 |true=>
  rw[xP1 z]
  obtain⟨q1,q2⟩:=t3 z
  refine qX7 (zm2 fv hmd (q80 v hc ki km t2 z).2 q2 (by omega) ?_ (by omega)) (by omega) er
  rw[qq0,show q60 f c=xE8 (q64 f c) (qy4 f)from rfl,zi8];exact t1
theorem qy5{f:Fw}(hm:f.moving=false)(hz:f.mo.1.1=z4)(hq:f.queue.length=0):qy4 f=f.pos:=by
 unfold qy4;rw[hq];exact yS5 hm hz
theorem qF9(h:v5 f=true)(hi:qJ4 f=true)(hm:f.mode=1):v5 (qF7 f line)=true:=by
 have v:=p7 h
 have vp:=xX4 h
 obtain⟨i1,i2,i3⟩:=qJ5.1 hi
 have k:=v.nums
 have q0:f.queue=[] :=List.length_eq_zero_iff.1 i2
 have l0:f.lines=[] :=List.length_eq_zero_iff.1 (by rw[v.lens,i2])
 have np:=t8.1 v.pos
 have sm:=xC9 h i1
 refine xY9 vp v.mode (ye0.2 ?_) v.moves (yS9 i1 sm q0 l0 (t8.2 ?_) (qH6 v)) (.inl ⟨by show ¬f.mode=3;omega,rfl⟩)
 ·show((-16777216:Int)≤0∧(0:Int)≤16777216)∧((-16777216:Int)≤0∧(0:Int)≤16777216)∧((-16777216:Int)≤0∧(0:Int)≤16777216)∧(-16777216≤qH0 f∧qH0 f≤16777216)∧_
  exact⟨by omega,by omega,by omega,qH1 v.ma v.pos,k.2.2.2.2⟩
 ·show((-16777216:Int)≤0∧(0:Int)≤16777216)∧((-16777216:Int)≤0∧(0:Int)≤16777216)∧((-16777216:Int)≤0∧(0:Int)≤16777216)∧_
  exact⟨by omega,by omega,by omega,np.2.2.2⟩
theorem yf5{d:V4}(z:nz4 d=false):d=z4:=by
 have n:d.1=0∧d.2.1=0∧d.2.2.1=0∧d.2.2.2=0:=by unfold nz4 at z;simpa using z
 obtain⟨a1,a2,a3,a4⟩:=d
 dsimp only at n
 unfold z4;simp only[Prod.mk.injEq];exact n
theorem zu2{g:Fw}{d:V4}:qy4 (f5 g d)=r8 (qy4 g) d:=by
 cases z:nz4 d with
 |false=>rw[zu6 z,yf5 z,zi9]
 |true=>rw[zu8 z,zl7]
theorem zu3{g:Fw}{d:V4}:(f5 g d).queue.length≤g.queue.length+1:=by
 cases z:nz4 d with
 |false=>rw[zu6 z];omega
 |true=>rw[zu8 z,zj2];omega
theorem zv6{g:Fw}{d:V4}(h:v5 g=true)(hm:¬g.mode=3∧g.homed=true)(hp:nz4 d=true→zk6 g d 0=true)(ho:backOk g d=true)(hl:g.queue.length<32)(hn:v7 (r8 (qy4 g) d)=true):v5 (f5 g d)=true:=by
 cases z:nz4 d with
 |false=>rw[zu6 z];exact h
 |true=>
  rw[zu8 z]
  rw[zv0 z]at ho
  exact zm2 h hm (hp z) ho hl hn (by omega)
theorem zu5{g:Fw}{d:V4}:(f5 g d).mode=g.mode∧(f5 g d).homed=g.homed∧(f5 g d).pos=g.pos:=by unfold f5;split<;>exact⟨rfl,rfl,rfl⟩
theorem qG1(h:qG0 f line=0):qJ4 f=true∧f.mode=1∧qH7 f line=0:=by
 unfold qG0 at h
 split at h
 ·omega
 ·rename_i n1
  split at h
  ·omega
  ·rename_i n2;exact⟨by simpa using n1,by omega,h⟩
theorem qH8(h:qH7 f line=0)(hb:¬qG2 f line=false):backOk (qF7 f line) (qG4 f line)=true∧backOk (f5 (qF7 f line) (qG4 f line)) (qG7 f line)=true:=by
 unfold qH7 at h
 rw[if_neg hb]at h
 split at h
 ·omega
 ·rename_i n4
  split at h
  ·omega
  ·rename_i n5;exact⟨by simpa using n4,by simpa using n5⟩
theorem qI2(h:v5 f=true)(hz:qG0 f line=0):v5 (qH2 f line)=true:=by
 have v:=p7 h
 obtain⟨hi,hm,hx⟩:=qG1 hz
 obtain⟨i1,i2,i3⟩:=qJ5.1 hi
 have h0:=qF9 (line:=line) h hi hm
 unfold qH2
 split
 ·exact h0
 ·rename_i hb
  obtain⟨o1,o2⟩:=qH8 hx hb
  have r:=t8.1 (qH6 (line:=line) v)
  have np:=t8.1 v.pos
  have g0:qy4 (qF7 f line)=(0,0,0,f.pos.2.2.2):=qy5 (f:=qF7 f line) i1 (show f.mo.1.1=z4 from xC9 h i1) i2
  have md:¬(qF7 f line).mode=3∧(qF7 f line).homed=true:=⟨by show ¬f.mode=3;omega,rfl⟩
  have v1:v5 (f5 (qF7 f line) (qG4 f line))=true:=zv6 h0 md (fun z=>qI0 v hi (qG6 v) z) o1 (by show f.queue.length<32;omega) (by
   rw[g0];refine t8.2 ?_;unfold qG4 r8;dsimp only;omega)
  have v2:v5 (f5 (f5 (qF7 f line) (qG4 f line)) (qG7 f line))=true:=zv6 v1 (by rw[zu5.1,zu5.2.1];exact md) (fun z=>qI1 v hi o1 z) o2 (by have:=zu3 (g:=qF7 f line) (d:=qG4 f line);have e:(qF7 f line).queue.length=f.queue.length:=rfl;omega) (by
   rw[zu2,g0];refine t8.2 ?_;unfold qG4 qG7 r8;dsimp only;omega)
  have pr:=yP2 (m:=f.ma) v.ma (qH6 (line:=line) v)
  have v3:=p7 v2
  have k:=v3.nums
  have vp2:=xX4 v2
  exact xY9 vp2 v3.mode (ye0.2 ⟨pr.1,pr.2.1,pr.2.2.1,k.2.2.2⟩) v3.moves v3.queued v3.ends
theorem qH9(h:qG0 f line=0):(qH2 f line).pos=(0,0,0,f.pos.2.2.2):=by
 unfold qH2
 split
 ·rfl
 ·show(f5 (f5 (qF7 f line) (qG4 f line)) (qG7 f line)).pos=_
  rw[zu5.2.2,zu5.2.2];rfl
theorem zT0(h:v5 f=true)(hc:c.valid=true)(hl:0≤line∧line≤1099511627776)(e:doE f line c=0):v5 (doF f line c)=true:=by
 have v:=p7 h
 by_cases k1:c.code=1112
 ·rw[zS8 k1]
  exact qY8 (xD2 (qW6 h hl))
 by_cases k2:c.code=1999
 ·rw[zX4 k2]at e
  have:doF f line c=yY5 f:=by unfold doF;rw[if_neg k1,if_pos k2]
  rw[this];exact yZ6 h e
 by_cases m:f.mode=3
 ·rw[zW8 k1 k2 m]at e;omega
 by_cases k3:c.code=1025
 ·have:doF f line c={f with mode:=2}:=by unfold doF;rw[if_neg k1,if_neg k2,if_pos k3]
  rw[this];exact q45 h m (by omega)
 by_cases k4:c.code=1024
 ·have:doF f line c={f with mode:=1}:=by unfold doF;rw[if_neg k1,if_neg k2,if_neg k3,if_pos k4]
  rw[this];exact q45 h m (by omega)
 have kk:¬c.code=1112∧¬c.code=1999∧¬c.code=1024∧¬c.code=1025:=⟨k1,k2,k4,k3⟩
 by_cases w:¬f.waits=0∨¬f.dwell=0
 ·rw[zX5 kk m w]at e;omega
 have w':f.waits=0∧f.dwell=0:=by omega
 rw[zO7 kk]
 rw[zX0 kk m w']at e
 split at e
 ·rename_i a;rw[if_pos a];exact q65 h hc e hl.2
 ·rename_i a;rw[if_neg a]
  split at e
  ·rename_i b;rw[if_pos b];exact zW2 h (xV9 hc)
  ·rename_i b;rw[if_neg b]
   split at e
   ·rename_i d;rw[if_pos d];exact qI2 h e
   ·rename_i d;rw[if_neg d]
    have s:¬c.code=4→0≤c.s∧c.s≤400000:=xV8 hc
    have a0:(f.c0.aim c.s).ok=true:=Co.aim_ok (zn4.2 ⟨v.c0,s b⟩)
    have a1:(f.c1.aim c.s).ok=true:=Co.aim_ok (zn4.2 ⟨v.c1,s b⟩)
    have o1:orB f.waits 1=1:=by rw[w'.1];decide
    have o2:orB f.waits 2=2:=by rw[w'.1];decide
    split
    ·exact zC1 h a0
    ·split
     ·rw[o1];exact x15 (f:={f with c0:=f.c0.aim c.s}) (zC1 h a0) (by omega)
     ·split
      ·exact zC2 h a1
      ·split
       ·rw[o2];exact x15 (f:={f with c1:=f.c1.aim c.s}) (zC2 h a1) (by omega)
       ·refine qo5 h (xV7 hc ?_)
        have:=zL6 hc
        omega
theorem zg3(h:zg2 f line c=0):v5 f=true∧c.valid=true∧(line=0∨line=f.line+1)∧line≤1099511627776∧doE f line c=0:=by
 unfold zg2 at h
 split at h
 ·omega
 ·rename_i n
  refine⟨by simpa using fun k=>n (.inl k),by simpa using fun k=>n (.inr (.inl k)),?_,?_,h⟩
  ·by_cases k:line=0
   ·exact .inl k
   ·by_cases q:line=f.line+1
    ·exact .inr q
    ·exact absurd (.inr (.inr (.inl ⟨k,q⟩))) n
  ·rcases Int.lt_or_le 1099511627776 line with k|k
   ·exact absurd (.inr (.inr (.inr k))) n
   ·exact k
theorem zh6(h:zg2 f line c=0):0≤line∧line≤1099511627776:=by
 obtain⟨h1,_,h3,h4,_⟩:=zg3 h
 have:=(p7 h1).nums
 omega
theorem zh9(h:zg2 f line c=0):v5 (zg4 f line c)=true:=by
 obtain⟨h1,h2,h3,h4,h5⟩:=zg3 h
 have hl:=zh6 h
 unfold zg4
 refine xQ3 ?_
 split
 ·exact zT0 h1 h2 hl h5
 ·exact qW6 (zT0 h1 h2 hl h5) hl
end
theorem v4x{a b:V4}(h:a.1=b.1∧a.2.1=b.2.1∧a.2.2.1=b.2.2.1∧a.2.2.2=b.2.2.2):a=b:=by
 obtain⟨a1,a2,a3,a4⟩:=a
 obtain⟨b1,b2,b3,b4⟩:=b
 simp only[Prod.mk.injEq];exact h
theorem xE1{n i k:Int}(hn:1≤n)(hi:0≤i∧i≤n):(0≤k→0≤stp n i k∧stp n i k≤k)∧(k≤0→k≤stp n i k∧stp n i k≤0):=by
 have s0:=xG1 k
 have e:(2*n*sz k+n) / (2*n)=sz k:=by
  rw[Int.add_comm,Int.add_mul_ediv_left _ _ (by omega),Int.ediv_eq_zero_of_lt (by omega) (by omega)];omega
 have p0:0≤2*i*sz k:=Int.mul_nonneg (by omega) s0
 have lo:0≤(2*i*sz k+n) / (2*n):=Int.ediv_nonneg (by omega) (by omega)
 have up:(2*i*sz k+n) / (2*n)≤sz k:=by
  have m:=Int.mul_le_mul_of_nonneg_right (show 2*i≤2*n by omega) s0
  have:=Int.ediv_le_ediv (c:=2*n) (by omega) (show 2*i*sz k+n≤2*n*sz k+n by omega)
  omega
 have sk:sz k=if k<0 then -k else k:=rfl
 unfold stp
 constructor
 ·intro h;rw[if_neg (by omega)];rw[if_neg (by omega)]at sk;omega
 ·intro h
  by_cases z:k<0
  ·rw[if_pos z];rw[if_pos z]at sk;omega
  ·rw[if_neg z];rw[if_neg z]at sk;omega
theorem zr3{c p:V4}{i:Int}(hp:v7 p=true)(hq:v7 (r8 p c)=true):v7 (r8 p (at4 c i))=true:=by
 cases h:okC c with
 |false=>rw[zr4 h,zi9];exact hp
 |true=>
  have m:=q81 h
  have cl:=zI3 (n:=mx4 c) (i:=i) m.1
  have a1:=xE1 (k:=c.1) m.1 cl
  have a2:=xE1 (k:=c.2.1) m.1 cl
  have a3:=xE1 (k:=c.2.2.1) m.1 cl
  have a4:=xE1 (k:=c.2.2.2) m.1 cl
  have n1:=t8.1 hp
  have n2:=t8.1 hq
  unfold r8 at n2
  dsimp only at n2
  rw[zr5 h]
  refine t8.2 ?_
  unfold r8;dsimp only
  refine⟨?_,?_,?_,?_⟩
  ·rcases Int.le_total 0 c.1 with k|k
   ·have:=a1.1 k;omega
   ·have:=a1.2 k;omega
  ·rcases Int.le_total 0 c.2.1 with k|k
   ·have:=a2.1 k;omega
   ·have:=a2.2 k;omega
  ·rcases Int.le_total 0 c.2.2.1 with k|k
   ·have:=a3.1 k;omega
   ·have:=a3.2 k;omega
  ·rcases Int.le_total 0 c.2.2.2 with k|k
   ·have:=a4.1 k;omega
   ·have:=a4.2 k;omega
theorem q08{m:Mo}{p:V4}(hp:v7 p=true)(hq:v7 (r8 p m.1.1)=true):v7 (r8 p (q02 m))=true:=by
 by_cases h:xW7 m.1=true∧0≤m.2.1∧m.2.1≤dom m.1.1
 ·rw[q05 h];exact zr3 hp hq
 ·rw[q03 h,zi9];exact hp
section
variable {f:Fw} {r s:Int}
theorem yV8(h:v5 f=true):v5 (yV7 f r s)=true:=by
 have v:=p7 h
 have vp:=xX4 h
 have k:=v.nums
 refine xY9 vp v.mode (ye0.2 ⟨k.1,k.2.1,k.2.2.1,k.2.2.2.1,k.2.2.2.2.1,k.2.2.2.2.2.1,k.2.2.2.2.2.2.1,k.2.2.2.2.2.2.2.1,k.2.2.2.2.2.2.2.2.1,k.2.2.2.2.2.2.2.2.2.1,?_,k.2.2.2.2.2.2.2.2.2.2.2⟩) v.moves v.queued v.ends
 unfold yV7;dsimp only
 split<;>omega
theorem qD5(h:v5 f=true):v5 (qD4 f)=true:=by
 have v:=p7 h
 have vn:=xX3 h
 exact xY9 (yK1.2 ⟨v.ma,(Co.step_ok v.c0 _).1,(Co.step_ok v.c1 _).1,(Gu.step_ok v.g0 _ _ _).1,(Gu.step_ok v.g1 _ _ _).1⟩) v.mode vn v.moves v.queued v.ends
theorem qZ4(h:v5 f=true):v5 (qZ1 f)=true:=by
 unfold qZ1;split
 ·exact qY8 (qD5 h)
 ·exact qD5 h
theorem zo8{n:Int}(h:0≤n∧n≤3):(0≤Gc.andNot n 1∧Gc.andNot n 1≤3)∧0≤Gc.andNot n 2∧Gc.andNot n 2≤3:=by
 have:n=0∨n=1∨n=2∨n=3:=by omega
 rcases this with rfl|rfl|rfl|rfl<;>decide
theorem x12(h:v5 f=true):v5 (x07 f)=true:=by
 have k:=(p7 h).nums
 have w:0≤f.waits∧f.waits≤3:=k.2.2.2.2.2.2.1
 have a:0≤(if x16 f.c0 f.g0 f.r0=true then Gc.andNot f.waits 1 else f.waits)∧(if x16 f.c0 f.g0 f.r0=true then Gc.andNot f.waits 1 else f.waits)≤3:=by
  split
  ·exact(zo8 w).1
  ·exact w
 unfold x07
 refine x15 h ?_
 split
 ·exact(zo8 a).2
 ·exact a
theorem qI7(h:v5 f=true):v5 (qI4 f r s)=true:=x12 (qZ4 (yV8 h))
theorem yO8{p:V4}{q:List Bk}:∀n,yO6 (r8 p (q.getD 0 dBk).1) (q.drop 1) n=yO6 p q (n+1)
 |0=>rfl
 |n+1=>by
  show r8 (yO6 _ (q.drop 1) n) ((q.drop 1).getD n dBk).1=r8 (yO6 p q (n+1)) (q.getD (n+1) dBk).1
  rw[yO8 n]
  congr 2
  rw[List.getD_eq_getElem?_getD,List.getElem?_drop,←List.getD_eq_getElem?_getD,Nat.add_comm]
theorem xA6(h:v5 f=true)(hc:zE5 f=true):okS (f.queue.getD 0 dBk) f.ma.ticks=true∧(xz7 f).mo=xz8 (f.queue.getD 0 dBk) f.ma.ticks:=by
 have v:=p7 h
 obtain⟨c1,c2,c3,c4⟩:=zE6.1 hc
 have b:=(zA9 (v.blk 0 (by omega))).1
 have t:=((Ma.ok_iff f.ma).1 v.ma).2.2.2.2
 have k:okS (f.queue.getD 0 dBk) f.ma.ticks=true:=yx1.2 ⟨b,by omega,by omega⟩
 exact⟨k,xA1 k⟩
theorem xA5(h:v5 f=true)(hc:zE5 f=true):begin4 (xz7 f)=f.pos∧yS4 (xz7 f)=r8 (yS4 f) (f.queue.getD 0 dBk).1:=by
 have v:=p7 h
 obtain⟨c1,c2,c3,c4⟩:=zE6.1 hc
 obtain⟨_,m⟩:=xA6 h hc
 have b:begin4 (xz7 f)=f.pos:=by
  rw[zy9 (f:=xz7 f) rfl,m,q09]
  exact v4x ⟨by show f.pos.1-0=_;omega,by show f.pos.2.1-0=_;omega,by show f.pos.2.2.1-0=_;omega,by show f.pos.2.2.2-0=_;omega⟩
 refine⟨b,?_⟩
 show r8 (begin4 (xz7 f)) (xz7 f).mo.1.1=_
 rw[b,m,yS6 v.moves c1,zy8 c1];rfl
theorem xA8(h:v5 f=true)(hc:zE5 f=true):v5 (xz7 f)=true:=by
 have v:=p7 h
 have vp:=xX4 h
 have n:=v.nums
 obtain⟨c1,c2,c3,c4⟩:=zE6.1 hc
 obtain⟨ok,m⟩:=xA6 h hc
 obtain⟨b,q0⟩:=xA5 h hc
 have l0:=(zA9 (v.blk 0 (by omega))).2.1
 have p1:v7 (r8 (yS4 f) (f.queue.getD 0 dBk).1)=true:=(zA9 (v.blk 0 (by omega))).2.2
 have len:(xz7 f).queue.length=f.queue.length-1:=by show(f.queue.drop 1).length=_;rw[List.length_drop]
 have hom:f.homed=true:=by
  rcases v.ends with k|k
  ·exact k.2
  ·omega
 refine xY9 vp v.mode (ye0.2 ⟨n.1,n.2.1,n.2.2.1,n.2.2.2.1,n.2.2.2.2.1,n.2.2.2.2.2.1,n.2.2.2.2.2.2.1,n.2.2.2.2.2.2.2.1,n.2.2.2.2.2.2.2.2.1,l0,n.2.2.2.2.2.2.2.2.2.2⟩) ?_ ?_ (.inl ⟨c3,hom⟩)
 ·rw[q68 (f:=xz7 f) rfl,m];exact xA7 ok
 ·refine yS8.2 ⟨by rw[len];have:=v.len;omega,?_,v.pos,v.ret,by rw[b];exact v.pos,by rw[q0];exact p1,fun i hi=>?_⟩
  ·rw[len];show(f.lines.drop 1).length=_;rw[List.length_drop,v.lens]
  ·rw[len]at hi
   have k:=zA9 (v.blk (i+1) (by omega))
   rw[q0]
   refine zA7.2 ⟨?_,?_,?_⟩
   ·show xW7 ((f.queue.drop 1).getD i dBk)=true
    rw[List.getD_eq_getElem?_getD,List.getElem?_drop,←List.getD_eq_getElem?_getD,Nat.add_comm];exact k.1
   ·show 0≤(f.lines.drop 1).getD i 0∧(f.lines.drop 1).getD i 0≤1099511627776
    rw[List.getD_eq_getElem?_getD,List.getElem?_drop,←List.getD_eq_getElem?_getD,Nat.add_comm];exact k.2.1
   ·show v7 (yO6 _ (f.queue.drop 1) (i+1))=true
    rw[yO8];exact k.2.2
theorem zy6(h:v5 f=true):v5 (t7 f)=true:=by
 cases c:zE5 f with
 |true=>rw[zx2 c];exact xA8 h c
 |false=>rw[zx0 c];exact h
theorem xC2(e:zZ8 (xI1 f.mo f.ma.ticks)=true):xB0 f={f with pos:=r8 f.pos (xI4 f.mo f.ma.ticks),mo:=m0,moving:=false,active:=0}:=if_pos e
theorem xB6(e:zZ8 (xI1 f.mo f.ma.ticks)=false):xB0 f={f with pos:=r8 f.pos (xI4 f.mo f.ma.ticks),mo:=xI1 f.mo f.ma.ticks}:=if_neg (by rw[e];exact Bool.false_ne_true)
theorem xB7:(xB0 f).pos=r8 f.pos (xI4 f.mo f.ma.ticks):=by unfold xB0;split<;>rfl
theorem xB4(h:v5 f=true)(hm:f.moving=true):yS4 (xB0 f)=yS4 f∧begin4 (xB0 f)=(if zZ8 (xI1 f.mo f.ma.ticks)=true then yS4 f else begin4 f):=by
 have v:=p7 h
 have m:=v.moves
 rw[q68 hm]at m
 have mt:=q10 m
 cases e:zZ8 (xI1 f.mo f.ma.ticks)with
 |true=>
  have em:=z00 e
  rw[xJ5,mt]at em
  have q:yS4 f=r8 f.pos (xI4 f.mo f.ma.ticks):=by
   unfold yS4;rw[zy9 hm,←em]
   unfold r8 xE8
   exact v4x ⟨by dsimp only;omega,by dsimp only;omega,by dsimp only;omega,by dsimp only;omega⟩
  rw[xC2 e,if_pos rfl,q]
  refine⟨?_,?_⟩
  ·unfold yS4;rw[zy8 rfl];exact zi9 _
  ·rw[zy8 rfl]
 |false=>
  have b:begin4 (xB0 f)=begin4 f:=by
   rw[xB6 e,zy9 (f:={f with pos:=r8 f.pos (xI4 f.mo f.ma.ticks),mo:=xI1 f.mo f.ma.ticks}) hm,zy9 hm,mt]
   unfold r8 xE8
   exact v4x ⟨by dsimp only;omega,by dsimp only;omega,by dsimp only;omega,by dsimp only;omega⟩
  refine⟨?_,by rw[b,if_neg Bool.false_ne_true]⟩
  unfold yS4
  rw[b,xB6 e]
  show r8 (begin4 f) (xI1 f.mo f.ma.ticks).1.1=_
  rw[xJ5]
theorem xC0(h:v5 f=true)(hm:f.moving=true):v5 (xB0 f)=true:=by
 have v:=p7 h
 have vp:=xX4 h
 have vn:=xX3 h
 have n:=v.nums
 have m:=v.moves
 rw[q68 hm]at m
 obtain⟨q0,b⟩:=xB4 h hm
 have en:¬f.mode=3∧f.homed=true:=by
  rcases v.ends with k|k
  ·exact k
  ·rw[hm]at k;cases k.1
 have same:(xB0 f).queue=f.queue∧(xB0 f).lines=f.lines∧(xB0 f).ret=f.ret∧(xB0 f).mode=f.mode∧(xB0 f).homed=f.homed:=by unfold xB0;split<;>exact⟨rfl,rfl,rfl,rfl,rfl⟩
 have pn:v7 (xB0 f).pos=true:=by
  rw[xB7]
  have mt:=q10 m
  have k:=q08 (m:=xI1 f.mo f.ma.ticks) (p:=begin4 f) v.beg (by rw[xJ5];exact v.q0)
  rw[mt,zy9 hm]at k
  have e:r8 (xE8 f.pos (q02 f.mo)) (r8 (q02 f.mo) (xI4 f.mo f.ma.ticks))=r8 f.pos (xI4 f.mo f.ma.ticks):=by
   unfold r8 xE8
   exact v4x ⟨by dsimp only;omega,by dsimp only;omega,by dsimp only;omega,by dsimp only;omega⟩
  rw[e]at k;exact k
 have qd:yS7 (xB0 f)=true:=yS8.2 ⟨by rw[same.1];exact v.len,by rw[same.1,same.2.1];exact v.lens,pn,by rw[same.2.2.1];exact v.ret,by
  rw[b];split
  ·exact v.q0
  ·exact v.beg,by rw[q0];exact v.q0,fun i hi=>by
  rw[same.1]at hi
  rw[q0,same.1,same.2.1];exact v.blk i hi⟩
 cases e:zZ8 (xI1 f.mo f.ma.ticks)with
 |true=>
  rw[xC2 e]at qd ⊢
  refine xY9 vp v.mode (ye0.2 ⟨n.1,n.2.1,n.2.2.1,n.2.2.2.1,n.2.2.2.2.1,n.2.2.2.2.2.1,n.2.2.2.2.2.2.1,n.2.2.2.2.2.2.2.1,n.2.2.2.2.2.2.2.2.1,?_,n.2.2.2.2.2.2.2.2.2.2⟩) ?_ qd (.inl en)
  ·show(0:Int)≤0∧(0:Int)≤1099511627776;omega
  ·rw[q67 rfl];exact xC7 rfl rfl
 |false=>
  rw[xB6 e]at qd ⊢
  refine xY9 vp v.mode vn ?_ qd (.inl en)
  rw[q68 (f:={f with pos:=r8 f.pos (xI4 f.mo f.ma.ticks),mo:=xI1 f.mo f.ma.ticks}) hm]
  exact xJ9 m e
theorem y62(h:v5 f=true)(hm:¬f.mode=3):v5 (y44 f)=true:=by
 have v:=p7 h
 have n:=v.nums
 unfold y44
 split
 ·exact zW2 h (by omega)
 ·split
  ·rename_i k;exact xC0 (zy6 h) k
  ·exact zy6 h
theorem y55(h:v5 f=true):(y44 f).pos=r8 f.pos (y45 f):=by
 unfold y44 y45
 split
 ·exact(zi9 _).symm
 ·split
  ·rw[xB7,zx1]
  ·rw[zx1];exact(zi9 _).symm
theorem qZ3:(qZ1 f).pos=f.pos:=by unfold qZ1;split<;>rfl
theorem qI6:(qI4 f r s).pos=f.pos:=by
 show(qZ1 (yV7 f r s)).pos=f.pos
 rw[qZ3];rfl
theorem xK1(h:v5 f=true):v5 (xH9 f r s)=true:=by
 unfold xH9
 rw[h,if_neg (by decide)]
 split
 ·exact qI7 h
 ·rename_i k;exact y62 (qI7 h) k
theorem xI0(h:v5 f=true):xH9 f r s=if(qI4 f r s).mode=3 then qI4 f r s else y44 (qI4 f r s):=by unfold xH9;rw[h];rfl
theorem xI8(h:v5 f=true):xI6 f r s=if(qI4 f r s).mode=3 then z4 else y45 (qI4 f r s):=by unfold xI6;rw[h];rfl
theorem xH8(h:v5 f=true):xH7 f r s=if(qI4 f r s).mode=3 then(0,0)else(zU7 (yV7 f r s),zU8 (yV7 f r s)):=by unfold xH7;rw[h];rfl
theorem xJ8(h:v5 f=true):(xH9 f r s).pos=r8 f.pos (xI6 f r s):=by
 rw[xI0 h,xI8 h]
 split
 ·rw[qI6];exact(zi9 _).symm
 ·rw[y55 (qI7 h),qI6]
theorem y49:(y44 f).homed=f.homed:=by
 have b:(t7 f).homed=f.homed:=by unfold t7;split<;>rfl
 have s:∀g:Fw,(xB0 g).homed=g.homed:=fun g=>by unfold xB0;split<;>rfl
 unfold y44
 split
 ·rfl
 ·split
  ·rw[s,b]
  ·exact b
end
def zw7(f:Fw):Bool:=v5 f&&zE5 f
def zy2(f:Fw):Fw:=if v5 f=true then t7 f else f
def zx8(f:Fw):SV:=.tuple [(zy2 f).sv,.bool (zw7 f)]
theorem zy4{f:Fw}(h:v5 f=true):zy2 f=t7 f:=if_pos h
theorem zy3{f:Fw}(h:v5 f=false):zy2 f=f:=if_neg (by rw[h];exact Bool.false_ne_true)
theorem zx9{f:Fw}(h:v5 f=false):SV.tuple [.agg f.cells,.bool false] =zx8 f:=by unfold zx8 zw7;rw[zy3 h,h];rfl
theorem zy0{f:Fw}(h:v5 f=true)(c:zE5 f=false):SV.tuple [.agg f.cells,.bool false] =zx8 f:=by unfold zx8 zw7;rw[zy4 h,zx0 c,h,c];rfl
theorem zy1{f:Fw}(h:v5 f=true)(c:zE5 f=true):SV.tuple [.agg (t7 f).cells,.bool true] =zx8 f:=by unfold zx8 zw7;rw[zy4 h,h,c];rfl
def xJ4(f:Fw)(r s:Int):SV:=.tuple [(xH9 f r s).sv,V4.sv (xI6 f r s),.agg [I64 (xH7 f r s).1,I64 (xH7 f r s).2]]
theorem xO3{f:Fw}(v:v5 f=true):(if 1099511627776<i64.wrap (f.ticks+1)then 1099511627776 else i64.wrap (f.ticks+1))=(if f.ticks+1<1099511627776 then f.ticks+1 else 1099511627776):=by
 have n:=(p7 v).nums
 rw[w64 (x:=f.ticks+1) (by omega) (by omega)]
 split<;>split<;>omega
theorem xO1{f g:Fw}{r s:Int}(v:v5 f=true)(h:g=yV7 f r s):yJ6 g=true:=by
 subst h
 have u:=p7 (yV8 (r:=r) (s:=s) v)
 exact yJ7.2 ⟨u.c0,u.c1,u.g0,u.g1,u.shape⟩
theorem xN9{f g:Fw}{r s:Int}(v:v5 f=true)(h:g=yV7 f r s):q48 (qI5 g)=true:=by
 subst h
 have u:=p7 (qI7 (r:=r) (s:=s) v)
 have n:=u.nums
 exact q49.2 ⟨u.shape,show 0≤(qI4 f r s).dwell∧(qI4 f r s).dwell≤1048576 by omega⟩
theorem xN6{f:Fw}{r s:Int}(v:v5 f=true):qI3 (yV7 f r s)=xH7 f r s:=by
 rw[xH8 v];rfl
theorem xN7{f g:Fw}{r s:Int}(v:v5 f=true)(h:g=yV7 f r s)(m:(qI5 g).mode=3):SV.tuple [.agg (qI5 g).cells,V4.sv z4,.agg [I64 (qI3 g).1,I64 (qI3 g).2]] =xJ4 f r s:=by
 subst h
 have m:(qI4 f r s).mode=3:=m
 unfold xJ4
 rw[xN6 v,xI0 v,xI8 v,if_pos m,if_pos m];rfl
theorem xN8{f g:Fw}{r s:Int}(v:v5 f=true)(h:g=yV7 f r s)(m:¬(qI5 g).mode=3):SV.tuple [.agg (y44 (qI5 g)).cells,V4.sv (y45 (qI5 g)),.agg [I64 (qI3 g).1,I64 (qI3 g).2]] =xJ4 f r s:=by
 subst h
 have m:¬(qI4 f r s).mode=3:=m
 unfold xJ4
 rw[xN6 v,xI0 v,xI8 v,if_neg m,if_neg m];rfl
theorem xO0{f:Fw}{r s:Int}(v:v5 f=false):SV.tuple [.agg f.cells,V4.sv z4,.agg [I64 0,I64 0]] =xJ4 f r s:=by
 unfold xJ4 xH9 xI6 xH7;rw[v];rfl
theorem y95(f:Fw):SCall pP 29 [f.sv] (zx8 f):=
 xt3 (hB (l:=[qf0]) (k:=[]) (j:=[BFact.toP zt5]) (i:=[zt5]) ([] :List Nat) ([] :List Nat) ([] :List Nat) ([] :List Nat) (⟨yt8,trivial⟩) o4 (allQ.all (p:=PFact.ok pP) (l:=[BFact.toP zt5]) ⟨BFact.toP_ok yi5,trivial⟩) (allQ.all (p:=BFact.ok pP) (l:=[zt5]) ⟨yi5,trivial⟩)) 1000 (.fork (.all) (.fork (.all) (.all)))
  (t:=.node (!v5 f)
 (.leaf (SV.tuple [SV.agg (Fw.cells f),SV.bool false]))
 (.req (xv2 f) (.node (!zE5 f)
   (.leaf (SV.tuple [SV.agg (Fw.cells f),SV.bool false]))
   (.leaf (SV.tuple [SV.agg (Fw.cells (t7 f)),SV.bool true])))))
   (by kernel_rfl) (by
    refine q84 (fun v=>zx9 v) fun v=>x6 (p7 v).shape (q84 (fun c=>zy0 v c) fun c=>zy1 v c)) (by kernel_rfl) (by rfl)
theorem xp3(f:Fw)(r s:Int):SCall pP 27 [f.sv,.agg [I64 r,I64 s]] (xJ4 f r s):=
 xt3 (hB (l:=[qf0]) (k:=[]) (j:=[BFact.toP zs9,BFact.toP zt1]) (i:=[zs9,zt1]) ([] :List Nat) ([] :List Nat) ([] :List Nat) ([] :List Nat) (⟨yt8,trivial⟩) o4 (allQ.all (p:=PFact.ok pP) (l:=[BFact.toP zs9,BFact.toP zt1]) ⟨BFact.toP_ok yi1,BFact.toP_ok yi3,trivial⟩) (allQ.all (p:=BFact.ok pP) (l:=[zs9,zt1]) ⟨yi1,yi3,trivial⟩)) 1000 (.fork (.all) (.fork (.all) (.all)))
  (t:=let y2:={f with ticks:=(if 1099511627776<i64.wrap (f.ticks+1)then 1099511627776 else i64.wrap (f.ticks+1)),r0:=r,r1:=s};let y0:=qI5 y2;let y3:=(((y0.mo.1.1.1,y0.mo.1.1.2.1,y0.mo.1.1.2.2),y0.mo.1.2.1,y0.mo.1.2.2.1,y0.mo.1.2.2.2),y0.mo.2);let y1:={y0 with pos:=(y0.pos.1,y0.pos.2.1,y0.pos.2.2),loc:=(y0.loc.1,y0.loc.2),mo:=y3,ret:=(y0.ret.1,y0.ret.2.1,y0.ret.2.2)};.node (!v5 f) (.leaf (.tuple [.agg (Fw.cells f),.agg [I64 0,I64 0,I64 0,I64 0],.agg [I64 0,I64 0]])) (.req (decide (r=r)) (.req (decide (s=s)) (.req (yJ6 y2) (.req (q48 y1) (.node (y0.mode==3) (.leaf (.tuple [.agg (Fw.cells {y0 with pos:=(y0.pos.1,y0.pos.2.1,y0.pos.2.2),loc:=(y0.loc.1,y0.loc.2),mo:=y3,ret:=(y0.ret.1,y0.ret.2.1,y0.ret.2.2)}),.agg [I64 0,I64 0,I64 0,I64 0],.agg [I64 (qI3 y2).1,I64 (qI3 y2).2]])) (.leaf (.tuple [.agg (Fw.cells (y44 y1)),.agg [I64 (y45 y1).1,I64 (y45 y1).2.1,I64 (y45 y1).2.2.1,I64 (y45 y1).2.2.2],.agg [I64 (qI3 y2).1,I64 (qI3 y2).2]]))))))))
  (by kernel_rfl) (by
   refine q84 (fun v=>xO0 v) fun v=>?_
   have h:({f with ticks:=(if 1099511627776<i64.wrap (f.ticks+1)then 1099511627776 else i64.wrap (f.ticks+1)),r0:=r,r1:=s}:Fw)=yV7 f r s:=by unfold yV7;rw[xO3 v]
   exact x6 (decide_eq_true rfl) (x6 (decide_eq_true rfl) (x6 (xO1 v h) (x6 (xN9 v h) (q82 (fun m=>xN7 v h m) fun m=>xN8 v h m))))) (by kernel_rfl) (by rfl)
section
variable {f:Fw} {line:Int} {c:Gc.C}
theorem zg7:(zg6 f line c).data=true:=by unfold zg6;split<;>rfl
theorem zg5:zg4 f line c=zZ7 (doF f line c) line c:=by
 unfold zg4 zZ7 qW4
 by_cases h:c.code=1112
 ·rw[if_pos h,if_pos (.inr h)]
 ·rw[if_neg h]
  by_cases k:line=0
  ·rw[if_pos k,if_pos (.inl k)]
  ·rw[if_neg k,if_neg (by omega)];rfl
theorem zh3(h:v5 f=false∨c.valid=false∨(¬line=0∧¬line=f.line+1)∨1099511627776<line):SV.tuple [.agg (f4 fw0),.int .i64 1] =zg6 f line c:=by
 have e:zg2 f line c=1:=if_pos h
 unfold zg6;rw[e,if_neg (by omega)];rfl
theorem zh5(v:v5 f=true)(hc:c.valid=true)(hl:line=0∨line=f.line+1)(hm:line≤1099511627776):zg6 f line c=doS f line c:=by
 have e:zg2 f line c=doE f line c:=if_neg (by rw[v,hc];simp only[Bool.true_eq_false,false_or];omega)
 unfold zg6 doS;rw[e,zg5]
theorem qR0:Known pP (Env.ofB pP (v6 [qf0,fGv,qe1]) (d7 [x01,xZ9,xZ8,xZ7,xZ3,xZ6,xZ4,xZ5]) (d9 []) (d8 []) (x7 []) (x7 []) (x7 []) (x7 [3])):=
 hB (l:=[qf0,fGv,qe1]) (k:=[x01,xZ9,xZ8,xZ7,xZ3,xZ6,xZ4,xZ5]) (j:=[]) (i:=[]) [] [] [] [3] ⟨yt8,yl7,yt1,trivial⟩ (allQ.all (p:=WFact.ok pP) (l:=[x01,xZ9,xZ8,xZ7,xZ3,xZ6,xZ4,xZ5]) ⟨yv3,yv1,yu8,yu1,yu3,yu0,yu4,yu5,trivial⟩) o4 o4
set_option maxHeartbeats 4000000 in
theorem y82(f:Fw)(line:Int)(c:Gc.C):SCall pP 24 [f.sv,I64 line,c.sv] (zg6 f line c):=by
 refine m6 rfl zg7 (by kernel_rfl) (w6 qR0 (n:=1000) (hint:=.unit) (keep:=x8 114 [1,3,5,6]) (p:=zf3) (boxes:=[]) zg7 ?_)
 have q:=ac0 f line c
 unfold v9 u7 at q
 erw [q]
 unfold zf4
 have go:v5 f=true→c.valid=true→(line=0∨line=f.line+1)→line≤1099511627776→b8 pP (j7 pP 24) (zg6 f line c) qP0 (j8 114 [(1,I64 line),(3,.ptr 0 0),(5,.ptr 1 0),(6,.ptr 2 0)]) [some (.cells f.cells),some (.cells c.cells),some (.cells (f4 fw0))] :=fun v hc hl hm=>by
  have n:=(p7 v).nums
  rw[zh5 v hc hl hm]
  exact zf9 v hc (xD5.2 ⟨(p7 v).shape,by omega,hm⟩)
 refine q84 (fun v=>zh3 (.inl v)) fun v=>q84 (fun hc=>zh3 (.inr (.inl hc))) fun hc=>?_
 have n:=(p7 v).nums
 have w:i64.wrap (f.line+1)=f.line+1:=w64 (by omega) (by omega)
 rw[w]
 refine q83 (fun h0=>q83 (fun h1=>zh3 (.inr (.inr (.inl ⟨h0,h1⟩)))) fun h1=>o5 (fun h2=>zh3 (.inr (.inr (.inr (by omega))))) fun h2=>?_) fun h0=>o5 (fun h2=>zh3 (.inr (.inr (.inr (by omega))))) fun h2=>?_
 ·exact⟨o8 _ _,go v hc (.inr h1) (by omega)⟩
 ·exact⟨o8 _ _,go v hc (.inl h0) (by omega)⟩
end
def z29:Fact:=qh8 24 fun f rest=>match rest with
 |[.int .i64 line,.agg [.int .i64 a0,.int .i64 a1,.int .i64 a2,.int .i64 a3,.int .i64 a4,.int .i64 a5,.int .i64 a6,.int .i64 a7]] =>some (.node (decide (zg2 f line ⟨a0,a1,a2,a3,a4,a5,a6,a7⟩=0)) (.leaf (.tuple [(zg4 f line ⟨a0,a1,a2,a3,a4,a5,a6,a7⟩).sv,I64 0])) (.leaf (.tuple [fw0.sv,I64 (zg2 f line ⟨a0,a1,a2,a3,a4,a5,a6,a7⟩)])))
 |_=>none
theorem zg8{P:Program}{g:FuncId}{args:List SV}{f:Fw}{line:Int}{c:Gc.C}(k:SCall P g args (zg6 f line c)):(Tree.node (decide (zg2 f line c=0)) (.leaf (.tuple [(zg4 f line c).sv,I64 0])) (.leaf (.tuple [fw0.sv,I64 (zg2 f line c)]))).says (SCall P g args):=by
 unfold zg6 at k
 refine⟨fun h=>?_,fun h=>?_⟩
 ·rw[if_pos (of_decide_eq_true h)]at k;exact k
 ·rw[if_neg (of_decide_eq_false h)]at k;exact xt4 k (yb5 (yb1 _ rfl rfl))
theorem yg5:z29.ok pP:=qh9 fun f rest t ht=>by
 split at ht
 ·injection ht with ht;subst ht;exact zg8 (y82 f _ ⟨_,_,_,_,_,_,_,_⟩)
 ·cases ht
def zq7:List SV→Option Ma
 |[.int .i64 a0,.int .i64 a1,.int .i64 a2,.int .i64 a3,.int .i64 a4,.int .i64 a5,.int .i64 a6,.int .i64 a7,.int .i64 a8,.int .i64 a9,.int .i64 a10,.int .i64 a11,.int .i64 a12,.int .i64 a13,.int .i64 a14,.int .i64 a15,.int .i64 a16,.int .i64 a17,.int .i64 a18,.int .i64 a19,.int .i64 a20,.int .i64 a21,.int .i64 a22,.int .i64 a23,.int .i64 a24,.int .i64 a25,.int .i64 a26,.int .i64 a27,.bool xy,.int .i64 t] =>some ⟨⟨a0,a1,a2,a3,a4,a5,a6⟩,⟨a7,a8,a9,a10,a11,a12,a13⟩,⟨a14,a15,a16,a17,a18,a19,a20⟩,⟨a21,a22,a23,a24,a25,a26,a27⟩,xy,t⟩
 |_=>none
theorem zq8{l:List SV}{m:Ma}(h:zq7 l=some m):l=m.cells:=by
 unfold zq7 at h
 split at h
 ·injection h with h;subst h;rfl
 ·cases h
def zq1:List SV→Option (Co×Co)
 |[.int .i64 c0,.int .i64 c1,.int .i64 c2,.int .i64 c3,.int .i64 c4,.int .i64 c5,.int .i64 c6,.int .i64 c7,.int .i64 c8,.int .i64 c9,.int .i64 c10,.int .i64 c11] =>some (⟨c0,c1,c2,c3,c4,c5⟩,⟨c6,c7,c8,c9,c10,c11⟩)
 |_=>none
theorem zq2{l:List SV}{m:(Co×Co)}(h:zq1 l=some m):l=m.1.cells++m.2.cells:=by
 unfold zq1 at h
 split at h
 ·injection h with h;subst h;rfl
 ·cases h
def zq5:List SV→Option (Gu×Gu)
 |[.int .i64 g0,.int .i64 g1,.int .i64 g2,.int .i64 g3,.int .i64 g4,.int .i64 g5,.int .i64 g6,.int .i64 g7,.int .i64 g8,.int .i64 g9,.bool u,.int .i64 h0,.int .i64 h1,.int .i64 h2,.int .i64 h3,.int .i64 h4,.int .i64 h5,.int .i64 h6,.int .i64 h7,.int .i64 h8,.int .i64 h9,.bool v] =>some (⟨g0,g1,g2,g3,g4,g5,g6,g7,g8,g9,u⟩,⟨h0,h1,h2,h3,h4,h5,h6,h7,h8,h9,v⟩)
 |_=>none
theorem zq6{l:List SV}{m:(Gu×Gu)}(h:zq5 l=some m):l=m.1.cells++m.2.cells:=by
 unfold zq5 at h
 split at h
 ·injection h with h;subst h;rfl
 ·cases h
def ql4(f:FuncId):Fact:=⟨f,fun args=>match args with
 |[.agg lm,.agg lc,.agg lg,.int .i64 cold] =>match zq7 lm with
  |some m=>match zq1 lc with
   |some c=>match zq5 lg with
    |some g=>some (.node (q95 m c.1 c.2 g.1 g.2 cold) (.leaf (.tuple [(u9 m c.1 c.2 g.1 g.2 cold).sv,I64 0])) (.leaf (.tuple [fw0.sv,I64 1])))
    |none=>none
   |none=>none
  |none=>none
 |_=>none⟩
def qa1:Fact:=ql4 61
def z38:Fact:=qg6 29 fun f=>.leaf (zx8 f)
def qe0:Fact:=qh8 27 fun f rest=>match rest with
 |[.agg [.int .i64 r,.int .i64 s]] =>some (.leaf (xJ4 f r s))
 |_=>none
theorem ql5{f:FuncId}(k:∀m c d g h cold,SCall pP f [Ma.sv m,.agg (Co.cells c++Co.cells d),.agg (Gu.cells g++Gu.cells h),I64 cold] (q97 m c d g h cold)):(ql4 f).ok pP:=fun args t ht=>by
 simp only[ql4]at ht
 split at ht
 ·split at ht
  ·rename_i hm
   split at ht
   ·rename_i hc
    split at ht
    ·rename_i hg
     injection ht with ht;subst ht
     rw[zq8 hm,zq2 hc,zq6 hg]
     refine⟨fun h1=>?_,fun h1=>?_⟩
     ·refine xt4 (v:=q97 _ _ _ _ _ _) (k _ _ _ _ _ _) ?_
      rw[q99 h1];exact yb5 (yb1 _ rfl rfl)
     ·refine xt4 (v:=q97 _ _ _ _ _ _) (k _ _ _ _ _ _) ?_
      rw[q98 h1];exact yb5 (yb1 _ rfl rfl)
    ·cases ht
   ·cases ht
  ·cases ht
 ·cases ht
theorem yo3:qa1.ok pP:=ql5 xi6
theorem yh8:z38.ok pP:=qg7 fun f=>y95 f
theorem yt0:qe0.ok pP:=qh9 fun f rest t ht=>by
 split at ht
 ·injection ht with ht;subst ht;exact xp3 f _ _
 ·cases ht
section
variable {f:Fw} {ex:Int} {cn:V4}
end
section
variable {f:Fw} {line:Int} {c:Gc.C} {ex:Int} {cn:V4}
end
section
variable {f:Fw} {r s ex:Int} {cn:V4}
end
section
variable {f:Fw} {line:Int} {c:Gc.C} {a b:Int×Int}
end
section
variable {f:Fw} {r s:Int} {a b:Int×Int}
end
def lineV(f:Fw)(b:Bool):Int:=if b=true then f.line+1 else 0
def z90(g:FuncId):Fact:=qh8 g fun f rest=>match rest with
 |[.agg [.int .i64 _,.bool b,.int .i64 _,.int .i64 _,.int .i64 _,.int .i64 _,.int .i64 _,.int .i64 _,.int .i64 _,.int .i64 _,.int .i64 _,.int .i64 _,.int .i64 _]] =>some (.req (inR f.line 0 1099511627776) (.leaf (I64 (lineV f b))))
 |_=>none
def opL(kd:Int)(nb:Bool)(c:Gc.C)(n r s:Int):List SV:=[I64 kd,.bool nb,I64 c.code,I64 c.has,I64 c.x,I64 c.y,I64 c.z,I64 c.e,I64 c.f,I64 c.s,I64 n,I64 r,I64 s]
def shI(a:List Int):Bool:=decide (a.length≤1000)
def shB(a:List Bk):Bool:=decide (a.length≤1000)
structure Fl where
 pages:List (List UInt8)
 fuse:Int
 dead:Bool
 keep:Int
def Fl.cells(f:Fl):List SV:=[.list .str f.pages,I64 f.fuse,.bool f.dead,I64 f.keep]
def Fl.sv(f:Fl):SV:=.agg f.cells
def qg8(f:FuncId)(h:Fl→Tree SV):Fact:=⟨f,fun args=>match args with
 |[.agg [.list .str p,.int .i64 a,.bool d,.int .i64 k]] =>some (h ⟨p,a,d,k⟩)
 |_=>none⟩
theorem qh7{P:Program}{f:FuncId}{h:Fl→Tree SV}(k:∀c,(h c).says (SCall P f [c.sv])):(qg8 f h).ok P:=fun args t ht=>by
 simp only[qg8]at ht
 split at ht
 ·injection ht with ht;subst ht;exact k ⟨_,_,_,_⟩
 ·cases ht
def xX6:Plan:=.all
noncomputable def xX7(f:Fl):Tree Stop:= .leaf (.at (j9 pP 102 0) 46 (j8 46 [(1,.ptr 0 0),(6,.list Ty.str f.pages),(7,I64 (↑f.pages.length:Int)),(8,I64 0)]) [some (.cells [.list Ty.str f.pages,I64 f.fuse,.bool f.dead,I64 f.keep])])
theorem xX5(f:Fl):w9 (Env.of pP (v6 [])) 1000 (j7 pP 102) .unit (x8 46 [1,6,7,8]) (u7 pP 102) xX6 (v9 pP 102 [f.sv]) [] =xX7 f:=by kernel_rfl
def xX9:Plan:=.fork (.fork .all .all) (.fork (.ln 4 (.fork (.ln 3 (.fork (.ln 3 (.fork (.ln 3 (.fork (.lit (.lit (.lit .all))) (.lit (.lit (.lit .all))))) (.ln 6 (.lit .all)))) (.ln 10 (.lit .all)))) (.ln 14 (.lit .all)))) (.ln 19 (.lit .all)))
noncomputable def xY0(f:Fl)(i:Int):Tree Stop:= .node (decide (i< (↑f.pages.length:Int))) (.req (decide (0≤i)&&decide (i< (↑f.pages.length:Int))) (.node (((List.length (f.pages.getD i.toNat ([] :List UInt8)):Nat):Int) != 64) (.leaf (.done (.bool false))) (.leaf (.at (j9 pP 102 0) 46 (j8 46 [(1,.ptr 0 0),(6,.list Ty.str f.pages),(7,I64 (↑f.pages.length:Int)),(8,I64 (i64.wrap (i+1)))]) [some (.cells [.list Ty.str f.pages,I64 f.fuse,.bool f.dead,I64 f.keep])])))) (.node (decide ((↑f.pages.length:Int)≥2)) (.node (decide ((↑f.pages.length:Int)≤256)) (.node (decide (f.fuse≥0)) (.node (decide (f.fuse≤1048576)) (.node (decide (f.keep≥0)) (.leaf (.done (.bool (decide (f.keep≤64))))) (.leaf (.done (.bool false)))) (.leaf (.done (.bool false)))) (.leaf (.done (.bool false)))) (.leaf (.done (.bool false)))) (.leaf (.done (.bool false))))
theorem xX8(f:Fl)(i:Int):w9 (Env.of pP (v6 [])) 1000 (j7 pP 102) .unit (x8 46 [1,6,7,8]) (j9 pP 102 0) xX9 (j8 46 [(1,.ptr 0 0),(6,.list .str f.pages),(7,I64 f.pages.length),(8,I64 i)]) [some (.cells f.cells)] =xY0 f i:=by kernel_rfl
def xY3:Plan:=.all
noncomputable def xY4(f:Fl):Tree Stop:= .leaf (.at (j9 pP 109 0) 46 (j8 46 [(1,.ptr 0 0),(6,.list Ty.str f.pages),(7,I64 (↑f.pages.length:Int)),(8,I64 0)]) [some (.cells [.list Ty.str f.pages,I64 f.fuse,.bool f.dead,I64 f.keep])])
theorem xY2(f:Fl):w9 (Env.of pP (v6 [])) 1000 (j7 pP 109) .unit (x8 46 [1,6,7,8]) (u7 pP 109) xY3 (v9 pP 109 [f.sv]) [] =xY4 f:=by kernel_rfl
def xY6:Plan:=.fork (.fork .all .all) (.fork (.ln 4 (.fork (.ln 3 (.fork (.ln 3 (.fork (.ln 3 (.fork (.lit (.lit (.lit .all))) (.lit (.lit (.lit .all))))) (.ln 6 (.lit .all)))) (.ln 10 (.lit .all)))) (.ln 14 (.lit .all)))) (.ln 19 (.lit .all)))
noncomputable def xY7(f:Fl)(i:Int):Tree Stop:= .node (decide (i< (↑f.pages.length:Int))) (.req (decide (0≤i)&&decide (i< (↑f.pages.length:Int))) (.node (((List.length (f.pages.getD i.toNat ([] :List UInt8)):Nat):Int) != 64) (.leaf (.done (.bool false))) (.leaf (.at (j9 pP 109 0) 46 (j8 46 [(1,.ptr 0 0),(6,.list Ty.str f.pages),(7,I64 (↑f.pages.length:Int)),(8,I64 (i64.wrap (i+1)))]) [some (.cells [.list Ty.str f.pages,I64 f.fuse,.bool f.dead,I64 f.keep])])))) (.node (decide ((↑f.pages.length:Int)≥2)) (.node (decide ((↑f.pages.length:Int)≤256)) (.node (decide (f.fuse≥0)) (.node (decide (f.fuse≤1048576)) (.node (decide (f.keep≥0)) (.leaf (.done (.bool (decide (f.keep≤64))))) (.leaf (.done (.bool false)))) (.leaf (.done (.bool false)))) (.leaf (.done (.bool false)))) (.leaf (.done (.bool false)))) (.leaf (.done (.bool false))))
theorem xY5(f:Fl)(i:Int):w9 (Env.of pP (v6 [])) 1000 (j7 pP 109) .unit (x8 46 [1,6,7,8]) (j9 pP 109 0) xY6 (j8 46 [(1,.ptr 0 0),(6,.list .str f.pages),(7,I64 f.pages.length),(8,I64 i)]) [some (.cells f.cells)] =xY7 f i:=by kernel_rfl
def qp3:Plan:=.fork (.all) (.all)
noncomputable def qp4(f:Fl):Tree Stop:= .node (f.pages.isEmpty) (.leaf (.done (.agg [.list Ty.str [],I64 f.fuse,.bool f.dead,I64 f.keep]))) (.req (decide ((0+f.pages.length)*16≤140737488355328)) (.leaf (.done (.agg [.list Ty.str f.pages,I64 f.fuse,.bool f.dead,I64 f.keep]))))
theorem fcp(f:Fl):w9 (Env.of pP (v6 [])) 1000 (j7 pP 130) .str (x8 9 []) (u7 pP 130) qp3 (v9 pP 130 [f.sv]) [] =qp4 f:=by kernel_rfl
def qo9:Plan:=.fork (.all) (.all)
noncomputable def qp2(f:Fl):Tree Stop:= .node (f.pages.isEmpty) (.leaf (.done (.agg [.list Ty.str [],I64 f.fuse,.bool f.dead,I64 f.keep]))) (.req (decide ((0+f.pages.length)*16≤140737488355328)) (.leaf (.done (.agg [.list Ty.str f.pages,I64 f.fuse,.bool f.dead,I64 f.keep]))))
theorem qo8(f:Fl):w9 (Env.of pP (v6 [])) 1000 (j7 pP 116) .str (x8 9 []) (u7 pP 116) qo9 (v9 pP 116 [f.sv]) [] =qp2 f:=by kernel_rfl
theorem q85{α:Type}{L:α→Prop}{b:Bool}{T F:Tree α}(hb:b=true)(h:T.holds L):(Tree.node b T F).holds L:=⟨fun _=>h,fun k=>by rw[hb]at k;cases k⟩
theorem qQ9:Known pP (Env.of pP (v6 [])):=kW trivial
def o7(f:Fl):Bool:=decide (f.pages.length≤1000)
def yJ2(l:List (List UInt8)):Bool:=l.all fun p=>decide (p.length=64)
def flB(f:Fl):Bool:=yJ2 f.pages&& (decide (2≤f.pages.length)&&decide (f.pages.length≤256)&&inR f.fuse 0 1048576&&inR f.keep 0 64)
def qs9(f:Fl):Bool:=decide (2≤f.pages.length)&&decide (f.pages.length≤256)&&inR f.fuse 0 1048576&&inR f.keep 0 64
theorem qs4{f:Fl}:flB f=true↔(∀p∈f.pages,p.length=64)∧2≤f.pages.length∧f.pages.length≤256∧(0≤f.fuse∧f.fuse≤1048576)∧0≤f.keep∧f.keep≤64:=by
 simp[flB,yJ2,v8,and_assoc]
theorem zU5{α:Type}{l:List α}{d:α}{i:Nat}(h:i<l.length):l.drop i=l.getD i d::l.drop (i+1):=by
 rw[List.drop_eq_getElem_cons h,List.getD_eq_getElem?_getD,List.getElem?_eq_getElem h];rfl
theorem xY1(f:Fl)(hl:f.pages.length≤1000):∀ (k i:Nat) (v:Bool),i+k=f.pages.length→v=((f.pages.drop i).all (fun p=>decide (p.length=64))&&qs9 f)→
  b8 pP (j7 pP 102) (.bool v) (j9 pP 102 0) (j8 46 [(1,.ptr 0 0),(6,.list .str f.pages),(7,I64 f.pages.length),(8,I64 i)]) [some (.cells f.cells)]
 |k,i,v,hi,hv=>by
  refine w6 qQ9 (n:=1000) (hint:=.unit) (keep:=x8 46 [1,6,7,8]) (p:=xX9) rfl ?_
  erw [xX8 f i]
  unfold xY0
  have t0:(i:Int).toNat=i:=by omega
  have w1:i64.wrap ((i:Int)+1)=((i+1:Nat):Int):=by rw[w64 (by omega) (by omega)];omega
  rw[t0,w1]
  refine o5 (fun a=>?_) fun a=>?_
  ·match k,hi with
   |0,hi=>omega
   |k+1,hi=>
    rw[zU5 (d:=([] :List UInt8)) (by omega:i<f.pages.length),List.all_cons]at hv
    refine x6 (by simp;omega) (q83 (fun c=>?_) fun c=>?_)
    ·have:¬(f.pages.getD i []).length=64:=fun k=>c (by rw[k];rfl)
     rw[decide_eq_false this]at hv
     subst hv;rfl
    ·have:(f.pages.getD i []).length=64:=by have:=c;omega
     rw[decide_eq_true this,Bool.true_and]at hv
     exact⟨o8 _ _,xY1 f hl k (i+1) v (by omega) hv⟩
  ·have z:f.pages.drop i=[] :=List.drop_eq_nil_of_le (by omega)
   rw[z]at hv
   have hv:v=qs9 f:=hv
   have q:∀b:Bool,b=qs9 f→SV.bool b=SV.bool v:=fun b e=>by rw[hv,e]
   refine o5 (fun b1=>o5 (fun b2=>o5 (fun b3=>o5 (fun b4=>o5 (fun b5=>q _ ?_) fun b5=>q _ ?_) fun b4=>q _ ?_) fun b3=>q _ ?_) fun b2=>q _ ?_) fun b1=>q _ ?_
   all_goals
    rw[Bool.eq_iff_iff]
    simp only[qs9,Bool.and_eq_true,v8,decide_eq_true_eq,Bool.false_eq_true,false_iff]
    omega
theorem xY8(f:Fl)(hl:f.pages.length≤1000):∀ (k i:Nat) (v:Bool),i+k=f.pages.length→v=((f.pages.drop i).all (fun p=>decide (p.length=64))&&qs9 f)→
  b8 pP (j7 pP 109) (.bool v) (j9 pP 109 0) (j8 46 [(1,.ptr 0 0),(6,.list .str f.pages),(7,I64 f.pages.length),(8,I64 i)]) [some (.cells f.cells)]
 |k,i,v,hi,hv=>by
  refine w6 qQ9 (n:=1000) (hint:=.unit) (keep:=x8 46 [1,6,7,8]) (p:=xY6) rfl ?_
  erw [xY5 f i]
  unfold xY7
  have t0:(i:Int).toNat=i:=by omega
  have w1:i64.wrap ((i:Int)+1)=((i+1:Nat):Int):=by rw[w64 (by omega) (by omega)];omega
  rw[t0,w1]
  refine o5 (fun a=>?_) fun a=>?_
  ·match k,hi with
   |0,hi=>omega
   |k+1,hi=>
    rw[zU5 (d:=([] :List UInt8)) (by omega:i<f.pages.length),List.all_cons]at hv
    refine x6 (by simp;omega) (q83 (fun c=>?_) fun c=>?_)
    ·have:¬(f.pages.getD i []).length=64:=fun k=>c (by rw[k];rfl)
     rw[decide_eq_false this]at hv
     subst hv;rfl
    ·have:(f.pages.getD i []).length=64:=by have:=c;omega
     rw[decide_eq_true this,Bool.true_and]at hv
     exact⟨o8 _ _,xY8 f hl k (i+1) v (by omega) hv⟩
  ·have z:f.pages.drop i=[] :=List.drop_eq_nil_of_le (by omega)
   rw[z]at hv
   have hv:v=qs9 f:=hv
   have q:∀b:Bool,b=qs9 f→SV.bool b=SV.bool v:=fun b e=>by rw[hv,e]
   refine o5 (fun b1=>o5 (fun b2=>o5 (fun b3=>o5 (fun b4=>o5 (fun b5=>q _ ?_) fun b5=>q _ ?_) fun b4=>q _ ?_) fun b3=>q _ ?_) fun b2=>q _ ?_) fun b1=>q _ ?_
   all_goals
    rw[Bool.eq_iff_iff]
    simp only[qs9,Bool.and_eq_true,v8,decide_eq_true_eq,Bool.false_eq_true,false_iff]
    omega
theorem xc3(f:Fl)(h:o7 f=true):SCall pP 102 [f.sv] (.bool (flB f)):=by
 have hl:f.pages.length≤1000:=of_decide_eq_true h
 refine m6 rfl rfl (by kernel_rfl) (w6 qQ9 (n:=1000) (hint:=.unit) (keep:=x8 46 [1,6,7,8]) (p:=xX6) (boxes:=[]) rfl ?_)
 have q:=xX5 f
 unfold v9 u7 at q
 erw [q]
 unfold xX7
 exact⟨o8 _ _,xY1 f hl f.pages.length 0 _ (by omega) (by rw[List.drop_zero];simp only[flB,yJ2,qs9])⟩
theorem xc4(f:Fl)(h:o7 f=true):SCall pP 109 [f.sv] (.bool (flB f)):=by
 have hl:f.pages.length≤1000:=of_decide_eq_true h
 refine m6 rfl rfl (by kernel_rfl) (w6 qQ9 (n:=1000) (hint:=.unit) (keep:=x8 46 [1,6,7,8]) (p:=xY3) (boxes:=[]) rfl ?_)
 have q:=xY2 f
 unfold v9 u7 at q
 erw [q]
 unfold xY4
 exact⟨o8 _ _,xY8 f hl f.pages.length 0 _ (by omega) (by rw[List.drop_zero];simp only[flB,yJ2,qs9])⟩
theorem xc5(f:Fl)(h:o7 f=true):SCall pP 130 [f.sv] f.sv:=by
 have hl:f.pages.length≤1000:=of_decide_eq_true h
 refine m6 rfl rfl (by kernel_rfl) (w6 qQ9 (n:=1000) (hint:=.str) (keep:=x8 9 []) (p:=qp3) (boxes:=[]) rfl ?_)
 have q:=fcp f
 unfold v9 u7 at q
 erw [q]
 unfold qp4
 refine⟨fun e=>?_,fun e=>x6 (decide_eq_true (by omega)) rfl⟩
 have e:f.pages=[] :=List.isEmpty_iff.1 e
 show SV.agg _=SV.agg f.cells
 unfold Fl.cells;rw[e];rfl
theorem xc6(f:Fl)(h:o7 f=true):SCall pP 116 [f.sv] f.sv:=by
 have hl:f.pages.length≤1000:=of_decide_eq_true h
 refine m6 rfl rfl (by kernel_rfl) (w6 qQ9 (n:=1000) (hint:=.str) (keep:=x8 9 []) (p:=qo9) (boxes:=[]) rfl ?_)
 have q:=qo8 f
 unfold v9 u7 at q
 erw [q]
 unfold qp2
 refine⟨fun e=>?_,fun e=>x6 (decide_eq_true (by omega)) rfl⟩
 have e:f.pages=[] :=List.isEmpty_iff.1 e
 show SV.agg _=SV.agg f.cells
 unfold Fl.cells;rw[e];rfl
def z60:Fact:=qg8 102 fun f=>.req (o7 f) (.leaf (.bool (flB f)))
theorem yk3:z60.ok pP:=qh7 fun f h=>xc3 f h
def z61:Fact:=qg8 109 fun f=>.req (o7 f) (.leaf (.bool (flB f)))
theorem yk4:z61.ok pP:=qh7 fun f h=>xc4 f h
def z62:Fact:=qg8 130 fun f=>.req (o7 f) (.leaf f.sv)
theorem yk5:z62.ok pP:=qh7 fun f h=>xc5 f h
def z63:Fact:=qg8 116 fun f=>.req (o7 f) (.leaf f.sv)
theorem yk6:z63.ok pP:=qh7 fun f h=>xc6 f h
def qB5(f:Fl)(i:Int):Bool:=flB f&&inR i 0 (f.pages.length-1)
def qs6(f:Fl)(n k:Int):Fl:=match f.dead||!flB f with
 |true=>f
 |false=>match decide (n<1)with
  |true=>⟨f.pages,0,true,0⟩
  |false=>⟨f.pages,if 1048576<n then 1048576 else n,f.dead,if(if 64<k then 64 else k)>0 then if 64<k then 64 else k else 0⟩
def flPow(f:Fl):Fl:=match flB f with
 |true=>⟨f.pages,0,false,0⟩
 |false=>f
def qg9(f:FuncId)(h:Fl→Int→Tree SV):Fact:=⟨f,fun args=>match args with
 |[.agg [.list .str p,.int .i64 a,.bool d,.int .i64 k],.int .i64 i] =>some (h ⟨p,a,d,k⟩ i)
 |_=>none⟩
theorem qh4{P:Program}{f:FuncId}{h:Fl→Int→Tree SV}(k:∀c i,(h c i).says (SCall P f [c.sv,I64 i])):(qg9 f h).ok P:=fun args t ht=>by
 simp only[qg9]at ht
 split at ht
 ·injection ht with ht;subst ht;exact k ⟨_,_,_,_⟩ _
 ·cases ht
def qh0(f:FuncId)(h:Fl→Int→Int→Tree SV):Fact:=⟨f,fun args=>match args with
 |[.agg [.list .str p,.int .i64 a,.bool d,.int .i64 k],.int .i64 i,.int .i64 j] =>some (h ⟨p,a,d,k⟩ i j)
 |_=>none⟩
theorem qh1{P:Program}{f:FuncId}{h:Fl→Int→Int→Tree SV}(k:∀c i j,(h c i j).says (SCall P f [c.sv,I64 i,I64 j])):(qh0 f h).ok P:=fun args t ht=>by
 simp only[qh0]at ht
 split at ht
 ·injection ht with ht;subst ht;exact k ⟨_,_,_,_⟩ _ _
 ·cases ht
theorem xd8(f:Fl)(i:Int)(h:o7 f=true):SCall pP 302 [f.sv,I64 i] (.bool (qB5 f i)):=
 o9 mix [z60,z62] ⟨yk3,yk5,trivial⟩ 1000 (.fork (.lit (.lit (.fork (.ln 4 (.lit .all)) (.ln 4 (.lit .all))))) (.ln 7 (.lit .all)))
  (t:=.req (o7 f) (.node (flB f)
 (.node (decide (i≥0))
  (.leaf (SV.bool (decide (i< (↑f.pages.length:Int)))))
  (.leaf (SV.bool false)))
 (.leaf (SV.bool false))))
  (by kernel_rfl) (by
   refine x6 h ?_
   unfold qB5
   refine f9 (fun v=>?_) (fun v=>?_)<;>rw[v]
   ·refine o5 (fun a=>?_) fun a=>?_
    ·show SV.bool _=SV.bool _
     congr 1
     rw[Bool.eq_iff_iff]
     simp only[Bool.true_and,v8,decide_eq_true_eq];omega
    ·show SV.bool _=SV.bool _
     congr 1
     symm
     rw[Bool.true_and,Bool.eq_false_iff]
     intro k
     rw[v8]at k;omega
   ·rfl) (by kernel_rfl) (by kernel_rfl)
def z74:Fact:=qg9 302 fun f i=>.req (o7 f) (.leaf (.bool (qB5 f i)))
theorem yl8:z74.ok pP:=qh4 fun f i h=>xd8 f i h
theorem xc7(f:Fl)(n k:Int)(h:o7 f=true):SCall pP 56 [f.sv,I64 n,I64 k] ((qs6 f n k).sv):=
 o9 mix [z60,z62] ⟨yk3,yk5,trivial⟩ 1000 (.fork (.ln 3 (.lit .all)) (.ln 3 (.fork .all (.fork .all .all))))
  (t:=.req (o7 f) (.node (f.dead) (.leaf (.agg [.list Ty.str f.pages,I64 f.fuse,.bool f.dead,I64 f.keep])) (.req (o7 f) (.node (!flB f) (.leaf (.agg [.list Ty.str f.pages,I64 f.fuse,.bool f.dead,I64 f.keep])) (.node (decide (n<1)) (.leaf (.agg [.list Ty.str f.pages,I64 0,.bool true,I64 0])) (.leaf (.agg [.list Ty.str f.pages,I64 (if 1048576<n then 1048576 else n),.bool f.dead,I64 (if(if 64<k then 64 else k)>0 then if 64<k then 64 else k else 0)])))))))
  (by kernel_rfl) (by unfold qs6;refine x6 h ?_;cases d:f.dead<;>cases v:flB f<;>simp only[Tree.holds,Bool.not_true,Bool.not_false,Bool.or_true,Bool.or_false,Bool.true_or,Bool.false_or,Bool.false_eq_true,h,true_and,false_implies,implies_true,true_implies,and_true]<;>(try(cases b:decide (n<1)<;>simp))<;>(try simp[Fl.sv,Fl.cells,d,I64])) (by kernel_rfl) (by kernel_rfl)
theorem xd0(f:Fl)(h:o7 f=true):SCall pP 55 [f.sv] ((flPow f).sv):=
 o9 mix [z60,z62] ⟨yk3,yk5,trivial⟩ 1000 (.fork (.all) (.all))
  (t:=.req (o7 f) (.req (o7 f) (.node (flB f)
  (.leaf (SV.agg [SV.list Ty.str f.pages,SV.int IntKind.i64 0,SV.bool false,SV.int IntKind.i64 0]))
  (.leaf (SV.agg [SV.list Ty.str f.pages,SV.int IntKind.i64 f.fuse,SV.bool f.dead,SV.int IntKind.i64 f.keep])))))
  (by kernel_rfl) (by unfold flPow;exact x6 h (x6 h (f9 (fun v=>by rw[v];rfl) fun v=>by rw[v];rfl))) (by kernel_rfl) (by kernel_rfl)
def U16(n:Int):SV:=.int .u16 n
def zC3:Plan:=.all
noncomputable def zC4(s:List UInt8):Tree Stop:= .leaf (.at (j9 pP 300 0) 32 (j8 32 [(0,SV.str s),(3,SV.int IntKind.u16 65535),(7,I64 (↑s.length:Int)),(8,I64 0)]) [])
theorem ca0(s:List UInt8):w9 (Env.of pP (v6 [])) 1000 (j7 pP 300) .unit (x8 32 [0,3,7,8]) (u7 pP 300) zC3 (v9 pP 300 [.str s]) [] =zC4 s:=by kernel_rfl
def zC5:Plan:=.fork (.all) (.all)
noncomputable def zC6(s:List UInt8)(r i:Int):Tree Stop:= .node (decide (i< (↑s.length:Int))) (.req (decide (0≤i)&&decide (i< (↑s.length:Int))) (.req true (.leaf (.at (j9 pP 300 1) 32 (j8 32 [(0,SV.str s),(3,SV.int IntKind.u16 (IntKind.u16.wrap (↑(BitVec.ofInt 16 r ^^^ BitVec.ofInt 16 (IntKind.u16.wrap (IntKind.u16.wrap (↑(s.getD i.toNat 0).toNat:Int)*256))).toNat:Int))),(7,I64 (↑s.length:Int)),(8,I64 i),(18,I64 0)]) [])))) (.leaf (.done (I64 (i64.wrap r))))
theorem ca1(s:List UInt8)(r i:Int):w9 (Env.of pP (v6 [])) 1000 (j7 pP 300) .unit (x8 32 [0,3,7,8,18]) (j9 pP 300 0) zC5 (j8 32 [(0,.str s),(3,U16 r),(7,I64 s.length),(8,I64 i)]) [] =zC6 s r i:=by kernel_rfl
def zC7:Plan:=.fork (.fork (.all) (.all)) (.all)
noncomputable def zC8(s:List UInt8)(r i k:Int):Tree Stop:= .node (decide (k<8)) (.req true (.node (IntKind.u16.wrap (↑(BitVec.ofInt 16 r &&&BitVec.ofInt 16 32768).toNat:Int) != 0) (.leaf (.at (j9 pP 300 1) 32 (j8 32 [(0,SV.str s),(3,SV.int IntKind.u16 (IntKind.u16.wrap (↑(BitVec.ofInt 16 (IntKind.u16.wrap (r*2)) ^^^ BitVec.ofInt 16 4129).toNat:Int))),(7,I64 (↑s.length:Int)),(8,I64 i),(18,I64 (i64.wrap (k+1)))]) [])) (.leaf (.at (j9 pP 300 1) 32 (j8 32 [(0,SV.str s),(3,SV.int IntKind.u16 (IntKind.u16.wrap (r*2))),(7,I64 (↑s.length:Int)),(8,I64 i),(18,I64 (i64.wrap (k+1)))]) [])))) (.leaf (.at (j9 pP 300 0) 32 (j8 32 [(0,SV.str s),(3,SV.int IntKind.u16 r),(7,I64 (↑s.length:Int)),(8,I64 (i64.wrap (i+1))),(18,I64 k)]) []))
theorem ca2(s:List UInt8)(r i k:Int):w9 (Env.of pP (v6 [])) 1000 (j7 pP 300) .unit (x8 32 [0,3,7,8,18]) (j9 pP 300 1) zC7 (j8 32 [(0,.str s),(3,U16 r),(7,I64 s.length),(8,I64 i),(18,I64 k)]) [] =zC8 s r i k:=by kernel_rfl
def zG5:Plan:=.all
noncomputable def zG6(s:List UInt8):Tree Stop:= .leaf (.at (j9 pP 254 0) 26 (j8 26 [(0,SV.str s),(3,I64 65535),(4,I64 0)]) [])
theorem cb0(s:List UInt8):w9 (Env.of pP (v6 [])) 1000 (j7 pP 254) .unit (x8 26 [0,3,4]) (u7 pP 254) zG5 (v9 pP 254 [.str s]) [] =zG6 s:=by kernel_rfl
def zG7:Plan:=.fork (.all) (.all)
noncomputable def zG8(s:List UInt8)(r i:Int):Tree Stop:= .node (decide (i< (↑s.length:Int))) (.req (decide (0≤i)&&decide (i< (↑s.length:Int))) (.leaf (.at (j9 pP 254 1) 26 (j8 26 [(0,SV.str s),(3,I64 (i64.wrap (↑(BitVec.ofInt 64 r ^^^ BitVec.ofInt 64 (i64.wrap (i64.wrap (↑(s.getD i.toNat 0).toNat:Int)*256))).toNat:Int))),(4,I64 i),(5,I64 0)]) []))) (.leaf (.done (I64 r)))
theorem cb1(s:List UInt8)(r i:Int):w9 (Env.of pP (v6 [])) 1000 (j7 pP 254) .unit (x8 26 [0,3,4,5]) (j9 pP 254 0) zG7 (j8 26 [(0,.str s),(3,I64 r),(4,I64 i)]) [] =zG8 s r i:=by kernel_rfl
def zG9:Plan:=.fork (.fork (.all) (.all)) (.all)
noncomputable def zH0(s:List UInt8)(r i k:Int):Tree Stop:= .node (decide (k<8)) (.node (decide (r≥32768)) (.leaf (.at (j9 pP 254 1) 26 (j8 26 [(0,SV.str s),(3,I64 (i64.wrap (↑(BitVec.ofInt 64 (i64.wrap (i64.wrap (r-32768)*2)) ^^^ BitVec.ofInt 64 4129).toNat:Int))),(4,I64 i),(5,I64 (i64.wrap (k+1)))]) [])) (.leaf (.at (j9 pP 254 1) 26 (j8 26 [(0,SV.str s),(3,I64 (i64.wrap (r*2))),(4,I64 i),(5,I64 (i64.wrap (k+1)))]) []))) (.leaf (.at (j9 pP 254 0) 26 (j8 26 [(0,SV.str s),(3,I64 r),(4,I64 (i64.wrap (i+1))),(5,I64 k)]) []))
theorem cb2(s:List UInt8)(r i k:Int):w9 (Env.of pP (v6 [])) 1000 (j7 pP 254) .unit (x8 26 [0,3,4,5]) (j9 pP 254 1) zG9 (j8 26 [(0,.str s),(3,I64 r),(4,I64 i),(5,I64 k)]) [] =zH0 s r i k:=by kernel_rfl
def zC9:Plan:=.fork (.all) (.all)
noncomputable def zD0(s:List UInt8)(r i k:Int):Tree Stop:= .node (decide (i< (↑s.length:Int))) (.req (decide (0≤i)&&decide (i< (↑s.length:Int))) (.req true (.leaf (.at (j9 pP 300 1) 32 (j8 32 [(0,SV.str s),(3,SV.int IntKind.u16 (IntKind.u16.wrap (↑(BitVec.ofInt 16 r ^^^ BitVec.ofInt 16 (IntKind.u16.wrap (IntKind.u16.wrap (↑(s.getD i.toNat 0).toNat:Int)*256))).toNat:Int))),(7,I64 (↑s.length:Int)),(8,I64 i),(18,I64 0)]) [])))) (.leaf (.done (I64 (i64.wrap r))))
theorem ca3(s:List UInt8)(r i k:Int):w9 (Env.of pP (v6 [])) 1000 (j7 pP 300) .unit (x8 32 [0,3,7,8,18]) (j9 pP 300 0) zC9 (j8 32 [(0,.str s),(3,U16 r),(7,I64 s.length),(8,I64 i),(18,I64 k)]) [] =zD0 s r i k:=by kernel_rfl
def zH1:Plan:=.fork (.all) (.all)
noncomputable def zH2(s:List UInt8)(r i k:Int):Tree Stop:= .node (decide (i< (↑s.length:Int))) (.req (decide (0≤i)&&decide (i< (↑s.length:Int))) (.leaf (.at (j9 pP 254 1) 26 (j8 26 [(0,SV.str s),(3,I64 (i64.wrap (↑(BitVec.ofInt 64 r ^^^ BitVec.ofInt 64 (i64.wrap (i64.wrap (↑(s.getD i.toNat 0).toNat:Int)*256))).toNat:Int))),(4,I64 i),(5,I64 0)]) []))) (.leaf (.done (I64 r)))
theorem cb3(s:List UInt8)(r i k:Int):w9 (Env.of pP (v6 [])) 1000 (j7 pP 254) .unit (x8 26 [0,3,4,5]) (j9 pP 254 0) zH1 (j8 26 [(0,.str s),(3,I64 r),(4,I64 i),(5,I64 k)]) [] =zH2 s r i k:=by kernel_rfl
def zL8(r:Nat):Nat:=if 32768≤r then((r-32768)*2) ^^^ 4129 else r*2
def zM0:Nat→Nat→Nat
 |0,r=>r
 |k+1,r=>zM0 k (zL8 r)
def zM2:List UInt8→Nat→Nat
 |[],r=>r
 |b::l,r=>zM2 l (zM0 8 (r ^^^ b.toNat*256))
def crc(s:List UInt8):Nat:=zM2 s 65535
theorem zL9{r:Nat}(h:r<65536):zL8 r<65536:=by
 unfold zL8
 split
 ·exact Nat.xor_lt_two_pow (n:=16) (by omega) (by decide)
 ·omega
theorem zM1:∀ (k:Nat) {r:Nat},r<65536→zM0 k r<65536
 |0,_,h=>h
 |k+1,_,h=>zM1 k (zL9 h)
theorem zM4{r:Nat}(b:UInt8)(h:r<65536):r ^^^ b.toNat*256<65536:=
 Nat.xor_lt_two_pow (n:=16) h (by have:=b.toNat_lt;omega)
theorem zM3:∀ (s:List UInt8) {r:Nat},r<65536→zM2 s r<65536
 |[],_,h=>h
 |b::s,_,h=>zM3 s (zM1 8 (zM4 b h))
theorem zM5(s:List UInt8):crc s<65536:=zM3 s (by decide)
theorem x51{n:Int}(h:0≤n)(h':n<65536):IntKind.u16.wrap n=n:=by
 unfold IntKind.wrap
 have e:n % (2 ^ IntKind.u16.bits:Int)=n:=Int.emod_eq_of_lt h h'
 simp only[e]
 rw[if_neg (by simp[IntKind.signed])]
theorem x80{a b:Nat}(ha:a<65536)(hb:b<65536):IntKind.u16.wrap (((BitVec.ofInt 16 (a:Int) ^^^ BitVec.ofInt 16 (b:Int)).toNat:Nat):Int)=((a ^^^ b:Nat):Int):=by
 have e:(BitVec.ofInt 16 (a:Int) ^^^ BitVec.ofInt 16 (b:Int)).toNat=a ^^^ b:=by
  rw[BitVec.ofInt_natCast,BitVec.ofInt_natCast,BitVec.toNat_xor,BitVec.toNat_ofNat,BitVec.toNat_ofNat,Nat.mod_eq_of_lt (by omega),Nat.mod_eq_of_lt (by omega)]
 rw[e]
 have:=Nat.xor_lt_two_pow (n:=16) ha hb
 exact x51 (by omega) (by omega)
theorem x81{a b:Nat}(ha:a<65536)(hb:b<65536):i64.wrap (((BitVec.ofInt 64 (a:Int) ^^^ BitVec.ofInt 64 (b:Int)).toNat:Nat):Int)=((a ^^^ b:Nat):Int):=by
 have e:(BitVec.ofInt 64 (a:Int) ^^^ BitVec.ofInt 64 (b:Int)).toNat=a ^^^ b:=by
  rw[BitVec.ofInt_natCast,BitVec.ofInt_natCast,BitVec.toNat_xor,BitVec.toNat_ofNat,BitVec.toNat_ofNat,Nat.mod_eq_of_lt (by omega),Nat.mod_eq_of_lt (by omega)]
 rw[e]
 have:=Nat.xor_lt_two_pow (n:=16) ha hb
 exact w64 (by omega) (by omega)
theorem qD6:∀{a:Nat},a<65536→((IntKind.u16.wrap (((BitVec.ofInt 16 (a:Int) &&&BitVec.ofInt 16 32768).toNat:Nat):Int) != 0)=decide (32768≤a)):=by
 intro a ha
 have e:(BitVec.ofInt 16 (a:Int) &&&BitVec.ofInt 16 32768).toNat=a &&&32768:=by
  rw[BitVec.ofInt_natCast,show BitVec.ofInt 16 32768=BitVec.ofNat 16 32768 from rfl,BitVec.toNat_and,BitVec.toNat_ofNat,BitVec.toNat_ofNat,Nat.mod_eq_of_lt (by omega),Nat.mod_eq_of_lt (by omega)]
 rw[e]
 have e2:a &&&32768=if 32768≤a then 32768 else 0:=by
  apply Nat.eq_of_testBit_eq
  intro j
  rw[Nat.testBit_and,show(32768:Nat)=2 ^ 15 from rfl,Nat.testBit_two_pow]
  by_cases hj:15=j
  ·subst hj
   rw[Nat.testBit_eq_decide_div_mod_eq]
   split
   ·rename_i h
    rw[Nat.testBit_two_pow,decide_eq_true (show a / 2 ^ 15 % 2=1 by omega)];rfl
   ·rename_i h
    rw[decide_eq_false (show ¬a / 2 ^ 15 % 2=1 by omega),Nat.zero_testBit];rfl
  ·rw[decide_eq_false hj,Bool.and_false]
   split
   ·rw[Nat.testBit_two_pow,decide_eq_false hj]
   ·rw[Nat.zero_testBit]
 rw[e2]
 by_cases h:32768≤a
 ·rw[if_pos h,decide_eq_true h];decide
 ·rw[if_neg h,decide_eq_false h];decide
theorem zD1(s:List UInt8)(i:Nat)(hi:i<s.length)(hl:s.length≤1099511627776)(v:Int):∀ (j k r:Nat),k+j=8→r<65536→
  b8 pP (j7 pP 300) (I64 v) (j9 pP 300 0) (j8 32 [(0,.str s),(3,U16 (zM0 j r:Nat)),(7,I64 s.length),(8,I64 (i+1:Nat)),(18,I64 8)]) [] →
  b8 pP (j7 pP 300) (I64 v) (j9 pP 300 1) (j8 32 [(0,.str s),(3,U16 r),(7,I64 s.length),(8,I64 i),(18,I64 k)]) []
 |j,k,r,hk,hr,H=>by
  refine w6 qQ9 (n:=1000) (hint:=.unit) (keep:=x8 32 [0,3,7,8,18]) (p:=zC7) rfl ?_
  erw [ca2 s r i k]
  unfold zC8
  have wi:i64.wrap ((i:Int)+1)=((i+1:Nat):Int):=by rw[w64 (by omega) (by omega)];omega
  have wk:i64.wrap ((k:Int)+1)=((k+1:Nat):Int):=by rw[w64 (by omega) (by omega)];omega
  rw[wi,wk]
  match j,hk,H with
  |0,hk,H=>
   have e8:k=8:=by omega
   subst e8
   exact⟨fun a=>absurd (of_decide_eq_true a) (by decide),fun _=>⟨o8 _ _,H⟩⟩
  |j+1,hk,H=>
   refine o5 (fun a=>?_) fun a=>absurd (show((k:Nat):Int)<8 by omega) a
   have H':b8 pP (j7 pP 300) (I64 v) (j9 pP 300 0) (j8 32 [(0,.str s),(3,U16 (zM0 j (zL8 r):Nat)),(7,I64 s.length),(8,I64 (i+1:Nat)),(18,I64 8)]) [] :=H
   refine x6 rfl ?_
   rw[qD6 hr]
   refine o5 (fun b=>?_) fun b=>?_
   ·have e:zL8 r=((r-32768)*2) ^^^ 4129:=if_pos b
    have w:IntKind.u16.wrap ((r:Int)*2)=(((r-32768)*2:Nat):Int):=by
     unfold IntKind.wrap
     have e:((r:Int)*2) % (2 ^ IntKind.u16.bits:Int)=(((r-32768)*2:Nat):Int):=by
      show((r:Int)*2) % 65536=_
      omega
     simp only[e]
     rw[if_neg (by simp[IntKind.signed])]
    rw[w]
    refine⟨o8 _ _,?_⟩
    have x:=x80 (a:=(r-32768)*2) (b:=4129) (by omega) (by decide)
    have x:IntKind.u16.wrap (((BitVec.ofInt 16 (((r-32768)*2:Nat):Int) ^^^ BitVec.ofInt 16 4129).toNat:Nat):Int)=_:=x
    rw[x,←e]
    exact zD1 s i hi hl v j (k+1) (zL8 r) (by omega) (zL9 hr) H'
   ·have e:zL8 r=r*2:=if_neg b
    rw[x51 (by omega) (by omega),show(r:Int)*2=((zL8 r:Nat):Int) by rw[e];omega]
    exact⟨o8 _ _,zD1 s i hi hl v j (k+1) (zL8 r) (by omega) (zL9 hr) H'⟩
theorem zD2(s:List UInt8)(hl:s.length≤1099511627776):∀ (m i r:Nat) (v:Nat),i+m=s.length→r<65536→v=zM2 (s.drop i) r→
  b8 pP (j7 pP 300) (I64 v) (j9 pP 300 0) (j8 32 [(0,.str s),(3,U16 r),(7,I64 s.length),(8,I64 i),(18,I64 8)]) []
 |m,i,r,v,hi,hr,hv=>by
  refine w6 qQ9 (n:=1000) (hint:=.unit) (keep:=x8 32 [0,3,7,8,18]) (p:=zC9) rfl ?_
  erw [ca3 s r i 8]
  unfold zD0
  have t0:(i:Int).toNat=i:=by omega
  rw[t0]
  refine o5 (fun a=>?_) fun a=>?_
  ·match m,hi with
   |0,hi=>omega
   |m+1,hi=>
    have hb:=(s.getD i 0).toNat_lt
    rw[zU5 (d:=(0:UInt8)) (by omega:i<s.length)]at hv
    have hv:v=zM2 (s.drop (i+1)) (zM0 8 (r ^^^ (s.getD i 0).toNat*256)):=hv
    have hx:=zM4 (s.getD i 0) hr
    refine x6 (by simp;omega) (x6 rfl ?_)
    rw[x51 (n:=((s.getD i 0).toNat:Int)) (by omega) (by omega),x51 (n:=((s.getD i 0).toNat:Int)*256) (by omega) (by omega),show(((s.getD i 0).toNat:Nat):Int)*256=(((s.getD i 0).toNat*256:Nat):Int) by omega,x80 hr (by omega)]
    exact⟨o8 _ _,zD1 s i (by omega) hl _ 8 0 _ rfl hx (zD2 s hl m (i+1) _ v (by omega) (zM1 8 hx) hv)⟩
  ·have z:s.drop i=[] :=List.drop_eq_nil_of_le (by omega)
   rw[z]at hv
   have hv:v=r:=hv
   subst hv
   rw[w64 (by omega) (by omega)]
   exact rfl
theorem xa4(s:List UInt8)(hl:s.length≤1099511627776):SCall pP 300 [.str s] (I64 (crc s)):=by
 refine m6 rfl rfl (by kernel_rfl) (w6 qQ9 (n:=1000) (hint:=.unit) (keep:=x8 32 [0,3,7,8]) (p:=zC3) (boxes:=[]) rfl ?_)
 have q:=ca0 s
 unfold v9 u7 at q
 erw [q]
 unfold zC4
 refine⟨o8 _ _,?_⟩
 refine w6 qQ9 (n:=1000) (hint:=.unit) (keep:=x8 32 [0,3,7,8,18]) (p:=zC5) rfl ?_
 erw [ca1 s 65535 0]
 unfold zC6
 refine o5 (fun a=>?_) fun a=>?_
 ·have hb:=(s.getD 0 0).toNat_lt
  have hx:=zM4 (s.getD 0 0) (show 65535<65536 by decide)
  refine x6 (by simp;omega) (x6 rfl ?_)
  rw[show(0:Int).toNat=0 from rfl,x51 (n:=((s.getD 0 0).toNat:Int)) (by omega) (by omega),x51 (n:=((s.getD 0 0).toNat:Int)*256) (by omega) (by omega),show(((s.getD 0 0).toNat:Nat):Int)*256=(((s.getD 0 0).toNat*256:Nat):Int) by omega]
  have x:=x80 (a:=65535) (b:=(s.getD 0 0).toNat*256) (by decide) (by omega)
  have x:IntKind.u16.wrap (((BitVec.ofInt 16 65535 ^^^ BitVec.ofInt 16 (((s.getD 0 0).toNat*256:Nat):Int)).toNat:Nat):Int)=_:=x
  rw[x]
  refine⟨o8 _ _,zD1 s 0 (by omega) hl _ 8 0 _ rfl hx (zD2 s hl (s.length-1) 1 _ _ (by omega) (zM1 8 hx) ?_)⟩
  have e:=zU5 (d:=(0:UInt8)) (show 0<s.length by omega)
  rw[List.drop_zero]at e
  unfold crc
  conv=>lhs;rw[e]
  rfl
 ·have z:s=[] :=List.length_eq_zero_iff.1 (by omega)
  subst z;rfl
theorem zH3(s:List UInt8)(i:Nat)(hi:i<s.length)(hl:s.length≤1099511627776)(v:Int):∀ (j k r:Nat),k+j=8→r<65536→
  b8 pP (j7 pP 254) (I64 v) (j9 pP 254 0) (j8 26 [(0,.str s),(3,I64 (zM0 j r:Nat)),(4,I64 (i+1:Nat)),(5,I64 8)]) [] →
  b8 pP (j7 pP 254) (I64 v) (j9 pP 254 1) (j8 26 [(0,.str s),(3,I64 r),(4,I64 i),(5,I64 k)]) []
 |j,k,r,hk,hr,H=>by
  refine w6 qQ9 (n:=1000) (hint:=.unit) (keep:=x8 26 [0,3,4,5]) (p:=zG9) rfl ?_
  erw [cb2 s r i k]
  unfold zH0
  have wi:i64.wrap ((i:Int)+1)=((i+1:Nat):Int):=by rw[w64 (by omega) (by omega)];omega
  have wk:i64.wrap ((k:Int)+1)=((k+1:Nat):Int):=by rw[w64 (by omega) (by omega)];omega
  rw[wi,wk]
  match j,hk,H with
  |0,hk,H=>
   have e8:k=8:=by omega
   subst e8
   exact⟨fun a=>absurd (of_decide_eq_true a) (by decide),fun _=>⟨o8 _ _,H⟩⟩
  |j+1,hk,H=>
   refine o5 (fun a=>?_) fun a=>absurd (show((k:Nat):Int)<8 by omega) a
   have H':b8 pP (j7 pP 254) (I64 v) (j9 pP 254 0) (j8 26 [(0,.str s),(3,I64 (zM0 j (zL8 r):Nat)),(4,I64 (i+1:Nat)),(5,I64 8)]) [] :=H
   refine o5 (fun b=>?_) fun b=>?_
   ·have e:zL8 r=((r-32768)*2) ^^^ 4129:=if_pos (by omega)
    rw[w64 (x:=(r:Int)-32768) (by omega) (by omega),w64 (x:=((r:Int)-32768)*2) (by omega) (by omega),show((r:Int)-32768)*2=(((r-32768)*2:Nat):Int) by omega]
    refine⟨o8 _ _,?_⟩
    have x:=x81 (a:=(r-32768)*2) (b:=4129) (by omega) (by decide)
    have x:i64.wrap (((BitVec.ofInt 64 (((r-32768)*2:Nat):Int) ^^^ BitVec.ofInt 64 4129).toNat:Nat):Int)=_:=x
    rw[x,←e]
    exact zH3 s i hi hl v j (k+1) (zL8 r) (by omega) (zL9 hr) H'
   ·have e:zL8 r=r*2:=if_neg (by omega)
    rw[w64 (by omega) (by omega),show(r:Int)*2=((zL8 r:Nat):Int) by rw[e];omega]
    exact⟨o8 _ _,zH3 s i hi hl v j (k+1) (zL8 r) (by omega) (zL9 hr) H'⟩
theorem zH4(s:List UInt8)(hl:s.length≤1099511627776):∀ (m i r:Nat) (v:Nat),i+m=s.length→r<65536→v=zM2 (s.drop i) r→
  b8 pP (j7 pP 254) (I64 v) (j9 pP 254 0) (j8 26 [(0,.str s),(3,I64 r),(4,I64 i),(5,I64 8)]) []
 |m,i,r,v,hi,hr,hv=>by
  refine w6 qQ9 (n:=1000) (hint:=.unit) (keep:=x8 26 [0,3,4,5]) (p:=zH1) rfl ?_
  erw [cb3 s r i 8]
  unfold zH2
  have t0:(i:Int).toNat=i:=by omega
  rw[t0]
  refine o5 (fun a=>?_) fun a=>?_
  ·match m,hi with
   |0,hi=>omega
   |m+1,hi=>
    have hb:=(s.getD i 0).toNat_lt
    rw[zU5 (d:=(0:UInt8)) (by omega:i<s.length)]at hv
    have hv:v=zM2 (s.drop (i+1)) (zM0 8 (r ^^^ (s.getD i 0).toNat*256)):=hv
    have hx:=zM4 (s.getD i 0) hr
    refine x6 (by simp;omega) ?_
    rw[w64 (x:=((s.getD i 0).toNat:Int)) (by omega) (by omega),w64 (x:=((s.getD i 0).toNat:Int)*256) (by omega) (by omega),show(((s.getD i 0).toNat:Nat):Int)*256=(((s.getD i 0).toNat*256:Nat):Int) by omega,x81 hr (by omega)]
    exact⟨o8 _ _,zH3 s i (by omega) hl _ 8 0 _ rfl hx (zH4 s hl m (i+1) _ v (by omega) (zM1 8 hx) hv)⟩
  ·have z:s.drop i=[] :=List.drop_eq_nil_of_le (by omega)
   rw[z]at hv
   have hv:v=r:=hv
   subst hv
   exact rfl
theorem xa5(s:List UInt8)(hl:s.length≤1099511627776):SCall pP 254 [.str s] (I64 (crc s)):=by
 refine m6 rfl rfl (by kernel_rfl) (w6 qQ9 (n:=1000) (hint:=.unit) (keep:=x8 26 [0,3,4]) (p:=zG5) (boxes:=[]) rfl ?_)
 have q:=cb0 s
 unfold v9 u7 at q
 erw [q]
 unfold zG6
 refine⟨o8 _ _,?_⟩
 refine w6 qQ9 (n:=1000) (hint:=.unit) (keep:=x8 26 [0,3,4,5]) (p:=zG7) rfl ?_
 erw [cb1 s 65535 0]
 unfold zG8
 refine o5 (fun a=>?_) fun a=>?_
 ·have hb:=(s.getD 0 0).toNat_lt
  have hx:=zM4 (s.getD 0 0) (show 65535<65536 by decide)
  refine x6 (by simp;omega) ?_
  rw[show(0:Int).toNat=0 from rfl,w64 (x:=((s.getD 0 0).toNat:Int)) (by omega) (by omega),w64 (x:=((s.getD 0 0).toNat:Int)*256) (by omega) (by omega),show(((s.getD 0 0).toNat:Nat):Int)*256=(((s.getD 0 0).toNat*256:Nat):Int) by omega]
  have x:=x81 (a:=65535) (b:=(s.getD 0 0).toNat*256) (by decide) (by omega)
  have x:i64.wrap (((BitVec.ofInt 64 65535 ^^^ BitVec.ofInt 64 (((s.getD 0 0).toNat*256:Nat):Int)).toNat:Nat):Int)=_:=x
  rw[x]
  refine⟨o8 _ _,zH3 s 0 (by omega) hl _ 8 0 _ rfl hx (zH4 s hl (s.length-1) 1 _ _ (by omega) (zM1 8 hx) ?_)⟩
  have e:=zU5 (d:=(0:UInt8)) (show 0<s.length by omega)
  rw[List.drop_zero]at e
  unfold crc
  conv=>lhs;rw[e]
  rfl
 ·have z:s=[] :=List.length_eq_zero_iff.1 (by omega)
  subst z;rfl
def yc6:Plan:=.all
noncomputable def yc7(s:List UInt8):Tree Stop:= .leaf (.at (j9 pP 335 0) 19 (j8 19 [(0,SV.str s),(3,.int .u64 0),(4,I64 0)]) [])
theorem nu0(s:List UInt8):w9 (Env.of pP (v6 [])) 1000 (j7 pP 335) .unit (x8 19 [0,3,4]) (u7 pP 335) yc6 (v9 pP 335 [.str s]) [] =yc7 s:=by kernel_rfl
def yc8:Plan:=.fork (.all) (.all)
noncomputable def yc9(s:List UInt8)(u i:Int):Tree Stop:= .node (decide (i< (↑s.length:Int))) (.req (decide (0≤i)&&decide (i< (↑s.length:Int))) (.leaf (.at (j9 pP 335 0) 19 (j8 19 [(0,SV.str s),(3,.int .u64 (u64.wrap (u64.wrap (u*256)+u64.wrap (↑(s.getD i.toNat 0).toNat:Int)))),(4,I64 (i64.wrap (i+1)))]) []))) (.leaf (.done (.int .u64 u)))
theorem nu1(s:List UInt8)(u i:Int):w9 (Env.of pP (v6 [])) 1000 (j7 pP 335) .unit (x8 19 [0,3,4]) (j9 pP 335 0) yc8 (j8 19 [(0,.str s),(3,.int .u64 u),(4,I64 i)]) [] =yc9 s u i:=by kernel_rfl
def yd7:Int→List UInt8→Int
 |u,[] =>u
 |u,b::l=>yd7 (u64.wrap (u64.wrap (u*256)+u64.wrap (b.toNat:Int))) l
def qa2:Fact:=⟨335,fun args=>match args with
 |[.str s] =>some (.req (decide ((s.length:Int)≤100000)) (.leaf (.int .u64 (yd7 0 s))))
 |_=>none⟩
def x52:Plan:=.ln 4 (.fork (.ln 5 (.lit .all)) (.ln 11 (.fork .all (.go (.lit (.go (.lit .all)))))))
noncomputable def x53(n:Int):Tree Stop:= .node (decide (n<0)) (.leaf (.done (.tuple [SV.str [],I64 3]))) (.req true (.node (!decide (u64.wrap n<256)) (.leaf (.done (.tuple [SV.str [],I64 3]))) (.req true (.req (true) (.req (decide ((0+ [IntKind.u8.wrap ((u64.wrap n).fdiv 1)].length)*1≤140737488355328)) (.leaf (.done (.tuple [SV.str (List.map (fun n=>UInt8.ofNat (Int.toNat n)) [IntKind.u8.wrap ((u64.wrap n).fdiv 1)]),I64 0]))))))))
theorem wu1(n:Int):w9 (Env.of pP (v6 [])) 1000 (j7 pP 298) .unit (x8 25 []) (u7 pP 298) x52 (v9 pP 298 [I64 n,I64 1]) [] =x53 n:=by kernel_rfl
def x62:Plan:=.ln 4 (.fork (.ln 4 (.lit .all)) (.ln 11 (.fork .all (.go (.lit (.go (.lit .all)))))))
noncomputable def x63(n:Int):Tree Stop:= .node (decide (n<0)) (.leaf (.done (.tuple [SV.str [],I64 3]))) (.req true (.node (decide (n≥256)) (.leaf (.done (.tuple [SV.str [],I64 3]))) (.req true (.req (true) (.req true (.req (true) (.req true (.leaf (.done (.tuple [SV.str (List.map (fun n=>UInt8.ofNat (Int.toNat n)) ((List.replicate 1 0).set 0 (IntKind.u8.wrap ((u64.wrap n).tmod 256)))),I64 0]))))))))))
theorem x61(n:Int):w9 (Env.of pP (v6 [])) 1000 (j7 pP 279) .unit (x8 27 []) (u7 pP 279) x62 (v9 pP 279 [I64 n,I64 1]) [] =x63 n:=by kernel_rfl
def x54:Plan:=.ln 4 (.fork (.ln 5 (.lit .all)) (.ln 11 (.fork .all (.go (.lit (.go (.lit (.go (.lit .all)))))))))
noncomputable def x55(n:Int):Tree Stop:= .node (decide (n<0)) (.leaf (.done (.tuple [SV.str [],I64 3]))) (.req true (.node (!decide (u64.wrap n<65536)) (.leaf (.done (.tuple [SV.str [],I64 3]))) (.req true (.req (true) (.req (decide ((0+ [IntKind.u8.wrap ((u64.wrap n).fdiv 256)].length)*1≤140737488355328)) (.req true (.req (decide (([IntKind.u8.wrap ((u64.wrap n).fdiv 256)].length+ [IntKind.u8.wrap ((u64.wrap n).fdiv 1)].length)*1≤140737488355328)) (.leaf (.done (.tuple [SV.str (List.map (fun n=>UInt8.ofNat (Int.toNat n)) ([IntKind.u8.wrap ((u64.wrap n).fdiv 256)] ++[IntKind.u8.wrap ((u64.wrap n).fdiv 1)])),I64 0]))))))))))
theorem wu2(n:Int):w9 (Env.of pP (v6 [])) 1000 (j7 pP 298) .unit (x8 25 []) (u7 pP 298) x54 (v9 pP 298 [I64 n,I64 2]) [] =x55 n:=by kernel_rfl
def x65:Plan:=.ln 4 (.fork (.ln 4 (.lit .all)) (.ln 11 (.fork .all (.go (.lit (.go (.lit (.go (.lit .all)))))))))
noncomputable def x66(n:Int):Tree Stop:= .node (decide (n<0)) (.leaf (.done (.tuple [SV.str [],I64 3]))) (.req true (.node (decide (n≥65536)) (.leaf (.done (.tuple [SV.str [],I64 3]))) (.req true (.req (true) (.req true (.req (true) (.req true (.req (true) (.req (decide (0< (↑((List.replicate 2 0).set 1 (IntKind.u8.wrap ((u64.wrap n).tmod 256))).length:Int))) (.req (decide (0< ((List.replicate 2 0).set 1 (IntKind.u8.wrap ((u64.wrap n).tmod 256))).length)) (.req true (.leaf (.done (.tuple [SV.str (List.map (fun n=>UInt8.ofNat (Int.toNat n)) (((List.replicate 2 0).set 1 (IntKind.u8.wrap ((u64.wrap n).tmod 256))).set 0 (IntKind.u8.wrap ((u64.wrap ((u64.wrap n).tdiv 256)).tmod 256)))),I64 0]))))))))))))))
theorem x64(n:Int):w9 (Env.of pP (v6 [])) 1000 (j7 pP 279) .unit (x8 27 []) (u7 pP 279) x65 (v9 pP 279 [I64 n,I64 2]) [] =x66 n:=by kernel_rfl
def x56:Plan:=.ln 4 (.fork (.ln 5 (.lit .all)) (.ln 11 (.fork .all (.go (.lit (.go (.lit (.go (.lit (.go (.lit (.go (.lit .all)))))))))))))
noncomputable def x57(n:Int):Tree Stop:= .node (decide (n<0)) (.leaf (.done (.tuple [SV.str [],I64 3]))) (.req true (.node (!decide (u64.wrap n<4294967296)) (.leaf (.done (.tuple [SV.str [],I64 3]))) (.req true (.req (true) (.req (decide ((0+ [IntKind.u8.wrap ((u64.wrap n).fdiv 16777216)].length)*1≤140737488355328)) (.req true (.req (decide (([IntKind.u8.wrap ((u64.wrap n).fdiv 16777216)].length+ [IntKind.u8.wrap ((u64.wrap n).fdiv 65536)].length)*1≤140737488355328)) (.req true (.req (decide ((([IntKind.u8.wrap ((u64.wrap n).fdiv 16777216)] ++[IntKind.u8.wrap ((u64.wrap n).fdiv 65536)]).length+ [IntKind.u8.wrap ((u64.wrap n).fdiv 256)].length)*1≤140737488355328)) (.req true (.req (decide ((([IntKind.u8.wrap ((u64.wrap n).fdiv 16777216)] ++[IntKind.u8.wrap ((u64.wrap n).fdiv 65536)] ++[IntKind.u8.wrap ((u64.wrap n).fdiv 256)]).length+ [IntKind.u8.wrap ((u64.wrap n).fdiv 1)].length)*1≤140737488355328)) (.leaf (.done (.tuple [SV.str (List.map (fun n=>UInt8.ofNat (Int.toNat n)) ([IntKind.u8.wrap ((u64.wrap n).fdiv 16777216)] ++[IntKind.u8.wrap ((u64.wrap n).fdiv 65536)] ++[IntKind.u8.wrap ((u64.wrap n).fdiv 256)] ++[IntKind.u8.wrap ((u64.wrap n).fdiv 1)])),I64 0]))))))))))))))
theorem wu4(n:Int):w9 (Env.of pP (v6 [])) 1000 (j7 pP 298) .unit (x8 25 []) (u7 pP 298) x56 (v9 pP 298 [I64 n,I64 4]) [] =x57 n:=by kernel_rfl
def x68:Plan:=.ln 4 (.fork (.ln 4 (.lit .all)) (.ln 11 (.fork .all (.go (.lit (.go (.lit (.go (.lit (.go (.lit (.go (.lit .all)))))))))))))
noncomputable def x69(n:Int):Tree Stop:= .node (decide (n<0)) (.leaf (.done (.tuple [SV.str [],I64 3]))) (.req true (.node (decide (n≥4294967296)) (.leaf (.done (.tuple [SV.str [],I64 3]))) (.req true (.req (true) (.req true (.req (true) (.req true (.req (true) (.req (decide (2< (↑((List.replicate 4 0).set 3 (IntKind.u8.wrap ((u64.wrap n).tmod 256))).length:Int))) (.req (decide (2< ((List.replicate 4 0).set 3 (IntKind.u8.wrap ((u64.wrap n).tmod 256))).length)) (.req true (.req (true) (.req (decide (1< (↑(((List.replicate 4 0).set 3 (IntKind.u8.wrap ((u64.wrap n).tmod 256))).set 2 (IntKind.u8.wrap ((u64.wrap ((u64.wrap n).tdiv 256)).tmod 256))).length:Int))) (.req (decide (1< (((List.replicate 4 0).set 3 (IntKind.u8.wrap ((u64.wrap n).tmod 256))).set 2 (IntKind.u8.wrap ((u64.wrap ((u64.wrap n).tdiv 256)).tmod 256))).length)) (.req true (.req (true) (.req (decide (0< (↑((((List.replicate 4 0).set 3 (IntKind.u8.wrap ((u64.wrap n).tmod 256))).set 2 (IntKind.u8.wrap ((u64.wrap ((u64.wrap n).tdiv 256)).tmod 256))).set 1 (IntKind.u8.wrap ((u64.wrap ((u64.wrap ((u64.wrap n).tdiv 256)).tdiv 256)).tmod 256))).length:Int))) (.req (decide (0< ((((List.replicate 4 0).set 3 (IntKind.u8.wrap ((u64.wrap n).tmod 256))).set 2 (IntKind.u8.wrap ((u64.wrap ((u64.wrap n).tdiv 256)).tmod 256))).set 1 (IntKind.u8.wrap ((u64.wrap ((u64.wrap ((u64.wrap n).tdiv 256)).tdiv 256)).tmod 256))).length)) (.req true (.leaf (.done (.tuple [SV.str (List.map (fun n=>UInt8.ofNat (Int.toNat n)) (((((List.replicate 4 0).set 3 (IntKind.u8.wrap ((u64.wrap n).tmod 256))).set 2 (IntKind.u8.wrap ((u64.wrap ((u64.wrap n).tdiv 256)).tmod 256))).set 1 (IntKind.u8.wrap ((u64.wrap ((u64.wrap ((u64.wrap n).tdiv 256)).tdiv 256)).tmod 256))).set 0 (IntKind.u8.wrap ((u64.wrap ((u64.wrap ((u64.wrap ((u64.wrap n).tdiv 256)).tdiv 256)).tdiv 256)).tmod 256)))),I64 0]))))))))))))))))))))))
theorem x67(n:Int):w9 (Env.of pP (v6 [])) 1000 (j7 pP 279) .unit (x8 27 []) (u7 pP 279) x68 (v9 pP 279 [I64 n,I64 4]) [] =x69 n:=by kernel_rfl
def x59:Plan:=.ln 4 (.fork (.ln 5 (.lit .all)) (.ln 11 (.fork .all (.go (.lit (.go (.lit (.go (.lit (.go (.lit (.go (.lit (.go (.lit (.go (.lit .all)))))))))))))))))
noncomputable def x60(n:Int):Tree Stop:= .node (decide (n<0)) (.leaf (.done (.tuple [SV.str [],I64 3]))) (.req true (.node (!decide (u64.wrap n<281474976710656)) (.leaf (.done (.tuple [SV.str [],I64 3]))) (.req true (.req (true) (.req (decide ((0+ [IntKind.u8.wrap ((u64.wrap n).fdiv 1099511627776)].length)*1≤140737488355328)) (.req true (.req (decide (([IntKind.u8.wrap ((u64.wrap n).fdiv 1099511627776)].length+ [IntKind.u8.wrap ((u64.wrap n).fdiv 4294967296)].length)*1≤140737488355328)) (.req true (.req (decide ((([IntKind.u8.wrap ((u64.wrap n).fdiv 1099511627776)] ++[IntKind.u8.wrap ((u64.wrap n).fdiv 4294967296)]).length+ [IntKind.u8.wrap ((u64.wrap n).fdiv 16777216)].length)*1≤140737488355328)) (.req true (.req (decide ((([IntKind.u8.wrap ((u64.wrap n).fdiv 1099511627776)] ++[IntKind.u8.wrap ((u64.wrap n).fdiv 4294967296)] ++[IntKind.u8.wrap ((u64.wrap n).fdiv 16777216)]).length+ [IntKind.u8.wrap ((u64.wrap n).fdiv 65536)].length)*1≤140737488355328)) (.req true (.req (decide ((([IntKind.u8.wrap ((u64.wrap n).fdiv 1099511627776)] ++[IntKind.u8.wrap ((u64.wrap n).fdiv 4294967296)] ++[IntKind.u8.wrap ((u64.wrap n).fdiv 16777216)] ++[IntKind.u8.wrap ((u64.wrap n).fdiv 65536)]).length+ [IntKind.u8.wrap ((u64.wrap n).fdiv 256)].length)*1≤140737488355328)) (.req true (.req (decide ((([IntKind.u8.wrap ((u64.wrap n).fdiv 1099511627776)] ++[IntKind.u8.wrap ((u64.wrap n).fdiv 4294967296)] ++[IntKind.u8.wrap ((u64.wrap n).fdiv 16777216)] ++[IntKind.u8.wrap ((u64.wrap n).fdiv 65536)] ++[IntKind.u8.wrap ((u64.wrap n).fdiv 256)]).length+ [IntKind.u8.wrap ((u64.wrap n).fdiv 1)].length)*1≤140737488355328)) (.leaf (.done (.tuple [SV.str (List.map (fun n=>UInt8.ofNat (Int.toNat n)) ([IntKind.u8.wrap ((u64.wrap n).fdiv 1099511627776)] ++[IntKind.u8.wrap ((u64.wrap n).fdiv 4294967296)] ++[IntKind.u8.wrap ((u64.wrap n).fdiv 16777216)] ++[IntKind.u8.wrap ((u64.wrap n).fdiv 65536)] ++[IntKind.u8.wrap ((u64.wrap n).fdiv 256)] ++[IntKind.u8.wrap ((u64.wrap n).fdiv 1)])),I64 0]))))))))))))))))))
theorem wu6(n:Int):w9 (Env.of pP (v6 [])) 1000 (j7 pP 298) .unit (x8 25 []) (u7 pP 298) x59 (v9 pP 298 [I64 n,I64 6]) [] =x60 n:=by kernel_rfl
def x71:Plan:=.ln 4 (.fork (.ln 4 (.lit .all)) (.ln 11 (.fork .all (.go (.lit (.go (.lit (.go (.lit (.go (.lit (.go (.lit (.go (.lit (.go (.lit .all)))))))))))))))))
noncomputable def x72(n:Int):Tree Stop:= .node (decide (n<0)) (.leaf (.done (.tuple [SV.str [],I64 3]))) (.req true (.node (decide (n≥281474976710656)) (.leaf (.done (.tuple [SV.str [],I64 3]))) (.req true (.req (true) (.req true (.req (true) (.req true (.req (true) (.req (decide (4< (↑((List.replicate 6 0).set 5 (IntKind.u8.wrap ((u64.wrap n).tmod 256))).length:Int))) (.req (decide (4< ((List.replicate 6 0).set 5 (IntKind.u8.wrap ((u64.wrap n).tmod 256))).length)) (.req true (.req (true) (.req (decide (3< (↑(((List.replicate 6 0).set 5 (IntKind.u8.wrap ((u64.wrap n).tmod 256))).set 4 (IntKind.u8.wrap ((u64.wrap ((u64.wrap n).tdiv 256)).tmod 256))).length:Int))) (.req (decide (3< (((List.replicate 6 0).set 5 (IntKind.u8.wrap ((u64.wrap n).tmod 256))).set 4 (IntKind.u8.wrap ((u64.wrap ((u64.wrap n).tdiv 256)).tmod 256))).length)) (.req true (.req (true) (.req (decide (2< (↑((((List.replicate 6 0).set 5 (IntKind.u8.wrap ((u64.wrap n).tmod 256))).set 4 (IntKind.u8.wrap ((u64.wrap ((u64.wrap n).tdiv 256)).tmod 256))).set 3 (IntKind.u8.wrap ((u64.wrap ((u64.wrap ((u64.wrap n).tdiv 256)).tdiv 256)).tmod 256))).length:Int))) (.req (decide (2< ((((List.replicate 6 0).set 5 (IntKind.u8.wrap ((u64.wrap n).tmod 256))).set 4 (IntKind.u8.wrap ((u64.wrap ((u64.wrap n).tdiv 256)).tmod 256))).set 3 (IntKind.u8.wrap ((u64.wrap ((u64.wrap ((u64.wrap n).tdiv 256)).tdiv 256)).tmod 256))).length)) (.req true (.req (true) (.req (decide (1< (↑(((((List.replicate 6 0).set 5 (IntKind.u8.wrap ((u64.wrap n).tmod 256))).set 4 (IntKind.u8.wrap ((u64.wrap ((u64.wrap n).tdiv 256)).tmod 256))).set 3 (IntKind.u8.wrap ((u64.wrap ((u64.wrap ((u64.wrap n).tdiv 256)).tdiv 256)).tmod 256))).set 2 (IntKind.u8.wrap ((u64.wrap ((u64.wrap ((u64.wrap ((u64.wrap n).tdiv 256)).tdiv 256)).tdiv 256)).tmod 256))).length:Int))) (.req (decide (1< (((((List.replicate 6 0).set 5 (IntKind.u8.wrap ((u64.wrap n).tmod 256))).set 4 (IntKind.u8.wrap ((u64.wrap ((u64.wrap n).tdiv 256)).tmod 256))).set 3 (IntKind.u8.wrap ((u64.wrap ((u64.wrap ((u64.wrap n).tdiv 256)).tdiv 256)).tmod 256))).set 2 (IntKind.u8.wrap ((u64.wrap ((u64.wrap ((u64.wrap ((u64.wrap n).tdiv 256)).tdiv 256)).tdiv 256)).tmod 256))).length)) (.req true (.req (true) (.req (decide (0< (↑((((((List.replicate 6 0).set 5 (IntKind.u8.wrap ((u64.wrap n).tmod 256))).set 4 (IntKind.u8.wrap ((u64.wrap ((u64.wrap n).tdiv 256)).tmod 256))).set 3 (IntKind.u8.wrap ((u64.wrap ((u64.wrap ((u64.wrap n).tdiv 256)).tdiv 256)).tmod 256))).set 2 (IntKind.u8.wrap ((u64.wrap ((u64.wrap ((u64.wrap ((u64.wrap n).tdiv 256)).tdiv 256)).tdiv 256)).tmod 256))).set 1 (IntKind.u8.wrap ((u64.wrap ((u64.wrap ((u64.wrap ((u64.wrap ((u64.wrap n).tdiv 256)).tdiv 256)).tdiv 256)).tdiv 256)).tmod 256))).length:Int))) (.req (decide (0< ((((((List.replicate 6 0).set 5 (IntKind.u8.wrap ((u64.wrap n).tmod 256))).set 4 (IntKind.u8.wrap ((u64.wrap ((u64.wrap n).tdiv 256)).tmod 256))).set 3 (IntKind.u8.wrap ((u64.wrap ((u64.wrap ((u64.wrap n).tdiv 256)).tdiv 256)).tmod 256))).set 2 (IntKind.u8.wrap ((u64.wrap ((u64.wrap ((u64.wrap ((u64.wrap n).tdiv 256)).tdiv 256)).tdiv 256)).tmod 256))).set 1 (IntKind.u8.wrap ((u64.wrap ((u64.wrap ((u64.wrap ((u64.wrap ((u64.wrap n).tdiv 256)).tdiv 256)).tdiv 256)).tdiv 256)).tmod 256))).length)) (.req true (.leaf (.done (.tuple [SV.str (List.map (fun n=>UInt8.ofNat (Int.toNat n)) (((((((List.replicate 6 0).set 5 (IntKind.u8.wrap ((u64.wrap n).tmod 256))).set 4 (IntKind.u8.wrap ((u64.wrap ((u64.wrap n).tdiv 256)).tmod 256))).set 3 (IntKind.u8.wrap ((u64.wrap ((u64.wrap ((u64.wrap n).tdiv 256)).tdiv 256)).tmod 256))).set 2 (IntKind.u8.wrap ((u64.wrap ((u64.wrap ((u64.wrap ((u64.wrap n).tdiv 256)).tdiv 256)).tdiv 256)).tmod 256))).set 1 (IntKind.u8.wrap ((u64.wrap ((u64.wrap ((u64.wrap ((u64.wrap ((u64.wrap n).tdiv 256)).tdiv 256)).tdiv 256)).tdiv 256)).tmod 256))).set 0 (IntKind.u8.wrap ((u64.wrap ((u64.wrap ((u64.wrap ((u64.wrap ((u64.wrap ((u64.wrap n).tdiv 256)).tdiv 256)).tdiv 256)).tdiv 256)).tdiv 256)).tmod 256)))),I64 0]))))))))))))))))))))))))))))))
theorem x70(n:Int):w9 (Env.of pP (v6 [])) 1000 (j7 pP 279) .unit (x8 27 []) (u7 pP 279) x71 (v9 pP 279 [I64 n,I64 6]) [] =x72 n:=by kernel_rfl
def x31:Plan:=.ln 9 (.fork (.ln 5 (.lit .all)) (.ln 5 (.fork .all (.go (.lit (.go (.lit (.go (.lit (.go (.lit (.go (.lit .all)))))))))))))
noncomputable def x32(n:Int):Tree Stop:= .req (true) (.node (decide (n < -2147483648)) (.leaf (.done (.tuple [SV.str [],I64 3]))) (.node (decide (n≥2147483648)) (.leaf (.done (.tuple [SV.str [],I64 3]))) (.req true (.req (true) (.req (decide ((0+ [IntKind.u8.wrap ((u64.wrap n).fdiv 16777216)].length)*1≤140737488355328)) (.req true (.req (decide (([IntKind.u8.wrap ((u64.wrap n).fdiv 16777216)].length+ [IntKind.u8.wrap ((u64.wrap n).fdiv 65536)].length)*1≤140737488355328)) (.req true (.req (decide ((([IntKind.u8.wrap ((u64.wrap n).fdiv 16777216)] ++[IntKind.u8.wrap ((u64.wrap n).fdiv 65536)]).length+ [IntKind.u8.wrap ((u64.wrap n).fdiv 256)].length)*1≤140737488355328)) (.req true (.req (decide ((([IntKind.u8.wrap ((u64.wrap n).fdiv 16777216)] ++[IntKind.u8.wrap ((u64.wrap n).fdiv 65536)] ++[IntKind.u8.wrap ((u64.wrap n).fdiv 256)]).length+ [IntKind.u8.wrap ((u64.wrap n).fdiv 1)].length)*1≤140737488355328)) (.leaf (.done (.tuple [SV.str (List.map (fun n=>UInt8.ofNat (Int.toNat n)) ([IntKind.u8.wrap ((u64.wrap n).fdiv 16777216)] ++[IntKind.u8.wrap ((u64.wrap n).fdiv 65536)] ++[IntKind.u8.wrap ((u64.wrap n).fdiv 256)] ++[IntKind.u8.wrap ((u64.wrap n).fdiv 1)])),I64 0]))))))))))))))
theorem wi4(n:Int):w9 (Env.of pP (v6 [])) 1000 (j7 pP 299) .unit (x8 32 []) (u7 pP 299) x31 (v9 pP 299 [I64 n,I64 4]) [] =x32 n:=by kernel_rfl
def x34:Plan:=.ln 13 (.fork (.ln 9 (.lit .all)) (.ln 9 (.fork .all (.go (.lit (.go (.lit (.go (.lit (.go (.lit (.go (.lit .all)))))))))))))
noncomputable def x35(n:Int):Tree Stop:= .req (true) (.node (decide (n < -2147483648)) (.leaf (.done (.tuple [SV.str [],I64 3]))) (.req true (.node (decide (n≥2147483648)) (.leaf (.done (.tuple [SV.str [],I64 3]))) (.req true (.req (true) (.req true (.req (true) (.req true (.req (true) (.req (decide (2< (↑((List.replicate 4 0).set 3 (IntKind.u8.wrap ((u64.wrap n).tmod 256))).length:Int))) (.req (decide (2< ((List.replicate 4 0).set 3 (IntKind.u8.wrap ((u64.wrap n).tmod 256))).length)) (.req true (.req (true) (.req (decide (1< (↑(((List.replicate 4 0).set 3 (IntKind.u8.wrap ((u64.wrap n).tmod 256))).set 2 (IntKind.u8.wrap ((u64.wrap ((u64.wrap n).tdiv 256)).tmod 256))).length:Int))) (.req (decide (1< (((List.replicate 4 0).set 3 (IntKind.u8.wrap ((u64.wrap n).tmod 256))).set 2 (IntKind.u8.wrap ((u64.wrap ((u64.wrap n).tdiv 256)).tmod 256))).length)) (.req true (.req (true) (.req (decide (0< (↑((((List.replicate 4 0).set 3 (IntKind.u8.wrap ((u64.wrap n).tmod 256))).set 2 (IntKind.u8.wrap ((u64.wrap ((u64.wrap n).tdiv 256)).tmod 256))).set 1 (IntKind.u8.wrap ((u64.wrap ((u64.wrap ((u64.wrap n).tdiv 256)).tdiv 256)).tmod 256))).length:Int))) (.req (decide (0< ((((List.replicate 4 0).set 3 (IntKind.u8.wrap ((u64.wrap n).tmod 256))).set 2 (IntKind.u8.wrap ((u64.wrap ((u64.wrap n).tdiv 256)).tmod 256))).set 1 (IntKind.u8.wrap ((u64.wrap ((u64.wrap ((u64.wrap n).tdiv 256)).tdiv 256)).tmod 256))).length)) (.req true (.leaf (.done (.tuple [SV.str (List.map (fun n=>UInt8.ofNat (Int.toNat n)) (((((List.replicate 4 0).set 3 (IntKind.u8.wrap ((u64.wrap n).tmod 256))).set 2 (IntKind.u8.wrap ((u64.wrap ((u64.wrap n).tdiv 256)).tmod 256))).set 1 (IntKind.u8.wrap ((u64.wrap ((u64.wrap ((u64.wrap n).tdiv 256)).tdiv 256)).tmod 256))).set 0 (IntKind.u8.wrap ((u64.wrap ((u64.wrap ((u64.wrap ((u64.wrap n).tdiv 256)).tdiv 256)).tdiv 256)).tmod 256)))),I64 0])))))))))))))))))))))))
theorem x33(n:Int):w9 (Env.of pP (v6 [])) 1000 (j7 pP 280) .unit (x8 34 []) (u7 pP 280) x34 (v9 pP 280 [I64 n,I64 4]) [] =x35 n:=by kernel_rfl
def xM0(s:List UInt8)(a:Int):Int:=u64.wrap (↑(BitVec.ofInt 64 0 |||BitVec.ofInt 64 (u64.wrap (↑(s.getD (i64.wrap (a+0)).toNat 0).toNat:Int))).toNat:Int)
def xM2(s:List UInt8)(a:Int):Int:=u64.wrap (↑(BitVec.ofInt 64 (u64.wrap (u64.wrap (↑(BitVec.ofInt 64 (u64.wrap (u64.wrap (↑(BitVec.ofInt 64 (u64.wrap (u64.wrap (↑(BitVec.ofInt 64 0 |||BitVec.ofInt 64 (u64.wrap (↑(s.getD (i64.wrap (a+0)).toNat 0).toNat:Int))).toNat:Int)*256)) |||BitVec.ofInt 64 (u64.wrap (↑(s.getD (i64.wrap (a+1)).toNat 0).toNat:Int))).toNat:Int)*256)) |||BitVec.ofInt 64 (u64.wrap (↑(s.getD (i64.wrap (a+2)).toNat 0).toNat:Int))).toNat:Int)*256)) |||BitVec.ofInt 64 (u64.wrap (↑(s.getD (i64.wrap (a+3)).toNat 0).toNat:Int))).toNat:Int)
def xM4(s:List UInt8)(a:Int):Int:=u64.wrap (↑(BitVec.ofInt 64 (u64.wrap (u64.wrap (↑(BitVec.ofInt 64 (u64.wrap (u64.wrap (↑(BitVec.ofInt 64 (u64.wrap (u64.wrap (↑(BitVec.ofInt 64 (u64.wrap (u64.wrap (↑(BitVec.ofInt 64 (u64.wrap (u64.wrap (↑(BitVec.ofInt 64 0 |||BitVec.ofInt 64 (u64.wrap (↑(s.getD (i64.wrap (a+0)).toNat 0).toNat:Int))).toNat:Int)*256)) |||BitVec.ofInt 64 (u64.wrap (↑(s.getD (i64.wrap (a+1)).toNat 0).toNat:Int))).toNat:Int)*256)) |||BitVec.ofInt 64 (u64.wrap (↑(s.getD (i64.wrap (a+2)).toNat 0).toNat:Int))).toNat:Int)*256)) |||BitVec.ofInt 64 (u64.wrap (↑(s.getD (i64.wrap (a+3)).toNat 0).toNat:Int))).toNat:Int)*256)) |||BitVec.ofInt 64 (u64.wrap (↑(s.getD (i64.wrap (a+4)).toNat 0).toNat:Int))).toNat:Int)*256)) |||BitVec.ofInt 64 (u64.wrap (↑(s.getD (i64.wrap (a+5)).toNat 0).toNat:Int))).toNat:Int)
def xQ5:Plan:=.fork (.ln 9 (.lit .all)) (.ln 4 (.fork (.ln 4 (.lit .all)) (.ln 7 (.fork (.lit .all) (.go (.lit (.go (.lit (.lit (.fork .all .all))))))))))
noncomputable def xQ6(s:List UInt8)(a:Int):Tree Stop:= .node (decide (a<0)) (.leaf (.done (.tuple [I64 0,I64 0,I64 1]))) (.node (decide (a> (↑s.length:Int))) (.leaf (.done (.tuple [I64 0,I64 0,I64 1]))) (.node (decide (i64.wrap ((↑s.length:Int)-a)<1)) (.leaf (.done (.tuple [I64 0,I64 0,I64 6]))) (.req true (.req (decide (0≤i64.wrap (a+0))&&decide (i64.wrap (a+0)< (↑s.length:Int))) (.node (decide (xM0 s a≥9223372036854775808)) (.leaf (.done (.tuple [I64 0,I64 0,I64 3]))) (.leaf (.done (.tuple [I64 (i64.wrap (xM0 s a)),I64 (i64.wrap (a+1)),I64 0]))))))))
theorem tw1(s:List UInt8)(a:Int):w9 (Env.of pP (v6 [])) 1000 (j7 pP 282) .unit (x8 30 []) (u7 pP 282) xQ5 (v9 pP 282 [.str s,I64 a,I64 1]) [] =xQ6 s a:=by kernel_rfl
def xR2:Plan:=.fork (.ln 9 (.lit .all)) (.ln 4 (.fork (.ln 4 (.lit .all)) (.ln 7 (.fork (.lit .all) (.lit (.fork .all .all))))))
noncomputable def xR3(s:List UInt8)(a:Int):Tree Stop:= .node (decide (a<0)) (.leaf (.done (.tuple [I64 0,I64 0,I64 1]))) (.node (decide (a> (↑s.length:Int))) (.leaf (.done (.tuple [I64 0,I64 0,I64 1]))) (.node (decide (i64.wrap ((↑s.length:Int)-a)<1)) (.leaf (.done (.tuple [I64 0,I64 0,I64 6]))) (.req (decide (0≤i64.wrap (a+1))&&decide (i64.wrap (a+1)≤(↑s.length:Int))&&decide (0≤a)&&decide (a≤i64.wrap (a+1))) (.req (decide ((↑(List.drop a.toNat (List.take (i64.wrap (a+1)).toNat s)).length:Int)≤100000)) (.node (decide (yd7 0 (List.drop a.toNat (List.take (i64.wrap (a+1)).toNat s))≥9223372036854775808)) (.leaf (.done (.tuple [I64 0,I64 0,I64 3]))) (.leaf (.done (.tuple [I64 (i64.wrap (yd7 0 (List.drop a.toNat (List.take (i64.wrap (a+1)).toNat s)))),I64 (i64.wrap (a+1)),I64 0]))))))))
theorem xR1(s:List UInt8)(a:Int):w9 (Env.of pP (v6 [qa2])) 1000 (j7 pP 321) .unit (x8 31 []) (u7 pP 321) xR2 (v9 pP 321 [.str s,I64 a,I64 1]) [] =xR3 s a:=by kernel_rfl
def xQ7:Plan:=.fork (.ln 9 (.lit .all)) (.ln 4 (.fork (.ln 4 (.lit .all)) (.ln 7 (.fork (.lit .all) (.go (.lit (.go (.lit (.go (.lit (.go (.lit (.go (.lit (.lit (.fork .all .all))))))))))))))))
noncomputable def xQ8(s:List UInt8)(a:Int):Tree Stop:= .node (decide (a<0)) (.leaf (.done (.tuple [I64 0,I64 0,I64 1]))) (.node (decide (a> (↑s.length:Int))) (.leaf (.done (.tuple [I64 0,I64 0,I64 1]))) (.node (decide (i64.wrap ((↑s.length:Int)-a)<4)) (.leaf (.done (.tuple [I64 0,I64 0,I64 6]))) (.req true (.req (decide (0≤i64.wrap (a+0))&&decide (i64.wrap (a+0)< (↑s.length:Int))) (.req true (.req (decide (0≤i64.wrap (a+1))&&decide (i64.wrap (a+1)< (↑s.length:Int))) (.req true (.req (decide (0≤i64.wrap (a+2))&&decide (i64.wrap (a+2)< (↑s.length:Int))) (.req true (.req (decide (0≤i64.wrap (a+3))&&decide (i64.wrap (a+3)< (↑s.length:Int))) (.node (decide (xM2 s a≥9223372036854775808)) (.leaf (.done (.tuple [I64 0,I64 0,I64 3]))) (.leaf (.done (.tuple [I64 (i64.wrap (xM2 s a)),I64 (i64.wrap (a+4)),I64 0]))))))))))))))
theorem tw4(s:List UInt8)(a:Int):w9 (Env.of pP (v6 [])) 1000 (j7 pP 282) .unit (x8 30 []) (u7 pP 282) xQ7 (v9 pP 282 [.str s,I64 a,I64 4]) [] =xQ8 s a:=by kernel_rfl
def xR5:Plan:=.fork (.ln 9 (.lit .all)) (.ln 4 (.fork (.ln 4 (.lit .all)) (.ln 7 (.fork (.lit .all) (.lit (.fork .all .all))))))
noncomputable def xR6(s:List UInt8)(a:Int):Tree Stop:= .node (decide (a<0)) (.leaf (.done (.tuple [I64 0,I64 0,I64 1]))) (.node (decide (a> (↑s.length:Int))) (.leaf (.done (.tuple [I64 0,I64 0,I64 1]))) (.node (decide (i64.wrap ((↑s.length:Int)-a)<4)) (.leaf (.done (.tuple [I64 0,I64 0,I64 6]))) (.req (decide (0≤i64.wrap (a+4))&&decide (i64.wrap (a+4)≤(↑s.length:Int))&&decide (0≤a)&&decide (a≤i64.wrap (a+4))) (.req (decide ((↑(List.drop a.toNat (List.take (i64.wrap (a+4)).toNat s)).length:Int)≤100000)) (.node (decide (yd7 0 (List.drop a.toNat (List.take (i64.wrap (a+4)).toNat s))≥9223372036854775808)) (.leaf (.done (.tuple [I64 0,I64 0,I64 3]))) (.leaf (.done (.tuple [I64 (i64.wrap (yd7 0 (List.drop a.toNat (List.take (i64.wrap (a+4)).toNat s)))),I64 (i64.wrap (a+4)),I64 0]))))))))
theorem xR4(s:List UInt8)(a:Int):w9 (Env.of pP (v6 [qa2])) 1000 (j7 pP 321) .unit (x8 31 []) (u7 pP 321) xR5 (v9 pP 321 [.str s,I64 a,I64 4]) [] =xR6 s a:=by kernel_rfl
def xQ9:Plan:=.fork (.ln 9 (.lit .all)) (.ln 4 (.fork (.ln 4 (.lit .all)) (.ln 7 (.fork (.lit .all) (.go (.lit (.go (.lit (.go (.lit (.go (.lit (.go (.lit (.go (.lit (.go (.lit (.lit (.fork .all .all))))))))))))))))))))
noncomputable def xR0(s:List UInt8)(a:Int):Tree Stop:= .node (decide (a<0)) (.leaf (.done (.tuple [I64 0,I64 0,I64 1]))) (.node (decide (a> (↑s.length:Int))) (.leaf (.done (.tuple [I64 0,I64 0,I64 1]))) (.node (decide (i64.wrap ((↑s.length:Int)-a)<6)) (.leaf (.done (.tuple [I64 0,I64 0,I64 6]))) (.req true (.req (decide (0≤i64.wrap (a+0))&&decide (i64.wrap (a+0)< (↑s.length:Int))) (.req true (.req (decide (0≤i64.wrap (a+1))&&decide (i64.wrap (a+1)< (↑s.length:Int))) (.req true (.req (decide (0≤i64.wrap (a+2))&&decide (i64.wrap (a+2)< (↑s.length:Int))) (.req true (.req (decide (0≤i64.wrap (a+3))&&decide (i64.wrap (a+3)< (↑s.length:Int))) (.req true (.req (decide (0≤i64.wrap (a+4))&&decide (i64.wrap (a+4)< (↑s.length:Int))) (.req true (.req (decide (0≤i64.wrap (a+5))&&decide (i64.wrap (a+5)< (↑s.length:Int))) (.node (decide (xM4 s a≥9223372036854775808)) (.leaf (.done (.tuple [I64 0,I64 0,I64 3]))) (.leaf (.done (.tuple [I64 (i64.wrap (xM4 s a)),I64 (i64.wrap (a+6)),I64 0]))))))))))))))))))
theorem tw6(s:List UInt8)(a:Int):w9 (Env.of pP (v6 [])) 1000 (j7 pP 282) .unit (x8 30 []) (u7 pP 282) xQ9 (v9 pP 282 [.str s,I64 a,I64 6]) [] =xR0 s a:=by kernel_rfl
def xR8:Plan:=.fork (.ln 9 (.lit .all)) (.ln 4 (.fork (.ln 4 (.lit .all)) (.ln 7 (.fork (.lit .all) (.lit (.fork .all .all))))))
noncomputable def xR9(s:List UInt8)(a:Int):Tree Stop:= .node (decide (a<0)) (.leaf (.done (.tuple [I64 0,I64 0,I64 1]))) (.node (decide (a> (↑s.length:Int))) (.leaf (.done (.tuple [I64 0,I64 0,I64 1]))) (.node (decide (i64.wrap ((↑s.length:Int)-a)<6)) (.leaf (.done (.tuple [I64 0,I64 0,I64 6]))) (.req (decide (0≤i64.wrap (a+6))&&decide (i64.wrap (a+6)≤(↑s.length:Int))&&decide (0≤a)&&decide (a≤i64.wrap (a+6))) (.req (decide ((↑(List.drop a.toNat (List.take (i64.wrap (a+6)).toNat s)).length:Int)≤100000)) (.node (decide (yd7 0 (List.drop a.toNat (List.take (i64.wrap (a+6)).toNat s))≥9223372036854775808)) (.leaf (.done (.tuple [I64 0,I64 0,I64 3]))) (.leaf (.done (.tuple [I64 (i64.wrap (yd7 0 (List.drop a.toNat (List.take (i64.wrap (a+6)).toNat s)))),I64 (i64.wrap (a+6)),I64 0]))))))))
theorem xR7(s:List UInt8)(a:Int):w9 (Env.of pP (v6 [qa2])) 1000 (j7 pP 321) .unit (x8 31 []) (u7 pP 321) xR8 (v9 pP 321 [.str s,I64 a,I64 6]) [] =xR9 s a:=by kernel_rfl
def xH2:Plan:=.fork (.ln 9 (.lit .all)) (.ln 4 (.fork (.ln 4 (.lit .all)) (.ln 7 (.fork (.lit .all) (.go (.lit (.go (.lit (.go (.lit (.go (.lit (.go (.lit (.lit .all)))))))))))))))
noncomputable def xH3(s:List UInt8)(a:Int):Tree Stop:= .node (decide (a<0)) (.leaf (.done (.tuple [I64 0,I64 0,I64 1]))) (.node (decide (a> (↑s.length:Int))) (.leaf (.done (.tuple [I64 0,I64 0,I64 1]))) (.node (decide (i64.wrap ((↑s.length:Int)-a)<4)) (.leaf (.done (.tuple [I64 0,I64 0,I64 6]))) (.req true (.req (decide (0≤i64.wrap (a+0))&&decide (i64.wrap (a+0)< (↑s.length:Int))) (.req true (.req (decide (0≤i64.wrap (a+1))&&decide (i64.wrap (a+1)< (↑s.length:Int))) (.req true (.req (decide (0≤i64.wrap (a+2))&&decide (i64.wrap (a+2)< (↑s.length:Int))) (.req true (.req (decide (0≤i64.wrap (a+3))&&decide (i64.wrap (a+3)< (↑s.length:Int))) (.req true (.req (true) (.leaf (.done (.tuple [I64 ((i64.wrap (u64.wrap (xM2 s a*4294967296))).fdiv 4294967296),I64 (i64.wrap (a+4)),I64 0])))))))))))))))
theorem ti4(s:List UInt8)(a:Int):w9 (Env.of pP (v6 [])) 1000 (j7 pP 284) .unit (x8 34 []) (u7 pP 284) xH2 (v9 pP 284 [.str s,I64 a,I64 4]) [] =xH3 s a:=by kernel_rfl
def xH5:Plan:=.fork (.ln 9 (.lit .all)) (.ln 4 (.fork (.ln 4 (.lit .all)) (.ln 7 (.fork (.lit .all) (.ln 5 (.fork .all .all))))))
noncomputable def xH6(s:List UInt8)(a:Int):Tree Stop:= .node (decide (a<0)) (.leaf (.done (.tuple [I64 0,I64 0,I64 1]))) (.node (decide (a> (↑s.length:Int))) (.leaf (.done (.tuple [I64 0,I64 0,I64 1]))) (.node (decide (i64.wrap ((↑s.length:Int)-a)<4)) (.leaf (.done (.tuple [I64 0,I64 0,I64 6]))) (.req (decide (0≤i64.wrap (a+4))&&decide (i64.wrap (a+4)≤(↑s.length:Int))&&decide (0≤a)&&decide (a≤i64.wrap (a+4))) (.req (decide ((↑(List.drop a.toNat (List.take (i64.wrap (a+4)).toNat s)).length:Int)≤100000)) (.req (decide (0< (↑(List.drop a.toNat (List.take (i64.wrap (a+4)).toNat s)).length:Int))) (.node (decide ((↑((List.drop a.toNat (List.take (i64.wrap (a+4)).toNat s)).getD 0 0).toNat:Int)≥128)) (.req true (.leaf (.done (.tuple [I64 (i64.wrap (i64.wrap (yd7 0 (List.drop a.toNat (List.take (i64.wrap (a+4)).toNat s)))-4294967296)),I64 (i64.wrap (a+4)),I64 0])))) (.leaf (.done (.tuple [I64 (i64.wrap (yd7 0 (List.drop a.toNat (List.take (i64.wrap (a+4)).toNat s)))),I64 (i64.wrap (a+4)),I64 0])))))))))
theorem xH4(s:List UInt8)(a:Int):w9 (Env.of pP (v6 [qa2])) 1000 (j7 pP 322) .unit (x8 46 []) (u7 pP 322) xH5 (v9 pP 322 [.str s,I64 a,I64 4]) [] =xH6 s a:=by kernel_rfl
def yI0:Plan:=.fork (.lit (.lit (.lit .all))) (.lit (.lit (.fork .all (.fork .all .all))))
noncomputable def yI1(s:List UInt8)(n:Int):Tree Stop:= .node (decide (n<0)) (.leaf (.done (.tuple [SV.str [],I64 1]))) (.node (decide (n>65536)) (.leaf (.done (.tuple [SV.str [],I64 1]))) (.node (decide ((↑s.length:Int)>n)) (.leaf (.done (.tuple [SV.str [],I64 2]))) (.req (decide (0≤i64.wrap (n-(↑s.length:Int)))&&i64.wrap (n-(↑s.length:Int))==i64.wrap (n-(↑s.length:Int))&&decide (1*i64.wrap (n-(↑s.length:Int))≤140737488355328)&&decide (i64.wrap (n-(↑s.length:Int))≤(9223372036854775807:Int))) (.req (decide (((s.length+(List.map (fun n=>UInt8.ofNat (Int.toNat n)) (List.replicate (i64.wrap (n-(↑s.length:Int))).toNat (0:Int))).length:Nat):Int)≤(9223372036854775807:Int))) (.leaf (.done (.tuple [SV.str (s++List.map (fun n=>UInt8.ofNat (Int.toNat n)) (List.replicate (i64.wrap (n-(↑s.length:Int))).toNat (0:Int))),I64 0])))))))
theorem yH9(s:List UInt8)(n:Int):w9 (Env.of pP (v6 [])) 1000 (j7 pP 253) .unit (x8 24 []) (u7 pP 253) yI0 (v9 pP 253 [.str s,I64 n]) [] =yI1 s n:=by kernel_rfl
end Go.Proofs.YtnkaepnblikcdaaGreat
