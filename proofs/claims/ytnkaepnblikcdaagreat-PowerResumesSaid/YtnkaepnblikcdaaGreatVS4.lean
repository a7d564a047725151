/-
  Evaluator, contracts, plain law.
-/
import Derived.Test.YtnkaepnblikcdaaGreatVS3
import Derived.Lib.Mul64
set_option maxRecDepth 100000
set_option linter.unusedVariables false
set_option linter.unusedSimpArgs false
open Go.IntKind (i64 u64 u8)
namespace Go.Proofs.YtnkaepnblikcdaaGreat
open Go.Sx
def z89:Fact:=qg8 183 fun b i t=>.leaf (J (ivl b i t))
theorem yo2:z89.ok pP:=qg9 (xi0)
def q15(m:Mo):V4:=match x04 m.1&&inR m.2.1 0 (dom m.1.1)with
 |true=>at4 m.1.1 m.2.1
 |false=>z4
def z00(m:Mo):Bool:=x04 m.1&&decide (m.2.1=dom m.1.1)
theorem q18{m:Mo}(h:x04 m.1=true∧0≤m.2.1∧m.2.1≤dom m.1.1):q15 m=at4 m.1.1 m.2.1:=by
 unfold q15;rw[show(x04 m.1&&inR m.2.1 0 (dom m.1.1))=true by rw[Bool.and_eq_true,v8];exact h]
theorem q16{m:Mo}(h:¬(x04 m.1=true∧0≤m.2.1∧m.2.1≤dom m.1.1)):q15 m=z4:=by
 unfold q15
 cases q:x04 m.1&&inR m.2.1 0 (dom m.1.1)with
 |false=>rfl
 |true=>rw[Bool.and_eq_true,v8]at q;exact absurd q h
theorem z01{m:Mo}:z00 m=true↔x04 m.1=true∧m.2.1=dom m.1.1:=by simp only[z00,Bool.and_eq_true,decide_eq_true_eq]
def xD5(b:Bk)(t:Int):Mo:=(b,0,ivl b 1 t)
def m0:Mo:=(((0,0,0,0),0,0,0,0),0,0)
def okS(b:Bk)(t:Int):Bool:=x04 b&&inR t 1 1048576
theorem yz2{b:Bk}{t:Int}:okS b t=true↔x04 b=true∧1≤t∧t≤1048576:=by simp only[okS,Bool.and_eq_true,v8]
def xD9(b:Bk)(t:Int):SV:=match okS b t with
 |true=>.tuple [Mo.sv (xD5 b t),J 0]
 |false=>.tuple [Mo.sv m0,J 1]
theorem xE1{b:Bk}{t:Int}(h:okS b t=true):xD9 b t=.tuple [Mo.sv (xD5 b t),J 0] :=by unfold xD9;rw[h]
theorem xE0{b:Bk}{t:Int}(h:okS b t=false):xD9 b t=.tuple [Mo.sv m0,J 1] :=by unfold xD9;rw[h]
def y86(m:Mo)(t:Int):Bool:=x04 m.1&& (inR m.2.1 0 (dom m.1.1-1)&&inR m.2.2 1 (ivl m.1 (m.2.1+1) t))
theorem y87{m:Mo}{t:Int}:y86 m t=true↔x04 m.1=true∧(0≤m.2.1∧m.2.1≤dom m.1.1-1)∧1≤m.2.2∧m.2.2≤ivl m.1 (m.2.1+1) t:=by simp only[y86,Bool.and_eq_true,v8]
def xL8(m:Mo)(t:Int):Mo:=match y86 m t with
 |true=>if 1<m.2.2 then(m.1,m.2.1,m.2.2-1)else(m.1,m.2.1+1,if m.2.1+1=dom m.1.1 then 0 else ivl m.1 (m.2.1+2) t)
 |false=>m
def xM1(m:Mo)(t:Int):V4:=match y86 m t with
 |true=>if 1<m.2.2 then z4 else pul m.1.1 (m.2.1+1)
 |false=>z4
def xM7(m:Mo)(t:Int):SV:=.tuple [Mo.sv (xL8 m t),V4.sv (xM1 m t)]
theorem xM8{m:Mo}{t:Int}(h:y86 m t=false):xM7 m t=.tuple [Mo.sv m,V4.sv z4] :=by unfold xM7 xL8 xM1;rw[h]
theorem xM9{m:Mo}{t:Int}(h:y86 m t=true)(h1:1<m.2.2):xM7 m t=.tuple [Mo.sv (m.1,m.2.1,m.2.2-1),V4.sv z4] :=by unfold xM7 xL8 xM1;rw[h];simp only[if_pos h1]
theorem xN0{m:Mo}{t:Int}(h:y86 m t=true)(h1:¬1<m.2.2):xM7 m t=.tuple [Mo.sv (m.1,m.2.1+1,if m.2.1+1=dom m.1.1 then 0 else ivl m.1 (m.2.1+2) t),V4.sv (pul m.1.1 (m.2.1+1))] :=by unfold xM7 xL8 xM1;rw[h];simp only[if_neg h1]
theorem qQ5(b:Bk)(i t:Int):0≤ivl b i t∧ivl b i t≤4296015872:=by
 unfold ivl
 split
 ·rename_i c
  have p:=qQ2 (n:=sqv b i) c.1;have q:=qP9 (sqv b i);have h0:0≤(t+isq (sqv b i)-1) / isq (sqv b i):=Int.ediv_nonneg (by omega) (by omega);have h1:(t+isq (sqv b i)-1) / isq (sqv b i)≤t+isq (sqv b i)-1:=Int.ediv_le_self _ (by omega);omega
 ·omega
theorem x07{b:Bk}(h:x04 b=true):1≤dom b.1∧dom b.1≤16777216:=⟨zU0 (x05.1 h).1.1,(zU1 _).2⟩
theorem qQ7{b:Bk}{i t:Int}(h:1≤ivl b i t):1≤t∧t≤1048576:=by
 unfold ivl at h
 split at h
 ·rename_i c;exact c.2
 ·omega
theorem xj9(m:Mo):Tree.holds (fun v=>v=(V4.sv (q15 m))) (let y0:Tree SV:=.leaf (.agg [.int .i64 0,.int .i64 0,.int .i64 0,.int .i64 0]);.node (!x04 m.1) y0 (.node (decide (m.2.1<0)) y0 (.node (decide (m.2.1>dom m.1.1)) y0 (.leaf (.agg [.int .i64 (at4 m.1.1 m.2.1).1,.int .i64 (at4 m.1.1 m.2.1).2.1,.int .i64 (at4 m.1.1 m.2.1).2.2.1,.int .i64 (at4 m.1.1 m.2.1).2.2.2])))):Tree SV):=by simp only[Tree.holds,sL,ne_eq,sLb,sLc,eq_self,sLd,sLe,sLf];(repeat' (first|apply And.intro|intro _));all_goals first|(rw[q16 (by first|omega|grind)];rfl)|(rw[q18 (by first|omega|grind)];rfl)
theorem xj7(m:Mo):SCall pP 205 [Mo.sv m] (V4.sv (q15 m)):=
 o8 mix [qg0,z57,fAt] ⟨yv9,yl0,yi5,trivial⟩ 1000 (.fork (.ln 11 (.lit .all)) (.ln 3 (.fork (.ln 7 (.lit .all)) (.ln 7 (.fork .all .all)))))
  (by kernel_rfl) (xj9 m) (by kernel_rfl) (by rfl)
theorem xj8(m:Mo):SCall pP 132 [Mo.sv m] (V4.sv (q15 m)):=
 o8 mix [qg1,z58,z39] ⟨yw0,yl1,yi7,trivial⟩ 1000 (.fork (.ln 11 (.lit .all)) (.ln 3 (.fork (.ln 7 (.lit .all)) (.ln 7 (.fork .all .all)))))
  (by kernel_rfl) (xj9 m) (by kernel_rfl) (by rfl)
theorem xe3(m:Mo):SCall pP 166 [Mo.sv m] (.bool (z00 m)):=
 o8 mix [qg0,z57] ⟨yv9,yl0,trivial⟩ 1000 (.fork (.ln 6 (.lit .all)) (.ln 6 (.lit .all)))
  (t:=.node (x04 m.fst)
 (.leaf (SV.bool (m.snd.fst==dom m.fst.fst)))
 (.leaf (SV.bool false)))
   (by kernel_rfl) (by simp only[Tree.holds,sL,ne_eq,sLb,sLc,eq_self,sLd,sLe,sLf];(repeat' (first|apply And.intro|intro _));all_goals(refine qG6 ?_;rw[z01];(try simp only[sL,ne_eq,sLb,sLc,eq_self,sLd,sLe,sLf]); first|omega|grind)) (by kernel_rfl) (by kernel_rfl)
theorem xb4(t:Int):SCall pP 229 [J t] (.agg [.fn 276 [] [.eptr (.int .i64) [t] 0 0]]):=
 xw3 (hB (l:=[]) (k:=[]) (j:=[]) (i:=[]) ([] :List Nat) ([] :List Nat) ([] :List Nat) ([] :List Nat) (trivial) o4 o4 o4) 1000 (.all)
  (t:=.leaf (SV.agg [SV.fn 276 [] [SV.eptr (Ty.int IntKind.i64) [t] 0 0]]))
  (by kernel_rfl) (by exact rfl) (by kernel_rfl) (by kernel_rfl)
def z38:Fact:=qj8 229 fun t=>.leaf (.agg [.fn 276 [] [.eptr (.int .i64) [t] 0 0]])
theorem yi6:z38.ok pP:=qk5 xb4
theorem xq9(b:Bk)(t:Int):SCall pP 174 [Bk.sv b,J t] (xD9 b t):=
 o8 mix [qg0,z57,z89,z38] ⟨yv9,yl0,yo2,yi6,trivial⟩ 1000 (.fork (.ln 3 (.lit .all)) (.lit (.fork (.ln 4 (.fork .all (.fork .all .all))) (.ln 4 (.lit .all)))))
  (t:=let y0:Tree SV:=.leaf (.tuple [.agg [.int .i64 0,.int .i64 0,.int .i64 0,.int .i64 0,.int .i64 0,.int .i64 0,.int .i64 0,.int .i64 0,.int .i64 0,.int .i64 0],.int .i64 1]);.node (!x04 b) y0 (.node (decide (t≥1)) (.node (!decide (t≤1048576)) y0 (.node (0==dom b.1) (.leaf (.tuple [.agg [.int .i64 b.1.1,.int .i64 b.1.2.1,.int .i64 b.1.2.2.1,.int .i64 b.1.2.2.2,.int .i64 b.2.1,.int .i64 b.2.2.1,.int .i64 b.2.2.2.1,.int .i64 b.2.2.2.2,.int .i64 0,.int .i64 0],.int .i64 0])) (.leaf (.tuple [.agg [.int .i64 b.1.1,.int .i64 b.1.2.1,.int .i64 b.1.2.2.1,.int .i64 b.1.2.2.2,.int .i64 b.2.1,.int .i64 b.2.2.1,.int .i64 b.2.2.2.1,.int .i64 b.2.2.2.2,.int .i64 0,.int .i64 (ivl b 1 t)],.int .i64 0])))) y0))
  (by kernel_rfl) (by
   have dp:∀b:Bk,x04 b=true→1≤dom b.1∧dom b.1≤16777216:=fun _ h=>x07 h
   simp only[Tree.holds,sL,ne_eq,sLb,sLc,eq_self,sLd,sLe,sLf];(repeat' (first|apply And.intro|intro _));
   all_goals first
    |(rw[xE0 (Bool.eq_false_iff.2 (by rw[ne_eq,yz2];first|omega|grind))];rfl)
    |(rw[xE1 (yz2.2 (by first|omega|grind))];rfl)
    |(exfalso;grind)) (by kernel_rfl) (by unfold xD9;split<;>rfl)
theorem xs6(m:Mo)(t:Int):SCall pP 165 [Mo.sv m,J t] (xM7 m t):=
 o8 mix [qg0,z57,z89,qc7,z38] ⟨yv9,yl0,yo2,ys3,yi6,trivial⟩ 1000 (.fork (.lit (.lit (.fork (.ln 4 (.lit .all)) (.lit (.lit (.fork (.ln 14 (.lit .all)) (.ln 3 (.fork (.ln 10 (.lit .all)) (.ln 7 (.fork (.lit (.lit (.lit .all))) (.fork (.ln 13 (.fork .all (.fork .all (.fork .all .all)))) (.ln 13 (.lit .all))))))))))))) (.ln 7 (.lit .all)))
  (t:=let y0:Tree SV:=.leaf (.tuple [.agg [.int .i64 m.1.1.1,.int .i64 m.1.1.2.1,.int .i64 m.1.1.2.2.1,.int .i64 m.1.1.2.2.2,.int .i64 m.1.2.1,.int .i64 m.1.2.2.1,.int .i64 m.1.2.2.2.1,.int .i64 m.1.2.2.2.2,.int .i64 m.2.1,.int .i64 m.2.2],.agg [.int .i64 0,.int .i64 0,.int .i64 0,.int .i64 0]]);let y1:=i64.wrap (m.2.1+1);let y2:=pul m.1.1 y1;.node (decide (t≥1)) (.node (!decide (t≤1048576)) y0 (.node (!x04 m.1) y0 (.node (decide (m.2.1<0)) y0 (.node (decide (m.2.1≥dom m.1.1)) y0 (.node (decide (m.2.2≥1)) (.node (!decide (m.2.2≤ivl m.1 y1 t)) y0 (.node (decide (i64.wrap (m.2.2-1)>0)) (.leaf (.tuple [.agg [.int .i64 m.1.1.1,.int .i64 m.1.1.2.1,.int .i64 m.1.1.2.2.1,.int .i64 m.1.1.2.2.2,.int .i64 m.1.2.1,.int .i64 m.1.2.2.1,.int .i64 m.1.2.2.2.1,.int .i64 m.1.2.2.2.2,.int .i64 m.2.1,.int .i64 (i64.wrap (m.2.2-1))],.agg [.int .i64 0,.int .i64 0,.int .i64 0,.int .i64 0]])) (.node (i64.wrap (m.2.1+1)==dom m.1.1) (.leaf (.tuple [.agg [.int .i64 m.1.1.1,.int .i64 m.1.1.2.1,.int .i64 m.1.1.2.2.1,.int .i64 m.1.1.2.2.2,.int .i64 m.1.2.1,.int .i64 m.1.2.2.1,.int .i64 m.1.2.2.2.1,.int .i64 m.1.2.2.2.2,.int .i64 y1,.int .i64 0],.agg [.int .i64 y2.1,.int .i64 y2.2.1,.int .i64 y2.2.2.1,.int .i64 y2.2.2.2]])) (.leaf (.tuple [.agg [.int .i64 m.1.1.1,.int .i64 m.1.1.2.1,.int .i64 m.1.1.2.2.1,.int .i64 m.1.1.2.2.2,.int .i64 m.1.2.1,.int .i64 m.1.2.2.1,.int .i64 m.1.2.2.2.1,.int .i64 m.1.2.2.2.2,.int .i64 y1,.int .i64 (ivl m.1 (i64.wrap (i64.wrap (m.2.1+1)+1)) t)],.agg [.int .i64 y2.1,.int .i64 y2.2.1,.int .i64 y2.2.2.1,.int .i64 y2.2.2.2]]))))) y0))))) y0)
  (by kernel_rfl) (by
   have dp:∀b:Bk,x04 b=true→1≤dom b.1∧dom b.1≤16777216:=fun _ h=>x07 h
   have iv:=qQ5 m.1 (m.2.1+1) t;have ip:=qQ7 (b:=m.1) (i:=m.2.1+1) (t:=t);have dr:=zU1 m.1.1
   have hw1:0≤m.2.1∧m.2.1≤dom m.1.1-1→i64.wrap (m.2.1+1)=m.2.1+1:=fun h=>w64 (by omega) (by omega)
   have hw2:1≤m.2.2∧m.2.2≤4296015872→i64.wrap (m.2.2-1)=m.2.2-1:=fun h=>w64 (by omega) (by omega)
   have hw3:0≤m.2.1∧m.2.1≤dom m.1.1-1→i64.wrap (m.2.1+1+1)=m.2.1+2:=fun h=>(w64 (x:=m.2.1+1+1) (by omega) (by omega)).trans (by omega)
   simp only[Tree.holds,sL,ne_eq,sLb,sLc,eq_self,sLd,sLe,sLf];(repeat' (first|apply And.intro|intro _));
   all_goals first
    |(rw[xM8 (Bool.eq_false_iff.2 (by rw[ne_eq,y87];grind))];rfl)
    |(rw[xM9 (y87.2 (by grind)) (by grind)]
      simp only[Mo.sv,V4.sv,J,z4,SV.tuple.injEq,SV.agg.injEq,List.cons.injEq,SV.int.injEq,SV.bool.injEq,true_and,and_true,eq_self]
      (repeat' apply And.intro)<;>first|rfl|grind)
    |(have r:y86 m t=true:=y87.2 (by grind)
      have r2:¬1<m.2.2:=by grind
      have r3:=hw1 (y87.1 r).2.1;rw[xN0 r r2];simp only[r3,hw3 (y87.1 r).2.1,Mo.sv,V4.sv,J,SV.tuple.injEq,SV.agg.injEq,List.cons.injEq,SV.int.injEq,SV.bool.injEq,true_and,and_true,eq_self]
      (repeat' apply And.intro)<;>first|rfl|grind)
    |(exfalso;grind)) (by kernel_rfl) (by rfl)
def qa0:Fact:=qm0 205 fun m=>.leaf (V4.sv (q15 m))
def qa1:Fact:=qm0 132 fun m=>.leaf (V4.sv (q15 m))
theorem yp1:qa0.ok pP:=qm3 (xj7)
theorem yp2:qa1.ok pP:=qm3 (xj8)
def z61:Fact:=qm0 166 fun m=>.leaf (.bool (z00 m))
theorem yl4:z61.ok pP:=qm3 (xe3)
def qe8:Fact:=qm1 165 fun m t=>.leaf (xM7 m t)
theorem yu9:qe8.ok pP:=qm2 (xs6)
def qe2:Fact:=qg7 174 fun b t=>.node (okS b t) (.leaf (.tuple [Mo.sv (xD5 b t),J 0])) (.leaf (.tuple [Mo.sv m0,J 1]))
theorem yu1:qe2.ok pP:=qh0 (fun b t=>⟨fun h=>xE1 h▸xq9 b t,fun h=>xE0 h▸xq9 b t⟩)
theorem zX8{a b M:Int}(hb:1≤b)(hM:0≤M)(h: -M≤a∧a≤M): -M≤a / b∧a / b≤M:=by
 constructor
 ·refine Int.le_ediv_of_mul_le (by omega) ?_
  have:M*1≤M*b:=Int.mul_le_mul_of_nonneg_left hb hM;rw[Int.neg_mul];omega
 ·by_cases ha:0≤a
  ·have:=Int.ediv_le_self b ha;omega
  ·have:=Int.ediv_neg_of_neg_of_pos (a:=a) (b:=b) (by omega) (by omega);omega
theorem qt8{a b:Int}(hb:1≤b):a.tdiv b=if a<0∧a.tmod b≠0 then a / b+1 else a / b:=by
 rw[Int.tdiv_eq_ediv];have hs:b.sign=1:=Int.sign_eq_one_of_pos (by omega);have hd:b ∣ a↔a.tmod b=0:=⟨Int.tmod_eq_zero_of_dvd,Int.dvd_of_tmod_eq_zero⟩;rw[hs]
 by_cases h1:0≤a∨b ∣ a
 ·rw[if_pos h1,if_neg (by rw[hd]at h1;omega)];omega
 ·rw[if_neg h1,if_pos (by rw[hd]at h1;omega)]
def rnd(a b:Int):Int:=if b-a % b≤a % b then a / b+1 else a / b
theorem y57{a b M:Int}(hb:1≤b)(hM:0≤M)(h: -M≤a∧a≤M): -M≤rnd a b∧rnd a b≤M+1:=by
 have:=zX8 hb hM h
 unfold rnd;split<;>omega
theorem q56{a b:Int}(hb:1≤b):0≤a % b∧a % b<b:=⟨Int.emod_nonneg _ (by omega),Int.emod_lt_of_pos _ (by omega)⟩
theorem xI7{a b:Int}:a-a / b*b=a % b:=by rw[Int.emod_def,Int.mul_comm]
def cla(n lo hi:Int):Int:=if n<lo then lo else if n>hi then hi else n
theorem zI2{n lo hi:Int}(h:lo≤hi):lo≤cla n lo hi∧cla n lo hi≤hi:=by unfold cla;(repeat' split)<;>omega
theorem x97{x:Int}(h0:0≤x)(h1:x≤9223372036854775807):u64.wrap x=x:=by
 have h2:IntKind.wrap .u64 x=if false&&decide (x % 18446744073709551616≥9223372036854775808)then x % 18446744073709551616-18446744073709551616 else x % 18446744073709551616:=rfl
 rw[h2];simp only[Bool.false_and,Bool.false_eq_true,if_false];omega
theorem xf8(a b:Int)(h:(inR b 1 4611686018427387904&&inR a (-4611686018427387904) 4611686018427387904)=true):SCall pP 225 [J a,J b] (.tuple [J (a / b),J 0]):=
 o8 mix [] trivial 1000 (.fork .all (.fork (.lit (.lit (.fork .all (.fork (.ln 5 (.fork .all .all)) (.ln 5 (.lit .all)))))) (.ln 3 (.fork (.ln 5 (.fork .all .all)) (.ln 5 (.lit .all))))))
  (t:=let y1:Tree SV:=.leaf (.tuple [.int .i64 (i64.wrap (a.tdiv b)),.int .i64 0]);let y0:Tree SV:=.req (!b==0) (.req (!b==0) (.node (a.tmod b != 0) (.node (!decide (a<0)==decide (b<0)) (.leaf (.tuple [.int .i64 (i64.wrap (i64.wrap (a.tdiv b)-1)),.int .i64 0])) y1) y1));.node (b==0) (.leaf (.tuple [.int .i64 0,.int .i64 4])) (.node (a== -9223372036854775808) (.node (b== -1) (.leaf (.tuple [.int .i64 0,.int .i64 3])) y0) y0))
  (by kernel_rfl) (by
   rw[Bool.and_eq_true,v8,v8]at h;have r:=zX8 h.1.1 (by omega) h.2;have e:=qt8 (a:=a) h.1.1;have k1:i64.wrap (a / b)=a / b:=w64 (by omega) (by omega);have k2:i64.wrap (a / b+1)=a / b+1:=w64 (by omega) (by omega);have k3:i64.wrap (a / b+1-1)=a / b:=(w64 (by omega) (by omega)).trans (by omega);have hb0:decide (b<0)=false:=decide_eq_false (by omega)
   have hb1:(b==0)=false:=by simp;omega
   have hb2:(b== -1)=false:=by simp;omega
   have ha0:(a== -9223372036854775808)=false:=by simp;omega
   by_cases ha:a<0<;>by_cases hm:a.tmod b=0
   all_goals simp only[Tree.holds,hb0,hb1,hb2,ha0,ha,hm,decide_true,decide_false,Bool.true_eq_false,Bool.false_eq_true,false_implies,true_implies,true_and,and_true,Bool.not_false,bne_self_eq_false,bne_iff_ne,ne_eq,not_true_eq_false,not_false_eq_true,bne_eq_false_iff_eq,eq_self,beq_self_eq_true,Bool.not_true,show(false==false)=true from rfl,show(true==false)=false from rfl,false_and,and_false]at e ⊢
   all_goals simp only[e,if_true,if_false,k1,k2,k3,J]
) (by kernel_rfl) (by kernel_rfl)
def z71:Fact:=qk1 225 fun a b=>.req (inR b 1 4611686018427387904&&inR a (-4611686018427387904) 4611686018427387904) (.leaf (.tuple [J (a / b),J 0]))
theorem ym4:z71.ok pP:=qk4 (fun a b h=>xf8 a b h)
theorem xo8(a b:Int)(h:(inR b 1 4611686018427387904&&inR a (-4611686018427387904) 4611686018427387904)=true):SCall pP 208 [J a,J b] (.tuple [J (rnd a b),J 0]):=
 o8 mix [z71] ⟨ym4,trivial⟩ 1000 (.lit (.fork (.ln 5 (.fork (.ln 4 (.lit .all)) (.lit (.lit (.fork (.ln 7 (.fork .all .all)) (.ln 7 (.lit .all))))))) (.ln 8 (.fork (.ln 7 (.fork .all .all)) (.ln 7 (.lit .all))))))
  (t:=let y1:=a-i64.wrap (a / b*b);let y2:Tree SV:=.leaf (.tuple [.int .i64 (i64.wrap (a / b+1)),.int .i64 0]);let y0:Tree SV:=.node (decide (b<0)) (.node (decide (i64.wrap y1≤i64.wrap (b-i64.wrap y1))) y2 (.leaf (.tuple [.int .i64 (a / b),.int .i64 0]))) (.leaf (.tuple [.int .i64 (a / b),.int .i64 0]));.req (inR b 1 4611686018427387904&&inR a (-4611686018427387904) 4611686018427387904) (.node (decide (b>0)) (.node (decide (i64.wrap y1≥i64.wrap (b-i64.wrap y1))) y2 y0) y0))
  (by kernel_rfl) (by
   rw[Bool.and_eq_true,v8,v8]at h;have r:=zX8 h.1.1 (by omega) h.2;have q:=q56 (a:=a) h.1.1;have e:=xI7 (a:=a) (b:=b);have k0:i64.wrap (a / b*b)=a / b*b:=w64 (by omega) (by omega);have k1:i64.wrap (a % b)=a % b:=w64 (by omega) (by omega);have k2:i64.wrap (a / b+1)=a / b+1:=w64 (by omega) (by omega);have k3:i64.wrap (b-a % b)=b-a % b:=w64 (by omega) (by omega);have k4:u64.wrap (a % b)=a % b:=x97 (by omega) (by omega);have k5:u64.wrap b=b:=x97 (by omega) (by omega);have k6:u64.wrap (b-a % b)=b-a % b:=x97 (by omega) (by omega)
   have hh:(inR b 1 4611686018427387904&&inR a (-4611686018427387904) 4611686018427387904)=true:=by rw[Bool.and_eq_true,v8,v8];exact h
   simp only[hh,k0,e,k1,k2,k3,k4,k5,k6,Tree.holds,ge_iff_le,sL,ne_eq,sLb,sLc,eq_self,sLd,sLe,sLf];(repeat' (first|apply And.intro|intro _));
   all_goals first
    |omega
    |(exfalso;omega)
    |(unfold rnd;rw[if_pos (by omega)];rfl)
    |(unfold rnd;rw[if_neg (by omega)];rfl)) (by kernel_rfl) (by kernel_rfl)
def qd5:Fact:=qk1 208 fun a b=>.req (inR b 1 4611686018427387904&&inR a (-4611686018427387904) 4611686018427387904) (.leaf (.tuple [J (rnd a b),J 0]))
theorem yt3:qd5.ok pP:=qk4 (fun a b h=>xo8 a b h)
theorem xc1(a b c:Int)(h:decide (b≤c)=true):SCall pP 224 [J a,J b,J c] (J (cla a b c)):=
 o8 mix [] trivial 1000 (.all)
  (t:=.leaf (SV.int IntKind.i64 (if(if c<a then c else a)>b then if c<a then c else a else b)))
  (by kernel_rfl) (by
   rw[decide_eq_true_eq]at h;refine xJ6 ?_
   unfold cla;(repeat' split)<;>omega) (by kernel_rfl) (by kernel_rfl)
def z45:Fact:=qk2 224 fun a b c=>.req (decide (b≤c)) (.leaf (J (cla a b c)))
theorem yj9:z45.ok pP:=qk3 (fun a b c h=>xc1 a b c h)
abbrev V3:=Int×Int×Int
def V3.sv(v:V3):SV:=.agg [J v.1,J v.2.1,J v.2.2]
def axM(m:Ma)(i:Int):Ax:=if i=0 then m.x else if i=1 then m.y else if i=2 then m.z else m.e
def xC9(m:Ma)(p:Int):Bool:=m.ok&&inR p (-1073741824) 1073741824
theorem xD0{m:Ma}{p:Int}:xC9 m p=true↔m.ok=true∧-1073741824≤p∧p≤1073741824:=by simp only[xC9,Bool.and_eq_true,v8]
def xX3(m:Ma)(p:Int):Bool:=m.ok&&inR p (-70368744177664) 70368744177664
theorem xX4{m:Ma}{p:Int}:xX3 m p=true↔m.ok=true∧-70368744177664≤p∧p≤70368744177664:=by simp only[xX3,Bool.and_eq_true,v8]
def xG0(a:Ax)(p:Int):Int:=rnd (p*a.num) a.den
def xY3(a:Ax)(p:Int):Int:=rnd (p*a.den) a.num
def z08(b:Bool)(n:Int):SV:=match b with
 |true=>.tuple [J n,J 0]
 |false=>.tuple [J 0,J 1]
theorem z14{b:Bool}{n:Int}(h:b=true):z08 b n=.tuple [J n,J 0] :=by rw[h];rfl
theorem z09{b:Bool}{n:Int}(h:b=false):z08 b n=.tuple [J 0,J 1] :=by rw[h];rfl
theorem q83{p n A B:Int}(hA:0≤A)(hp: -A≤p∧p≤A)(hn:0≤n∧n≤B): -(A*B)≤p*n∧p*n≤A*B:=by
 have h1:p*n≤A*n:=Int.mul_le_mul_of_nonneg_right hp.2 hn.1;have h2:A*n≤A*B:=Int.mul_le_mul_of_nonneg_left hn.2 hA;have h3:(-A)*n≤p*n:=Int.mul_le_mul_of_nonneg_right hp.1 hn.1;rw[Int.neg_mul]at h3;omega
theorem xD3{a:Ax}{p:Int}(h:a.ok=true)(hp: -1073741824≤p∧p≤1073741824):(-70368744177664≤p*a.num∧p*a.num≤70368744177664)∧-70368744177664≤xG0 a p∧xG0 a p≤70368744177665:=by
 rw[Ax.ok_iff]at h;have:=q83 (A:=1073741824) (B:=65536) (by omega) hp (n:=a.num) (by omega);exact⟨this,y57 (M:=70368744177664) (by omega) (by omega) this⟩
theorem xX5{a:Ax}{p M:Int}(h:a.ok=true)(hM:0≤M)(hp: -M≤p∧p≤M):(-(M*65536)≤p*a.den∧p*a.den≤M*65536)∧-(M*65536)≤xY3 a p∧xY3 a p≤M*65536+1:=by
 rw[Ax.ok_iff]at h;have:=q83 (A:=M) (B:=65536) (by omega) hp (n:=a.den) (by omega);exact⟨this,y57 (M:=M*65536) (by omega) (by omega) this⟩
def zL8(xy:Bool)(c:V4):V4:=match xy with
 |true=>(c.1+c.2.1,c.1-c.2.1,c.2.2.1,c.2.2.2)
 |false=>c
def q66(m:Ma)(v:V3)(e:Int):V4:=zL8 m.xy (xG0 m.x v.1,xG0 m.y v.2.1,xG0 m.z v.2.2,xG0 m.e e)
def q59(m:Ma)(v:V3)(e:Int):Bool:=xC9 m v.1&& (xC9 m v.2.1&& (xC9 m v.2.2&&xC9 m e))
theorem q60{m:Ma}{v:V3}{e:Int}:q59 m v e=true↔xC9 m v.1=true∧xC9 m v.2.1=true∧xC9 m v.2.2=true∧xC9 m e=true:=by simp only[q59,Bool.and_eq_true]
def qM4(m:Ma)(v:V3):Bool:=m.ok&& (inR v.1 m.x.min m.x.max&& (inR v.2.1 m.y.min m.y.max&&inR v.2.2 m.z.min m.z.max))
theorem qM5{m:Ma}{v:V3}:qM4 m v=true↔m.ok=true∧(m.x.min≤v.1∧v.1≤m.x.max)∧(m.y.min≤v.2.1∧v.2.1≤m.y.max)∧m.z.min≤v.2.2∧v.2.2≤m.z.max:=by simp only[qM4,Bool.and_eq_true,v8]
def xX6(xy:Bool)(p:V4):V4:=match xy with
 |true=>((p.1+p.2.1) / 2,(p.1-p.2.1) / 2,p.2.2.1,p.2.2.2)
 |false=>p
def yR2(m:Ma)(p:V4):V4:=(xY3 m.x (xX6 m.xy p).1,xY3 m.y (xX6 m.xy p).2.1,xY3 m.z (xX6 m.xy p).2.2.1,xY3 m.e (xX6 m.xy p).2.2.2)
def q63(m:Ma)(v:V3)(e:Int):SV:=match q59 m v e with
 |true=>.tuple [V4.sv (q66 m v e),J 0]
 |false=>.tuple [V4.sv z4,J 1]
theorem q65{m:Ma}{v:V3}{e:Int}(h:q59 m v e=true):q63 m v e=.tuple [V4.sv (q66 m v e),J 0] :=by unfold q63;rw[h]
theorem q64{m:Ma}{v:V3}{e:Int}(h:q59 m v e=false):q63 m v e=.tuple [V4.sv z4,J 1] :=by unfold q63;rw[h]
def qk7(f:FuncId)(h:Ma→Int→Int→Tree SV):Fact:=⟨f,fun args=>match args with
 |[.agg [.int .i64 a0,.int .i64 a1,.int .i64 a2,.int .i64 a3,.int .i64 a4,.int .i64 a5,.int .i64 a6,.int .i64 b0,.int .i64 b1,.int .i64 b2,.int .i64 b3,.int .i64 b4,.int .i64 b5,.int .i64 b6,.int .i64 c0,.int .i64 c1,.int .i64 c2,.int .i64 c3,.int .i64 c4,.int .i64 c5,.int .i64 c6,.int .i64 d0,.int .i64 d1,.int .i64 d2,.int .i64 d3,.int .i64 d4,.int .i64 d5,.int .i64 d6,.bool xy,.int .i64 t],.int .i64 i,.int .i64 p] =>some (h ⟨⟨a0,a1,a2,a3,a4,a5,a6⟩,⟨b0,b1,b2,b3,b4,b5,b6⟩,⟨c0,c1,c2,c3,c4,c5,c6⟩,⟨d0,d1,d2,d3,d4,d5,d6⟩,xy,t⟩ i p)
 |_=>none⟩
theorem qk8{P:Program}{f:FuncId}{h:Ma→Int→Int→Tree SV}(k:∀m i p,(h m i p).says (SCall P f [m.sv,J i,J p])):(qk7 f h).ok P:=fun args t ht=>by
 simp only[qk7]at ht
 split at ht
 ·injection ht with ht;subst ht;exact k ⟨⟨_,_,_,_,_,_,_⟩,⟨_,_,_,_,_,_,_⟩,⟨_,_,_,_,_,_,_⟩,⟨_,_,_,_,_,_,_⟩,_,_⟩ _ _
 ·cases ht
def qk9(f:FuncId)(h:Ma→V3→Tree SV):Fact:=⟨f,fun args=>match args with
 |[.agg [.int .i64 a0,.int .i64 a1,.int .i64 a2,.int .i64 a3,.int .i64 a4,.int .i64 a5,.int .i64 a6,.int .i64 b0,.int .i64 b1,.int .i64 b2,.int .i64 b3,.int .i64 b4,.int .i64 b5,.int .i64 b6,.int .i64 c0,.int .i64 c1,.int .i64 c2,.int .i64 c3,.int .i64 c4,.int .i64 c5,.int .i64 c6,.int .i64 d0,.int .i64 d1,.int .i64 d2,.int .i64 d3,.int .i64 d4,.int .i64 d5,.int .i64 d6,.bool xy,.int .i64 t],.agg [.int .i64 x,.int .i64 y,.int .i64 z]] =>some (h ⟨⟨a0,a1,a2,a3,a4,a5,a6⟩,⟨b0,b1,b2,b3,b4,b5,b6⟩,⟨c0,c1,c2,c3,c4,c5,c6⟩,⟨d0,d1,d2,d3,d4,d5,d6⟩,xy,t⟩ (x,y,z))
 |_=>none⟩
theorem ql8{P:Program}{f:FuncId}{h:Ma→V3→Tree SV}(k:∀m v,(h m v).says (SCall P f [m.sv,V3.sv v])):(qk9 f h).ok P:=fun args t ht=>by
 simp only[qk9]at ht
 split at ht
 ·injection ht with ht;subst ht;exact k ⟨⟨_,_,_,_,_,_,_⟩,⟨_,_,_,_,_,_,_⟩,⟨_,_,_,_,_,_,_⟩,⟨_,_,_,_,_,_,_⟩,_,_⟩ (_,_,_)
 ·cases ht
def ql6(f:FuncId)(h:Ma→V3→Int→Tree SV):Fact:=⟨f,fun args=>match args with
 |[.agg [.int .i64 a0,.int .i64 a1,.int .i64 a2,.int .i64 a3,.int .i64 a4,.int .i64 a5,.int .i64 a6,.int .i64 b0,.int .i64 b1,.int .i64 b2,.int .i64 b3,.int .i64 b4,.int .i64 b5,.int .i64 b6,.int .i64 c0,.int .i64 c1,.int .i64 c2,.int .i64 c3,.int .i64 c4,.int .i64 c5,.int .i64 c6,.int .i64 d0,.int .i64 d1,.int .i64 d2,.int .i64 d3,.int .i64 d4,.int .i64 d5,.int .i64 d6,.bool xy,.int .i64 t],.agg [.int .i64 x,.int .i64 y,.int .i64 z],.int .i64 e] =>some (h ⟨⟨a0,a1,a2,a3,a4,a5,a6⟩,⟨b0,b1,b2,b3,b4,b5,b6⟩,⟨c0,c1,c2,c3,c4,c5,c6⟩,⟨d0,d1,d2,d3,d4,d5,d6⟩,xy,t⟩ (x,y,z) e)
 |_=>none⟩
theorem ql7{P:Program}{f:FuncId}{h:Ma→V3→Int→Tree SV}(k:∀m v e,(h m v e).says (SCall P f [m.sv,V3.sv v,J e])):(ql6 f h).ok P:=fun args t ht=>by
 simp only[ql6]at ht
 split at ht
 ·injection ht with ht;subst ht;exact k ⟨⟨_,_,_,_,_,_,_⟩,⟨_,_,_,_,_,_,_⟩,⟨_,_,_,_,_,_,_⟩,⟨_,_,_,_,_,_,_⟩,_,_⟩ (_,_,_) _
 ·cases ht
def ql0(f:FuncId)(h:Ma→V4→Tree SV):Fact:=⟨f,fun args=>match args with
 |[.agg [.int .i64 a0,.int .i64 a1,.int .i64 a2,.int .i64 a3,.int .i64 a4,.int .i64 a5,.int .i64 a6,.int .i64 b0,.int .i64 b1,.int .i64 b2,.int .i64 b3,.int .i64 b4,.int .i64 b5,.int .i64 b6,.int .i64 c0,.int .i64 c1,.int .i64 c2,.int .i64 c3,.int .i64 c4,.int .i64 c5,.int .i64 c6,.int .i64 d0,.int .i64 d1,.int .i64 d2,.int .i64 d3,.int .i64 d4,.int .i64 d5,.int .i64 d6,.bool xy,.int .i64 t],.agg [.int .i64 x,.int .i64 y,.int .i64 z,.int .i64 w]] =>some (h ⟨⟨a0,a1,a2,a3,a4,a5,a6⟩,⟨b0,b1,b2,b3,b4,b5,b6⟩,⟨c0,c1,c2,c3,c4,c5,c6⟩,⟨d0,d1,d2,d3,d4,d5,d6⟩,xy,t⟩ (x,y,z,w))
 |_=>none⟩
theorem ql5{P:Program}{f:FuncId}{h:Ma→V4→Tree SV}(k:∀m v,(h m v).says (SCall P f [m.sv,V4.sv v])):(ql0 f h).ok P:=fun args t ht=>by
 simp only[ql0]at ht
 split at ht
 ·injection ht with ht;subst ht;exact k ⟨⟨_,_,_,_,_,_,_⟩,⟨_,_,_,_,_,_,_⟩,⟨_,_,_,_,_,_,_⟩,⟨_,_,_,_,_,_,_⟩,_,_⟩ (_,_,_,_)
 ·cases ht
theorem xq1(m:Ma)(p:Int):SCall pP 135 [m.sv,J 0,J p] (z08 (xC9 m p) (xG0 m.x p)):=
 o8 mix [z99,qd5] ⟨yp0,yt3,trivial⟩ 1000 (.fork (.ln 9 (.lit .all)) (.ln 7 (.fork (.ln 5 (.fork .all .all)) (.ln 5 (.lit .all)))))
  (t:=let y0:Tree SV:=.leaf (.tuple [.int .i64 0,.int .i64 1]);.node (!m.ok) y0 (.node (decide (p≥-1073741824)) (.node (!decide (p≤1073741824)) y0 (.req true (.req (true) (.req (inR m.x.den 1 4611686018427387904&&inR (i64.wrap (p*m.x.num)) (-4611686018427387904) 4611686018427387904) (.leaf (.tuple [.int .i64 (rnd (i64.wrap (p*m.x.num)) m.x.den),.int .i64 0])))))) y0))
  (by kernel_rfl) (by
   simp only[Tree.holds,sL,ne_eq,sLb,sLc,eq_self,sLd,sLe,sLf];(repeat' (first|apply And.intro|intro _));
   all_goals first
    |(rw[z09 (Bool.eq_false_iff.2 (by rw[ne_eq,xD0];first|omega|grind))];rfl)
    |(have hk:=xD0.1 (show xC9 m p=true by rw[xD0];first|omega|grind)
      have hx:m.x.ok=true:=by have:=Ma.ok_iff m;grind
      have r:=xD3 hx hk.2;have ho:=(Ax.ok_iff _).1 hx;have w:=w64 (x:=p*m.x.num) (by omega) (by omega)
      first
      |(rw[z14 (xD0.2 hk),w];rfl)
      |(rw[w,v8];omega)
      |(rw[v8];omega))) (by kernel_rfl) (by unfold z08;split<;>rfl)
theorem xt5(m:Ma)(p:Int):SCall pP 192 [m.sv,J 0,J p] (z08 (xX3 m p) (xY3 m.x p)):=
 o8 mix [z99,qd5] ⟨yp0,yt3,trivial⟩ 1000 (.fork (.ln 9 (.lit .all)) (.ln 7 (.fork (.ln 5 (.fork .all .all)) (.ln 5 (.lit .all)))))
  (t:=let y0:Tree SV:=.leaf (.tuple [.int .i64 0,.int .i64 1]);.node (!m.ok) y0 (.node (decide (p≥-70368744177664)) (.node (!decide (p≤70368744177664)) y0 (.req true (.req (true) (.req (inR m.x.num 1 4611686018427387904&&inR (i64.wrap (p*m.x.den)) (-4611686018427387904) 4611686018427387904) (.leaf (.tuple [.int .i64 (rnd (i64.wrap (p*m.x.den)) m.x.num),.int .i64 0])))))) y0))
  (by kernel_rfl) (by
   simp only[Tree.holds,sL,ne_eq,sLb,sLc,eq_self,sLd,sLe,sLf];(repeat' (first|apply And.intro|intro _));
   all_goals first
    |(rw[z09 (Bool.eq_false_iff.2 (by rw[ne_eq,xX4];first|omega|grind))];rfl)
    |(have hk:=xX4.1 (show xX3 m p=true by rw[xX4];first|omega|grind)
      have hx:m.x.ok=true:=by have:=Ma.ok_iff m;grind
      have r:=xX5 hx (by omega) hk.2;have ho:=(Ax.ok_iff _).1 hx;have w:=w64 (x:=p*m.x.den) (by omega) (by omega)
      first
      |(rw[z14 (xX4.2 hk),w];rfl)
      |(rw[w,v8];omega)
      |(rw[v8];omega))) (by kernel_rfl) (by unfold z08;split<;>rfl)
theorem xq2(m:Ma)(p:Int):SCall pP 135 [m.sv,J 1,J p] (z08 (xC9 m p) (xG0 m.y p)):=
 o8 mix [z99,qd5] ⟨yp0,yt3,trivial⟩ 1000 (.fork (.ln 9 (.lit .all)) (.ln 7 (.fork (.ln 5 (.fork .all .all)) (.ln 5 (.lit .all)))))
  (t:=let y0:Tree SV:=.leaf (.tuple [.int .i64 0,.int .i64 1]);.node (!m.ok) y0 (.node (decide (p≥-1073741824)) (.node (!decide (p≤1073741824)) y0 (.req true (.req (true) (.req (inR m.y.den 1 4611686018427387904&&inR (i64.wrap (p*m.y.num)) (-4611686018427387904) 4611686018427387904) (.leaf (.tuple [.int .i64 (rnd (i64.wrap (p*m.y.num)) m.y.den),.int .i64 0])))))) y0))
  (by kernel_rfl) (by
   simp only[Tree.holds,sL,ne_eq,sLb,sLc,eq_self,sLd,sLe,sLf];(repeat' (first|apply And.intro|intro _));
   all_goals first
    |(rw[z09 (Bool.eq_false_iff.2 (by rw[ne_eq,xD0];first|omega|grind))];rfl)
    |(have hk:=xD0.1 (show xC9 m p=true by rw[xD0];first|omega|grind)
      have hx:m.y.ok=true:=by have:=Ma.ok_iff m;grind
      have r:=xD3 hx hk.2;have ho:=(Ax.ok_iff _).1 hx;have w:=w64 (x:=p*m.y.num) (by omega) (by omega)
      first
      |(rw[z14 (xD0.2 hk),w];rfl)
      |(rw[w,v8];omega)
      |(rw[v8];omega))) (by kernel_rfl) (by unfold z08;split<;>rfl)
theorem xt6(m:Ma)(p:Int):SCall pP 192 [m.sv,J 1,J p] (z08 (xX3 m p) (xY3 m.y p)):=
 o8 mix [z99,qd5] ⟨yp0,yt3,trivial⟩ 1000 (.fork (.ln 9 (.lit .all)) (.ln 7 (.fork (.ln 5 (.fork .all .all)) (.ln 5 (.lit .all)))))
  (t:=let y0:Tree SV:=.leaf (.tuple [.int .i64 0,.int .i64 1]);.node (!m.ok) y0 (.node (decide (p≥-70368744177664)) (.node (!decide (p≤70368744177664)) y0 (.req true (.req (true) (.req (inR m.y.num 1 4611686018427387904&&inR (i64.wrap (p*m.y.den)) (-4611686018427387904) 4611686018427387904) (.leaf (.tuple [.int .i64 (rnd (i64.wrap (p*m.y.den)) m.y.num),.int .i64 0])))))) y0))
  (by kernel_rfl) (by
   simp only[Tree.holds,sL,ne_eq,sLb,sLc,eq_self,sLd,sLe,sLf];(repeat' (first|apply And.intro|intro _));
   all_goals first
    |(rw[z09 (Bool.eq_false_iff.2 (by rw[ne_eq,xX4];first|omega|grind))];rfl)
    |(have hk:=xX4.1 (show xX3 m p=true by rw[xX4];first|omega|grind)
      have hx:m.y.ok=true:=by have:=Ma.ok_iff m;grind
      have r:=xX5 hx (by omega) hk.2;have ho:=(Ax.ok_iff _).1 hx;have w:=w64 (x:=p*m.y.den) (by omega) (by omega)
      first
      |(rw[z14 (xX4.2 hk),w];rfl)
      |(rw[w,v8];omega)
      |(rw[v8];omega))) (by kernel_rfl) (by unfold z08;split<;>rfl)
theorem xq3(m:Ma)(p:Int):SCall pP 135 [m.sv,J 2,J p] (z08 (xC9 m p) (xG0 m.z p)):=
 o8 mix [z99,qd5] ⟨yp0,yt3,trivial⟩ 1000 (.fork (.ln 9 (.lit .all)) (.ln 7 (.fork (.ln 5 (.fork .all .all)) (.ln 5 (.lit .all)))))
  (t:=let y0:Tree SV:=.leaf (.tuple [.int .i64 0,.int .i64 1]);.node (!m.ok) y0 (.node (decide (p≥-1073741824)) (.node (!decide (p≤1073741824)) y0 (.req true (.req (true) (.req (inR m.z.den 1 4611686018427387904&&inR (i64.wrap (p*m.z.num)) (-4611686018427387904) 4611686018427387904) (.leaf (.tuple [.int .i64 (rnd (i64.wrap (p*m.z.num)) m.z.den),.int .i64 0])))))) y0))
  (by kernel_rfl) (by
   simp only[Tree.holds,sL,ne_eq,sLb,sLc,eq_self,sLd,sLe,sLf];(repeat' (first|apply And.intro|intro _));
   all_goals first
    |(rw[z09 (Bool.eq_false_iff.2 (by rw[ne_eq,xD0];first|omega|grind))];rfl)
    |(have hk:=xD0.1 (show xC9 m p=true by rw[xD0];first|omega|grind)
      have hx:m.z.ok=true:=by have:=Ma.ok_iff m;grind
      have r:=xD3 hx hk.2;have ho:=(Ax.ok_iff _).1 hx;have w:=w64 (x:=p*m.z.num) (by omega) (by omega)
      first
      |(rw[z14 (xD0.2 hk),w];rfl)
      |(rw[w,v8];omega)
      |(rw[v8];omega))) (by kernel_rfl) (by unfold z08;split<;>rfl)
theorem xt7(m:Ma)(p:Int):SCall pP 192 [m.sv,J 2,J p] (z08 (xX3 m p) (xY3 m.z p)):=
 o8 mix [z99,qd5] ⟨yp0,yt3,trivial⟩ 1000 (.fork (.ln 9 (.lit .all)) (.ln 7 (.fork (.ln 5 (.fork .all .all)) (.ln 5 (.lit .all)))))
  (t:=let y0:Tree SV:=.leaf (.tuple [.int .i64 0,.int .i64 1]);.node (!m.ok) y0 (.node (decide (p≥-70368744177664)) (.node (!decide (p≤70368744177664)) y0 (.req true (.req (true) (.req (inR m.z.num 1 4611686018427387904&&inR (i64.wrap (p*m.z.den)) (-4611686018427387904) 4611686018427387904) (.leaf (.tuple [.int .i64 (rnd (i64.wrap (p*m.z.den)) m.z.num),.int .i64 0])))))) y0))
  (by kernel_rfl) (by
   simp only[Tree.holds,sL,ne_eq,sLb,sLc,eq_self,sLd,sLe,sLf];(repeat' (first|apply And.intro|intro _));
   all_goals first
    |(rw[z09 (Bool.eq_false_iff.2 (by rw[ne_eq,xX4];first|omega|grind))];rfl)
    |(have hk:=xX4.1 (show xX3 m p=true by rw[xX4];first|omega|grind)
      have hx:m.z.ok=true:=by have:=Ma.ok_iff m;grind
      have r:=xX5 hx (by omega) hk.2;have ho:=(Ax.ok_iff _).1 hx;have w:=w64 (x:=p*m.z.den) (by omega) (by omega)
      first
      |(rw[z14 (xX4.2 hk),w];rfl)
      |(rw[w,v8];omega)
      |(rw[v8];omega))) (by kernel_rfl) (by unfold z08;split<;>rfl)
theorem xq4(m:Ma)(p:Int):SCall pP 135 [m.sv,J 3,J p] (z08 (xC9 m p) (xG0 m.e p)):=
 o8 mix [z99,qd5] ⟨yp0,yt3,trivial⟩ 1000 (.fork (.ln 9 (.lit .all)) (.ln 7 (.fork (.ln 5 (.fork .all .all)) (.ln 5 (.lit .all)))))
  (t:=let y0:Tree SV:=.leaf (.tuple [.int .i64 0,.int .i64 1]);.node (!m.ok) y0 (.node (decide (p≥-1073741824)) (.node (!decide (p≤1073741824)) y0 (.req true (.req (true) (.req (inR m.e.den 1 4611686018427387904&&inR (i64.wrap (p*m.e.num)) (-4611686018427387904) 4611686018427387904) (.leaf (.tuple [.int .i64 (rnd (i64.wrap (p*m.e.num)) m.e.den),.int .i64 0])))))) y0))
  (by kernel_rfl) (by
   simp only[Tree.holds,sL,ne_eq,sLb,sLc,eq_self,sLd,sLe,sLf];(repeat' (first|apply And.intro|intro _));
   all_goals first
    |(rw[z09 (Bool.eq_false_iff.2 (by rw[ne_eq,xD0];first|omega|grind))];rfl)
    |(have hk:=xD0.1 (show xC9 m p=true by rw[xD0];first|omega|grind)
      have hx:m.e.ok=true:=by have:=Ma.ok_iff m;grind
      have r:=xD3 hx hk.2;have ho:=(Ax.ok_iff _).1 hx;have w:=w64 (x:=p*m.e.num) (by omega) (by omega)
      first
      |(rw[z14 (xD0.2 hk),w];rfl)
      |(rw[w,v8];omega)
      |(rw[v8];omega))) (by kernel_rfl) (by unfold z08;split<;>rfl)
theorem xt8(m:Ma)(p:Int):SCall pP 192 [m.sv,J 3,J p] (z08 (xX3 m p) (xY3 m.e p)):=
 o8 mix [z99,qd5] ⟨yp0,yt3,trivial⟩ 1000 (.fork (.ln 9 (.lit .all)) (.ln 7 (.fork (.ln 5 (.fork .all .all)) (.ln 5 (.lit .all)))))
  (t:=let y0:Tree SV:=.leaf (.tuple [.int .i64 0,.int .i64 1]);.node (!m.ok) y0 (.node (decide (p≥-70368744177664)) (.node (!decide (p≤70368744177664)) y0 (.req true (.req (true) (.req (inR m.e.num 1 4611686018427387904&&inR (i64.wrap (p*m.e.den)) (-4611686018427387904) 4611686018427387904) (.leaf (.tuple [.int .i64 (rnd (i64.wrap (p*m.e.den)) m.e.num),.int .i64 0])))))) y0))
  (by kernel_rfl) (by
   simp only[Tree.holds,sL,ne_eq,sLb,sLc,eq_self,sLd,sLe,sLf];(repeat' (first|apply And.intro|intro _));
   all_goals first
    |(rw[z09 (Bool.eq_false_iff.2 (by rw[ne_eq,xX4];first|omega|grind))];rfl)
    |(have hk:=xX4.1 (show xX3 m p=true by rw[xX4];first|omega|grind)
      have hx:m.e.ok=true:=by have:=Ma.ok_iff m;grind
      have r:=xX5 hx (by omega) hk.2;have ho:=(Ax.ok_iff _).1 hx;have w:=w64 (x:=p*m.e.den) (by omega) (by omega)
      first
      |(rw[z14 (xX4.2 hk),w];rfl)
      |(rw[w,v8];omega)
      |(rw[v8];omega))) (by kernel_rfl) (by unfold z08;split<;>rfl)
def qh3(f:FuncId)(h:Co→Int→Tree SV):Fact:=⟨f,fun args=>match args with
 |[.agg [.int .i64 a0,.int .i64 a1,.int .i64 a2,.int .i64 a3,.int .i64 a4,.int .i64 a5],.int .i64 i] =>some (h ⟨a0,a1,a2,a3,a4,a5⟩ i)
 |_=>none⟩
theorem qh4{P:Program}{f:FuncId}{h:Co→Int→Tree SV}(k:∀c i,(h c i).says (SCall P f [c.sv,J i])):(qh3 f h).ok P:=fun args t ht=>by
 simp only[qh3]at ht
 split at ht
 ·injection ht with ht;subst ht;exact k ⟨_,_,_,_,_,_⟩ _
 ·cases ht
def qj5(f:FuncId)(h:Gu→Tree SV):Fact:=⟨f,fun args=>match args with
 |[.agg [.int .i64 a0,.int .i64 a1,.int .i64 a2,.int .i64 a3,.int .i64 a4,.int .i64 a5,.int .i64 a6,.int .i64 a7,.int .i64 a8,.int .i64 a9,.bool d]] =>some (h ⟨a0,a1,a2,a3,a4,a5,a6,a7,a8,a9,d⟩)
 |_=>none⟩
theorem qj6{P:Program}{f:FuncId}{h:Gu→Tree SV}(k:∀g,(h g).says (SCall P f [g.sv])):(qj5 f h).ok P:=fun args t ht=>by
 simp only[qj5]at ht
 split at ht
 ·injection ht with ht;subst ht;exact k ⟨_,_,_,_,_,_,_,_,_,_,_⟩
 ·cases ht
def qj3(f:FuncId)(h:Gu→Int→Tree SV):Fact:=⟨f,fun args=>match args with
 |[.agg [.int .i64 a0,.int .i64 a1,.int .i64 a2,.int .i64 a3,.int .i64 a4,.int .i64 a5,.int .i64 a6,.int .i64 a7,.int .i64 a8,.int .i64 a9,.bool d],.int .i64 i] =>some (h ⟨a0,a1,a2,a3,a4,a5,a6,a7,a8,a9,d⟩ i)
 |_=>none⟩
theorem qj4{P:Program}{f:FuncId}{h:Gu→Int→Tree SV}(k:∀g i,(h g i).says (SCall P f [g.sv,J i])):(qj3 f h).ok P:=fun args t ht=>by
 simp only[qj3]at ht
 split at ht
 ·injection ht with ht;subst ht;exact k ⟨_,_,_,_,_,_,_,_,_,_,_⟩ _
 ·cases ht
def qj1(f:FuncId)(h:Gu→Int→Int→Int→Tree SV):Fact:=⟨f,fun args=>match args with
 |[.agg [.int .i64 a0,.int .i64 a1,.int .i64 a2,.int .i64 a3,.int .i64 a4,.int .i64 a5,.int .i64 a6,.int .i64 a7,.int .i64 a8,.int .i64 a9,.bool d],.int .i64 r,.int .i64 t,.int .i64 u] =>some (h ⟨a0,a1,a2,a3,a4,a5,a6,a7,a8,a9,d⟩ r t u)
 |_=>none⟩
theorem qj2{P:Program}{f:FuncId}{h:Gu→Int→Int→Int→Tree SV}(k:∀g r t u,(h g r t u).says (SCall P f [g.sv,J r,J t,J u])):(qj1 f h).ok P:=fun args t ht=>by
 simp only[qj1]at ht
 split at ht
 ·injection ht with ht;subst ht;exact k ⟨_,_,_,_,_,_,_,_,_,_,_⟩ _ _ _
 ·cases ht
def Co.zero:Co:=⟨0,0,0,0,0,0⟩
def zn3(c:Co)(t:Int):Bool:=c.ok&&inR t 0 400000
theorem zn4{c:Co}{t:Int}:zn3 c t=true↔c.ok=true∧0≤t∧t≤400000:=by simp only[zn3,Bool.and_eq_true,v8]
def Co.aim(c:Co)(t:Int):Co:=⟨t,c.kp,c.ki,c.scale,0,c.limit⟩
def zn5(c:Co)(t:Int):SV:=match zn3 c t with
 |true=>.tuple [Co.sv (c.aim t),J 0]
 |false=>.tuple [Co.sv Co.zero,J 1]
theorem zn7{c:Co}{t:Int}(h:zn3 c t=true):zn5 c t=.tuple [Co.sv (c.aim t),J 0] :=by unfold zn5;rw[h]
theorem zn6{c:Co}{t:Int}(h:zn3 c t=false):zn5 c t=.tuple [Co.sv Co.zero,J 1] :=by unfold zn5;rw[h]
def Co.acc(c:Co)(r:Int):Int:=cla (c.sum+c.ki*(c.target-r)) 0 c.limit
def zK9(c:Co)(r:Int):Bool:=c.ok&&inR r (-1073741824) 1073741824
theorem zL0{c:Co}{r:Int}:zK9 c r=true↔c.ok=true∧-1073741824≤r∧r≤1073741824:=by simp only[zK9,Bool.and_eq_true,v8]
def Co.step(c:Co)(r:Int):Co:=match zK9 c r with
 |true=>⟨c.target,c.kp,c.ki,c.scale,if c.target=0 then 0 else c.acc r,c.limit⟩
 |false=>c
def Co.duty(c:Co)(r:Int):Int:=match zK9 c r with
 |true=>if c.target=0 then 0 else cla ((c.kp*(c.target-r)+c.acc r) / c.scale) 0 255
 |false=>0
def coS(c:Co)(r:Int):SV:=.tuple [Co.sv (c.step r),J (c.duty r)]
theorem zL1{c:Co}{r:Int}(h:zK9 c r=false):coS c r=.tuple [Co.sv c,J 0] :=by unfold coS Co.step Co.duty;rw[h]
theorem zL2{c:Co}{r:Int}(h:zK9 c r=true)(h0:c.target=0):coS c r=.tuple [Co.sv ⟨c.target,c.kp,c.ki,c.scale,0,c.limit⟩,J 0] :=by unfold coS Co.step Co.duty;rw[h];simp only[if_pos h0]
theorem zL3{c:Co}{r:Int}(h:zK9 c r=true)(h0:¬c.target=0):coS c r=.tuple [Co.sv ⟨c.target,c.kp,c.ki,c.scale,c.acc r,c.limit⟩,J (cla ((c.kp*(c.target-r)+c.acc r) / c.scale) 0 255)] :=by unfold coS Co.step Co.duty;rw[h];simp only[if_neg h0]
theorem zL4{c:Co}{r:Int}(h:zK9 c r=true):(-1125899906842624*2≤c.ki*(c.target-r)∧c.ki*(c.target-r)≤1125899906842624*2)∧(-1125899906842624*2≤c.kp*(c.target-r)∧c.kp*(c.target-r)≤1125899906842624*2)∧0≤c.acc r∧c.acc r≤1099511627776:=by
 rw[zL0,Co.ok_iff]at h
 have e:∀k:Int,0≤k∧k≤1048576→-1125899906842624*2≤k*(c.target-r)∧k*(c.target-r)≤1125899906842624*2:=fun k hk=>by
  have h1:k*(c.target-r)≤k*2147483648:=Int.mul_le_mul_of_nonneg_left (by omega) hk.1;have h3:k*(-2147483648)≤k*(c.target-r):=Int.mul_le_mul_of_nonneg_left (by omega) hk.1;omega
 refine⟨e _ h.1.2.2.1,e _ h.1.2.1,?_⟩;have:=zI2 (n:=c.sum+c.ki*(c.target-r)) (lo:=0) (hi:=c.limit) (by omega);unfold Co.acc;omega
def Gu.zero:Gu:=⟨0,0,0,0,0,0,0,0,0,0,false⟩
def Gu.touch(g:Gu):Gu:=match g.ok with
 |true=>{g with quiet:=0}
 |false=>g
def Gu.stop(g:Gu):Gu:=match g.ok with
 |true=>{g with fault:=4}
 |false=>g
theorem Gu.touch_yes{g:Gu}(h:g.ok=true):g.touch={g with quiet:=0}:=by unfold Gu.touch;rw[h]
theorem Gu.touch_no{g:Gu}(h:g.ok=false):g.touch=g:=by unfold Gu.touch;rw[h]
theorem Gu.stop_yes{g:Gu}(h:g.ok=true):g.stop={g with fault:=4}:=by unfold Gu.stop;rw[h]
theorem Gu.stop_no{g:Gu}(h:g.ok=false):g.stop=g:=by unfold Gu.stop;rw[h]
def Gu.resE(g:Gu)(r:Int):Int:=match g.ok with
 |true=>if g.fault=0 then 14 else if r<g.low then 16 else if g.high<r then 16 else 0
 |false=>1
def Gu.rest(g:Gu)(r:Int):Gu:=⟨g.low,g.high,g.watch,g.rise,g.band,r,0,g.idle,0,0,g.door⟩
def Gu.cnt(g:Gu)(r:Int):Int:=if g.base+g.rise≤r then 1 else g.count+1
def Gu.bas(g:Gu)(r:Int):Int:=if g.base+g.rise≤r then r else g.base
def Gu.way(g:Gu)(r t u:Int):Nat:=match g.ok with
 |false=>0
 |true=>if g.fault=0 then
   if r<g.low then 1 else if g.high<r then 2 else if g.idle≤g.quiet+1 then 3 else if g.door=true then 4
   else if cla u 0 255=0 then 5 else if cla t (-1073741824) 1073741824-g.band≤r then 5 else if g.watch≤g.cnt r then 6 else 7
  else 0
def Gu.step(g:Gu)(r t u:Int):Gu:=match g.way r t u with
 |0=>g
 |1=>{g with fault:=1}
 |2=>{g with fault:=2}
 |3=>{g with quiet:=g.idle,base:=r,count:=0}
 |4=>{g with quiet:=g.quiet+1,base:=r,count:=0}
 |5=>{g with quiet:=g.quiet+1,base:=r,count:=0}
 |6=>{g with quiet:=g.quiet+1,base:=g.bas r,count:=g.watch,fault:=3}
 |_=>{g with quiet:=g.quiet+1,base:=g.bas r,count:=g.cnt r}
def Gu.duty(g:Gu)(r t u:Int):Int:=match g.way r t u with
 |5=>cla u 0 255
 |7=>cla u 0 255
 |_=>0
def guS(g:Gu)(r t u:Int):SV:=.tuple [Gu.sv (g.step r t u),J (g.duty r t u)]
theorem xa8(c:Co)(t:Int):SCall pP 217 [c.sv,J t] (zn5 c t):=
 o8 mix [z49] ⟨yk3,trivial⟩ 1000 (.fork (.ln 5 (.lit .all)) (.lit (.lit (.fork (.lit (.lit (.lit .all))) (.lit (.lit (.fork .all .all)))))))
  (t:=let y0:Tree SV:=.leaf (.tuple [.agg [.int .i64 0,.int .i64 0,.int .i64 0,.int .i64 0,.int .i64 0,.int .i64 0],.int .i64 1]);.node (!c.ok) y0 (.node (decide (t<0)) y0 (.node (decide (t>400000)) y0 (.leaf (.tuple [.agg [.int .i64 t,.int .i64 c.kp,.int .i64 c.ki,.int .i64 c.scale,.int .i64 0,.int .i64 c.limit],.int .i64 0])))))
  (by kernel_rfl) (by
   simp only[Tree.holds,sL,ne_eq,sLb,sLc,eq_self,sLd,sLe,sLf];(repeat' (first|apply And.intro|intro _));
   all_goals first
    |(rw[zn6 (Bool.eq_false_iff.2 (by rw[ne_eq,zn4];first|omega|grind))];rfl)
    |(rw[zn7 (zn4.2 (by first|omega|grind))];rfl)) (by kernel_rfl) (by unfold zn5;split<;>rfl)
def z34:Fact:=qh3 217 fun c t=>.node (zn3 c t) (.leaf (.tuple [Co.sv (c.aim t),J 0])) (.leaf (.tuple [Co.sv Co.zero,J 1]))
theorem yi0:z34.ok pP:=qh4 (fun c t=>⟨fun hk=>zn7 hk▸xa8 c t,fun hk=>zn6 hk▸xa8 c t⟩)
theorem xc6(c:Co)(r:Int):SCall pP 162 [c.sv,J r] (coS c r):=
 o8 mix [z49,z45,z71] ⟨yk3,yj9,ym4,trivial⟩ 1000 (.fork (.ln 5 (.lit .all)) (.lit (.lit (.fork (.lit (.lit (.lit .all))) (.lit (.lit (.fork .all (.fork .all .all))))))))
  (t:=let y0:Tree SV:=.leaf (.tuple [.agg [.int .i64 c.target,.int .i64 c.kp,.int .i64 c.ki,.int .i64 c.scale,.int .i64 c.sum,.int .i64 c.limit],.int .i64 0]);let y1:=i64.wrap (c.sum+i64.wrap (c.ki*i64.wrap (c.target-r)));let y2:=i64.wrap (c.kp*i64.wrap (c.target-r))+cla y1 0 c.limit;.node (!c.ok) y0 (.node (decide (r < -1073741824)) y0 (.node (decide (r>1073741824)) y0 (.node (c.target==0) (.leaf (.tuple [.agg [.int .i64 c.target,.int .i64 c.kp,.int .i64 c.ki,.int .i64 c.scale,.int .i64 0,.int .i64 c.limit],.int .i64 0])) (.req (decide (0≤c.limit)) (.req (inR c.scale 1 4611686018427387904&&inR (i64.wrap y2) (-4611686018427387904) 4611686018427387904) (.req true (.leaf (.tuple [.agg [.int .i64 c.target,.int .i64 c.kp,.int .i64 c.ki,.int .i64 c.scale,.int .i64 (cla y1 0 c.limit),.int .i64 c.limit],.int .i64 (cla (i64.wrap y2 / c.scale) 0 255)])))))))))
  (by kernel_rfl) (by
   have z:=zL4 (c:=c) (r:=r);have li:=zL0 (c:=c) (r:=r);have ci:=Co.ok_iff c;simp only[Tree.holds,sL,ne_eq,sLb,sLc,eq_self,sLd,sLe,sLf];(repeat' (first|apply And.intro|intro _));
   all_goals first
    |(rw[zL1 (Bool.eq_false_iff.2 (by rw[ne_eq,zL0];first|omega|grind))];rfl)
    |(have hl:zK9 c r=true:=zL0.2 (by first|omega|grind)
      have hc:=ci.1 (li.1 hl).1;have hr:=li.1 hl;have z:=z hl;have w1:=w64 (x:=c.target-r) (by omega) (by omega);have w2:=w64 (x:=c.ki*(c.target-r)) (by omega) (by omega);have w3:=w64 (x:=c.kp*(c.target-r)) (by omega) (by omega);have w4:=w64 (x:=c.sum+c.ki*(c.target-r)) (by omega) (by omega);have w5:=w64 (x:=c.kp*(c.target-r)+c.acc r) (by omega) (by omega);have e:cla (c.sum+c.ki*(c.target-r)) 0 c.limit=c.acc r:=rfl
      (try simp only[w1,w2,w3,w4,e,w5])
      first
      |(rw[v8];omega)
      |omega
      |(rw[zL2 hl (by assumption)];rfl)
      |(rw[zL3 hl (by assumption)];rfl))) (by kernel_rfl) (by kernel_rfl)
theorem xs8(g:Gu):SCall pP 73 [g.sv] (g.touch.sv):=
 o8 mix [z79] ⟨yn2,trivial⟩ 1000 (.fork (.all) (.all))
  (t:=.node (g.ok) (.leaf (.agg [.int .i64 g.low,.int .i64 g.high,.int .i64 g.watch,.int .i64 g.rise,.int .i64 g.band,.int .i64 g.base,.int .i64 g.count,.int .i64 g.idle,.int .i64 0,.int .i64 g.fault,.bool g.door])) (.leaf (.agg [.int .i64 g.low,.int .i64 g.high,.int .i64 g.watch,.int .i64 g.rise,.int .i64 g.band,.int .i64 g.base,.int .i64 g.count,.int .i64 g.idle,.int .i64 g.quiet,.int .i64 g.fault,.bool g.door])))
  (by kernel_rfl) (by simp only[Tree.holds,sL,ne_eq,sLb,sLc,eq_self,sLd,sLe,sLf];(repeat' (first|apply And.intro|intro _));all_goals first|(rw[Gu.touch_yes (by assumption)];rfl)|(rw[Gu.touch_no (by assumption)];rfl)) (by kernel_rfl) (by kernel_rfl)
def qf0:Fact:=qj5 73 fun g=>.leaf g.touch.sv
theorem yv1:qf0.ok pP:=qj6 (xs8)
theorem xr2(g:Gu):SCall pP 211 [g.sv] (g.stop.sv):=
 o8 mix [z79] ⟨yn2,trivial⟩ 1000 (.fork (.all) (.all))
  (t:=.node (g.ok) (.leaf (.agg [.int .i64 g.low,.int .i64 g.high,.int .i64 g.watch,.int .i64 g.rise,.int .i64 g.band,.int .i64 g.base,.int .i64 g.count,.int .i64 g.idle,.int .i64 g.quiet,.int .i64 4,.bool g.door])) (.leaf (.agg [.int .i64 g.low,.int .i64 g.high,.int .i64 g.watch,.int .i64 g.rise,.int .i64 g.band,.int .i64 g.base,.int .i64 g.count,.int .i64 g.idle,.int .i64 g.quiet,.int .i64 g.fault,.bool g.door])))
  (by kernel_rfl) (by simp only[Tree.holds,sL,ne_eq,sLb,sLc,eq_self,sLd,sLe,sLf];(repeat' (first|apply And.intro|intro _));all_goals first|(rw[Gu.stop_yes (by assumption)];rfl)|(rw[Gu.stop_no (by assumption)];rfl)) (by kernel_rfl) (by kernel_rfl)
def qe3:Fact:=qj5 211 fun g=>.leaf g.stop.sv
theorem yu2:qe3.ok pP:=qj6 (xr2)
theorem xo6(g:Gu)(r:Int):SCall pP 212 [g.sv,J r] (.tuple [if g.resE r=0 then(g.rest r).sv else Gu.zero.sv,J (g.resE r)]):=
 o8 mix [z79] ⟨yn2,trivial⟩ 1000 (.fork .all (.fork .all (.fork (.ln 4 (.lit .all)) (.ln 4 (.fork .all .all)))))
  (t:=let y0:Tree SV:=.leaf (.tuple [.agg [.int .i64 0,.int .i64 0,.int .i64 0,.int .i64 0,.int .i64 0,.int .i64 0,.int .i64 0,.int .i64 0,.int .i64 0,.int .i64 0,.bool false],.int .i64 16]);.node (!g.ok) (.leaf (.tuple [.agg [.int .i64 0,.int .i64 0,.int .i64 0,.int .i64 0,.int .i64 0,.int .i64 0,.int .i64 0,.int .i64 0,.int .i64 0,.int .i64 0,.bool false],.int .i64 1])) (.node (g.fault==0) (.leaf (.tuple [.agg [.int .i64 0,.int .i64 0,.int .i64 0,.int .i64 0,.int .i64 0,.int .i64 0,.int .i64 0,.int .i64 0,.int .i64 0,.int .i64 0,.bool false],.int .i64 14])) (.node (decide (r<g.low)) y0 (.node (decide (r>g.high)) y0 (.leaf (.tuple [.agg [.int .i64 g.low,.int .i64 g.high,.int .i64 g.watch,.int .i64 g.rise,.int .i64 g.band,.int .i64 r,.int .i64 0,.int .i64 g.idle,.int .i64 0,.int .i64 0,.bool g.door],.int .i64 0]))))))
  (by kernel_rfl) (by
   simp only[Tree.holds,sL,ne_eq,sLb,sLc,eq_self,sLd,sLe,sLf];(repeat' (first|apply And.intro|intro _));
   all_goals(unfold Gu.resE;simp_all only[];grind[Gu.rest,Gu.zero,Gu.sv,Gu.cells,J])) (by kernel_rfl) (by split<;>rfl)
theorem xg4(g:Gu)(r t u:Int):SCall pP 163 [g.sv,J r,J t,J u] (guS g r t u):=
 o8 mix [z79,z45] ⟨yn2,yj9,trivial⟩ 1000 (.fork (.ln 3 (.lit .all)) (.ln 3 (.fork .all (.fork (.lit .all) (.fork (.fork .all .all) (.fork .all (.fork .all (.fork (.ln 6 (.lit .all)) (.ln 6 (.fork .all (.fork (.fork .all .all) (.fork .all .all))))))))))))
  (t:=let y0:Tree SV:=.leaf (.tuple [.agg [.int .i64 g.low,.int .i64 g.high,.int .i64 g.watch,.int .i64 g.rise,.int .i64 g.band,.int .i64 g.base,.int .i64 g.count,.int .i64 g.idle,.int .i64 g.quiet,.int .i64 g.fault,.bool g.door],.int .i64 0]);let y2:=i64.wrap (g.quiet+1);let y1:Tree SV:=.leaf (.tuple [.agg [.int .i64 g.low,.int .i64 g.high,.int .i64 g.watch,.int .i64 g.rise,.int .i64 g.band,.int .i64 r,.int .i64 0,.int .i64 g.idle,.int .i64 y2,.int .i64 g.fault,.bool g.door],.int .i64 (cla u 0 255)]);.node (!g.ok) y0 (.node (g.fault != 0) y0 (.node (decide (r<g.low)) (.leaf (.tuple [.agg [.int .i64 g.low,.int .i64 g.high,.int .i64 g.watch,.int .i64 g.rise,.int .i64 g.band,.int .i64 g.base,.int .i64 g.count,.int .i64 g.idle,.int .i64 g.quiet,.int .i64 1,.bool g.door],.int .i64 0])) (.node (decide (r>g.high)) (.node (g.fault==0) (.leaf (.tuple [.agg [.int .i64 g.low,.int .i64 g.high,.int .i64 g.watch,.int .i64 g.rise,.int .i64 g.band,.int .i64 g.base,.int .i64 g.count,.int .i64 g.idle,.int .i64 g.quiet,.int .i64 2,.bool g.door],.int .i64 0])) y0) (.node (decide (i64.wrap (g.quiet+1)≥g.idle)) (.leaf (.tuple [.agg [.int .i64 g.low,.int .i64 g.high,.int .i64 g.watch,.int .i64 g.rise,.int .i64 g.band,.int .i64 r,.int .i64 0,.int .i64 g.idle,.int .i64 g.idle,.int .i64 g.fault,.bool g.door],.int .i64 0])) (.req true (.req (true) (.node (g.door) (.leaf (.tuple [.agg [.int .i64 g.low,.int .i64 g.high,.int .i64 g.watch,.int .i64 g.rise,.int .i64 g.band,.int .i64 r,.int .i64 0,.int .i64 g.idle,.int .i64 y2,.int .i64 g.fault,.bool g.door],.int .i64 0])) (.node (cla u 0 255==0) y1 (.node (decide (r≥i64.wrap (cla t (-1073741824) 1073741824-g.band))) y1 (.node (decide (r≥i64.wrap (g.base+g.rise))) (.node (decide (1≥g.watch)) (.leaf (.tuple [.agg [.int .i64 g.low,.int .i64 g.high,.int .i64 g.watch,.int .i64 g.rise,.int .i64 g.band,.int .i64 r,.int .i64 g.watch,.int .i64 g.idle,.int .i64 y2,.int .i64 3,.bool g.door],.int .i64 0])) (.leaf (.tuple [.agg [.int .i64 g.low,.int .i64 g.high,.int .i64 g.watch,.int .i64 g.rise,.int .i64 g.band,.int .i64 r,.int .i64 1,.int .i64 g.idle,.int .i64 y2,.int .i64 g.fault,.bool g.door],.int .i64 (cla u 0 255)]))) (.node (decide (i64.wrap (g.count+1)≥g.watch)) (.leaf (.tuple [.agg [.int .i64 g.low,.int .i64 g.high,.int .i64 g.watch,.int .i64 g.rise,.int .i64 g.band,.int .i64 g.base,.int .i64 g.watch,.int .i64 g.idle,.int .i64 y2,.int .i64 3,.bool g.door],.int .i64 0])) (.leaf (.tuple [.agg [.int .i64 g.low,.int .i64 g.high,.int .i64 g.watch,.int .i64 g.rise,.int .i64 g.band,.int .i64 g.base,.int .i64 (i64.wrap (g.count+1)),.int .i64 g.idle,.int .i64 y2,.int .i64 g.fault,.bool g.door],.int .i64 (cla u 0 255)]))))))))))))))
  (by kernel_rfl) (by
   have cu:=zI2 (n:=u) (lo:=0) (hi:=255) (by omega);have ct:=zI2 (n:=t) (lo:= -1073741824) (hi:=1073741824) (by omega)
   cases hok:g.ok with
   |false=>simp only[Tree.holds,hok,sL,ne_eq,sLb,sLc,eq_self,sLd,sLe,sLf];unfold guS Gu.step Gu.duty Gu.way;rw[hok];rfl
   |true=>
    have o:=(Gu.ok_iff g).1 hok;have w1:=w64 (x:=g.quiet+1) (by omega) (by omega);have w2:=w64 (x:=g.count+1) (by omega) (by omega);have w3:=w64 (x:=g.base+g.rise) (by omega) (by omega);have w4:=w64 (x:=cla t (-1073741824) 1073741824-g.band) (by omega) (by omega)
    have w5:i64.wrap (0+1)=1:=by decide
    simp only[Tree.holds,hok,w1,w2,w3,w4,w5,sL,ne_eq,sLb,sLc,eq_self,sLd,sLe,sLf];(repeat' (first|apply And.intro|intro _));
    all_goals first
     |omega
     |(have hw:g.way r t u=0:=by(unfold Gu.way;simp only[hok];simp (config:={zetaDelta:=false}) only[Gu.cnt];grind)
       unfold guS Gu.step Gu.duty
       (simp only[hw,Gu.sv,Gu.cells,J,Gu.bas,Gu.cnt,SV.tuple.injEq,SV.agg.injEq,List.cons.injEq,SV.int.injEq,SV.bool.injEq,true_and,and_true,eq_self])<;>(first|rfl|((repeat' apply And.intro)<;>first|rfl|omega|(unfold cla;(repeat' split)<;>omega)|grind)))
     |(have hw:g.way r t u=1:=by(unfold Gu.way;simp only[hok];simp (config:={zetaDelta:=false}) only[Gu.cnt];grind)
       unfold guS Gu.step Gu.duty
       (simp only[hw,Gu.sv,Gu.cells,J,Gu.bas,Gu.cnt,SV.tuple.injEq,SV.agg.injEq,List.cons.injEq,SV.int.injEq,SV.bool.injEq,true_and,and_true,eq_self])<;>(first|rfl|((repeat' apply And.intro)<;>first|rfl|omega|(unfold cla;(repeat' split)<;>omega)|grind)))
     |(have hw:g.way r t u=2:=by(unfold Gu.way;simp only[hok];simp (config:={zetaDelta:=false}) only[Gu.cnt];grind)
       unfold guS Gu.step Gu.duty
       (simp only[hw,Gu.sv,Gu.cells,J,Gu.bas,Gu.cnt,SV.tuple.injEq,SV.agg.injEq,List.cons.injEq,SV.int.injEq,SV.bool.injEq,true_and,and_true,eq_self])<;>(first|rfl|((repeat' apply And.intro)<;>first|rfl|omega|(unfold cla;(repeat' split)<;>omega)|grind)))
     |(have hw:g.way r t u=3:=by(unfold Gu.way;simp only[hok];simp (config:={zetaDelta:=false}) only[Gu.cnt];grind)
       unfold guS Gu.step Gu.duty
       (simp only[hw,Gu.sv,Gu.cells,J,Gu.bas,Gu.cnt,SV.tuple.injEq,SV.agg.injEq,List.cons.injEq,SV.int.injEq,SV.bool.injEq,true_and,and_true,eq_self])<;>(first|rfl|((repeat' apply And.intro)<;>first|rfl|omega|(unfold cla;(repeat' split)<;>omega)|grind)))
     |(have hw:g.way r t u=4:=by(unfold Gu.way;simp only[hok];simp (config:={zetaDelta:=false}) only[Gu.cnt];grind)
       unfold guS Gu.step Gu.duty
       (simp only[hw,Gu.sv,Gu.cells,J,Gu.bas,Gu.cnt,SV.tuple.injEq,SV.agg.injEq,List.cons.injEq,SV.int.injEq,SV.bool.injEq,true_and,and_true,eq_self])<;>(first|rfl|((repeat' apply And.intro)<;>first|rfl|omega|(unfold cla;(repeat' split)<;>omega)|grind)))
     |(have hw:g.way r t u=5:=by(unfold Gu.way;simp only[hok];simp (config:={zetaDelta:=false}) only[Gu.cnt];grind)
       unfold guS Gu.step Gu.duty
       (simp only[hw,Gu.sv,Gu.cells,J,Gu.bas,Gu.cnt,SV.tuple.injEq,SV.agg.injEq,List.cons.injEq,SV.int.injEq,SV.bool.injEq,true_and,and_true,eq_self])<;>(first|rfl|((repeat' apply And.intro)<;>first|rfl|omega|(unfold cla;(repeat' split)<;>omega)|grind)))
     |(have hw:g.way r t u=6:=by(unfold Gu.way;simp only[hok];simp (config:={zetaDelta:=false}) only[Gu.cnt];grind)
       unfold guS Gu.step Gu.duty
       (simp only[hw,Gu.sv,Gu.cells,J,Gu.bas,Gu.cnt,SV.tuple.injEq,SV.agg.injEq,List.cons.injEq,SV.int.injEq,SV.bool.injEq,true_and,and_true,eq_self])<;>(first|rfl|((repeat' apply And.intro)<;>first|rfl|omega|(unfold cla;(repeat' split)<;>omega)|grind)))
     |(have hw:g.way r t u=7:=by(unfold Gu.way;simp only[hok];simp (config:={zetaDelta:=false}) only[Gu.cnt];grind)
       unfold guS Gu.step Gu.duty
       (simp only[hw,Gu.sv,Gu.cells,J,Gu.bas,Gu.cnt,SV.tuple.injEq,SV.agg.injEq,List.cons.injEq,SV.int.injEq,SV.bool.injEq,true_and,and_true,eq_self])<;>(first|rfl|((repeat' apply And.intro)<;>first|rfl|omega|(unfold cla;(repeat' split)<;>omega)|grind)))
) (by kernel_rfl) (by kernel_rfl)
def z50:Fact:=qh3 162 fun c r=>.leaf (coS c r)
theorem yk4:z50.ok pP:=qh4 (xc6)
def qd3:Fact:=qj3 212 fun g r=>.node (decide (g.resE r=0)) (.leaf (.tuple [(g.rest r).sv,J 0])) (.leaf (.tuple [Gu.zero.sv,J (g.resE r)]))
theorem yt0:qd3.ok pP:=qj4 (fun g r=>by
 have h:=xo6 g r;constructor
 ·intro hd
  have hd:=of_decide_eq_true hd;rw[if_pos hd,hd]at h;exact h
 ·intro hd
  have hd:=of_decide_eq_false hd
  rw[if_neg hd]at h;exact h)
def z78:Fact:=qj1 163 fun g r t u=>.leaf (guS g r t u)
theorem yn1:z78.ok pP:=qj2 (xg4)
end Go.Proofs.YtnkaepnblikcdaaGreat
namespace Go.Proofs.YtnkaepnblikcdaaGreat.Gc
open Go.Sx
structure C where
 code:Int
 has:Int
 x:Int
 y:Int
 z:Int
 e:Int
 f:Int
 s:Int
def C.cells(c:C):List SV:=[J c.code,J c.has,J c.x,J c.y,J c.z,J c.e,J c.f,J c.s]
def C.sv(c:C):SV:=.agg c.cells
def oneS(k:Int):Prop:=k=4∨k=1104∨k=1109∨k=1140∨k=1190∨k=1106
def none0(k:Int):Prop:=k=28∨k=1024∨k=1025∨k=1107∨k=1112∨k=1999
instance (k:Int):Decidable (oneS k):=by unfold oneS;infer_instance
instance (k:Int):Decidable (none0 k):=by unfold none0;infer_instance
def may(k:Int):Int:=if k=0 then 23 else if k=1 then 31 else if oneS k then 32 else 0
def allW(k:Int):Bool:=decide (oneS k)||decide (none0 k)
def okC(k:Int):Bool:=decide (k=0)||(decide (k=1)||(decide (oneS k)||decide (none0 k)))
def lo(k:Int)(w:Int):Int:=if w=4 then 1 else if w≠5 then -1073741824 else 0
def hi(k:Int)(w:Int):Int:=if w=4 then 1048576 else if w≠5 then 1073741824 else if k=4 then 1048576 else if k=1106 then 255 else 400000
def C.num(c:C)(w:Int):Int:=if w=0 then c.x else if w=1 then c.y else if w=2 then c.z else if w=3 then c.e else if w=4 then c.f else c.s
def factC(f:FuncId)(h:C→Tree SV):Fact:=⟨f,fun args=>match args with
 |[.agg [.int .i64 a0,.int .i64 a1,.int .i64 a2,.int .i64 a3,.int .i64 a4,.int .i64 a5,.int .i64 a6,.int .i64 a7]] =>some (h ⟨a0,a1,a2,a3,a4,a5,a6,a7⟩)
 |_=>none⟩
theorem factC_ok{P:Program}{f:FuncId}{h:C→Tree SV}(k:∀c,(h c).says (SCall P f [c.sv])):(factC f h).ok P:=fun args t ht=>by
 simp only[factC]at ht
 split at ht
 ·injection ht with ht;subst ht;exact k ⟨_,_,_,_,_,_,_,_⟩
 ·cases ht
def qg2:Fact:=qj8 140 fun k=>.leaf (.tuple [J (may k),.bool (allW k),.bool (okC k)])
def qd9:Fact:=qk1 142 fun k w=>.leaf (.tuple [J (lo k w),J (hi k w)])
def yW4(k w n:Int):Bool:=if w<4 then inR n (-1073741824) 1073741824 else if w=4 then inR n 1 1048576 else if k=4 then inR n 0 1048576 else if k=1106 then inR n 0 255 else inR n 0 400000
def z63:Fact:=⟨141,fun args=>match args with
 |[.ptr id off,.int .i64 w] =>some (.node (w==0) (.leaf (.ptr id (off+2))) (.node (w==1) (.leaf (.ptr id (off+3))) (.node (w==2) (.leaf (.ptr id (off+4))) (.node (w==3) (.leaf (.ptr id (off+5))) (.node (w==4) (.leaf (.ptr id (off+6))) (.leaf (.ptr id (off+7))))))))
 |_=>none⟩
theorem xu8(k:Int):SCall pP 140 [J k] (.tuple [J (may k),.bool (allW k),.bool (okC k)]):=
 o8 mix [] trivial 1000 (let z1:Plan:=.fork (.all) (.all);let z0:Plan:=.fork (.all) (.fork z1 (.fork z1 (.fork z1 (.fork z1 (.fork z1 z1)))));.fork (.all) (.fork (.all) (.fork z0 (.fork z0 (.fork z0 (.fork z0 (.fork z0 z0)))))))
  (t:=let y1:Tree SV:=.leaf (.tuple [J 0,.bool false,.bool false]);let y2:Tree SV:=.leaf (.tuple [J 32,.bool true,.bool true]);let y3:Tree SV:=.leaf (.tuple [J 0,.bool true,.bool true]);let y0:Tree SV:=.node (k==28) (.node (k==28) y3 y1) (.node (k==1024) (.node (k==1024) y3 y1) (.node (k==1025) (.node (k==1025) y3 y1) (.node (k==1107) (.node (k==1107) y3 y1) (.node (k==1112) (.node (k==1112) y3 y1) (.node (k==1999) y3 y1)))));.node (k==0) (.leaf (.tuple [J 23,.bool false,.bool true])) (.node (k==1) (.leaf (.tuple [J 31,.bool false,.bool true])) (.node (k==4) (.node (k==4) y2 y0) (.node (k==1104) (.node (k==1104) y2 y0) (.node (k==1109) (.node (k==1109) y2 y0) (.node (k==1140) (.node (k==1140) y2 y0) (.node (k==1190) (.node (k==1190) y2 y0) (.node (k==1106) y2 y0))))))))
  (by kernel_rfl) (by
   simp only[Tree.holds]
   repeat' (first|apply And.intro|intro _)
   all_goals(simp_all[may,allW,okC,lo,hi,oneS,none0,yW4,inR,J,C.sv,C.cells])) (by kernel_rfl) (by kernel_rfl)
theorem yw7:qg2.ok pP:=qk5 xu8
theorem xp8(k w:Int):SCall pP 142 [J k,J w] (.tuple [J (lo k w),J (hi k w)]):=
 o8 mix [] trivial 1000 (.fork (.all) (.fork (.all) (.fork (.all) (.fork (.all) (.all)))))
  (t:=.node (w==4)
 (.leaf (SV.tuple [J 1,J 1048576]))
 (.node (w != 5)
  (.leaf (SV.tuple [J (-1073741824),J 1073741824]))
  (.node (k==4)
   (.leaf (SV.tuple [J 0,J 1048576]))
   (.node (k==1106)
    (.leaf (SV.tuple [J 0,J 255]))
    (.leaf (SV.tuple [J 0,J 400000]))))))
   (by kernel_rfl) (by
    simp only[Tree.holds]
    repeat' (first|apply And.intro|intro _)
    all_goals(simp_all[may,allW,okC,lo,hi,oneS,none0,yW4,inR,J,C.sv,C.cells])) (by kernel_rfl) (by kernel_rfl)
theorem yt8:qd9.ok pP:=qk4 xp8
theorem hK{l:List Fact}(h:zo6 pP l):Known pP (Env.of pP (v7 l)):=qT6 mix (xI8 l h.all)
theorem xe9(id off:Nat)(w:Int):(Tree.node (w==0) (.leaf (.ptr id (off+2))) (.node (w==1) (.leaf (.ptr id (off+3))) (.node (w==2) (.leaf (.ptr id (off+4))) (.node (w==3) (.leaf (.ptr id (off+5))) (.node (w==4) (.leaf (.ptr id (off+6))) (.leaf (.ptr id (off+7)))))))).says (SCall pP 141 [.ptr id off,J w]):=by
 have key:∀v,(∀m,(z15 (Env.of pP (v7 [])) 1000 141 [.ptr id off,J w] .all m).holds fun x=>x=(v,m))→SCall pP 141 [.ptr id off,J w] v:=fun v h=>xw2 (hK (l:=[]) trivial) h
 have e:∀m,z15 (Env.of pP (v7 [])) 1000 141 [.ptr id off,J w] .all m=.node (w==0) (.leaf (.ptr id (off+2),m)) (.node (w==1) (.leaf (.ptr id (off+3),m)) (.node (w==2) (.leaf (.ptr id (off+4),m)) (.node (w==3) (.leaf (.ptr id (off+5),m)) (.node (w==4) (.leaf (.ptr id (off+6),m)) (.leaf (.ptr id (off+7),m)))))):=fun m=>by kernel_rfl
 simp only[Tree.says]
 refine⟨fun h=>key _ fun m=>?_,fun h1=>⟨fun h=>key _ fun m=>?_,fun h2=>⟨fun h=>key _ fun m=>?_,fun h3=>⟨fun h=>key _ fun m=>?_,fun h4=>⟨fun h=>key _ fun m=>?_,fun h5=>key _ fun m=>?_⟩⟩⟩⟩⟩<;>rw[e m]<;>simp_all[Tree.holds]
theorem yl6:z63.ok pP:=fun args t ht=>by
 simp only[z63]at ht
 split at ht
 ·injection ht with ht;subst ht;exact xe9 _ _ _
 ·cases ht
def xZ9:Plan:=.fork (.ln 9 (.lit .all)) (.ln 5 (.fork (.ln 3 (.lit .all)) (.lit (.fork (.ln 6 (.fork .all .all)) (.ln 6 (.lit .all))))))
noncomputable def x00(c:C):Tree Stop:=let y0:Tree Stop:=.leaf (.at (v5 pP 71 0) 64 (j9 64 [(1,.ptr 0 0),(35,J 0)]) [some (.cells [J c.code,J c.has,J c.x,J c.y,J c.z,J c.e,J c.f,J c.s])]); .node (!okC c.code) (.leaf (.done (.bool false))) (.node (i64.wrap ↑(BitVec.ofInt 64 c.has &&& ~~~BitVec.ofInt 64 (may c.code)).toNat != 0) (.leaf (.done (.bool false))) (.node (allW c.code) (.node (c.has != may c.code) (.leaf (.done (.bool false))) y0) y0))
theorem xZ8(c:C):w9 (Env.of pP (v7 [qg2,qd9,z63])) 1000 (j8 pP 71) .unit (x9 64 [1,35]) (u9 pP 71) xZ9 (u7 pP 71 [c.sv]) [] =x00 c:=by kernel_rfl
def x02:Plan:=let z1:Plan:=.fork (.ln 3 (.lit .all)) (.ln 3 (.fork .all .all));let z0:Plan:=.fork z1 z1;.fork (.fork z0 (.fork z0 (.fork z0 (.fork z0 (.fork z0 z0))))) .all
noncomputable def x03(c:C)(i:Int):Tree Stop:=let y0:Tree Stop:=.leaf (.at (v5 pP 71 0) 64 (j9 64 [(1,.ptr 0 0),(35,J (i64.wrap (i+1)))]) [some (.cells [J c.code,J c.has,J c.x,J c.y,J c.z,J c.e,J c.f,J c.s])]);let y1:Tree Stop:=.leaf (.done (.bool false));let y2:=i64.wrap ↑(BitVec.ofInt 64 (c.has.fdiv (2 ^ min i.toNat 64)) &&&BitVec.ofInt 64 1).toNat==0;let y3:=decide (0≤i); .node (decide (i<6)) (.node (i==0) (.req y3 (.node y2 (.node (decide (c.x<0)) y1 (.node (decide (c.x>0)) y1 y0)) (.node (decide (c.x<lo c.code i)) y1 (.node (decide (c.x>hi c.code i)) y1 y0)))) (.node (i==1) (.req y3 (.node y2 (.node (decide (c.y<0)) y1 (.node (decide (c.y>0)) y1 y0)) (.node (decide (c.y<lo c.code i)) y1 (.node (decide (c.y>hi c.code i)) y1 y0)))) (.node (i==2) (.req y3 (.node y2 (.node (decide (c.z<0)) y1 (.node (decide (c.z>0)) y1 y0)) (.node (decide (c.z<lo c.code i)) y1 (.node (decide (c.z>hi c.code i)) y1 y0)))) (.node (i==3) (.req y3 (.node y2 (.node (decide (c.e<0)) y1 (.node (decide (c.e>0)) y1 y0)) (.node (decide (c.e<lo c.code i)) y1 (.node (decide (c.e>hi c.code i)) y1 y0)))) (.node (i==4) (.req y3 (.node y2 (.node (decide (c.f<0)) y1 (.node (decide (c.f>0)) y1 y0)) (.node (decide (c.f<lo c.code i)) y1 (.node (decide (c.f>hi c.code i)) y1 y0)))) (.req y3 (.node y2 (.node (decide (c.s<0)) y1 (.node (decide (c.s>0)) y1 y0)) (.node (decide (c.s<lo c.code i)) y1 (.node (decide (c.s>hi c.code i)) y1 y0))))))))) (.leaf (.done (.bool true)))
theorem x01(c:C)(i:Int):w9 (Env.of pP (v7 [qg2,qd9,z63])) 1000 (j8 pP 71) .unit (x9 64 [1,35]) (v5 pP 71 0) x02 (j9 64 [(1,.ptr 0 0),(35,J i)]) [some (.cells c.cells)] =x03 c i:=by kernel_rfl
def bit(h i:Int):Int:=i64.wrap ↑(BitVec.ofInt 64 (h.fdiv (2 ^ min i.toNat 64)) &&&BitVec.ofInt 64 1).toNat
def andNot(h m:Int):Int:=i64.wrap ↑(BitVec.ofInt 64 h &&& ~~~BitVec.ofInt 64 m).toNat
def okW(c:C)(i:Int):Bool:=if bit c.has i=0 then c.num i==0 else inR (c.num i) (lo c.code i) (hi c.code i)
def rest(c:C):Nat→Bool
 |0=>true
 |n+1=>okW c (5-n)&&rest c n
theorem y34(c:C){i:Int}(h:0≤i)(h6:i<6):rest c (6-i).toNat=(okW c i&&rest c (6-(i+1)).toNat):=by
 obtain⟨n,hn⟩:∃n:Nat,(6-i).toNat=n+1:=⟨(5-i).toNat,by omega⟩;rw[hn,show(6-(i+1)).toNat=n by omega,rest,show(5:Int)-n=i by omega]
def C.pre(c:C):Bool:=okC c.code&& (andNot c.has (may c.code)==0&&!(allW c.code&&!(c.has==may c.code)))
def C.valid(c:C):Bool:=c.pre&&rest c 6
noncomputable def stV(c:C)(i:Int):Stop:=Stop.at (v5 pP 71 0) 64 (j9 64 [(1,SV.ptr 0 0),(35,J i)]) [some (Box.cells c.cells)]
theorem qM0{n l h:Int}:inR n l h=true↔l≤n∧n≤h:=by
 rw[inR,Bool.and_eq_true,decide_eq_true_eq,decide_eq_true_eq]
theorem ye3(c:C):c.num 0=c.x:=rfl
theorem ye4(c:C):c.num 1=c.y:=rfl
theorem ye5(c:C):c.num 2=c.z:=rfl
theorem ye6(c:C):c.num 3=c.e:=rfl
theorem ye7(c:C):c.num 4=c.f:=rfl
theorem ye8(c:C):c.num 5=c.s:=rfl
theorem yz4{c:C}{i n:Int}(hn:c.num i=n):(okW c i=true↔(bit c.has i=0∧n=0)∨(bit c.has i≠0∧lo c.code i≤n∧n≤hi c.code i)):=by
 unfold okW;rw[hn]
 by_cases h:bit c.has i=0
 ·simp[h]
 ·simp[h,qM0]
theorem x08{c:C}{i:Int}(h0:0≤i)(Q:Stop→Prop)(q0:6≤i→Q (.done (.bool true)))(q1:i<6→¬okW c i=true→Q (.done (.bool false)))(q2:i<6→okW c i=true→Q (stV c (i+1))):(x03 c i).holds Q:=by
 have wi:i<6→i64.wrap (i+1)=i+1:=fun h=>x81 (by omega) (by omega)
 have eb:i64.wrap ↑(BitVec.ofInt 64 (c.has.fdiv (2 ^ min i.toNat 64)) &&&BitVec.ofInt 64 1).toNat=bit c.has i:=rfl;unfold x03;rw[eb];unfold stV C.cells at q2
 have key:∀n,c.num i=n→i<6→(Tree.node (bit c.has i==0)
   (.node (decide (n<0)) (.leaf (Stop.done (SV.bool false))) (.node (decide (n>0)) (.leaf (Stop.done (SV.bool false))) (.leaf (Stop.at (v5 pP 71 0) 64 (j9 64 [(1,SV.ptr 0 0),(35,J (i64.wrap (i+1)))]) [some (Box.cells [J c.code,J c.has,J c.x,J c.y,J c.z,J c.e,J c.f,J c.s])]))))
   (.node (decide (n<lo c.code i)) (.leaf (Stop.done (SV.bool false))) (.node (decide (n>hi c.code i)) (.leaf (Stop.done (SV.bool false))) (.leaf (Stop.at (v5 pP 71 0) 64 (j9 64 [(1,SV.ptr 0 0),(35,J (i64.wrap (i+1)))]) [some (Box.cells [J c.code,J c.has,J c.x,J c.y,J c.z,J c.e,J c.f,J c.s])]))))).holds Q:=by
  intro n hn h6;have ok:=yz4 (c:=c) hn;rw[wi h6];simp only[Tree.holds,beq_iff_eq,beq_eq_false_iff_ne,decide_eq_true_eq,decide_eq_false_iff_not]
  repeat' (first|apply And.intro|intro _)
  all_goals first
   |(refine q1 h6 ?_;rw[ok];omega)
   |(refine q2 h6 ?_;rw[ok];omega)
 simp only[Tree.holds,beq_iff_eq,beq_eq_false_iff_ne,decide_eq_true_eq,decide_eq_false_iff_not]at key ⊢;refine⟨fun h6=>⟨?_,fun n0=>⟨?_,fun n1=>⟨?_,fun n2=>⟨?_,fun n3=>⟨?_,fun n4=>?_⟩⟩⟩⟩⟩,fun h=>q0 (by omega)⟩
 ·rintro rfl;exact⟨h0,key _ (ye3 c) h6⟩
 ·rintro rfl;exact⟨h0,key _ (ye4 c) h6⟩
 ·rintro rfl;exact⟨h0,key _ (ye5 c) h6⟩
 ·rintro rfl;exact⟨h0,key _ (ye6 c) h6⟩
 ·rintro rfl;exact⟨h0,key _ (ye7 c) h6⟩
 ·obtain rfl:i=5:=by omega
  exact⟨h0,key _ (ye8 c) h6⟩
theorem fsV:zo6 pP [qg2,qd9,z63] :=⟨yw7,yt8,yl6,trivial⟩
theorem x09(c:C)(v:Bool):∀i:Int,(0≤i∧i≤6∧v=rest c (6-i).toNat)→b9 pP (j8 pP 71) (.bool v) (v5 pP 71 0) (j9 64 [(1,.ptr 0 0),(35,J i)]) [some (.cells c.cells)] :=by
 refine y88 (hK fsV) (n:=1000) (hint:=.unit) rfl (fun i:Int=>0≤i∧i≤6∧v=rest c (6-i).toNat) (fun i=>(6-i).toNat) (x9 64 [1,35]) (fun _=>v5 pP 71 0) (fun i=>j9 64 [(1,.ptr 0 0),(35,J i)]) (fun _=>[some (.cells c.cells)]) (fun _=>x02) fun i hi=>?_
 obtain⟨h0,h6,hv⟩:=hi;rw[x01];refine x08 h0 _ (fun h=>?_) (fun h hw=>?_) (fun h hw=>?_)
 ·show SV.bool true=SV.bool v
  rw[hv,show(6-i).toNat=0 by omega];rfl
 ·show SV.bool false=SV.bool v
  rw[hv,y34 c h0 h];simp[hw]
 ·refine⟨o9 _ _,.inl ⟨i+1,⟨by omega,by omega,?_⟩,by omega,rfl,rfl,rfl⟩⟩
  rw[hv,y34 c h0 h,hw,Bool.true_and]
theorem s_valid(c:C):SCall pP 71 [c.sv] (.bool c.valid):=by
 refine m6 rfl rfl (by kernel_rfl) (w6 (hK fsV) (n:=1000) (hint:=.unit) (keep:=x9 64 [1,35]) (p:=xZ9) (boxes:=[]) rfl ?_);have e:=xZ8 c;unfold u7 u9 at e;erw [e];unfold x00;have ea:i64.wrap ↑(BitVec.ofInt 64 c.has &&& ~~~BitVec.ofInt 64 (may c.code)).toNat=andNot c.has (may c.code):=rfl;rw[ea];simp only[Tree.holds,Bool.not_eq_true',Bool.not_eq_false',bne_iff_ne,bne_eq_false_iff_eq];refine⟨fun h=>?_,fun h=>⟨fun h2=>?_,fun h2=>⟨fun h3=>⟨fun h4=>?_,fun h4=>?_⟩,fun h3=>?_⟩⟩⟩
 ·simp[C.valid,C.pre,h]
 ·simp[C.valid,C.pre,h,h2]
 ·simp[C.valid,C.pre,h,h2,h3,h4]
 ·exact⟨o9 _ _,x09 c _ 0 ⟨by omega,by omega,by
   have:c.pre=true:=by
    simp only[C.pre,h,h3,h2];rw[show(c.has==may c.code)=true by simpa using h4];rfl
   rw[C.valid,this,Bool.true_and];rfl⟩⟩
 ·exact⟨o9 _ _,x09 c _ 0 ⟨by omega,by omega,by simp[C.valid,C.pre,h,h2,h3]⟩⟩
end Go.Proofs.YtnkaepnblikcdaaGreat.Gc
namespace Go.Proofs.YtnkaepnblikcdaaGreat
open Go.Sx
def V3.cells(v:V3):List SV:=[J v.1,J v.2.1,J v.2.2]
structure Fw where
 ma:Ma
 mode:Int
 homed:Bool
 pos:V4
 loc:V3
 e:Int
 feed:Int
 queue:List Bk
 lines:List Int
 mo:Mo
 moving:Bool
 active:Int
 back:Bool
 ret:V4
 dwell:Int
 waits:Int
 c0:Co
 c1:Co
 g0:Gu
 g1:Gu
 fan:Int
 line:Int
 ticks:Int
 cold:Int
 r0:Int
 r1:Int
def Fw.cells(f:Fw):List SV:=[J f.ma.x.num,J f.ma.x.den,J f.ma.x.speed,J f.ma.x.accel,J f.ma.x.jerk,J f.ma.x.min,J f.ma.x.max,J f.ma.y.num,J f.ma.y.den,J f.ma.y.speed,
 J f.ma.y.accel,J f.ma.y.jerk,J f.ma.y.min,J f.ma.y.max,J f.ma.z.num,J f.ma.z.den,J f.ma.z.speed,J f.ma.z.accel,J f.ma.z.jerk,J f.ma.z.min,
 J f.ma.z.max,J f.ma.e.num,J f.ma.e.den,J f.ma.e.speed,J f.ma.e.accel,J f.ma.e.jerk,J f.ma.e.min,J f.ma.e.max,.bool f.ma.xy,J f.ma.ticks,
 J f.mode,.bool f.homed,J f.pos.1,J f.pos.2.1,J f.pos.2.2.1,J f.pos.2.2.2,J f.loc.1,J f.loc.2.1,J f.loc.2.2,J f.e,
 J f.feed,LB f.queue,LI f.lines,J f.mo.1.1.1,J f.mo.1.1.2.1,J f.mo.1.1.2.2.1,J f.mo.1.1.2.2.2,J f.mo.1.2.1,J f.mo.1.2.2.1,J f.mo.1.2.2.2.1,
 J f.mo.1.2.2.2.2,J f.mo.2.1,J f.mo.2.2,.bool f.moving,J f.active,.bool f.back,J f.ret.1,J f.ret.2.1,J f.ret.2.2.1,J f.ret.2.2.2,
 J f.dwell,J f.waits,J f.c0.target,J f.c0.kp,J f.c0.ki,J f.c0.scale,J f.c0.sum,J f.c0.limit,J f.c1.target,J f.c1.kp,
 J f.c1.ki,J f.c1.scale,J f.c1.sum,J f.c1.limit,J f.g0.low,J f.g0.high,J f.g0.watch,J f.g0.rise,J f.g0.band,J f.g0.base,
 J f.g0.count,J f.g0.idle,J f.g0.quiet,J f.g0.fault,.bool f.g0.door,J f.g1.low,J f.g1.high,J f.g1.watch,J f.g1.rise,J f.g1.band,
 J f.g1.base,J f.g1.count,J f.g1.idle,J f.g1.quiet,J f.g1.fault,.bool f.g1.door,J f.fan,J f.line,J f.ticks,J f.cold,
 J f.r0,J f.r1]
def Fw.sv(f:Fw):SV:=.agg f.cells
inductive NilL:SV→SV→Prop where
 |same (x:SV):NilL x x
 |nil (t:Ty):NilL .nilS (.list t [])
def j6:List SV→List SV→Prop
 |[],[] =>True
 |x::xs,y::ys=>NilL x y∧j6 xs ys
 |_,_=>False
theorem j6.refl:∀l:List SV,j6 l l
 |[] =>trivial
 |x::l=>⟨.same x,j6.refl l⟩
theorem j6.append:∀{a b c d:List SV},j6 a b→j6 c d→j6 (a++c) (b++d)
 |[],[],_,_,_,h=>h
 |x::xs,y::ys,_,_,h,k=>⟨h.1,h.2.append k⟩
theorem NilL.rep{R:Nat→Prop}{ρ:Rho}{n:Nat}{w:World}{x y:SV}{v:Value}(h:NilL x y)(hr:Rep R ρ n w x v):Rep R ρ n w y v:=by
 cases h with
 |same=>exact hr
 |nil t=>exact⟨none,0,by rw[show v=_ from hr];rfl,Nat.le_refl _,fun h=>absurd h (Nat.lt_irrefl _)⟩
theorem j6.rep{R:Nat→Prop}{ρ:Rho}{n:Nat}{w:World}:∀{xs ys:List SV} {vs:List Value},j6 xs ys→j7 R ρ n w xs vs→j7 R ρ n w ys vs
 |[],[],_,_,hr=>hr
 |x::xs,y::ys,_,h,hr=>by
  obtain⟨u,us,rfl,h1,h2⟩:=hr;exact⟨u,us,rfl,h.1.rep h1,h.2.rep h2⟩
theorem xw6{P:Program}{f:FuncId}{cs ds:List SV}{rest:List SV}{v:SV}(hn:j6 cs ds)(h:SCall P f (.agg ds::rest) v):SCall P f (.agg cs::rest) v:=by
 intro m w0 R0 ρ w vs hm hvs;obtain⟨u,us,rfl,⟨ws,h1,h2⟩,h3⟩:=hvs;exact h m w0 R0 ρ w _ hm ⟨u,us,rfl,⟨ws,h1,hn.rep h2⟩,h3⟩
def tkI:List SV→Option (Int×List SV)
 |.int .i64 a0::r=>some (a0,r)
 |_=>none
theorem xO8{l r:List SV}{x:Int}(h:tkI l=some (x,r)):j6 l ([J x] ++r):=by
 unfold tkI at h
 split at h
 ·cases h;exact j6.refl _
 ·cases h
def tkT:List SV→Option (Bool×List SV)
 |.bool b::r=>some (b,r)
 |_=>none
theorem xQ4{l r:List SV}{x:Bool}(h:tkT l=some (x,r)):j6 l ([SV.bool x] ++r):=by
 unfold tkT at h
 split at h
 ·cases h;exact j6.refl _
 ·cases h
def xQ7:List SV→Option (V4×List SV)
 |.int .i64 a0::.int .i64 a1::.int .i64 a2::.int .i64 a3::r=>some ((a0,a1,a2,a3),r)
 |_=>none
theorem xQ8{l r:List SV}{x:V4}(h:xQ7 l=some (x,r)):j6 l (V4.cells x++r):=by
 unfold xQ7 at h
 split at h
 ·cases h;exact j6.refl _
 ·cases h
def xQ5:List SV→Option (V3×List SV)
 |.int .i64 a0::.int .i64 a1::.int .i64 a2::r=>some ((a0,a1,a2),r)
 |_=>none
theorem xQ6{l r:List SV}{x:V3}(h:xQ5 l=some (x,r)):j6 l (V3.cells x++r):=by
 unfold xQ5 at h
 split at h
 ·cases h;exact j6.refl _
 ·cases h
def xP2:List SV→Option (Mo×List SV)
 |.int .i64 a0::.int .i64 a1::.int .i64 a2::.int .i64 a3::.int .i64 a4::.int .i64 a5::.int .i64 a6::.int .i64 a7::.int .i64 a8::.int .i64 a9::r=>some ((((a0,a1,a2,a3),a4,a5,a6,a7),a8,a9),r)
 |_=>none
theorem xP3{l r:List SV}{x:Mo}(h:xP2 l=some (x,r)):j6 l (Mo.cells x++r):=by
 unfold xP2 at h
 split at h
 ·cases h;exact j6.refl _
 ·cases h
def xO2:List SV→Option (Co×List SV)
 |.int .i64 a0::.int .i64 a1::.int .i64 a2::.int .i64 a3::.int .i64 a4::.int .i64 a5::r=>some (⟨a0,a1,a2,a3,a4,a5⟩,r)
 |_=>none
theorem xO3{l r:List SV}{x:Co}(h:xO2 l=some (x,r)):j6 l (Co.cells x++r):=by
 unfold xO2 at h
 split at h
 ·cases h;exact j6.refl _
 ·cases h
def xO6:List SV→Option (Gu×List SV)
 |.int .i64 a0::.int .i64 a1::.int .i64 a2::.int .i64 a3::.int .i64 a4::.int .i64 a5::.int .i64 a6::.int .i64 a7::.int .i64 a8::.int .i64 a9::.bool d::r=>some (⟨a0,a1,a2,a3,a4,a5,a6,a7,a8,a9,d⟩,r)
 |_=>none
theorem xO7{l r:List SV}{x:Gu}(h:xO6 l=some (x,r)):j6 l (Gu.cells x++r):=by
 unfold xO6 at h
 split at h
 ·cases h;exact j6.refl _
 ·cases h
def xO0:List SV→Option (Ax×List SV)
 |.int .i64 a0::.int .i64 a1::.int .i64 a2::.int .i64 a3::.int .i64 a4::.int .i64 a5::.int .i64 a6::r=>some (⟨a0,a1,a2,a3,a4,a5,a6⟩,r)
 |_=>none
theorem xO1{l r:List SV}{x:Ax}(h:xO0 l=some (x,r)):j6 l (Ax.cells x++r):=by
 unfold xO0 at h
 split at h
 ·cases h;exact j6.refl _
 ·cases h
def tkQ:List SV→Option (List Bk×List SV)
 |.list (.pair (.pair (.int .i64) (.pair (.int .i64) (.pair (.int .i64) (.int .i64)))) (.pair (.int .i64) (.pair (.int .i64) (.pair (.int .i64) (.int .i64))))) l::r=>some (l,r)
 |.nilS::r=>some ([],r)
 |_=>none
theorem xQ3{l r:List SV}{x:List Bk}(h:tkQ l=some (x,r)):j6 l ([LB x] ++r):=by
 unfold tkQ at h
 split at h
 ·cases h;exact j6.refl _
 ·cases h;exact⟨.nil _,j6.refl _⟩
 ·cases h
def tkL:List SV→Option (List Int×List SV)
 |.list (.int .i64) l::r=>some (l,r)
 |.nilS::r=>some ([],r)
 |_=>none
theorem xO9{l r:List SV}{x:List Int}(h:tkL l=some (x,r)):j6 l ([LI x] ++r):=by
 unfold tkL at h
 split at h
 ·cases h;exact j6.refl _
 ·cases h;exact⟨.nil _,j6.refl _⟩
 ·cases h
theorem NilL.trans{x y z:SV}(h:NilL x y)(k:NilL y z):NilL x z:=by
 cases h with
 |same=>exact k
 |nil t=>cases k;exact .nil t
theorem j6.trans:∀{a b c:List SV},j6 a b→j6 b c→j6 a c
 |[],[],[],_,_=>trivial
 |_::_,_::_,_::_,h,k=>⟨h.1.trans k.1,j6.trans h.2 k.2⟩
def xP0(l:List SV):Option (Ma×List SV):=
 match xO0 l with
 |none=>none
 |some (x,l1)=>
   match xO0 l1 with
   |none=>none
   |some (y,l2)=>
     match xO0 l2 with
     |none=>none
     |some (z,l3)=>
       match xO0 l3 with
       |none=>none
       |some (e,l4)=>
         match tkT l4 with
         |none=>none
         |some (b,l5)=>
           match tkI l5 with
           |none=>none
           |some (t,l6)=>
             some (⟨x,y,z,e,b,t⟩,l6)
theorem xP1{l r:List SV}{x:Ma}(h:xP0 l=some (x,r)):j6 l (Ma.cells x++r):=by
 unfold xP0 at h
 split at h
 ·cases h
 rename_i x l1 h1
 split at h
 ·cases h
 rename_i y l2 h2
 split at h
 ·cases h
 rename_i z l3 h3
 split at h
 ·cases h
 rename_i e l4 h4
 split at h
 ·cases h
 rename_i b l5 h5
 split at h
 ·cases h
 rename_i t l6 h6
 cases h
 have k6:=xO8 h6;have k5:=j6.trans (xQ4 h5) (j6.append (j6.refl _) k6);have k4:=j6.trans (xO1 h4) (j6.append (j6.refl _) k5);have k3:=j6.trans (xO1 h3) (j6.append (j6.refl _) k4);have k2:=j6.trans (xO1 h2) (j6.append (j6.refl _) k3);have k1:=j6.trans (xO1 h1) (j6.append (j6.refl _) k2);exact k1
def xO4(l:List SV):Option (Fw×List SV):=
 match xP0 l with
 |none=>none
 |some (y0,l1)=>
   match tkI l1 with
   |none=>none
   |some (y1,l2)=>
     match tkT l2 with
     |none=>none
     |some (y2,l3)=>
       match xQ7 l3 with
       |none=>none
       |some (y3,l4)=>
         match xQ5 l4 with
         |none=>none
         |some (y4,l5)=>
           match tkI l5 with
           |none=>none
           |some (y5,l6)=>
             match tkI l6 with
             |none=>none
             |some (y6,l7)=>
               match tkQ l7 with
               |none=>none
               |some (y7,l8)=>
                 match tkL l8 with
                 |none=>none
                 |some (y8,l9)=>
                   match xP2 l9 with
                   |none=>none
                   |some (y9,l10)=>
                     match tkT l10 with
                     |none=>none
                     |some (y10,l11)=>
                       match tkI l11 with
                       |none=>none
                       |some (y11,l12)=>
                         match tkT l12 with
                         |none=>none
                         |some (y12,l13)=>
                           match xQ7 l13 with
                           |none=>none
                           |some (y13,l14)=>
                             match tkI l14 with
                             |none=>none
                             |some (y14,l15)=>
                               match tkI l15 with
                               |none=>none
                               |some (y15,l16)=>
                                 match xO2 l16 with
                                 |none=>none
                                 |some (y16,l17)=>
                                   match xO2 l17 with
                                   |none=>none
                                   |some (y17,l18)=>
                                     match xO6 l18 with
                                     |none=>none
                                     |some (y18,l19)=>
                                       match xO6 l19 with
                                       |none=>none
                                       |some (y19,l20)=>
                                         match tkI l20 with
                                         |none=>none
                                         |some (y20,l21)=>
                                           match tkI l21 with
                                           |none=>none
                                           |some (y21,l22)=>
                                             match tkI l22 with
                                             |none=>none
                                             |some (y22,l23)=>
                                               match tkI l23 with
                                               |none=>none
                                               |some (y23,l24)=>
                                                 match tkI l24 with
                                                 |none=>none
                                                 |some (y24,l25)=>
                                                   match tkI l25 with
                                                   |none=>none
                                                   |some (y25,l26)=>
                                                     some (⟨y0,y1,y2,y3,y4,y5,y6,y7,y8,y9,y10,y11,y12,y13,y14,y15,y16,y17,y18,y19,y20,y21,y22,y23,y24,y25⟩,l26)
theorem xO5{l r:List SV}{x:Fw}(h:xO4 l=some (x,r)):j6 l (Fw.cells x++r):=by
 unfold xO4 at h
 split at h
 ·cases h
 rename_i y0 l1 h1
 split at h
 ·cases h
 rename_i y1 l2 h2
 split at h
 ·cases h
 rename_i y2 l3 h3
 split at h
 ·cases h
 rename_i y3 l4 h4
 split at h
 ·cases h
 rename_i y4 l5 h5
 split at h
 ·cases h
 rename_i y5 l6 h6
 split at h
 ·cases h
 rename_i y6 l7 h7
 split at h
 ·cases h
 rename_i y7 l8 h8
 split at h
 ·cases h
 rename_i y8 l9 h9
 split at h
 ·cases h
 rename_i y9 l10 h10
 split at h
 ·cases h
 rename_i y10 l11 h11
 split at h
 ·cases h
 rename_i y11 l12 h12
 split at h
 ·cases h
 rename_i y12 l13 h13
 split at h
 ·cases h
 rename_i y13 l14 h14
 split at h
 ·cases h
 rename_i y14 l15 h15
 split at h
 ·cases h
 rename_i y15 l16 h16
 split at h
 ·cases h
 rename_i y16 l17 h17
 split at h
 ·cases h
 rename_i y17 l18 h18
 split at h
 ·cases h
 rename_i y18 l19 h19
 split at h
 ·cases h
 rename_i y19 l20 h20
 split at h
 ·cases h
 rename_i y20 l21 h21
 split at h
 ·cases h
 rename_i y21 l22 h22
 split at h
 ·cases h
 rename_i y22 l23 h23
 split at h
 ·cases h
 rename_i y23 l24 h24
 split at h
 ·cases h
 rename_i y24 l25 h25
 split at h
 ·cases h
 rename_i y25 l26 h26
 cases h
 have k26:=xO8 h26;have k25:=j6.trans (xO8 h25) (j6.append (j6.refl _) k26);have k24:=j6.trans (xO8 h24) (j6.append (j6.refl _) k25);have k23:=j6.trans (xO8 h23) (j6.append (j6.refl _) k24);have k22:=j6.trans (xO8 h22) (j6.append (j6.refl _) k23);have k21:=j6.trans (xO8 h21) (j6.append (j6.refl _) k22);have k20:=j6.trans (xO7 h20) (j6.append (j6.refl _) k21);have k19:=j6.trans (xO7 h19) (j6.append (j6.refl _) k20);have k18:=j6.trans (xO3 h18) (j6.append (j6.refl _) k19);have k17:=j6.trans (xO3 h17) (j6.append (j6.refl _) k18);have k16:=j6.trans (xO8 h16) (j6.append (j6.refl _) k17);have k15:=j6.trans (xO8 h15) (j6.append (j6.refl _) k16);have k14:=j6.trans (xQ8 h14) (j6.append (j6.refl _) k15);have k13:=j6.trans (xQ4 h13) (j6.append (j6.refl _) k14);have k12:=j6.trans (xO8 h12) (j6.append (j6.refl _) k13);have k11:=j6.trans (xQ4 h11) (j6.append (j6.refl _) k12);have k10:=j6.trans (xP3 h10) (j6.append (j6.refl _) k11);have k9:=j6.trans (xO9 h9) (j6.append (j6.refl _) k10);have k8:=j6.trans (xQ3 h8) (j6.append (j6.refl _) k9);have k7:=j6.trans (xO8 h7) (j6.append (j6.refl _) k8);have k6:=j6.trans (xO8 h6) (j6.append (j6.refl _) k7);have k5:=j6.trans (xQ6 h5) (j6.append (j6.refl _) k6);have k4:=j6.trans (xQ8 h4) (j6.append (j6.refl _) k5);have k3:=j6.trans (xQ4 h3) (j6.append (j6.refl _) k4);have k2:=j6.trans (xO8 h2) (j6.append (j6.refl _) k3);have k1:=j6.trans (xP1 h1) (j6.append (j6.refl _) k2);exact k1
def zq4(l:List SV):Option Fw:=match xO4 l with
 |some (f,r)=>match r with
  |[] =>some f
  |_=>none
 |none=>none
theorem zq5{l:List SV}{f:Fw}(h:zq4 l=some f):j6 l f.cells:=by
 unfold zq4 at h
 split at h
 ·split at h
  ·rename_i h1
   injection h with h;subst h;have:=xO5 h1
   rwa [List.append_nil]at this
  ·cases h
 ·cases h
def qi8(f:FuncId)(h:Fw→List SV→Option (Tree SV)):Fact:=⟨f,fun args=>match args with
 |.agg l::rest=>match zq4 l with
  |some x=>h x rest
  |none=>none
 |_=>none⟩
theorem xw0{P:Program}{f:FuncId}{a b:List SV}(h:∀v,SCall P f a v→SCall P f b v):∀t:Tree SV,t.says (SCall P f a)→t.says (SCall P f b)
 |.leaf v,k=>h v k
 |.node _ t u,k=>⟨fun hb=>xw0 h t (k.1 hb),fun hb=>xw0 h u (k.2 hb)⟩
 |.req _ t,k=>fun hb=>xw0 h t (k hb)
 |.fail _,_=>trivial
theorem qi9{P:Program}{f:FuncId}{h:Fw→List SV→Option (Tree SV)}(k:∀x rest t,h x rest=some t→t.says (SCall P f (x.sv::rest))):(qi8 f h).ok P:=fun args t ht=>by
 simp only[qi8]at ht
 split at ht
 ·split at ht
  ·rename_i hx
   exact xw0 (fun v hv=>xw6 (zq5 hx) hv) t (k _ _ _ ht)
  ·cases ht
 ·cases ht
def qh6(f:FuncId)(h:Fw→Tree SV):Fact:=qi8 f fun x rest=>match rest with
 |[] =>some (h x)
 |_=>none
theorem qh7{P:Program}{f:FuncId}{h:Fw→Tree SV}(k:∀x,(h x).says (SCall P f [x.sv])):(qh6 f h).ok P:=qi9 fun x rest t ht=>by
 split at ht
 ·injection ht with ht;subst ht;exact k x
 ·cases ht
def yM1(f:Fw):Bool:=f.ma.ok&& (f.c0.ok&& (f.c1.ok&& (f.g0.ok&&f.g1.ok)))
theorem yM2{f:Fw}:yM1 f=true↔f.ma.ok=true∧f.c0.ok=true∧f.c1.ok=true∧f.g0.ok=true∧f.g1.ok=true:=by simp only[yM1,Bool.and_eq_true]
def far(n:Int):Bool:=inR n (-16777216) 16777216
def q57(f:Fw):Bool:=inR f.mode 1 3
def yf1(f:Fw):Bool:=far f.loc.1&& (far f.loc.2.1&& (far f.loc.2.2&& (far f.e&& (inR f.feed 0 1048576&& (inR f.dwell 0 1048576&& (inR f.waits 0 3&& (inR f.fan 0 255&& (inR f.line 0 1099511627776&& (inR f.active 0 1099511627776&& (inR f.ticks 0 1099511627776&&inR f.cold 0 400000))))))))))
theorem yf2{f:Fw}:yf1 f=true↔(-16777216≤f.loc.1∧f.loc.1≤16777216)∧(-16777216≤f.loc.2.1∧f.loc.2.1≤16777216)∧(-16777216≤f.loc.2.2∧f.loc.2.2≤16777216)∧(-16777216≤f.e∧f.e≤16777216)∧(0≤f.feed∧f.feed≤1048576)∧(0≤f.dwell∧f.dwell≤1048576)∧(0≤f.waits∧f.waits≤3)∧(0≤f.fan∧f.fan≤255)∧(0≤f.line∧f.line≤1099511627776)∧(0≤f.active∧f.active≤1099511627776)∧(0≤f.ticks∧f.ticks≤1099511627776)∧0≤f.cold∧f.cold≤400000:=by simp only[yf1,far,Bool.and_eq_true,v8]
def q54(f:Fw):Bool:=q57 f&&yf1 f
theorem q55{f:Fw}:q54 f=true↔(1≤f.mode∧f.mode≤3)∧yf1 f=true:=by simp only[q54,q57,Bool.and_eq_true,v8]
theorem xm6(f:Fw):SCall pP 86 [f.sv] (.bool (yM1 f)):=
 o8 mix [z99,z49,z79] ⟨yp0,yk3,yn2,trivial⟩ 1000 (.fork (.ln 4 (.fork (.ln 4 (.fork (.ln 4 (.fork (.ln 3 (.lit .all)) (.ln 3 (.lit .all)))) (.ln 8 (.lit .all)))) (.ln 13 (.lit .all)))) (.ln 18 (.lit .all)))
  (t:=.node (f.ma.ok)
 (.req (true) (.node (f.c0.ok)
   (.req (true) (.node (f.c1.ok)
     (.req (true) (.node (f.g0.ok)
       (.req (true) (.leaf (SV.bool f.g1.ok)))
       (.leaf (SV.bool false))))
     (.leaf (SV.bool false))))
   (.leaf (SV.bool false))))
 (.leaf (SV.bool false)))
   (by kernel_rfl) (by simp only[Tree.holds,sL,ne_eq,sLb,sLc,eq_self,sLd,sLe,sLf];(repeat' (first|apply And.intro|intro _));all_goals(refine qG6 ?_;rw[yM2];(try simp only[sL,ne_eq,sLb,sLc,eq_self,sLd,sLe,sLf]); first|omega|grind)) (by kernel_rfl) (by kernel_rfl)
theorem xl6(f:Fw):SCall pP 87 [f.sv] (.bool (q54 f)):=
 o8 mix [] trivial 1000 (let z1:Plan:=.ln 10 (.lit .all);let z0:Plan:=.fork (.ln 3 (.fork (.ln 16 (.lit .all)) (.ln 3 (.fork (.ln 5 (.fork z1 (.ln 3 (.fork (.ln 5 (.fork (.ln 4 (.lit .all)) (.lit (.lit (.fork (.ln 5 (.fork .all (.fork (.ln 3 (.fork (.ln 14 (.lit .all)) (.lit (.lit (.fork (.ln 5 (.fork (.ln 9 (.lit .all)) (.lit (.lit (.fork (.ln 5 (.fork (.ln 4 (.lit .all)) (.lit (.lit (.fork (.ln 5 (.fork .all (.fork (.ln 3 (.fork (.lit (.lit (.fork (.ln 4 (.fork (.lit (.lit (.fork (.ln 4 (.fork (.lit (.lit (.fork (.ln 3 (.lit .all)) (.ln 3 (.lit .all))))) (.lit (.lit (.lit .all))))) (.ln 7 (.lit .all))))) (.ln 6 (.lit .all)))) (.ln 11 (.lit .all))))) z1)) (.ln 14 (.lit .all))))) (.ln 5 (.lit .all))))))) z1))))) (.ln 15 (.lit .all))))))) (.ln 18 (.lit .all))))) (.ln 5 (.lit .all))))))) z1)))) (.ln 16 (.lit .all)))))) (.ln 20 (.lit .all));.fork (.ln 3 (.fork (.ln 3 (.fork .all z0)) (.ln 4 z0))) (.ln 8 z0))
  (t:=let y1:Tree SV:=.leaf (.bool false);let y0:Tree SV:=.node (decide (f.loc.1≥-16777216)) (.node (!decide (f.loc.1≤16777216)) y1 (.node (decide (f.loc.2.1≥-16777216)) (.node (!decide (f.loc.2.1≤16777216)) y1 (.node (decide (f.loc.2.2≥-16777216)) (.node (!decide (f.loc.2.2≤16777216)) y1 (.node (decide (f.e≥-16777216)) (.node (!decide (f.e≤16777216)) y1 (.node (decide (f.feed≥0)) (.node (!decide (f.feed≤1048576)) y1 (.node (decide (f.dwell≥0)) (.node (!decide (f.dwell≤1048576)) y1 (.node (decide (f.waits≥0)) (.node (!decide (f.waits≤3)) y1 (.node (decide (f.fan≥0)) (.node (!decide (f.fan≤255)) y1 (.node (decide (f.line≥0)) (.node (decide (f.line≤1099511627776)) (.node (decide (f.active≥0)) (.node (decide (f.active≤1099511627776)) (.node (decide (f.ticks≥0)) (.node (decide (f.ticks≤1099511627776)) (.node (decide (f.cold≥0)) (.leaf (.bool (decide (f.cold≤400000)))) y1) y1) y1) y1) y1) y1) y1)) y1)) y1)) y1)) y1)) y1)) y1)) y1)) y1;.node (f.mode != 1) (.node (f.mode != 2) (.node (f.mode != 3) y1 y0) y0) y0)
  (by kernel_rfl) (by simp only[Tree.holds,sL,ne_eq,sLb,sLc,eq_self,sLd,sLe,sLf];(repeat' (first|apply And.intro|intro _));all_goals(refine qG6 ?_;rw[q55,yf2];(try simp only[sL,ne_eq,sLb,sLc,eq_self,sLd,sLe,sLf]); first|omega|grind)) (by kernel_rfl) (by kernel_rfl)
theorem xl3(c:V4):SCall pP 184 [V4.sv c] (.bool (v9 c)):=
 o8 mix [] trivial 1000 (.go (.lit (.fork (.ln 3 (.fork .all (.go (.lit (.fork (.ln 3 (.fork .all (.go (.lit (.fork (.ln 3 (.fork .all (.go (.lit (.fork (.ln 3 (.fork .all (.go (.lit .all)))) (.ln 3 (.lit .all))))))) (.ln 3 (.lit .all))))))) (.ln 3 (.lit .all))))))) (.ln 3 (.lit .all)))))
  (t:=let y0:Tree SV:=.leaf (.bool false);.req (true) (.node (decide (c.1≥-16777216)) (.node (!decide (c.1≤16777216)) y0 (.req true (.node (decide (c.2.1≥-16777216)) (.node (!decide (c.2.1≤16777216)) y0 (.req true (.node (decide (c.2.2.1≥-16777216)) (.node (!decide (c.2.2.1≤16777216)) y0 (.req true (.node (decide (c.2.2.2≥-16777216)) (.node (!decide (c.2.2.2≤16777216)) y0 (.leaf (.bool true))) y0))) y0))) y0))) y0))
  (by kernel_rfl) (by simp only[Tree.holds,sL,ne_eq,sLb,sLc,eq_self,sLd,sLe,sLf];(repeat' (first|apply And.intro|intro _));all_goals(refine qG6 ?_;rw[r8];(try simp only[sL,ne_eq,sLb,sLc,eq_self,sLd,sLe,sLf]); first|omega|grind)) (by kernel_rfl) (by kernel_rfl)
def zz4(c:V4):Bool:=in4 1152921504606846976 c
theorem zz5{c:V4}:zz4 c=true↔(-1152921504606846976≤c.1∧c.1≤1152921504606846976)∧(-1152921504606846976≤c.2.1∧c.2.1≤1152921504606846976)∧(-1152921504606846976≤c.2.2.1∧c.2.2.1≤1152921504606846976)∧-1152921504606846976≤c.2.2.2∧c.2.2.2≤1152921504606846976:=qL9
theorem q17(m:Mo):in4 562949970198528 (q15 m)=true:=by
 rw[qL9]
 by_cases h:x04 m.1=true∧0≤m.2.1∧m.2.1≤dom m.1.1
 ·rw[q18 h];have:=zr2 m.1.1 m.2.1;omega
 ·rw[q16 h];decide
def qc2:Fact:=qh6 86 fun f=>.leaf (.bool (yM1 f))
theorem yr8:qc2.ok pP:=qh7 (fun f=>xm6 f)
def qb0:Fact:=qh6 87 fun f=>.leaf (.bool (q54 f))
theorem yq3:qb0.ok pP:=qh7 (fun f=>xl6 f)
def qa7:Fact:=qn8 184 fun c=>.leaf (.bool (v9 c))
theorem yp9:qa7.ok pP:=qo3 (xl3)
def x41(a b:V4):V4:=(i64.wrap (a.1+b.1),i64.wrap (a.2.1+b.2.1),i64.wrap (a.2.2.1+b.2.2.1),i64.wrap (a.2.2.2+b.2.2.2))
def wsub4(a b:V4):V4:=(i64.wrap (a.1-b.1),i64.wrap (a.2.1-b.2.1),i64.wrap (a.2.2.1-b.2.2.1),i64.wrap (a.2.2.2-b.2.2.2))
theorem x42{a b:V4}(ha:zz4 a=true)(hb:zz4 b=true):x41 a b=r9 a b:=by
 rw[zz5]at ha hb;unfold x41 r9;rw[w64 (x:=a.1+b.1) (by omega) (by omega),w64 (x:=a.2.1+b.2.1) (by omega) (by omega),w64 (x:=a.2.2.1+b.2.2.1) (by omega) (by omega),w64 (x:=a.2.2.2+b.2.2.2) (by omega) (by omega)]
theorem x87{a b:V4}(ha:zz4 a=true)(hb:zz4 b=true):wsub4 a b=xI5 a b:=by
 rw[zz5]at ha hb;unfold wsub4 xI5;rw[w64 (x:=a.1-b.1) (by omega) (by omega),w64 (x:=a.2.1-b.2.1) (by omega) (by omega),w64 (x:=a.2.2.1-b.2.2.1) (by omega) (by omega),w64 (x:=a.2.2.2-b.2.2.2) (by omega) (by omega)]
theorem xn2(a b:V4):SCall pP 137 [V4.sv a,V4.sv b] (V4.sv (x41 a b)):=
 o8 mix [] trivial 1000 (.go (.lit (.go (.lit (.go (.lit (.go (.lit (.go (.lit (.all)))))))))))
  (t:=.req (true) (.req true (.req (true) (.req true (.req (true) (.req true (.req (true) (.req true (.req (true) (.req true (.req (true) (.req true (.leaf (.agg [.int .i64 (i64.wrap (a.1+b.1)),.int .i64 (i64.wrap (a.2.1+b.2.1)),.int .i64 (i64.wrap (a.2.2.1+b.2.2.1)),.int .i64 (i64.wrap (a.2.2.2+b.2.2.2))]))))))))))))))
  (by kernel_rfl) (by simp only[Tree.holds,sL,ne_eq,sLb,sLc,eq_self,sLd,sLe,sLf];exact rfl) (by kernel_rfl) (by kernel_rfl)
def qc4:Fact:=qo1 137 fun a b=>.leaf (V4.sv (x41 a b))
theorem ys0:qc4.ok pP:=qo2 (fun a b=>xn2 a b)
theorem xk1(a b:V4):SCall pP 209 [V4.sv a,V4.sv b] (V4.sv (wsub4 a b)):=
 o8 mix [] trivial 1000 (.go (.lit (.go (.lit (.go (.lit (.go (.lit (.go (.lit (.all)))))))))))
  (t:=.req (true) (.req true (.req (true) (.req true (.req (true) (.req true (.req (true) (.req true (.req (true) (.req true (.req (true) (.req true (.leaf (.agg [.int .i64 (i64.wrap (a.1-b.1)),.int .i64 (i64.wrap (a.2.1-b.2.1)),.int .i64 (i64.wrap (a.2.2.1-b.2.2.1)),.int .i64 (i64.wrap (a.2.2.2-b.2.2.2))]))))))))))))))
  (by kernel_rfl) (by simp only[Tree.holds,sL,ne_eq,sLb,sLc,eq_self,sLd,sLe,sLf];exact rfl) (by kernel_rfl) (by kernel_rfl)
def qa2:Fact:=qo1 209 fun a b=>.leaf (V4.sv (wsub4 a b))
theorem yp4:qa2.ok pP:=qo2 (fun a b=>xk1 a b)
def m0B(m:Mo):Bool:=inR m.1.1.1 0 0&& (inR m.1.1.2.1 0 0&& (inR m.1.1.2.2.1 0 0&& (inR m.1.1.2.2.2 0 0&& (inR m.1.2.1 0 0&& (inR m.1.2.2.1 0 0&& (inR m.1.2.2.2.1 0 0&& (inR m.1.2.2.2.2 0 0&& (inR m.2.1 0 0&&inR m.2.2 0 0))))))))
theorem q14{m:Mo}:m0B m=true↔m.1.1.1=0∧m.1.1.2.1=0∧m.1.1.2.2.1=0∧m.1.1.2.2.2=0∧m.1.2.1=0∧m.1.2.2.1=0∧m.1.2.2.2.1=0∧m.1.2.2.2.2=0∧m.2.1=0∧m.2.2=0:=by
 have z:∀n:Int,inR n 0 0=true↔n=0:=fun n=>by rw[v8];omega
 simp only[m0B,Bool.and_eq_true,z]
def xG2(f:Fw):Bool:=m0B f.mo&&inR f.active 0 0
theorem xG3{f:Fw}:xG2 f=true↔m0B f.mo=true∧f.active=0:=by
 have z:∀n:Int,inR n 0 0=true↔n=0:=fun n=>by rw[v8];omega
 simp only[xG2,Bool.and_eq_true,z]
def q79(f:Fw):Bool:=match f.moving with
 |true=>y86 f.mo f.ma.ticks
 |false=>xG2 f
theorem q81{f:Fw}(h:f.moving=true):q79 f=y86 f.mo f.ma.ticks:=by unfold q79;rw[h]
theorem q80{f:Fw}(h:f.moving=false):q79 f=xG2 f:=by unfold q79;rw[h]
def begin4(f:Fw):V4:=match f.moving with
 |true=>xI5 f.pos (q15 f.mo)
 |false=>f.pos
theorem zz0{f:Fw}(h:f.moving=true):begin4 f=xI5 f.pos (q15 f.mo):=by unfold begin4;rw[h]
theorem zy9{f:Fw}(h:f.moving=false):begin4 f=f.pos:=by unfold begin4;rw[h]
theorem xk8(f:Fw):SCall pP 88 [f.sv] (.bool (q79 f)):=
 o8 mix [qg0,z57,z89] ⟨yv9,yl0,yo2,trivial⟩ 1000 (.fork (.fork (.lit (.lit (.lit .all))) (.lit (.lit (.lit .all)))) (.fork (.ln 9 (.lit .all)) (.ln 7 (.fork (.ln 5 (.fork .all (.fork (.lit (.lit (.lit .all))) (.lit (.lit (.lit .all)))))) (.ln 5 (.lit .all))))))
  (t:=let y0:Tree SV:=.leaf (.bool false);.node (!f.moving) (.node (f.mo.1.1.1==0&& (f.mo.1.1.2.1==0&& (f.mo.1.1.2.2.1==0&& (f.mo.1.1.2.2.2==0&&true)))&& (f.mo.1.2.1==0&& (f.mo.1.2.2.1==0&& (f.mo.1.2.2.2.1==0&& (f.mo.1.2.2.2.2==0&&true))))&& (f.mo.2.1==0&& (f.mo.2.2==0&&true))) (.leaf (.bool (f.active==0))) y0) (.node (!x04 f.mo.1) y0 (.node (decide (f.mo.2.1≥0)) (.node (!decide (f.mo.2.1≤i64.wrap (dom f.mo.1.1-1))) y0 (.node (decide (f.mo.2.2≥1)) (.leaf (.bool (decide (f.mo.2.2≤ivl f.mo.1 (i64.wrap (f.mo.2.1+1)) f.ma.ticks)))) y0)) y0)))
  (by kernel_rfl) (by
   have iv:=qQ5 f.mo.1 (f.mo.2.1+1) f.ma.ticks;have dr:=zU1 f.mo.1.1;have w1:=w64 (x:=dom f.mo.1.1-1) (by omega) (by omega)
   have w2:0≤f.mo.2.1∧f.mo.2.1≤dom f.mo.1.1-1→i64.wrap (f.mo.2.1+1)=f.mo.2.1+1:=fun h=>w64 (by omega) (by omega)
   have rm:=y87 (m:=f.mo) (t:=f.ma.ticks);have st:=xG3 (f:=f);have m0:=q14 (m:=f.mo)
   cases hm:f.moving
   ·rw[q80 hm]
    simp only[Tree.holds,hm,sL,ne_eq,sLb,sLc,eq_self,sLd,sLe,sLf];(repeat' (first|apply And.intro|intro _));
    all_goals(refine qG6 ?_;rw[st,m0];(try simp only[sL,ne_eq,sLb,sLc,eq_self,sLd,sLe,sLf]);first|omega|grind)
   ·rw[q81 hm]
    simp only[Tree.holds,hm,w1,sL,ne_eq,sLb,sLc,eq_self,sLd,sLe,sLf];(repeat' (first|apply And.intro|intro _));
    all_goals(refine qG6 ?_;rw[rm];(try simp only[sL,ne_eq,sLb,sLc,eq_self,sLd,sLe,sLf]);first|omega|grind)) (by kernel_rfl) (by kernel_rfl)
theorem xb7(f:Fw)(h:zz4 f.pos=true):SCall pP 136 [f.sv] (V4.sv (begin4 f)):=
 o8 mix [qa2,qa0] ⟨yp4,yp1,trivial⟩ 1000 (.fork (.all) (.all))
  (t:=let y0:=wsub4 f.pos (q15 f.mo);.node (!f.moving) (.leaf (.agg [.int .i64 f.pos.1,.int .i64 f.pos.2.1,.int .i64 f.pos.2.2.1,.int .i64 f.pos.2.2.2])) (.leaf (.agg [.int .i64 y0.1,.int .i64 y0.2.1,.int .i64 y0.2.2.1,.int .i64 y0.2.2.2])))
  (by kernel_rfl) (by
   have mr:=qL9.1 (q17 f.mo);have hb:zz4 (q15 f.mo)=true:=zz5.2 (by omega)
   cases hm:f.moving
   ·rw[zy9 hm]
    simp only[Tree.holds,hm,sL,ne_eq,sLb,sLc,eq_self,sLd,sLe,sLf];first|rfl|(intros;rfl)
   ·rw[zz0 hm]
    simp only[Tree.holds,hm,sL,ne_eq,sLb,sLc,eq_self,sLd,sLe,sLf]
    rw[x87 h hb];rfl) (by kernel_rfl) (by kernel_rfl)
def qa4:Fact:=qh6 88 fun f=>.leaf (.bool (q79 f))
theorem yp6:qa4.ok pP:=qh7 (fun f=>xk8 f)
def z42:Fact:=qh6 136 fun f=>.req (zz4 f.pos) (.leaf (V4.sv (begin4 f)))
theorem yj2:z42.ok pP:=qh7 (fun f h=>xb7 f h)
def yU0:Plan:=.fork (.ln 17 (.lit .all)) (.ln 7 (.fork (.ln 9 (.lit .all)) (.ln 4 (.fork (.ln 4 (.lit .all)) (.ln 4 (.fork .all (.fork .all (.fork .all .all))))))))
noncomputable def yU1(f:Fw):Tree Stop:=let y0:Tree Stop:=.leaf (.done (.bool false));let y1:=x41 (begin4 f) f.mo.1.1; .node (decide ((↑f.queue.length:Int)>32)) y0 (.node ((↑f.lines.length:Int) !=(↑f.queue.length:Int)) y0 (.node (!v9 f.pos) y0 (.node (!v9 f.ret) y0 (.req (zz4 f.pos) (.node (!v9 (begin4 f)) y0 (.node (!v9 y1) y0 (.leaf (.at (v5 pP 89 0) 75 (j9 75 [(1,.ptr 0 0),(3,.ptr 1 0),(46,.list t4 f.queue),(47,.int .i64 (↑f.queue.length:Int)),(48,.int .i64 0)]) [some (.cells (Fw.cells f)),some (.cells [.int .i64 y1.1,.int .i64 y1.2.1,.int .i64 y1.2.2.1,.int .i64 y1.2.2.2])]))))))))
theorem qp0(f:Fw):w9 (Env.of pP (v7 [qa7,z42,qc4,qg0])) 1000 (j8 pP 89) .unit (x9 75 [1,3,46,47,48]) (u9 pP 89) yU0 (u7 pP 89 [f.sv]) [] =yU1 f:=by kernel_rfl
def yU2:Plan:=.fork (.fork (.ln 11 (.lit .all)) (.ln 5 (.fork (.ln 5 (.fork (.ln 3 (.lit .all)) (.ln 3 (.fork .all .all)))) (.ln 9 (.lit .all))))) .all
noncomputable def yU3(f:Fw)(p:V4)(n i:Int):Tree Stop:=let y0:=x41 p (f.queue.getD i.toNat dBk).1;let y1:Tree Stop:=.leaf (.done (.bool false)); .node (decide (i<n)) (.req (decide (0≤i)&&decide (i< (↑f.queue.length:Int))) (.node (!x04 (f.queue.getD i.toNat dBk)) y1 (.req (decide (0≤i)&&decide (i< (↑f.lines.length:Int))) (.node (decide (f.lines.getD i.toNat 0≥0)) (.node (!decide (f.lines.getD i.toNat 0≤1099511627776)) y1 (.node (!v9 y0) y1 (.leaf (.at (v5 pP 89 0) 75 (j9 75 [(1,.ptr 0 0),(3,.ptr 1 0),(46,.list t4 f.queue),(47,.int .i64 n),(48,.int .i64 (i64.wrap (i+1)))]) [some (.cells (Fw.cells f)),some (.cells [.int .i64 y0.1,.int .i64 y0.2.1,.int .i64 y0.2.2.1,.int .i64 y0.2.2.2])])))) y1)))) (.leaf (.done (.bool true)))
theorem qp1(f:Fw)(p:V4)(n i:Int):w9 (Env.of pP (v7 [qa7,z42,qc4,qg0])) 1000 (j8 pP 89) .unit (x9 75 [1,3,46,47,48]) (v5 pP 89 0) yU2 (j9 75 [(1,.ptr 0 0),(3,.ptr 1 0),(46,LB f.queue),(47,J n),(48,J i)]) [some (.cells f.cells),some (.cells p.cells)] =yU3 f p n i:=by kernel_rfl
def qA0:Plan:=.fork (.all) (.all)
noncomputable def qA1(f:Fw)(p:V4)(n i:Int):Tree Stop:=let y0:=x41 p (f.queue.getD i.toNat dBk).1; .node (decide (i<n)) (.req (decide (0≤i)&&decide (i< (↑f.queue.length:Int))) (.leaf (.at (v5 pP 66 0) 29 (j9 29 [(2,.ptr 0 0),(3,.ptr 1 0),(17,.list t4 f.queue),(18,.int .i64 n),(19,.int .i64 (i64.wrap (i+1)))]) [some (.cells [.int .i64 0,.int .i64 0,.int .i64 0,.int .i64 0]),some (.cells [.int .i64 y0.1,.int .i64 y0.2.1,.int .i64 y0.2.2.1,.int .i64 y0.2.2.2])]))) (.leaf (.done (.agg [.int .i64 p.1,.int .i64 p.2.1,.int .i64 p.2.2.1,.int .i64 p.2.2.2])))
theorem gp1(f:Fw)(p:V4)(n i:Int):w9 (Env.of pP (v7 [qa7,z42,qc4,qg0])) 1000 (j8 pP 66) .unit (x9 29 [2,3,17,18,19]) (v5 pP 66 0) qA0 (j9 29 [(2,.ptr 0 0),(3,.ptr 1 0),(17,LB f.queue),(18,J n),(19,J i)]) [some (.cells (V4.cells z4)),some (.cells p.cells)] =qA1 f p n i:=by kernel_rfl
def qz8:Plan:=.fork (.all) (.all)
noncomputable def qz9(f:Fw):Tree Stop:=let y0:=j9 29 [(2,.ptr 0 0),(3,.ptr 1 0),(17,.list t4 f.queue),(18,.int .i64 (↑f.queue.length:Int)),(19,.int .i64 0)];let y1:=x41 (begin4 f) f.mo.1.1;let y2:Box:=.cells [.int .i64 0,.int .i64 0,.int .i64 0,.int .i64 0]; .req (zz4 f.pos) (.node (f.moving) (.leaf (.at (v5 pP 66 0) 29 y0 [some y2,some (.cells [.int .i64 y1.1,.int .i64 y1.2.1,.int .i64 y1.2.2.1,.int .i64 y1.2.2.2])])) (.leaf (.at (v5 pP 66 0) 29 y0 [some y2,some (.cells [.int .i64 (begin4 f).1,.int .i64 (begin4 f).2.1,.int .i64 (begin4 f).2.2.1,.int .i64 (begin4 f).2.2.2])])))
theorem gp0(f:Fw):w9 (Env.of pP (v7 [qa7,z42,qc4,qg0])) 1000 (j8 pP 66) .unit (x9 29 [2,3,17,18,19]) (u9 pP 66) qz8 (u7 pP 66 [f.sv]) [] =qz9 f:=by kernel_rfl
def yQ7(p:V4)(q:List Bk):Nat→V4
 |0=>p
 |i+1=>r9 (yQ7 p q i) (q.getD i dBk).1
def zA7(p:V4)(q:List Bk)(ls:List Int)(i:Nat):Bool:=x04 (q.getD i dBk)&& (inR (ls.getD i 0) 0 1099511627776&&v9 (yQ7 p q (i+1)))
theorem zA8{p:V4}{q:List Bk}{ls:List Int}{i:Nat}:zA7 p q ls i=true↔x04 (q.getD i dBk)=true∧(0≤ls.getD i 0∧ls.getD i 0≤1099511627776)∧v9 (yQ7 p q (i+1))=true:=by simp only[zA7,Bool.and_eq_true,v8]
def yU5(f:Fw):V4:=r9 (begin4 f) f.mo.1.1
def yU8(f:Fw):Bool:=decide (f.queue.length≤32)&& (decide (f.lines.length=f.queue.length)&& (v9 f.pos&& (v9 f.ret&& (v9 (begin4 f)&& (v9 (yU5 f)&& (List.range f.queue.length).all fun i=>zA7 (yU5 f) f.queue f.lines i)))))
theorem yU9{f:Fw}:yU8 f=true↔f.queue.length≤32∧f.lines.length=f.queue.length∧v9 f.pos=true∧v9 f.ret=true∧v9 (begin4 f)=true∧v9 (yU5 f)=true∧∀i,i<f.queue.length→zA7 (yU5 f) f.queue f.lines i=true:=by
 simp only[yU8,Bool.and_eq_true,decide_eq_true_eq,List.all_eq_true,List.mem_range]
theorem ya1{c:V4}(h:v9 c=true):zz4 c=true:=by rw[r8]at h;exact zz5.2 (by omega)
theorem q82{f:Fw}(h:q79 f=true):v9 f.mo.1.1=true:=by
 cases hm:f.moving with
 |true=>
  rw[q81 hm,y87]at h;have:=(yy4.1 (x05.1 h.1).1.1).1;exact r8.2 this
 |false=>
  rw[q80 hm,xG3,q14]at h;rw[r8];omega
theorem fsQ:zo6 pP [qa7,z42,qc4,qg0] :=⟨yp9,yj2,ys0,yv9,trivial⟩
section
variable {f:Fw}
noncomputable abbrev RQ(f:Fw)(v:Bool)(p:V4)(i:Nat):Prop:=b9 pP (j8 pP 89) (.bool v) (v5 pP 89 0) (j9 75 [(1,.ptr 0 0),(3,.ptr 1 0),(46,LB f.queue),(47,J f.queue.length),(48,J i)]) [some (.cells f.cells),some (.cells p.cells)]
theorem yU4(hl:f.lines.length=f.queue.length)(hlen:f.queue.length≤32){p:V4}{v:Bool}(hv:v=true↔∀i,i<f.queue.length→zA7 p f.queue f.lines i=true):∀ (k i:Nat),i+k=f.queue.length→v9 (yQ7 p f.queue i)=true→(∀t,t<i→zA7 p f.queue f.lines t=true)→RQ f v (yQ7 p f.queue i) i
 |0,i,hi,hn,hp=>by
  unfold RQ;refine w6 (kW fsQ) (n:=1000) (hint:=.unit) (keep:=x9 75 [1,3,46,47,48]) (p:=yU2) rfl ?_;erw [qp1 f (yQ7 p f.queue i) f.queue.length i];unfold yU3;refine⟨fun c=>absurd (of_decide_eq_true c) (by omega),fun _=>?_⟩;rw[hv.2 fun t ht=>hp t (by omega)];exact rfl
 |k+1,i,hi,hn,hp=>by
  have bad:¬zA7 p f.queue f.lines i=true→v=false:=fun c=>by
   cases v with
   |false=>rfl
   |true=>exact absurd (hv.1 rfl i (by omega)) c
  have nx:zA7 p f.queue f.lines i=true→RQ f v (yQ7 p f.queue (i+1)) (i+1):=fun ok=>yU4 hl hlen hv k (i+1) (by omega) (zA8.1 ok).2.2 fun t ht=>by
   rcases Nat.lt_or_ge t i with c|c
   ·exact hp t c
   ·rw[show t=i by omega];exact ok
  have t0:(i:Int).toNat=i:=by omega
  have w1:i64.wrap ((i:Int)+1)=((i+1:Nat):Int):=by rw[w64 (by omega) (by omega)];omega
  have b1:=ya1 hn
  have ps:x04 (f.queue.getD i dBk)=true→x41 (yQ7 p f.queue i) (f.queue.getD i dBk).1=yQ7 p f.queue (i+1):=fun c=>x42 b1 (ya1 (r8.2 (yy4.1 (x05.1 c).1.1).1))
  have dlt:decide ((i:Int)<f.queue.length)=true:=decide_eq_true (by omega);unfold RQ at nx ⊢;refine w6 (kW fsQ) (n:=1000) (hint:=.unit) (keep:=x9 75 [1,3,46,47,48]) (p:=yU2) rfl ?_;erw [qp1 f (yQ7 p f.queue i) f.queue.length i];unfold yU3;have bi:=@zA8 p f.queue f.lines i;simp only[dlt,t0,w1,Tree.holds,Bool.and_eq_true,decide_eq_true_eq,decide_eq_false_iff_not,Bool.true_eq_false,false_implies,true_implies,true_and,and_true,not_false_eq_true,Bool.not_eq_true',Bool.not_eq_false'];refine⟨by omega,fun c=>?_,fun c=>⟨by omega,fun d=>⟨fun g=>?_,fun g=>⟨fun n=>?_,fun n=>?_⟩⟩,fun d=>?_⟩⟩
  ·rw[bad fun o=>by rw[(bi.1 o).1]at c;cases c]
  ·rw[bad fun o=>by have:=(bi.1 o).2.1;omega]
  ·rw[ps c]at n;rw[bad fun o=>by rw[(bi.1 o).2.2]at n;cases n]
  ·rw[ps c]at n ⊢;exact⟨o9 _ _,nx (bi.2 ⟨c,by omega,n⟩)⟩
  ·rw[bad fun o=>by have:=(bi.1 o).2.1;omega]
theorem xo1(f:Fw)(h:q79 f=true):SCall pP 89 [f.sv] (.bool (yU8 f)):=by
 have qi:=@yU9 f;have nc:=q82 h;refine m6 rfl rfl (by kernel_rfl) (w6 (kW fsQ) (n:=1000) (hint:=.unit) (keep:=x9 75 [1,3,46,47,48]) (p:=yU0) (boxes:=[]) rfl ?_);have q:=qp0 f;unfold u7 u9 at q;erw [q];unfold yU1
 have bad:∀{P:Prop},(yU8 f=true→P)→¬P→yU8 f=false:=fun {P} k n=>by
  cases hq:yU8 f with
  |false=>rfl
  |true=>exact absurd (k hq) n
 simp only[Tree.holds,Bool.and_eq_true,decide_eq_true_eq,decide_eq_false_iff_not,bne_iff_ne,bne_eq_false_iff_eq,ne_eq,Bool.not_eq_true',Bool.not_eq_false'];refine⟨fun a=>?_,fun a=>⟨fun b=>?_,fun b=>⟨fun c=>?_,fun c=>⟨fun d=>?_,fun d=>⟨ya1 c,fun g=>?_,fun g=>?_⟩⟩⟩⟩⟩
 ·rw[bad (fun k=>(qi.1 k).1) (by omega)]
 ·rw[bad (fun k=>(qi.1 k).2.1) (by omega)]
 ·rw[bad (fun k=>(qi.1 k).2.2.1) (by rw[c];exact Bool.false_ne_true)]
 ·rw[bad (fun k=>(qi.1 k).2.2.2.1) (by rw[d];exact Bool.false_ne_true)]
 ·rw[bad (fun k=>(qi.1 k).2.2.2.2.1) (by rw[g];exact Bool.false_ne_true)]
 ·have e:x41 (begin4 f) f.mo.1.1=yU5 f:=x42 (ya1 g) (ya1 nc)
  rw[e];refine⟨fun i=>?_,fun i=>⟨o9 _ _,?_⟩⟩
  ·rw[bad (fun k=>(qi.1 k).2.2.2.2.2.1) (by rw[i];exact Bool.false_ne_true)]
  ·have:=yU4 (f:=f) (p:=yU5 f) (v:=yU8 f) (by omega) (by omega) ⟨fun k=>(qi.1 k).2.2.2.2.2.2,fun k=>qi.2 ⟨by omega,by omega,c,d,g,i,k⟩⟩ f.queue.length 0 (by omega) i (fun t ht=>absurd ht (Nat.not_lt_zero _))
   exact this
end
def qz2(f:Fw):V4:=yQ7 (yU5 f) f.queue f.queue.length
theorem yR0{f:Fw}(h:yU8 f=true):∀i,i≤f.queue.length→v9 (yQ7 (yU5 f) f.queue i)=true
 |0,_=>(yU9.1 h).2.2.2.2.2.1
 |i+1,hi=>(zA8.1 ((yU9.1 h).2.2.2.2.2.2 i (by omega))).2.2
theorem zA9{f:Fw}(h:yU8 f=true){i:Nat}(hi:i<f.queue.length):v9 (f.queue.getD i dBk).1=true:=
 r8.2 (yy4.1 (x05.1 (zA8.1 ((yU9.1 h).2.2.2.2.2.2 i hi)).1).1.1).1
theorem yU7{f:Fw}(h:q79 f=true)(hm:f.moving=false):yU5 f=begin4 f:=by
 rw[q80 hm,xG3,q14]at h;unfold yU5 r9;rw[h.1.1,h.1.2.1,h.1.2.2.1,h.1.2.2.2.1];simp
section
variable {f:Fw}
theorem qA2(h:yU8 f=true):∀ (k i:Nat),i+k=f.queue.length→
  b9 pP (j8 pP 66) (V4.sv (qz2 f)) (v5 pP 66 0) (j9 29 [(2,.ptr 0 0),(3,.ptr 1 0),(17,LB f.queue),(18,J f.queue.length),(19,J i)]) [some (.cells (V4.cells z4)),some (.cells (V4.cells (yQ7 (yU5 f) f.queue i)))]
 |0,i,hi=>by
  refine w6 (kW fsQ) (n:=1000) (hint:=.unit) (keep:=x9 29 [2,3,17,18,19]) (p:=qA0) rfl ?_;erw [gp1 f (yQ7 (yU5 f) f.queue i) f.queue.length i];unfold qA1;refine⟨fun c=>absurd (of_decide_eq_true c) (by omega),fun _=>?_⟩;unfold qz2;rw[show f.queue.length=i by omega];exact rfl
 |k+1,i,hi=>by
  have nx:=qA2 h k (i+1) (by omega);have hlen:=(yU9.1 h).1
  have t0:(i:Int).toNat=i:=by omega
  have w1:i64.wrap ((i:Int)+1)=((i+1:Nat):Int):=by rw[w64 (by omega) (by omega)];omega
  have ps:x41 (yQ7 (yU5 f) f.queue i) (f.queue.getD i dBk).1=yQ7 (yU5 f) f.queue (i+1):=x42 (ya1 (yR0 h i (by omega))) (ya1 (zA9 h (by omega)));refine w6 (kW fsQ) (n:=1000) (hint:=.unit) (keep:=x9 29 [2,3,17,18,19]) (p:=qA0) rfl ?_;erw [gp1 f (yQ7 (yU5 f) f.queue i) f.queue.length i];unfold qA1;refine⟨fun _=>?_,fun c=>absurd (of_decide_eq_false c) (by omega)⟩;simp only[t0,w1,ps,Tree.holds,Bool.and_eq_true,decide_eq_true_eq];exact⟨by omega,o9 _ _,nx⟩
theorem xg1(f:Fw)(h:(q79 f&&yU8 f)=true):SCall pP 66 [f.sv] (V4.sv (qz2 f)):=by
 rw[Bool.and_eq_true]at h;have q:=yU9.1 h.2;refine m6 rfl rfl (by kernel_rfl) (w6 (kW fsQ) (n:=1000) (hint:=.unit) (keep:=x9 29 [2,3,17,18,19]) (p:=qz8) (boxes:=[]) rfl ?_);have e:=gp0 f;unfold u7 u9 at e;erw [e];unfold qz9;have nx:=qA2 h.2 f.queue.length 0 (by omega);refine⟨ya1 q.2.2.1,fun c=>⟨o9 _ _,?_⟩,fun c=>⟨o9 _ _,?_⟩⟩
 ·have:x41 (begin4 f) f.mo.1.1=yU5 f:=x42 (ya1 q.2.2.2.2.1) (ya1 (q82 h.1))
  rw[this];exact nx
 ·have:=yU7 h.1 c
  rw[←this];exact nx
end
theorem q19(m:Mo):zz4 (q15 m)=true:=by
 have mr:=qL9.1 (q17 m);exact zz5.2 (by omega)
section
variable {f:Fw}
end
def qc8:Fact:=qh6 89 fun f=>.req (q79 f) (.leaf (.bool (yU8 f)))
theorem ys4:qc8.ok pP:=qh7 (fun f h=>xo1 f h)
def z74:Fact:=qh6 66 fun f=>.req (q79 f&&yU8 f) (.leaf (V4.sv (qz2 f)))
theorem ym7:z74.ok pP:=qh7 (fun f h=>xg1 f h)
def yM0(c d:Co)(g h:Gu):Bool:=c.ok&& (d.ok&& (g.ok&&h.ok))
def zZ7(f:Fw):Bool:=(!(f.mode==3)&&f.homed)||(!f.moving&&f.queue.isEmpty)
def v6(f:Fw):Bool:=yM1 f&& (q54 f&& (q79 f&& (yU8 f&&zZ7 f)))
theorem x06{f:Fw}:v6 f=true↔yM1 f=true∧q54 f=true∧q79 f=true∧yU8 f=true∧zZ7 f=true:=by simp only[v6,Bool.and_eq_true]
theorem zZ8{f:Fw}:zZ7 f=true↔(¬f.mode=3∧f.homed=true)∨(f.moving=false∧f.queue.length=0):=by
 simp only[zZ7,Bool.or_eq_true,Bool.and_eq_true,Bool.not_eq_true',beq_eq_false_iff_ne,ne_eq,List.isEmpty_iff,List.length_eq_zero_iff]
def qK6(f:Fw):Bool:=!f.moving&& (f.queue.isEmpty&&f.dwell==0)
theorem qK7{f:Fw}:qK6 f=true↔f.moving=false∧f.queue.length=0∧f.dwell=0:=by
 simp only[qK6,Bool.and_eq_true,Bool.not_eq_true',beq_iff_eq,List.isEmpty_iff,List.length_eq_zero_iff]
theorem s_valid(f:Fw):SCall pP 31 [f.sv] (.bool (v6 f)):=
 o8 mix [qc2,qb0,qa4,qc8] ⟨yr8,yq3,yp6,ys4,trivial⟩ 1000 (.fork (.ln 11 (.lit .all)) (.ln 3 (.fork (.ln 7 (.lit .all)) (.ln 3 (.fork (.ln 3 (.lit .all)) (.ln 3 (.fork .all (.fork (.lit (.lit (.fork (.ln 4 (.lit .all)) (.ln 3 (.fork (.ln 5 (.lit .all)) (.ln 5 (.lit .all))))))) (.ln 6 (.fork (.ln 5 (.lit .all)) (.ln 5 (.lit .all))))))))))))
  (t:=let y0:Tree SV:=.leaf (.bool false);let y1:Tree SV:=.node (!f.moving) (.leaf (.bool ((↑f.queue.length:Int)==0))) y0;.node (!yM1 f) y0 (.node (!q54 f) y0 (.node (!q79 f) y0 (.req (q79 f) (.node (!yU8 f) y0 (.node (f.mode != 3) (.node (f.homed) (.leaf (.bool true)) y1) y1))))))
  (by kernel_rfl) (by
   have vi:=x06 (f:=f);have ei:=zZ8 (f:=f);simp only[Tree.holds,sL,ne_eq,sLb,sLc,eq_self,sLd,sLe,sLf];(repeat' (first|apply And.intro|intro _));
   all_goals first
    |assumption
    |(refine qG6 ?_;rw[vi,ei];(try simp only[sL,ne_eq,sLb,sLc,eq_self,sLd,sLe,sLf]);first|omega|grind)) (by kernel_rfl) (by kernel_rfl)
def qf9:Fact:=qh6 31 fun f=>.leaf (.bool (v6 f))
theorem yv8:qf9.ok pP:=qh7 (fun f=>s_valid f)
theorem xh7(f:Fw):SCall pP 65 [f.sv] (.bool (qK6 f)):=
 o8 mix [] trivial 1000 (.fork (.ln 4 (.fork (.lit (.lit (.lit .all))) (.lit (.lit (.lit .all))))) (.ln 7 (.lit .all)))
  (t:=.node (!f.moving)
 (.node ((↑f.queue.length:Int)==0)
  (.leaf (SV.bool (f.dwell==0)))
  (.leaf (SV.bool false)))
 (.leaf (SV.bool false)))
   (by kernel_rfl) (by simp only[Tree.holds,sL,ne_eq,sLb,sLc,eq_self,sLd,sLe,sLf];(repeat' (first|apply And.intro|intro _));all_goals(refine qG6 ?_;rw[qK7];(try simp only[sL,ne_eq,sLb,sLc,eq_self,sLd,sLe,sLf]); first|omega|grind)) (by kernel_rfl) (by kernel_rfl)
def z82:Fact:=qh6 65 fun f=>.leaf (.bool (qK6 f))
theorem yn6:z82.ok pP:=qh7 (fun f=>xh7 f)
def qz4(f:Fw):V4:=match v6 f with
 |true=>qz2 f
 |false=>z4
theorem qz6{f:Fw}(h:v6 f=true):qz4 f=qz2 f:=by unfold qz4;rw[h]
theorem qz5{f:Fw}(h:v6 f=false):qz4 f=z4:=by unfold qz4;rw[h]
def zb7(f:Fw):Bool:=v6 f&&qK6 f
theorem zb8{f:Fw}:zb7 f=true↔v6 f=true∧qK6 f=true:=by simp only[zb7,Bool.and_eq_true]
theorem x10{f:Fw}(h:v6 f=true):q79 f=true∧yU8 f=true:=by rw[x06]at h;exact⟨h.2.2.1,h.2.2.2.1⟩
theorem xa2(f:Fw):SCall pP 20 [f.sv] (.bool (zb7 f)):=
 o8 mix [qf9,z82] ⟨yv8,yn6,trivial⟩ 1000 (.fork (.lit (.lit (.all))) (.lit (.lit (.all))))
  (t:=.node (v6 f)
 (.leaf (SV.bool (qK6 f)))
 (.leaf (SV.bool false)))
   (by kernel_rfl) (by simp only[Tree.holds,sL,ne_eq,sLb,sLc,eq_self,sLd,sLe,sLf];(repeat' (first|apply And.intro|intro _));all_goals(refine qG6 ?_;rw[zb8];(try simp only[sL,ne_eq,sLb,sLc,eq_self,sLd,sLe,sLf]); first|omega|grind)) (by kernel_rfl) (by kernel_rfl)
theorem xa1(f:Fw):SCall pP 21 [f.sv] (V4.sv (qz4 f)):=
 o8 mix [qf9,z74] ⟨yv8,ym7,trivial⟩ 1000 (.fork (.all) (.all))
  (t:=.node (!v6 f) (.leaf (.agg [.int .i64 0,.int .i64 0,.int .i64 0,.int .i64 0])) (.req (q79 f&&yU8 f) (.leaf (.agg [.int .i64 (qz2 f).1,.int .i64 (qz2 f).2.1,.int .i64 (qz2 f).2.2.1,.int .i64 (qz2 f).2.2.2]))))
  (by kernel_rfl) (by
   cases h:v6 f with
   |false=>simp only[Tree.holds,h,sL,ne_eq,sLb,sLc,eq_self,sLd,sLe,sLf];rw[qz5 h];rfl
   |true=>
    have k:=x10 h;simp only[Tree.holds,h,k.1,k.2,sL,ne_eq,sLb,sLc,eq_self,sLd,sLe,sLf]
    rw[qz6 h];rfl) (by kernel_rfl) (by kernel_rfl)
def z83:Fact:=qh6 20 fun f=>.leaf (.bool (zb7 f))
theorem yn7:z83.ok pP:=qh7 (fun f=>xa2 f)
def z76:Fact:=qh6 21 fun f=>.leaf (V4.sv (qz4 f))
theorem ym9:z76.ok pP:=qh7 (fun f=>xa1 f)
theorem xx0{P:Program}{f:FuncId}{args:List SV}{v v':SV}(h:SCall P f args v)(hv:∀ (R:Nat→Prop) (ρ:Rho) (n:Nat) (w:World) (u:Value),Rep R ρ n w v u→Rep R ρ n w v' u):SCall P f args v':=by
 intro m w0 R0 ρ w vs hm hvs;refine zc1.mono (fun u w' hu=>?_) (h m w0 R0 ρ w vs hm hvs);obtain⟨ρ',g1,g2,g3⟩:=hu;exact⟨ρ',g1,g2,hv _ _ _ _ _ g3⟩
theorem yc7{cs ds rest:List SV}(hn:j6 cs ds)(R:Nat→Prop)(ρ:Rho)(n:Nat)(w:World)(u:Value)(h:Rep R ρ n w (.tuple (.agg cs::rest)) u):Rep R ρ n w (.tuple (.agg ds::rest)) u:=by
 obtain⟨vs,h1,x,xs,h2,⟨ws,h3,h4⟩,h5⟩:=h;exact⟨vs,h1,x,xs,h2,⟨ws,h3,hn.rep h4⟩,h5⟩
def ya7(m:Ma)(c d:Co)(g h:Gu)(cold:Int):Bool:=m.ok&& (c.ok&& (d.ok&& (g.ok&& (h.ok&& (inR cold 0 400000&& (inR g.fault 0 0&&inR h.fault 0 0))))))
theorem ya8{m:Ma}{c d:Co}{g h:Gu}{cold:Int}:ya7 m c d g h cold=true↔m.ok=true∧c.ok=true∧d.ok=true∧g.ok=true∧h.ok=true∧(0≤cold∧cold≤400000)∧g.fault=0∧h.fault=0:=by
 have z:∀n:Int,inR n 0 0=true↔n=0:=fun n=>by rw[v8];omega
 simp only[ya7,Bool.and_eq_true,v8,z]
def a0:Ax:=⟨0,0,0,0,0,0,0⟩
def ma0:Ma:=⟨a0,a0,a0,a0,false,0⟩
def fw0:Fw:=⟨ma0,0,false,z4,(0,0,0),0,0,[],[],m0,false,0,false,z4,0,0,Co.zero,Co.zero,Gu.zero,Gu.zero,0,0,0,0,0,0⟩
def x7(m:Ma)(c d:Co)(g h:Gu)(cold:Int):Fw:={fw0 with ma:=m,mode:=1,c0:=c,c1:=d,g0:=g,g1:=h,cold:=cold}
def f7(f:Fw):List SV:=f.cells.take 41++(.nilS::.nilS::f.cells.drop 43)
def ya9(m:Ma)(c d:Co)(g h:Gu)(cold:Int):SV:=match ya7 m c d g h cold with
 |true=>.tuple [.agg (f7 (x7 m c d g h cold)),J 0]
 |false=>.tuple [.agg (f7 fw0),J 1]
theorem yb1{m:Ma}{c d:Co}{g h:Gu}{cold:Int}(k:ya7 m c d g h cold=true):ya9 m c d g h cold=.tuple [.agg (f7 (x7 m c d g h cold)),J 0] :=by unfold ya9;rw[k]
theorem yb0{m:Ma}{c d:Co}{g h:Gu}{cold:Int}(k:ya7 m c d g h cold=false):ya9 m c d g h cold=.tuple [.agg (f7 fw0),J 1] :=by unfold ya9;rw[k]
theorem xl4(m:Ma)(c d:Co)(g h:Gu)(cold:Int):SCall pP 61 [m.sv,.agg (c.cells++d.cells),.agg (g.cells++h.cells),J cold] (ya9 m c d g h cold):=
 o8 mix [qc2] ⟨yr8,trivial⟩ 1000 (.fork (.ln 13 (.lit .all)) (.lit (.fork (.ln 5 (.fork (.ln 9 (.lit .all)) (.ln 4 (.fork (.ln 4 (.lit .all)) (.ln 4 (.fork .all .all)))))) (.ln 15 (.lit .all)))))
  (t:=let y0:Tree SV:=.leaf (.tuple [.agg (f7 fw0),.int .i64 1]);.node (!yM1 (Fw.mk m 1 false (0,0,0,0) (0,0,0) 0 0 [] [] (((0,0,0,0),0,0,0,0),0,0) false 0 false (0,0,0,0) 0 0 c d g h 0 0 0 cold 0 0)) y0 (.node (decide (cold≥0)) (.node (!decide (cold≤400000)) y0 (.req true (.node (g.fault != 0) y0 (.req true (.node (h.fault != 0) y0 (.leaf (.tuple [.agg [.int .i64 m.x.num,.int .i64 m.x.den,.int .i64 m.x.speed,.int .i64 m.x.accel,.int .i64 m.x.jerk,.int .i64 m.x.min,.int .i64 m.x.max,.int .i64 m.y.num,.int .i64 m.y.den,.int .i64 m.y.speed,.int .i64 m.y.accel,.int .i64 m.y.jerk,.int .i64 m.y.min,.int .i64 m.y.max,.int .i64 m.z.num,.int .i64 m.z.den,.int .i64 m.z.speed,.int .i64 m.z.accel,.int .i64 m.z.jerk,.int .i64 m.z.min,.int .i64 m.z.max,.int .i64 m.e.num,.int .i64 m.e.den,.int .i64 m.e.speed,.int .i64 m.e.accel,.int .i64 m.e.jerk,.int .i64 m.e.min,.int .i64 m.e.max,.bool m.xy,.int .i64 m.ticks,.int .i64 1,.bool false,.int .i64 0,.int .i64 0,.int .i64 0,.int .i64 0,.int .i64 0,.int .i64 0,.int .i64 0,.int .i64 0,.int .i64 0,SV.nilS,SV.nilS,.int .i64 0,.int .i64 0,.int .i64 0,.int .i64 0,.int .i64 0,.int .i64 0,.int .i64 0,.int .i64 0,.int .i64 0,.int .i64 0,.bool false,.int .i64 0,.bool false,.int .i64 0,.int .i64 0,.int .i64 0,.int .i64 0,.int .i64 0,.int .i64 0,.int .i64 c.target,.int .i64 c.kp,.int .i64 c.ki,.int .i64 c.scale,.int .i64 c.sum,.int .i64 c.limit,.int .i64 d.target,.int .i64 d.kp,.int .i64 d.ki,.int .i64 d.scale,.int .i64 d.sum,.int .i64 d.limit,.int .i64 g.low,.int .i64 g.high,.int .i64 g.watch,.int .i64 g.rise,.int .i64 g.band,.int .i64 g.base,.int .i64 g.count,.int .i64 g.idle,.int .i64 g.quiet,.int .i64 g.fault,.bool g.door,.int .i64 h.low,.int .i64 h.high,.int .i64 h.watch,.int .i64 h.rise,.int .i64 h.band,.int .i64 h.base,.int .i64 h.count,.int .i64 h.idle,.int .i64 h.quiet,.int .i64 h.fault,.bool h.door,.int .i64 0,.int .i64 0,.int .i64 0,.int .i64 cold,.int .i64 0,.int .i64 0],.int .i64 0]))))))) y0))
  (by kernel_rfl) (by
   simp only[yM1,yM0];simp only[Tree.holds,sL,ne_eq,sLb,sLc,eq_self,sLd,sLe,sLf];(repeat' (first|apply And.intro|intro _));
   all_goals first|(rw[yb0 (Bool.eq_false_iff.2 (by rw[ne_eq,ya8];grind))];rfl)|(rw[yb1 (ya8.2 (by grind))];rfl)) (by kernel_rfl) (by unfold ya9;split<;>rfl)
def allQ.{u}{β:Type u}(p:β→Prop):List β→Prop
 |[] =>True
 |x::l=>p x∧allQ p l
theorem allQ.all.{u}{β:Type u}{p:β→Prop}:∀{l:List β},allQ p l→∀x∈l,p x
 |[],_=>fun x hx=>by cases hx
 |y::l,h=>fun x hx=>by
  cases hx with
  |head=>exact h.1
  |tail _ hx=>exact h.2.all x hx
theorem MRel.weak{w0:World}{R0:RSet}{ρ:Rho}{w:World}{m m2:Mem}{id:Nat}{cs cs2:List SV}(h:MRel w0 R0 ρ w m)(hB:m.get id=some (.cells cs))(hn:j6 cs cs2)(h2:zc0 m id (some (.cells cs2)) m2):MRel w0 R0 ρ w m2∧n7 w0 R0 ρ w m ρ w m2:=by
 have hg:∀k B,m2.get k=some B→∃C,m.get k=some C∧(xA0 (ρ k) B→xA0 (ρ k) C):=fun k B hk=>by
  rw[h2.1 k]at hk
  split at hk
  ·rename_i hki;subst hki;exact⟨_,hB,fun _=>trivial⟩
  ·exact⟨B,hk,fun x=>x⟩
 have hro:∀b,RO w0 R0 ρ w m b→RO w0 R0 ρ w m2 b:=fun b hb=>by
  rcases hb with hb|⟨k1,k2,k3,k4⟩
  ·exact .inl hb
  ·exact .inr ⟨k1,k2,fun k B hk hs=>by
    obtain⟨C,hC,hs'⟩:=hg k B hk
    exact k3 k C hC (hs' hs),k4⟩
 have e:n7 w0 R0 ρ w m ρ w m2:=⟨by rw[h2.2];exact Nat.le_refl _,fun _ _=>rfl,fun b hb=>⟨hro b hb,rfl⟩⟩;refine⟨⟨h.below,fun k B hk=>?_,fun k B hk hs=>?_,fun k B hk hs=>?_,fun k k' B B' hk hk' hs hs' heq=>?_,fun k B hk=>?_,h.hid.1,fun k B hk hs=>?_⟩,e⟩
 ·obtain⟨C,hC,_⟩:=hg k B hk;rw[h2.2];exact h.lt k C hC
 ·obtain⟨C,hC,hs'⟩:=hg k B hk;exact h.lo k C hC (hs' hs)
 ·obtain⟨C,hC,hs'⟩:=hg k B hk;exact h.hi k C hC (hs' hs)
 ·obtain⟨C,hC,c1⟩:=hg k B hk
  obtain⟨C',hC',c2⟩:=hg k' B' hk';exact h.inj k k' C C' hC hC' (c1 hs) (c2 hs') heq
 ·rw[h2.1 k]at hk
  split at hk
  ·rename_i hki
   subst hki;injection hk with hk;subst hk;obtain⟨arr,el,fr,k1,k2,k3⟩:=h.box k _ hB;exact⟨arr,el,fr,k1,k2,hn.rep (j7.mono e _ _ k3)⟩
  ·exact za2.mono e _ (fun _=>rfl) (h.box k B hk)
 ·obtain⟨C,hC,hs'⟩:=hg k B hk;exact h.hid.2 k C hC (hs' hs)
theorem q43{w0:World}{R0:RSet}{ρ:Rho}{w:World}{m:Mem}(h:MRel w0 R0 ρ w m){id:Nat}{B C:Box}(hB:m.get id=some B):∃m2,zc0 m id (some C) m2:=by
 obtain⟨m2,hn,hg⟩:=q39 m.next ((List.range m.next).map fun k=>if k=id then some C else m.get k);refine⟨m2,fun k=>?_,hn⟩;rw[hg k,List.getElem?_map]
 by_cases hk:k<m.next
 ·rw[List.getElem?_range hk];rfl
 ·have hki:¬k=id:=fun e=>by subst e;exact hk (h.lt k B hB)
  rw[List.getElem?_eq_none (by simpa using hk),if_neg hki]
  cases hx:m.get k with
  |none=>rfl
  |some D=>exact absurd (h.lt k D hx) hk
theorem zw0{P:Program}{f:FuncId}{args cs x:List SV}{v:SV}{C:Box}(hn:j6 cs x)(h:za1 P f args (.cells x) (false,v,C)):za1 P f args (.cells cs) (false,v,C):=by
 intro m m' id hB hm' w0 R0 ρ w vs hm hvs;obtain⟨m2,h2⟩:=q43 (C:=.cells x) hm hB;obtain⟨a,e⟩:=MRel.weak hm hB hn h2
 have hm2:zc0 m2 id (some C) m':=⟨fun k=>by rw[hm'.1 k,h2.1 k];split<;>rfl,hm'.2.trans h2.2.symm⟩
 refine zc1.mono (fun u w' hu=>?_) (h m2 m' id (by rw[h2.1,if_pos rfl]) hm2 w0 R0 ρ w vs a (j7.mono e _ _ hvs));obtain⟨ρ',g1,g2,g3⟩:=hu;exact⟨ρ',g1,e.trans g2,g3⟩
theorem zw2{P:Program}{f:FuncId}{args cs x:List SV}{v:SV}{B:Box}(hn:j6 cs x)(h:za1 P f args B (false,v,.cells cs)):za1 P f args B (false,v,.cells x):=by
 intro m m' id hB hm' w0 R0 ρ w vs hm hvs;obtain⟨m1,h1⟩:=q43 (C:=.cells cs) hm hB;refine zc1.mono (fun u w' hu=>?_) (h m m1 id hB h1 w0 R0 ρ w vs hm hvs);obtain⟨ρ',g1,g2,g3⟩:=hu
 obtain⟨a,e⟩:=MRel.weak g1 (by rw[h1.1,if_pos rfl]) hn (m2:=m') ⟨fun k=>by rw[hm'.1 k,h1.1 k];split<;>rfl,hm'.2.trans h1.2.symm⟩
 exact⟨ρ',a,g2.trans e,Rep.mono e _ _ g3⟩
def zb3(P:Program)(f:FuncId)(rest:List SV)(x:Fw)(r:SV×Fw):Prop:=za1 P f rest (.cells x.cells) (false,r.1,.cells r.2.cells)
inductive endsAt (v:SV) (y:Fw):StopX→Prop where
 |mk (cs:List SV) (hn:j6 cs y.cells) (hd:f5 cs=true):endsAt v y (.fin (.ret v [some (.cells cs)]))
theorem ends{v u:SV}{y:Fw}{cs:List SV}(h:u=v)(hn:j6 cs y.cells)(hd:f5 cs=true):endsAt v y (.fin (.ret u [some (.cells cs)])):=by subst h;exact .mk cs hn hd
theorem qw4(f:Fw):f5 f.cells=true:=rfl
theorem qp7{P:Program}{f:FuncId}{rest cs:List SV}{x y:Fw}{v:SV}(hf:qu7 P f (.ptr 0 0::rest)=true)(hd:f5 rest=true)(hv:v.data=true)(hc:f5 cs=true)(hn:j6 cs y.cells)(h:zd3 P (j8 P f) [] 1 (.ret v [some (.cells cs)]) (u9 P f) (u7 P f (.ptr 0 0::rest)) [some (.cells x.cells)]):zb3 P f rest x (v,y):=
 zw2 hn (zw1 hf h rfl hd (qw4 x) hc hv)
theorem z03{v:SV}{y:Fw}:∀t:Tree StopX,t.holds (endsAt v y)→∃cs,j6 cs y.cells∧f5 cs=true∧t.holds fun o=>match o with
   |.fin r'=>r'=.ret v [some (.cells cs)]
   |.at items' size slots' boxes'=>slots'.length=size∧False
 |.leaf o,h=>by
  have h:endsAt v y o:=h
  cases h with
  |mk cs hn hd=>exact⟨cs,hn,hd,rfl⟩
 |.node b t f,h=>by
  cases b with
  |true=>
   obtain⟨cs,h1,h2,h3⟩:=z03 t (h.1 rfl);exact⟨cs,h1,h2,fun _=>h3,fun hb=>by cases hb⟩
  |false=>
   obtain⟨cs,h1,h2,h3⟩:=z03 f (h.2 rfl);exact⟨cs,h1,h2,fun hb=>(by cases hb),fun _=>h3⟩
 |.req b t,h=>by
  obtain⟨cs,h1,h2,h3⟩:=z03 t h.2;exact⟨cs,h1,h2,h.1,h3⟩
 |.fail _,h=>h.elim
theorem qp8{P:Program}{E:Env}(hK:Known P E)(n:Nat)(p:Plan){keep:List Item→List Bool}{f:FuncId}{rest:List SV}{x y:Fw}{v:SV}{t:Tree StopX}(ht:xx1 E n (j8 P f) 1 keep (u9 P f) p (u7 P f (.ptr 0 0::rest)) [some (.cells x.cells)] =t)(h:t.holds (endsAt v y))(hf:qu7 P f (.ptr 0 0::rest)=true)(hd:f5 rest=true)(hv:v.data=true):zb3 P f rest x (v,y):=by
 obtain⟨cs,h1,h2,h3⟩:=z03 t h;refine qp7 (cs:=cs) hf hd hv h2 h1 (y91 hK (n:=n) (keep:=keep) (p:=p) (Nat.le_refl _) ?_);rw[ht]
 exact Tree.holds_mono (fun o ho=>by
  cases o with
  |fin r=>exact ho
  |«at» i s l b=>exact ho.2.elim) t h3
def okT:Tree (SV×Fw)→Tree (Bool×SV×Box)
 |.leaf x=>.leaf (false,x.1,.cells x.2.cells)
 |.node b t f=>.node b (okT t) (okT f)
 |.req b t=>.req b (okT t)
 |.fail n=>.fail n
def zz2(f:FuncId)(h:Fw→List SV→Option (Tree (SV×Fw))):BFact:=⟨f,fun args B=>match B with
 |.cells cs=>match zq4 cs with
  |some x=>match h x args with
   |some t=>some (okT t)
   |none=>none
  |none=>none
 |_=>none⟩
theorem yz3{P:Program}{f:FuncId}{args cs:List SV}{x:Fw}(hn:j6 cs x.cells):∀t:Tree (SV×Fw),t.says (zb3 P f args x)→(okT t).says (za1 P f args (.cells cs))
 |.leaf _,k=>zw0 hn k
 |.node _ t u,k=>⟨fun hb=>yz3 hn t (k.1 hb),fun hb=>yz3 hn u (k.2 hb)⟩
 |.req _ t,k=>fun hb=>yz3 hn t (k hb)
 |.fail _,_=>trivial
theorem zz3{P:Program}{f:FuncId}{h:Fw→List SV→Option (Tree (SV×Fw))}(k:∀x rest t,h x rest=some t→t.says (zb3 P f rest x)):(zz2 f h).ok P:=fun args B t ht=>by
 simp only[zz2]at ht
 split at ht
 ·split at ht
  ·rename_i hx
   split at ht
   ·rename_i t' ht'
    injection ht with ht;subst ht;exact yz3 (zq5 hx) t' (k _ _ _ ht')
   ·cases ht
  ·cases ht
 ·cases ht
noncomputable def wT(m:Mem)(id:Nat):Tree (SV×Fw)→Tree (SV×Mem)
 |.leaf x=>m.set id (some (.cells x.2.cells)) fun m'=>.leaf (x.1,m')
 |.node b t f=>.node b (wT m id t) (wT m id f)
 |.req b t=>.req b (wT m id t)
 |.fail n=>.fail n
noncomputable def x68(f:FuncId)(h:Fw→List SV→Option (Tree (SV×Fw))):WFact:=⟨f,fun args m=>match args with
 |a::rest=>match a with
  |.ptr id off=>match Nat.beq off 0 with
   |true=>match m.get id with
    |some B=>match B with
     |.cells cs=>match zq4 cs with
      |some x=>match h x rest with
       |some t=>some (wT m id t)
       |none=>none
      |none=>none
     |_=>none
    |none=>none
   |false=>none
  |_=>none
 |_=>none⟩
theorem x40{P:Program}{f:FuncId}{args cs:List SV}{x:Fw}{m:Mem}{id:Nat}(hB:m.get id=some (.cells cs))(hn:j6 cs x.cells):∀t:Tree (SV×Fw),t.says (zb3 P f args x)→(wT m id t).says (ze4 P f (.ptr id 0::args) m)
 |.leaf _,k=>xy5 fun m' hm=>(zw0 hn k:za1 P f args (.cells cs) _) m m' id hB hm
 |.node _ t u,k=>⟨fun hb=>x40 hB hn t (k.1 hb),fun hb=>x40 hB hn u (k.2 hb)⟩
 |.req _ t,k=>fun hb=>x40 hB hn t (k hb)
 |.fail _,_=>trivial
theorem x69{P:Program}{f:FuncId}{h:Fw→List SV→Option (Tree (SV×Fw))}(k:∀x rest t,h x rest=some t→t.says (zb3 P f rest x)):(x68 f h).ok P:=fun args m t ht=>by
 simp only[x68]at ht
 split at ht
 ·split at ht
  ·rename_i id off
   split at ht
   ·rename_i h0
    have h0:=Nat.eq_of_beq_eq_true h0;subst h0
    split at ht
    ·rename_i B hB
     split at ht
     ·rename_i cs
      split at ht
      ·rename_i hx
       split at ht
       ·rename_i t' ht'
        injection ht with ht;subst ht;exact x40 hB (zq5 hx) t' (k _ _ _ ht')
       ·cases ht
      ·cases ht
     ·cases ht
    ·cases ht
   ·cases ht
  ·cases ht
 ·cases ht
def zJ3:Plan:=.lit (.all)
noncomputable def zJ4(cap:Nat):Tree Stop:= .req (true) (.leaf (.done (.list t4 [])))
theorem zJ2(cap:Nat):w9 (Env.of pP (v7 [])) 1000 (j8 pP 175) t4 (x9 8 []) (u9 pP 175) zJ3 (u7 pP 175 [.raw (.slice none 0 cap)]) [] =zJ4 cap:=by kernel_rfl
def zJ6:Plan:=.lit (.lit (.all))
noncomputable def zJ7(a:Addr)(cap:Nat):Tree Stop:= .req (true) (.leaf (.done (.list t4 [])))
theorem zJ5(a:Addr)(cap:Nat):w9 (Env.of pP (v7 [])) 1000 (j8 pP 175) t4 (x9 8 []) (u9 pP 175) zJ6 (u7 pP 175 [.raw (.slice (some a) 0 cap)]) [] =zJ7 a cap:=by kernel_rfl
def zJ0:Plan:=.lit (.lit (.all))
noncomputable def zJ1(b:Ty.T t4)(l:List (Ty.T t4)):Tree Stop:= .req (!(b::l).isEmpty) (.req (decide ((0+(b::l).length)*64≤140737488355328)) (.leaf (.done (.list t4 (b::l)))))
theorem zI9(b:Ty.T t4)(l:List (Ty.T t4)):w9 (Env.of pP (v7 [])) 1000 (j8 pP 175) t4 (x9 8 []) (u9 pP 175) zJ0 (u7 pP 175 [.list t4 (b::l)]) [] =zJ1 b l:=by kernel_rfl
def zK2:Plan:=.lit (.all)
noncomputable def zK3(cap:Nat):Tree Stop:= .req (true) (.leaf (.done (.list (Ty.int IntKind.i64) [])))
theorem zK1(cap:Nat):w9 (Env.of pP (v7 [])) 1000 (j8 pP 176) (.int .i64) (x9 8 []) (u9 pP 176) zK2 (u7 pP 176 [.raw (.slice none 0 cap)]) [] =zK3 cap:=by kernel_rfl
def zK5:Plan:=.lit (.lit (.all))
noncomputable def zK6(a:Addr)(cap:Nat):Tree Stop:= .req (true) (.leaf (.done (.list (Ty.int IntKind.i64) [])))
theorem zK4(a:Addr)(cap:Nat):w9 (Env.of pP (v7 [])) 1000 (j8 pP 176) (.int .i64) (x9 8 []) (u9 pP 176) zK5 (u7 pP 176 [.raw (.slice (some a) 0 cap)]) [] =zK6 a cap:=by kernel_rfl
def zJ9:Plan:=.lit (.lit (.all))
noncomputable def zK0(b:Ty.T (.int .i64))(l:List (Ty.T (.int .i64))):Tree Stop:= .req (!(b::l).isEmpty) (.req (decide ((0+(b::l).length)*8≤140737488355328)) (.leaf (.done (.list (Ty.int IntKind.i64) (b::l)))))
theorem zJ8(b:Ty.T (.int .i64))(l:List (Ty.T (.int .i64))):w9 (Env.of pP (v7 [])) 1000 (j8 pP 176) (.int .i64) (x9 8 []) (u9 pP 176) zJ9 (u7 pP 176 [.list (.int .i64) (b::l)]) [] =zK0 b l:=by kernel_rfl
end Go.Proofs.YtnkaepnblikcdaaGreat
namespace Go.Sx
open Go.RowKit
section
variable {w0:World} {R0:RSet} {ρ:Rho} {w:World} {m mc m':Mem} {ρc:Rho} {w':World}
theorem qC6{id:Nat}{t:Ty}{l:List t.T}{u:Value}(hm:MRel w0 R0 ρ w m)(hc:MRel w (RS w0 R0 ρ w m) ρc w' mc)(hg0:mc.get id=some (.rows t l))(h3:zb9 m (.rows t l) m')(hr:Rep (RO w (RS w0 R0 ρ w m) ρc w' mc) ρc mc.next w' (.row id) u):n9 w0 R0 ρ w m (.row m.next) m' u w':=by
 have hh:=Hand.start hm hc
 have hm':∀j B,m'.get j=some B→(j=m.next∧B=.rows t l)∨(j≠m.next∧m.get j=some B):=fun j B hj=>by
  rw[h3.1 j]at hj
  by_cases e:j=m.next
  ·rw[if_pos e]at hj;injection hj with hj;exact .inl ⟨e,hj.symm⟩
  ·rw[if_neg e]at hj;exact .inr ⟨e,hj⟩
 have hwsz:=hm.size_le;have e:Ext (RR w0 R0 ρ w m ρc mc w') ρ m.next w' (RR w0 R0 ρ w m ρc mc w') (upd ρ m.next (ρc id)) m'.next w':=⟨by rw[h3.2];omega,fun j hj=>t6 _ _ (by omega),fun b hb=>⟨hb,rfl⟩⟩
 have hand:Hand w0 R0 ρ w m ρc mc w' (upd ρ m.next (ρc id)) m' ⟨0,.e⟩:=by
  refine⟨by rw[h3.2];omega,fun j hj=>t6 _ _ (by omega),fun j B hj=>?_,fun j B hj hs=>?_,fun j B hj hs=>?_,fun j B hj hs=>?_,fun j j' B B' hj hj' hs hs' he=>?_,fun j B hj=>?_,fun j B hj=>(by cases hj),fun j B hj=>(by cases hj),fun b hb=>?_⟩
  ·rw[h3.2]
   rcases hm' j B hj with⟨rfl,_⟩|⟨_,n2⟩
   ·omega
   ·have:=hh.lt j B n2;omega
  ·rcases hm' j B hj with⟨rfl,rfl⟩|⟨n1,n2⟩
   ·rw[p7]at hs ⊢;have:=hc.lo id _ hg0 hs;omega
   ·rw[t6 _ _ n1]at hs ⊢;exact hh.lo j B n2 hs
  ·rcases hm' j B hj with⟨rfl,rfl⟩|⟨n1,n2⟩
   ·rw[p7]at hs ⊢;exact hc.hi id _ hg0 hs
   ·rw[t6 _ _ n1]at hs ⊢;exact hh.hi j B n2 hs
  ·rcases hm' j B hj with⟨rfl,rfl⟩|⟨n1,n2⟩
   ·rw[p7]at hs ⊢;exact fun hr=>by have:=(hm.hid.1 _ hr).1;have:=hc.lo id _ hg0 hs;omega
   ·rw[t6 _ _ n1]at hs ⊢;exact hh.nh j B n2 hs
  ·rcases hm' j B hj with⟨rfl,rfl⟩|⟨n1,n2⟩<;>rcases hm' j' B' hj' with⟨rfl,rfl⟩|⟨n1',n2'⟩
   ·rfl
   ·rw[p7]at hs he;rw[t6 _ _ n1']at hs' he
    exact absurd he.symm (hh.apart id _ hg0 hs j' B' n2' hs')
   ·rw[p7]at hs' he;rw[t6 _ _ n1]at hs he
    exact absurd he (hh.apart id _ hg0 hs' j B n2 hs)
   ·rw[t6 _ _ n1]at hs he;rw[t6 _ _ n1']at hs' he
    exact hh.inj j j' B B' n2 n2' hs hs' he
  ·rcases hm' j B hj with⟨rfl,rfl⟩|⟨n1,n2⟩
   ·rw[p7]
    obtain⟨b1,b2,b3⟩:=hc.box id _ hg0;refine⟨b1,b2,fun hp=>?_⟩;obtain⟨arr,el,fr,q1,q2,q3,q4⟩:=b3 hp;refine⟨arr,el,fr,q1,q2,q3,fun i hi=>?_⟩;obtain⟨cs,c1,c2,c3⟩:=q4 i hi;exact⟨cs,c1,c2,p8.mono (fun b hb=>⟨.inr hb,rfl⟩) _ _ _ c3⟩
   ·rw[t6 _ _ n1]
    exact za2.mono e B (fun _=>rfl) (hh.box j B n2)
  ·have hne:xA0 (ρc id) (.rows t l)→(ρc id).1≠b:=fun hs=>by
    rcases hb with hb|hb
    ·have:=hm.ro_lt hb;have:=hc.lo id _ hg0 hs;omega
    ·exact hc.ro_ne hb hg0 hs
   rcases hh.ro b hb with hb|⟨g1,g2,g3,g4⟩
   ·exact .inl hb
   ·refine .inr ⟨g1,g2,fun j B hj hs=>?_,g4⟩
    rcases hm' j B hj with⟨rfl,rfl⟩|⟨n1,n2⟩
    ·rw[p7]at hs ⊢;exact hne hs
    ·rw[t6 _ _ n1]at hs ⊢;exact g3 j B n2 hs
 obtain⟨g4,g5⟩:=hand.finish hm hc;obtain⟨_,a,hu,ha⟩:=hr;exact⟨_,g4,g5,by rw[h3.2];omega,a,by rw[p7];exact hu,by rw[p7];exact ha⟩
theorem qC5{t:Ty}{a:Option Addr}(hm:MRel w0 R0 ρ w m)(hc:MRel w (RS w0 R0 ρ w m) ρc w' mc)(h3:zb9 m (.rows t []) m'):n9 w0 R0 ρ w m (.row m.next) m' (.slice a 0 0) w':=by
 have hh:=Hand.start hm hc
 have hm':∀j B,m'.get j=some B→(j=m.next∧B=.rows t [])∨(j≠m.next∧m.get j=some B):=fun j B hj=>by
  rw[h3.1 j]at hj
  by_cases e:j=m.next
  ·rw[if_pos e]at hj;injection hj with hj;exact .inl ⟨e,hj.symm⟩
  ·rw[if_neg e]at hj;exact .inr ⟨e,hj⟩
 have e:Ext (RR w0 R0 ρ w m ρc mc w') ρ m.next w' (RR w0 R0 ρ w m ρc mc w') (upd ρ m.next (0,0,0)) m'.next w':=⟨by rw[h3.2];omega,fun j hj=>t6 _ _ (by omega),fun b hb=>⟨hb,rfl⟩⟩
 have no:¬xA0 (upd ρ m.next (0,0,0) m.next) (.rows t []):=by rw[p7];exact Nat.lt_irrefl 0
 have hand:Hand w0 R0 ρ w m ρc mc w' (upd ρ m.next (0,0,0)) m' ⟨0,.e⟩:=by
  refine⟨by rw[h3.2];omega,fun j hj=>t6 _ _ (by omega),fun j B hj=>?_,fun j B hj hs=>?_,fun j B hj hs=>?_,fun j B hj hs=>?_,fun j j' B B' hj hj' hs hs' he=>?_,fun j B hj=>?_,fun j B hj=>(by cases hj),fun j B hj=>(by cases hj),fun b hb=>?_⟩
  ·rw[h3.2]
   rcases hm' j B hj with⟨rfl,_⟩|⟨_,n2⟩
   ·omega
   ·have:=hh.lt j B n2;omega
  ·rcases hm' j B hj with⟨rfl,rfl⟩|⟨n1,n2⟩
   ·exact absurd hs no
   ·rw[t6 _ _ n1]at hs ⊢;exact hh.lo j B n2 hs
  ·rcases hm' j B hj with⟨rfl,rfl⟩|⟨n1,n2⟩
   ·exact absurd hs no
   ·rw[t6 _ _ n1]at hs ⊢;exact hh.hi j B n2 hs
  ·rcases hm' j B hj with⟨rfl,rfl⟩|⟨n1,n2⟩
   ·exact absurd hs no
   ·rw[t6 _ _ n1]at hs ⊢;exact hh.nh j B n2 hs
  ·rcases hm' j B hj with⟨rfl,rfl⟩|⟨n1,n2⟩
   ·exact absurd hs no
   ·rcases hm' j' B' hj' with⟨rfl,rfl⟩|⟨n1',n2'⟩
    ·exact absurd hs' no
    ·rw[t6 _ _ n1']at hs' he;rw[t6 _ _ n1]at hs he
     exact hh.inj j j' B B' n2 n2' hs hs' he
  ·rcases hm' j B hj with⟨rfl,rfl⟩|⟨n1,n2⟩
   ·rw[p7];exact⟨rfl,Nat.le_refl _,fun h0=>absurd h0 (Nat.lt_irrefl _)⟩
   ·rw[t6 _ _ n1]
    exact za2.mono e B (fun _=>rfl) (hh.box j B n2)
  ·rcases hh.ro b hb with hb|⟨g1,g2,g3,g4⟩
   ·exact .inl hb
   ·refine .inr ⟨g1,g2,fun j B hj hs=>?_,g4⟩
    rcases hm' j B hj with⟨rfl,rfl⟩|⟨n1,n2⟩
    ·exact absurd hs no
    ·rw[t6 _ _ n1]at hs ⊢;exact g3 j B n2 hs
 obtain⟨g4,g5⟩:=hand.finish hm hc;exact⟨_,g4,g5,by rw[h3.2];omega,a,by rw[p7],by rw[p7];exact fun h0=>absurd h0 (Nat.lt_irrefl _)⟩
end
def yH6(t:Ty)(l:List t.T)(v:SV)(mc:Mem):Prop:=
 (∃id,v=.row id∧mc.get id=some (.rows t l))∨(l=[] ∧(v=.nilS∨(∃id off,v=.arr id off 0)))
theorem yI3{P:Program}{E:Env}(hK:Known P E){n:Nat}{f:FuncId}{args:List SV}{p:Plan}{t:Ty}{l:List t.T}(hd:f5 args=true)(h:(z16 E n f args p).holds fun x=>yH6 t l x.1 x.2){m m':Mem}(hp:zb9 m (.rows t l) m'):zd6 P m (.row m.next) m' f args:=by
 intro w0 R0 ρ w vs hm hvs;unfold z16 at h
 split at h
 ·rename_i fn hfn
  have hf:=hK.e.fn f fn hfn
  split at h
  ·rename_i body hb
   split at h
   ·rename_i hn
    obtain⟨fr,h1,h2,h3,h4⟩:=q26 h;obtain⟨out,h5,h6⟩:=z29 hK.e hK.s hK.mix n _ _ _ _ _ _ h1
    cases out with
    |stop it fr' m'=>exact h5.elim
    |pan v fr' m'=>exact h5.elim
    |ret p' fr' mc=>
     dsimp only at h5;obtain⟨v',h7,h8⟩:=y39 hK.e h5;have h7:yH6 t l v' mc:=h7;rw[zD6 hf hb hn];obtain⟨o1,o2⟩:=yI5 hm ρ;have hfr:=qv6 h2 h3 h4 (j7.data (R':=RO w (RS w0 R0 ρ w m) ρ w ⟨0,.e⟩) (ρ':=ρ) (n':=0) o2 args vs hd hvs)
     refine Calls.mono (zE5 hf hb h6 h8 o1 hfr) fun e w' ⟨u,he,ρ',g1,g2,g3⟩=>⟨u,he,?_⟩
     rcases h7 with⟨id,rfl,hg⟩|⟨rfl,rfl|⟨id,off,rfl⟩⟩
     ·exact qC6 hm g1 hg hp g3
     ·rw[show u=_ from g3];exact qC5 hm g1 hp
     ·obtain⟨_,hu⟩:=g3
      rw[hu];exact qC5 hm g1 hp
   ·exact h.elim
  ·exact h.elim
 ·exact h.elim
noncomputable def q36(t:Ty)(l:List t.T):Mem:=⟨1,.n .e (some (.rows t l)) .e⟩
theorem yI8{P:Program}{f:FuncId}{args:List SV}{t:Ty}{l:List t.T}(h:∀m m',zb9 m (.rows t l) m'→zd6 P m (.row m.next) m' f args):zc5 P f args (.row 0,q36 t l):=by
 intro m v' m' ha
 change ((q36 t l).set 0 none fun mc=>m.push (.rows t l) fun m id=>Tree.leaf (SV.row id,m)).holds _ at ha
 obtain⟨mc',h1,h2⟩:=Mem.set_holds ha;obtain⟨m1,h3,h4⟩:=Mem.push_holds h2;injection h4 with e1 e2;subst e1 e2;exact h m m1 h3
noncomputable def yH7(x:SV×Mem):SV:=match x.1 with
 |.row id=>match x.2.get id with
  |some (.rows t l)=>.list t l
  |_=>.undef
 |.nilS=>.nilS
 |.arr _ _ n=>match n with
  |0=>.nilS
  |_+1=>.undef
 |_=>.undef
noncomputable def Tree.ownT:Tree (SV×Mem)→Tree SV
 |.leaf x=>.leaf (yH7 x)
 |.node b t f=>.node b t.ownT f.ownT
 |.req b t=>.req b t.ownT
 |.fail n=>.fail n
theorem yH9{t:Ty}{l:List t.T}{x:SV×Mem}(h:yH7 x=.list t l):yH6 t l x.1 x.2:=by
 unfold yH7 at h
 split at h
 ·rename_i id hx
  split at h
  ·rename_i t' l' hg
   injection h with h1 h2;subst h1;have h2:=eq_of_heq h2;subst h2;exact .inl ⟨id,hx,hg⟩
  ·cases h
 ·cases h
 ·split at h<;>cases h
 ·cases h
theorem yH8{t:Ty}{x:SV×Mem}(h:yH7 x=.nilS):yH6 t [] x.1 x.2:=by
 unfold yH7 at h
 split at h
 ·split at h<;>cases h
 ·rename_i hx;exact .inr ⟨rfl,.inl hx⟩
 ·rename_i id off n hx
  split at h
  ·exact .inr ⟨rfl,.inr ⟨id,off,hx⟩⟩
  ·cases h
 ·cases h
theorem Tree.ownT_holds{L:SV→Prop}:∀t:Tree (SV×Mem),t.ownT.holds L→t.holds fun x=>L (yH7 x)
 |.leaf _,h=>h
 |.node _ t f,h=>⟨fun hb=>ownT_holds t (h.1 hb),fun hb=>ownT_holds f (h.2 hb)⟩
 |.req _ t,h=>⟨h.1,ownT_holds t h.2⟩
 |.fail _,h=>h.elim
theorem yI4{P:Program}{E:Env}(hK:Known P E)(n:Nat)(p:Plan){f:FuncId}{args:List SV}{t:Ty}{l:List t.T}{T:Tree SV}(hT:(z16 E n f args p).ownT=T)(h:T.holds fun v=>v=.list t l)(hd:f5 args=true){m m':Mem}(hp:zb9 m (.rows t l) m'):zd6 P m (.row m.next) m' f args:=
 yI3 hK (n:=n) (p:=p) hd (Tree.holds_mono (fun x hx=>yH9 hx) _ (Tree.ownT_holds _ (by rw[hT];exact h))) hp
theorem yI6{P:Program}{E:Env}(hK:Known P E)(n:Nat)(p:Plan){f:FuncId}{args:List SV}{t:Ty}{T:Tree SV}(hT:(z16 E n f args p).ownT=T)(h:T.holds fun v=>v=.nilS)(hd:f5 args=true){m m':Mem}(hp:zb9 m (.rows t []) m'):zd6 P m (.row m.next) m' f args:=
 yI3 hK (n:=n) (p:=p) (l:=([] :List t.T)) hd (Tree.holds_mono (fun x hx=>yH8 hx) _ (Tree.ownT_holds _ (by rw[hT];exact h))) hp
end Go.Sx
namespace Go.Proofs.YtnkaepnblikcdaaGreat
open Go.Sx
theorem zK7{P:Program}{f:FuncId}{t:Ty}(hn:∀cap,SCall P f [.raw (.slice none 0 cap)] (.list t []))(hs:∀a cap,SCall P f [.raw (.slice (some a) 0 cap)] (.list t []))(l:List t.T)
  (hc:∀b r,l=b::r→SCall P f [.list t (b::r)] (.list t (b::r))):SCall P f [.list t l] (.list t l):=by
 cases l with
 |cons b r=>exact hc b r rfl
 |nil=>
  intro m w0 R0 ρ w vs hm hvs;obtain⟨u,us,rfl,h1,h2⟩:=hvs;rw[show us=[]from h2];obtain⟨a,cap,hxv,_,_⟩:=h1;injection hxv with hxv;subst hxv
  cases a with
  |none=>exact hn cap m w0 R0 ρ w [_] hm ⟨_,[],rfl,rfl,rfl⟩
  |some a=>exact hs a cap m w0 R0 ρ w [_] hm ⟨_,[],rfl,rfl,rfl⟩
theorem yc6{P:Program}{f:FuncId}{t:Ty}{v:SV}(h:SCall P f [.list t []] v):SCall P f [.nilS] v:=by
 intro m w0 R0 ρ w vs hm hvs;obtain⟨u,us,rfl,h1,h2⟩:=hvs;refine h m w0 R0 ρ w _ hm ⟨u,us,rfl,?_,h2⟩;exact⟨none,0,by rw[show u=_ from h1];rfl,Nat.le_refl _,fun h=>absurd h (Nat.lt_irrefl _)⟩
def qr4(n:Nat):Bool:=decide ((n:Int)≤100000)
theorem qr5{n:Nat}:qr4 n=true↔n≤100000:=by simp only[qr4,decide_eq_true_eq];omega
theorem xc3(l:List Bk)(h:qr4 l.length=true):SCall pP 175 [LB l] (LB l):=by
 have h:=qr5.1 h;refine zK7 (t:=t4) (fun cap=>?_) (fun a cap=>?_) l (fun b r hl=>?_)
 ·refine m6 rfl rfl (by kernel_rfl) (w6 k0 (n:=1000) (hint:=t4) (keep:=x9 8 []) (p:=zJ3) (boxes:=[]) rfl ?_)
  have e:=zJ2 cap;unfold u7 u9 at e;erw [e];exact⟨rfl,rfl⟩
 ·refine m6 rfl rfl (by kernel_rfl) (w6 k0 (n:=1000) (hint:=t4) (keep:=x9 8 []) (p:=zJ6) (boxes:=[]) rfl ?_)
  have e:=zJ5 a cap;unfold u7 u9 at e;erw [e];exact⟨rfl,rfl⟩
 ·subst hl
  refine m6 rfl rfl (by kernel_rfl) (w6 k0 (n:=1000) (hint:=t4) (keep:=x9 8 []) (p:=zJ0) (boxes:=[]) rfl ?_);have e:=zI9 b r;unfold u7 u9 at e;erw [e];refine⟨rfl,?_,rfl⟩;rw[decide_eq_true_eq];have h:(List.length (α:=Ty.T t4) (b::r):Nat)≤100000:=h;omega
theorem xc4(l:List Int)(h:qr4 l.length=true):SCall pP 176 [LI l] (LI l):=by
 have h:=qr5.1 h;refine zK7 (t:=.int .i64) (fun cap=>?_) (fun a cap=>?_) l (fun b r hl=>?_)
 ·refine m6 rfl rfl (by kernel_rfl) (w6 k0 (n:=1000) (hint:=.int .i64) (keep:=x9 8 []) (p:=zK2) (boxes:=[]) rfl ?_)
  have e:=zK1 cap;unfold u7 u9 at e;erw [e];exact⟨rfl,rfl⟩
 ·refine m6 rfl rfl (by kernel_rfl) (w6 k0 (n:=1000) (hint:=.int .i64) (keep:=x9 8 []) (p:=zK5) (boxes:=[]) rfl ?_)
  have e:=zK4 a cap;unfold u7 u9 at e;erw [e];exact⟨rfl,rfl⟩
 ·subst hl
  refine m6 rfl rfl (by kernel_rfl) (w6 k0 (n:=1000) (hint:=.int .i64) (keep:=x9 8 []) (p:=zJ9) (boxes:=[]) rfl ?_);have e:=zJ8 b r;unfold u7 u9 at e;erw [e];refine⟨rfl,?_,rfl⟩;rw[decide_eq_true_eq];have h:(List.length (α:=Ty.T (.int .i64)) (b::r):Nat)≤100000:=h;omega
def z47:Fact:=⟨175,fun args=>match args with
 |[.list (.pair (.pair (.int .i64) (.pair (.int .i64) (.pair (.int .i64) (.int .i64)))) (.pair (.int .i64) (.pair (.int .i64) (.pair (.int .i64) (.int .i64))))) l] =>some (.req (qr4 (List.length l)) (.leaf (LB l)))
 |[.nilS] =>some (.leaf (LB []))
 |_=>none⟩
def z48:Fact:=⟨176,fun args=>match args with
 |[.list (.int .i64) l] =>some (.req (qr4 (List.length l)) (.leaf (LI l)))
 |[.nilS] =>some (.leaf (LI []))
 |_=>none⟩
theorem yk1:z47.ok pP:=fun args t ht=>by
 simp only[z47]at ht
 split at ht
 ·injection ht with ht;subst ht;exact xc3 _
 ·injection ht with ht;subst ht
  exact yc6 (t:=t4) (xc3 [] rfl)
 ·cases ht
theorem yk2:z48.ok pP:=fun args t ht=>by
 simp only[z48]at ht
 split at ht
 ·injection ht with ht;subst ht;exact xc4 _
 ·injection ht with ht;subst ht
  exact yc6 (t:=.int .i64) (xc4 [] rfl)
 ·cases ht
theorem yI2{P:Program}{f:FuncId}{t:Ty}(hn:∀cap m m',zb9 m (.rows t []) m'→zd6 P m (.row m.next) m' f [.raw (.slice none 0 cap)])(hs:∀a cap m m',zb9 m (.rows t []) m'→zd6 P m (.row m.next) m' f [.raw (.slice (some a) 0 cap)])(l:List t.T)
  (hc:∀b r,l=b::r→∀m m',zb9 m (.rows t (b::r)) m'→zd6 P m (.row m.next) m' f [.list t (b::r)]) {m m':Mem} (hp:zb9 m (.rows t l) m'):zd6 P m (.row m.next) m' f [.list t l] :=by
 cases l with
 |cons b r=>exact hc b r rfl m m' hp
 |nil=>
  intro w0 R0 ρ w vs hm hvs;obtain⟨u,us,rfl,h1,h2⟩:=hvs;rw[show us=[]from h2];obtain⟨a,cap,hxv,_,_⟩:=h1;injection hxv with hxv;subst hxv
  cases a with
  |none=>exact hn cap m m' hp w0 R0 ρ w [_] hm ⟨_,[],rfl,rfl,rfl⟩
  |some a=>exact hs a cap m m' hp w0 R0 ρ w [_] hm ⟨_,[],rfl,rfl,rfl⟩
theorem yh1(cap:Nat):(z16 (Env.of pP (v7 [])) 1000 175 [.raw (.slice none 0 cap)] zJ3).ownT=.req true (.leaf .nilS):=by kernel_rfl
theorem yh2(a:Addr)(cap:Nat):(z16 (Env.of pP (v7 [])) 1000 175 [.raw (.slice (some a) 0 cap)] zJ6).ownT=.req true (.leaf .nilS):=by kernel_rfl
theorem yh0(b:Bk)(l:List Bk):(z16 (Env.of pP (v7 [])) 1000 175 [.list t4 (b::l)] zJ0).ownT=.req (!(b::l).isEmpty) (.req (decide ((0+(b::l).length)*64≤140737488355328)) (.leaf (.list t4 (b::l)))):=by kernel_rfl
theorem yh4(cap:Nat):(z16 (Env.of pP (v7 [])) 1000 176 [.raw (.slice none 0 cap)] zK2).ownT=.req true (.leaf .nilS):=by kernel_rfl
theorem yh5(a:Addr)(cap:Nat):(z16 (Env.of pP (v7 [])) 1000 176 [.raw (.slice (some a) 0 cap)] zK5).ownT=.req true (.leaf .nilS):=by kernel_rfl
theorem yh3(b:Int)(l:List Int):(z16 (Env.of pP (v7 [])) 1000 176 [.list (.int .i64) (b::l)] zJ9).ownT=.req (!(b::l).isEmpty) (.req (decide ((0+(b::l).length)*8≤140737488355328)) (.leaf (.list (.int .i64) (b::l)))):=by kernel_rfl
theorem yI0(l:List Bk)(h:qr4 l.length=true):zc5 pP 175 [LB l] (.row 0,q36 t4 l):=
 yI8 (t:=t4) fun m m' hp=>yI2 (t:=t4) (fun cap m m' hp=>yI6 k0 1000 zJ3 (yh1 cap) ⟨rfl,rfl⟩ rfl hp) (fun a cap m m' hp=>yI6 k0 1000 zJ6 (yh2 a cap) ⟨rfl,rfl⟩ rfl hp) l (fun b r e m m' hp=>yI4 (t:=t4) k0 1000 zJ0 (yh0 b r) ⟨rfl,by
  have h:=qr5.1 h;rw[e]at h;rw[decide_eq_true_eq];have h:(List.length (α:=Ty.T t4) (b::r):Nat)≤100000:=h
  omega,rfl⟩ rfl hp) hp
theorem yI1(l:List Int)(h:qr4 l.length=true):zc5 pP 176 [LI l] (.row 0,q36 (.int .i64) l):=
 yI8 (t:=.int .i64) fun m m' hp=>yI2 (t:=.int .i64) (fun cap m m' hp=>yI6 k0 1000 zK2 (yh4 cap) ⟨rfl,rfl⟩ rfl hp) (fun a cap m m' hp=>yI6 k0 1000 zK5 (yh5 a cap) ⟨rfl,rfl⟩ rfl hp) l (fun b r e m m' hp=>yI4 (t:=.int .i64) k0 1000 zJ9 (yh3 b r) ⟨rfl,by
  have h:=qr5.1 h;rw[e]at h;rw[decide_eq_true_eq];have h:(List.length (α:=Ty.T (.int .i64)) (b::r):Nat)≤100000:=h
  omega,rfl⟩ rfl hp) hp
theorem yI7{P:Program}{f:FuncId}{t:Ty}{x:SV×Mem}(h:zc5 P f [.list t []] x):zc5 P f [.nilS] x:=by
 intro m v' m' ha w0 R0 ρ w vs hm hvs;obtain⟨u,us,rfl,h1,h2⟩:=hvs;refine h m v' m' ha w0 R0 ρ w _ hm ⟨u,us,rfl,?_,h2⟩;exact⟨none,0,by rw[show u=_ from h1];rfl,Nat.le_refl _,fun h=>absurd h (Nat.lt_irrefl _)⟩
noncomputable def yg8:OFact:=⟨175,fun args=>match args with
 |[.list (.pair (.pair (.int .i64) (.pair (.int .i64) (.pair (.int .i64) (.int .i64)))) (.pair (.int .i64) (.pair (.int .i64) (.pair (.int .i64) (.int .i64))))) l] =>some (.req (qr4 (List.length l)) (.leaf (.row 0,q36 t4 l)))
 |[.nilS] =>some (.leaf (.row 0,q36 t4 []))
 |_=>none⟩
noncomputable def yg9:OFact:=⟨176,fun args=>match args with
 |[.list (.int .i64) l] =>some (.req (qr4 (List.length l)) (.leaf (.row 0,q36 (.int .i64) l)))
 |[.nilS] =>some (.leaf (.row 0,q36 (.int .i64) []))
 |_=>none⟩
theorem yq4:yg8.ok pP:=fun args t ht=>by
 simp only[yg8]at ht
 split at ht
 ·injection ht with ht;subst ht;exact yI0 _
 ·injection ht with ht;subst ht;exact yI7 (t:=t4) (yI0 [] rfl)
 ·cases ht
theorem yq5:yg9.ok pP:=fun args t ht=>by
 simp only[yg9]at ht
 split at ht
 ·injection ht with ht;subst ht;exact yI1 _
 ·injection ht with ht;subst ht;exact yI7 (t:=.int .i64) (yI1 [] rfl)
 ·cases ht
def qW0:List UInt8:=[0,1,2,2,3,3,3,3,4,4,4,4,4,4,4,4,5,5,5,5,5,5,5,5,5,5,5,5,5,5,5,5,6,6,6,6,6,6,6,6,6,6,6,6,6,6,6,6,6,6,6,6,6,6,6,6,6,6,6,6,6,6,6,6,7,7,7,7,7,7,7,7,7,7,7,7,7,7,7,7,7,7,7,7,7,7,7,7,7,7,7,7,7,7,7,7,7,7,7,7,7,7,7,7,7,7,7,7,7,7,7,7,7,7,7,7,7,7,7,7,7,7,7,7,7,7,7,7,8,8,8,8,8,8,8,8,8,8,8,8,8,8,8,8,8,8,8,8,8,8,8,8,8,8,8,8,8,8,8,8,8,8,8,8,8,8,8,8,8,8,8,8,8,8,8,8,8,8,8,8,8,8,8,8,8,8,8,8,8,8,8,8,8,8,8,8,8,8,8,8,8,8,8,8,8,8,8,8,8,8,8,8,8,8,8,8,8,8,8,8,8,8,8,8,8,8,8,8,8,8,8,8,8,8,8,8,8,8,8,8,8,8,8,8,8,8,8,8,8,8,8,8,8,8,8,8]
def U64(n:Int):SV:=.int .u64 n
def qW2(x:Int):Int:=(qW0.getD x.toNat 0).toNat
def qX2(x:Int):Int:=
 if x≥4294967296 then
  if x / 4294967296≥65536 then
   if x / 4294967296 / 65536≥256 then 56+qW2 (x / 4294967296 / 65536 / 256)else 48+qW2 (x / 4294967296 / 65536)
  else if x / 4294967296≥256 then 40+qW2 (x / 4294967296 / 256)else 32+qW2 (x / 4294967296)
 else if x≥65536 then
  if x / 65536≥256 then 24+qW2 (x / 65536 / 256)else 16+qW2 (x / 65536)
 else if x≥256 then 8+qW2 (x / 256)else qW2 x
def okU(x:Int):Bool:=inR x 0 18446744073709551615
def qn2(f:FuncId)(h:Int→Tree SV):Fact:=⟨f,fun args=>match args with
 |[.int .u64 a] =>some (h a)
 |_=>none⟩
theorem qn7{P:Program}{f:FuncId}{h:Int→Tree SV}(k:∀a,(h a).says (SCall P f [U64 a])):(qn2 f h).ok P:=fun args t ht=>by
 simp only[qn2]at ht
 split at ht
 ·injection ht with ht;subst ht;exact k _
 ·cases ht
def qn3(f:FuncId)(h:Int→Int→Tree SV):Fact:=⟨f,fun args=>match args with
 |[.int .u64 a,.int .u64 b] =>some (h a b)
 |_=>none⟩
theorem qn6{P:Program}{f:FuncId}{h:Int→Int→Tree SV}(k:∀a b,(h a b).says (SCall P f [U64 a,U64 b])):(qn3 f h).ok P:=fun args t ht=>by
 simp only[qn3]at ht
 split at ht
 ·injection ht with ht;subst ht;exact k _ _
 ·cases ht
def qn4(f:FuncId)(h:Int→Int→Int→Tree SV):Fact:=⟨f,fun args=>match args with
 |[.int .u64 a,.int .u64 b,.int .u64 c] =>some (h a b c)
 |_=>none⟩
theorem qn5{P:Program}{f:FuncId}{h:Int→Int→Int→Tree SV}(k:∀a b c,(h a b c).says (SCall P f [U64 a,U64 b,U64 c])):(qn4 f h).ok P:=fun args t ht=>by
 simp only[qn4]at ht
 split at ht
 ·injection ht with ht;subst ht;exact k _ _ _
 ·cases ht
theorem qW1:((List.range 256).all fun k=>Nat.ble (qW0.getD k 0).toNat 8&& (Nat.beq k 0||(Nat.ble (2 ^ ((qW0.getD k 0).toNat-1)) k&& (Nat.blt k (2 ^ (qW0.getD k 0).toNat)&&Nat.ble 1 (qW0.getD k 0).toNat))))=true:=by kernel_rfl
theorem qW4{x:Int}(h0:1≤x)(h1:x<256):∃t:Nat,qW2 x=t∧1≤t∧t≤8∧(2:Int) ^ (t-1)≤x∧x<2 ^ t:=by
 have h:=List.all_eq_true.1 qW1 x.toNat (List.mem_range.2 (by omega));simp only[Bool.and_eq_true,Bool.or_eq_true,Nat.ble_eq,Nat.beq_eq_true_eq,Nat.blt_eq]at h;obtain⟨h2,h3⟩:=h;rcases h3 with h3|⟨h3,h4,h5⟩
 ·have:=Nat.eq_of_beq_eq_true h3;omega
 ·refine⟨_,rfl,h5,h2,?_,?_⟩
  ·have:((2 ^ ((qW0.getD x.toNat 0).toNat-1):Nat):Int)≤(x.toNat:Int):=Int.ofNat_le.2 h3
   rw[Int.toNat_of_nonneg (by omega)]at this
   simpa using this
  ·have:((x.toNat:Nat):Int)< ((2 ^ ((qW0.getD x.toNat 0).toNat):Nat):Int):=Int.ofNat_lt.2 h4
   rw[Int.toNat_of_nonneg (by omega)]at this
   simpa using this
theorem qX4{x:Int}{e t:Nat}(ht:1≤t)(h1:(2:Int) ^ (t-1)≤x / 2 ^ e)(h2:x / 2 ^ e<2 ^ t):(2:Int) ^ (e+t-1)≤x∧x<2 ^ (e+t):=by
 have hp:(0:Int)<2 ^ e:=yR7 e;constructor
 ·rw[Int.le_ediv_iff_mul_le hp]at h1
  rw[show e+t-1=(t-1)+e by omega,Int.pow_add];exact h1
 ·rw[Int.ediv_lt_iff_lt_mul hp]at h2
  rw[show e+t=t+e by omega,Int.pow_add];exact h2
theorem qX3{x:Int}(h0:1≤x)(h1:x<18446744073709551616):∃n:Nat,qX2 x=n∧1≤n∧n≤64∧(2:Int) ^ (n-1)≤x∧x<2 ^ n:=by
 have go:∀ (e:Nat) (k:Int),e≤56→k=x / 2 ^ e→1≤k→k<256→∃n:Nat,(e:Int)+qW2 k=n∧1≤n∧n≤64∧(2:Int) ^ (n-1)≤x∧x<2 ^ n:=fun e k he hk k1 k2=>by
  obtain⟨t,e1,e2,e3,e4,e5⟩:=qW4 k1 k2;rw[hk]at e4 e5;obtain⟨u1,u2⟩:=qX4 e2 e4 e5;exact⟨e+t,by rw[e1];simp,by omega,by omega,u1,u2⟩
 unfold qX2
 (repeat' split)
 ·exact go 56 _ (by omega) (by rw[show(2:Int) ^ 56=72057594037927936 by decide];omega) (by omega) (by omega)
 ·exact go 48 _ (by omega) (by rw[show(2:Int) ^ 48=281474976710656 by decide];omega) (by omega) (by omega)
 ·exact go 40 _ (by omega) (by rw[show(2:Int) ^ 40=1099511627776 by decide];omega) (by omega) (by omega)
 ·exact go 32 _ (by omega) (by rw[show(2:Int) ^ 32=4294967296 by decide]) (by omega) (by omega)
 ·exact go 24 _ (by omega) (by rw[show(2:Int) ^ 24=16777216 by decide];omega) (by omega) (by omega)
 ·exact go 16 _ (by omega) (by rw[show(2:Int) ^ 16=65536 by decide]) (by omega) (by omega)
 ·exact go 8 _ (by omega) (by rw[show(2:Int) ^ 8=256 by decide]) (by omega) (by omega)
 ·have:=go 0 x (by omega) (by simp) (by omega) (by omega)
  simpa using this
theorem qW3(x:Int):0≤qW2 x∧qW2 x≤255:=by unfold qW2;have:=(qW0.getD x.toNat 0).toNat_lt;omega
theorem w8{x:Int}(h0:0≤x)(h1:x<256):u8.wrap x=x:=by
 have h2:IntKind.wrap .u8 x=if false&&decide (x % 256≥128)then x % 256-256 else x % 256:=rfl
 rw[h2];simp only[Bool.false_and,Bool.false_eq_true,if_false];omega
theorem wU(x:Int):u64.wrap x=x % 18446744073709551616:=by
 have h2:IntKind.wrap .u64 x=if false&&decide (x % 18446744073709551616≥9223372036854775808)then x % 18446744073709551616-18446744073709551616 else x % 18446744073709551616:=rfl
 rw[h2];simp only[Bool.false_and,Bool.false_eq_true,if_false]
theorem zo8{x:Int}(h0:0≤x)(h1:x<18446744073709551616):(((BitVec.ofInt 64 x &&&BitVec.ofInt 64 4294967295).toNat:Nat):Int)=x % 4294967296:=by
 obtain⟨m,rfl⟩:=Int.eq_ofNat_of_zero_le h0
 have e1:(BitVec.ofInt 64 (m:Int)).toNat=m:=by
  rw[BitVec.toNat_ofInt];have:((2 ^ 64:Nat):Int)=18446744073709551616:=rfl;rw[this];omega
 have e2:(BitVec.ofInt 64 4294967295).toNat=2 ^ 32-1:=by decide
 rw[BitVec.toNat_and,e1,e2,Nat.and_two_pow_sub_one_eq_mod];omega
theorem xi4(x:Int)(h:okU x=true):SCall pP 318 [U64 x] (J (qX2 x)):=
 o8 mix [] trivial 1000 (.fork (.fork (.fork (.all) (.all)) (.fork (.all) (.all))) (.fork (.fork (.all) (.all)) (.fork (.all) (.all))))
  (t:=let y0:=x.fdiv 4294967296;let y1:=y0.fdiv 65536;let y2:=x.fdiv 65536;.node (decide (x≥4294967296)) (.req true (.node (decide (x.fdiv 4294967296≥65536)) (.req true (.node (decide (y0.fdiv 65536≥256)) (.req true (.req (decide (0≤u8.wrap (y1.fdiv 256))&&decide (u8.wrap (y1.fdiv 256)<256)) (.leaf (.int .i64 (i64.wrap (56+i64.wrap (↑(qW0.getD (u8.wrap (y1.fdiv 256)).toNat 0).toNat:Int))))))) (.req (decide (0≤u8.wrap y1)&&decide (u8.wrap y1<256)) (.leaf (.int .i64 (i64.wrap (48+i64.wrap (↑(qW0.getD (u8.wrap y1).toNat 0).toNat:Int)))))))) (.node (decide (x.fdiv 4294967296≥256)) (.req true (.req (decide (0≤u8.wrap (y0.fdiv 256))&&decide (u8.wrap (y0.fdiv 256)<256)) (.leaf (.int .i64 (i64.wrap (40+i64.wrap (↑(qW0.getD (u8.wrap (y0.fdiv 256)).toNat 0).toNat:Int))))))) (.req (decide (0≤u8.wrap y0)&&decide (u8.wrap y0<256)) (.leaf (.int .i64 (i64.wrap (32+i64.wrap (↑(qW0.getD (u8.wrap y0).toNat 0).toNat:Int))))))))) (.node (decide (x≥65536)) (.req true (.node (decide (x.fdiv 65536≥256)) (.req true (.req (decide (0≤u8.wrap (y2.fdiv 256))&&decide (u8.wrap (y2.fdiv 256)<256)) (.leaf (.int .i64 (i64.wrap (24+i64.wrap (↑(qW0.getD (u8.wrap (y2.fdiv 256)).toNat 0).toNat:Int))))))) (.req (decide (0≤u8.wrap y2)&&decide (u8.wrap y2<256)) (.leaf (.int .i64 (i64.wrap (16+i64.wrap (↑(qW0.getD (u8.wrap y2).toNat 0).toNat:Int)))))))) (.node (decide (x≥256)) (.req true (.req (decide (0≤u8.wrap (x.fdiv 256))&&decide (u8.wrap (x.fdiv 256)<256)) (.leaf (.int .i64 (i64.wrap (8+i64.wrap (↑(qW0.getD (u8.wrap (x.fdiv 256)).toNat 0).toNat:Int))))))) (.req (decide (0≤u8.wrap x)&&decide (u8.wrap x<256)) (.leaf (.int .i64 (i64.wrap (0+i64.wrap (↑(qW0.getD (u8.wrap x).toNat 0).toNat:Int)))))))))
  (by kernel_rfl) (by
   have r:=v8.1 h
   have f1:∀y:Int,y.fdiv 4294967296=y / 4294967296:=fun y=>Int.fdiv_eq_ediv_of_nonneg _ (by omega)
   have f2:∀y:Int,y.fdiv 65536=y / 65536:=fun y=>Int.fdiv_eq_ediv_of_nonneg _ (by omega)
   have f3:∀y:Int,y.fdiv 256=y / 256:=fun y=>Int.fdiv_eq_ediv_of_nonneg _ (by omega)
   simp only[f1,f2,f3]
   have g:∀k:Int,0≤k→k<256→i64.wrap (((qW0.getD (u8.wrap k).toNat 0).toNat:Nat):Int)=qW2 k:=fun k h0 h1=>by
    have:=qW3 k;rw[w8 h0 h1];exact w64 (by have:((qW0.getD k.toNat 0).toNat:Int)=qW2 k:=rfl;omega) (by have:((qW0.getD k.toNat 0).toNat:Int)=qW2 k:=rfl;omega)
   simp only[Tree.holds,sL,ne_eq,sLb,sLc,eq_self,sLd,sLe,sLf];(repeat' (first|apply And.intro|intro _));
   all_goals first
    |(rw[w8 (by omega) (by omega)];omega)
    |(rw[g _ (by omega) (by omega)]
      refine xJ6 ?_;have:=qW3;unfold qX2
      repeat first|rw[if_pos (by omega)] |rw[if_neg (by omega)]
      first
      |(rw[w64 (by have:=qW3 (x / 4294967296 / 65536 / 256);omega) (by have:=qW3 (x / 4294967296 / 65536 / 256);omega)])
      |(rw[w64 (by have:=qW3 (x / 4294967296 / 65536);omega) (by have:=qW3 (x / 4294967296 / 65536);omega)])
      |(rw[w64 (by have:=qW3 (x / 4294967296 / 256);omega) (by have:=qW3 (x / 4294967296 / 256);omega)])
      |(rw[w64 (by have:=qW3 (x / 4294967296);omega) (by have:=qW3 (x / 4294967296);omega)])
      |(rw[w64 (by have:=qW3 (x / 65536 / 256);omega) (by have:=qW3 (x / 65536 / 256);omega)])
      |(rw[w64 (by have:=qW3 (x / 65536);omega) (by have:=qW3 (x / 65536);omega)])
      |(rw[w64 (by have:=qW3 (x / 256);omega) (by have:=qW3 (x / 256);omega)])
      |(rw[w64 (by have:=qW3 x;omega) (by have:=qW3 x;omega)];omega))) (by kernel_rfl) (by kernel_rfl)
def z95:Fact:=qn2 318 fun x=>.req (okU x) (.leaf (J (qX2 x)))
theorem yo6:z95.ok pP:=qn7 fun x h=>xi4 x h
def yR9(x y:Int):SV:=.tuple [U64 (x*y / 18446744073709551616),U64 (x*y % 18446744073709551616)]
theorem yL6{a b c d:Int}(h:a=c)(k:b=d):SV.tuple [SV.int .u64 a,SV.int .u64 b] =SV.tuple [U64 c,U64 d] :=by subst h k;rfl
theorem xk9(x y:Int)(hx:okU x=true)(hy:okU y=true):SCall pP 331 [U64 x,U64 y] (yR9 x y):=
 o8 mix [] trivial 1000 (.all)
  (t:=let y1:=(↑(BitVec.ofInt 64 x &&&BitVec.ofInt 64 4294967295).toNat:Int);let y2:=(↑(BitVec.ofInt 64 y &&&BitVec.ofInt 64 4294967295).toNat:Int);let y0:=u64.wrap (u64.wrap (x.fdiv 4294967296*u64.wrap y2)+(u64.wrap (u64.wrap y1*u64.wrap y2)).fdiv 4294967296);.req (true) (.req true (.req (true) (.req true (.req (true) (.leaf (.tuple [.int .u64 (u64.wrap (u64.wrap (u64.wrap (x.fdiv 4294967296*y.fdiv 4294967296)+y0.fdiv 4294967296)+(u64.wrap (u64.wrap (↑(BitVec.ofInt 64 y0 &&&BitVec.ofInt 64 4294967295).toNat:Int)+u64.wrap (u64.wrap y1*y.fdiv 4294967296))).fdiv 4294967296)),.int .u64 (u64.wrap (x*y))])))))))
  (by kernel_rfl) (by
   have rx:=v8.1 hx;have ry:=v8.1 hy;obtain⟨X,rfl⟩:=Int.eq_ofNat_of_zero_le rx.1;obtain⟨Y,rfl⟩:=Int.eq_ofNat_of_zero_le ry.1
   have f1:∀y:Int,y.fdiv 4294967296=y / 4294967296:=fun y=>Int.fdiv_eq_ediv_of_nonneg _ (by omega)
   simp only[Tree.holds,f1,zo8 rx.1 (by omega),zo8 ry.1 (by omega),true_and];obtain⟨k1,k2,k3,k4⟩:=Go.Lib.mul64_hi X Y (by omega) (by omega)
   have wN:∀n:Nat,n<18446744073709551616→u64.wrap (n:Int)=(n:Int):=fun n hn=>by rw[wU];omega
   have c1:(X:Int) % 4294967296=((X % 4294967296:Nat):Int):=by omega
   have c2:(Y:Int) % 4294967296=((Y % 4294967296:Nat):Int):=by omega
   have c3:(X:Int) / 4294967296=((X / 4294967296:Nat):Int):=by omega
   have c4:(Y:Int) / 4294967296=((Y / 4294967296:Nat):Int):=by omega
   have q1:=Nat.mul_le_mul (show X / 4294967296≤4294967295 by omega) (show Y % 4294967296≤4294967295 by omega);have q2:=Nat.mul_le_mul (show X % 4294967296≤4294967295 by omega) (show Y / 4294967296≤4294967295 by omega);have q3:=Nat.mul_le_mul (show X / 4294967296≤4294967295 by omega) (show Y / 4294967296≤4294967295 by omega);have q4:=Nat.mul_le_mul (show X % 4294967296≤4294967295 by omega) (show Y % 4294967296≤4294967295 by omega);simp only[c1,c2,c3,c4,←Int.natCast_mul,wN _ (show X % 4294967296<18446744073709551616 by omega),wN _ (show Y % 4294967296<18446744073709551616 by omega)]
   generalize ha:X / 4294967296*(Y % 4294967296)=a at *
   generalize hb:X % 4294967296*(Y / 4294967296)=b at *
   generalize hc:X / 4294967296*(Y / 4294967296)=c at *
   generalize hd:X % 4294967296*(Y % 4294967296)=d at *
   simp only[wN a (by omega),wN b (by omega),wN c (by omega),wN d (by omega)]
   have c5:((d:Nat):Int) / 4294967296=((d / 4294967296:Nat):Int):=by omega
   simp only[c5,←Int.natCast_add];have ea:=wN (a+d / 4294967296) (by omega);simp only[ea];have c6:=zo8 (x:=((a+d / 4294967296:Nat):Int)) (by omega) (by omega);simp only[c6];refine yL6 ?_ ?_
   ·simp only[wU];omega
   ·rw[wU];omega) (by kernel_rfl) (by kernel_rfl)
def qa5:Fact:=qn3 331 fun x y=>.req (okU x) (.req (okU y) (.leaf (yR9 x y)))
theorem yp7:qa5.ok pP:=qn6 (fun x y hx hy=>xk9 x y hx hy)
def siz(x:Int):Int:=if x<0 then -x else x
def yy0(x:Int):Bool:=inR x (-9223372036854775808) 9223372036854775807
theorem xp3(x:Int)(h:yy0 x=true):SCall pP 332 [J x] (U64 (siz x)):=
 o8 mix [] trivial 1000 (.fork (.all) (.all))
  (t:=.node (decide (x<0))
 (.leaf (SV.int IntKind.u64 (u64.wrap (0-u64.wrap x))))
 (.leaf (SV.int IntKind.u64 (u64.wrap x))))
   (by kernel_rfl) (by
    have r:=v8.1 h;simp only[Tree.holds,sL,ne_eq,sLb,sLc,eq_self,sLd,sLe,sLf]
    refine⟨fun hc=>?_,fun hc=>?_⟩<;>unfold siz U64<;>simp only[wU]
    ·rw[if_pos hc];congr 1;omega
    ·rw[if_neg hc];congr 1;omega) (by kernel_rfl) (by kernel_rfl)
def qd6:Fact:=qj8 332 fun x=>.req (yy0 x) (.leaf (U64 (siz x)))
theorem yt5:qd6.ok pP:=qk5 (fun x h=>xp3 x h)
theorem xj5(x:Int)(h:(okU x&&decide (1≤x))=true):SCall pP 337 [U64 x] (J (64-qX2 x)):=
 o8 mix [z95] ⟨yo6,trivial⟩ 1000 (.all)
  (t:=.req (okU x) (.leaf (SV.int IntKind.i64 (i64.wrap (64-qX2 x)))))
  (by kernel_rfl) (by
   rw[Bool.and_eq_true,decide_eq_true_eq]at h;have r:=v8.1 h.1;obtain⟨n,e1,e2,e3,_⟩:=qX3 h.2 (by omega);refine⟨h.1,?_⟩
   rw[w64 (by omega) (by omega)];rfl) (by kernel_rfl) (by kernel_rfl)
def fLz:Fact:=qn2 337 fun x=>.req (okU x&&decide (1≤x)) (.leaf (J (64-qX2 x)))
theorem yo9:fLz.ok pP:=qn7 fun x h=>xj5 x h
def zV1:Plan:=.fork (.all) (.fork (.all) (.fork (.all) (.all)))
noncomputable def zV2(h l y:Int):Tree Stop:=let y2:=u64.wrap (64-qX2 y);let y0:=(↑(BitVec.ofInt 64 (u64.wrap (h*2 ^ min y2.toNat 64)) |||BitVec.ofInt 64 (l.fdiv (2 ^ min (u64.wrap (64-u64.wrap (64-qX2 y))).toNat 64))).toNat:Int);let y1:=u64.wrap (y*2 ^ min y2.toNat 64);let y3:=decide (0≤u64.wrap (64-qX2 y)); .node (y==0) (.fail 14) (.node (decide (y≤h)) (.fail 14) (.node (h==0) (.req (!y==0) (.req (!y==0) (.leaf (.done (.tuple [.int .u64 (u64.wrap (l.tdiv y)),.int .u64 (l.tmod y)]))))) (.req (okU y&&decide (1≤y)) (.req y3 (.req true (.req y3 (.req (decide (0≤u64.wrap (64-u64.wrap (64-qX2 y)))) (.req y3 (.req true (.req (!y1.fdiv 4294967296==0) (.leaf (.at (v5 pP 333 0) 135 (j9 135 [(2,.int .u64 y1),(8,.int .u64 y2),(9,.int .u64 (y1.fdiv 4294967296)),(10,.int .u64 (u64.wrap (↑(BitVec.ofInt 64 y1 &&&BitVec.ofInt 64 4294967295).toNat:Int))),(11,.int .u64 (u64.wrap y0)),(13,.int .u64 ((u64.wrap (l*2 ^ min y2.toNat 64)).fdiv 4294967296)),(14,.int .u64 (u64.wrap (↑(BitVec.ofInt 64 (u64.wrap (l*2 ^ min y2.toNat 64)) &&&BitVec.ofInt 64 4294967295).toNat:Int))),(15,.int .u64 (u64.wrap ((u64.wrap y0).tdiv (y1.fdiv 4294967296)))),(16,.int .u64 (u64.wrap (u64.wrap y0-u64.wrap (u64.wrap ((u64.wrap y0).tdiv (y1.fdiv 4294967296))*y1.fdiv 4294967296))))]) []))))))))))))
theorem dv0(h l y:Int):w9 (Env.of pP (v7 [fLz])) 1000 (j8 pP 333) .unit (x9 135 [2,8,9,10,11,13,14,15,16]) (u9 pP 333) zV1 (u7 pP 333 [U64 h,U64 l,U64 y]) [] =zV2 h l y:=by kernel_rfl
def zV4:Plan:=.fork (.ln 9 (.fork .all .all)) (.ln 8 (.fork (.fork .all .all) .all))
noncomputable def zV6(y s p1 p0 u v1 v0 q r:Int):Tree Stop:=let y1:=u64.wrap (u64.wrap (u*4294967296)+v1)-u64.wrap (u64.wrap (q-1)*y);let y0:Tree Stop:=.node (decide (u64.wrap (r+p1)≥4294967296)) (.req (!p1==0) (.leaf (.at (v5 pP 333 1) 135 (j9 135 [(2,.int .u64 y),(8,.int .u64 s),(9,.int .u64 p1),(10,.int .u64 p0),(11,.int .u64 u),(13,.int .u64 v1),(14,.int .u64 v0),(15,.int .u64 (u64.wrap (q-1))),(16,.int .u64 (u64.wrap (u64.wrap y1-u64.wrap (u64.wrap ((u64.wrap y1).tdiv p1)*p1)))),(17,.int .u64 (u64.wrap y1)),(18,.int .u64 (u64.wrap ((u64.wrap y1).tdiv p1)))]) []))) (.leaf (.at (v5 pP 333 0) 135 (j9 135 [(2,.int .u64 y),(8,.int .u64 s),(9,.int .u64 p1),(10,.int .u64 p0),(11,.int .u64 u),(13,.int .u64 v1),(14,.int .u64 v0),(15,.int .u64 (u64.wrap (q-1))),(16,.int .u64 (u64.wrap (r+p1)))]) []));let y2:=u64.wrap (u64.wrap (u*4294967296)+v1)-u64.wrap (q*y); .node (decide (q≥4294967296)) y0 (.node (decide (u64.wrap (q*p0)>u64.wrap (u64.wrap (4294967296*r)+v1))) y0 (.req (!p1==0) (.leaf (.at (v5 pP 333 1) 135 (j9 135 [(2,.int .u64 y),(8,.int .u64 s),(9,.int .u64 p1),(10,.int .u64 p0),(11,.int .u64 u),(13,.int .u64 v1),(14,.int .u64 v0),(15,.int .u64 q),(16,.int .u64 (u64.wrap (u64.wrap y2-u64.wrap (u64.wrap ((u64.wrap y2).tdiv p1)*p1)))),(17,.int .u64 (u64.wrap y2)),(18,.int .u64 (u64.wrap ((u64.wrap y2).tdiv p1)))]) []))))
theorem dv1(y s p1 p0 u v1 v0 q r:Int):w9 (Env.of pP (v7 [])) 1000 (j8 pP 333) .unit (x9 135 [2,8,9,10,14,15,16,17,18,11,13]) (v5 pP 333 0) zV4 (j9 135 [(2,U64 y),(8,U64 s),(9,U64 p1),(10,U64 p0),(11,U64 u),(13,U64 v1),(14,U64 v0),(15,U64 q),(16,U64 r)]) [] =zV6 y s p1 p0 u v1 v0 q r:=by kernel_rfl
def zV8:Plan:=.fork (.ln 9 (.fork .all .all)) (.ln 8 (.fork (.fork .all .all) .all))
noncomputable def zW0(y s p1 p0 u v1 v0 a t q r:Int):Tree Stop:=let y0:Tree Stop:=.node (decide (u64.wrap (r+p1)≥4294967296)) (.req (decide (0≤s)) (.leaf (.done (.tuple [.int .u64 (u64.wrap (u64.wrap (a*4294967296)+u64.wrap (q-1))),.int .u64 ((u64.wrap (u64.wrap (u64.wrap (t*4294967296)+v0)-u64.wrap (u64.wrap (q-1)*y))).fdiv (2 ^ min s.toNat 64))])))) (.leaf (.at (v5 pP 333 1) 135 (j9 135 [(2,.int .u64 y),(8,.int .u64 s),(9,.int .u64 p1),(10,.int .u64 p0),(11,.int .u64 u),(13,.int .u64 v1),(14,.int .u64 v0),(15,.int .u64 a),(16,.int .u64 (u64.wrap (r+p1))),(17,.int .u64 t),(18,.int .u64 (u64.wrap (q-1)))]) [])); .node (decide (q≥4294967296)) y0 (.node (decide (u64.wrap (q*p0)>u64.wrap (u64.wrap (4294967296*r)+v0))) y0 (.req (decide (0≤s)) (.leaf (.done (.tuple [.int .u64 (u64.wrap (u64.wrap (a*4294967296)+q)),.int .u64 ((u64.wrap (u64.wrap (u64.wrap (t*4294967296)+v0)-u64.wrap (q*y))).fdiv (2 ^ min s.toNat 64))])))))
theorem dv2(y s p1 p0 u v1 v0 a t q r:Int):w9 (Env.of pP (v7 [])) 1000 (j8 pP 333) .unit (x9 135 [2,8,9,10,14,15,16,17,18,11,13]) (v5 pP 333 1) zV8 (j9 135 [(2,U64 y),(8,U64 s),(9,U64 p1),(10,U64 p0),(11,U64 u),(13,U64 v1),(14,U64 v0),(15,U64 a),(16,U64 r),(17,U64 t),(18,U64 q)]) [] =zW0 y s p1 p0 u v1 v0 a t q r:=by kernel_rfl
theorem wN{n:Nat}(hn:n<18446744073709551616):u64.wrap (n:Int)=(n:Int):=by rw[wU];omega
theorem xK6(a b:Nat):((a:Int).tdiv (b:Int))=((a / b:Nat):Int):=by
 rw[Int.tdiv_eq_ediv_of_nonneg (by omega)];rfl
theorem zS2{U v Q Y R:Nat}(h:U*4294967296+v=Q*Y+R)(hR:R<18446744073709551616):u64.wrap (u64.wrap (u64.wrap ((U:Int)*4294967296)+(v:Int))-u64.wrap ((Q:Int)*(Y:Int)))=((R:Nat):Int):=by
 rw[←Int.natCast_mul Q Y];generalize Q*Y=b at h ⊢;simp only[wU];omega
theorem y35{t p:Nat}(ht:t<18446744073709551616)(hp:0<p):u64.wrap ((t:Int).tdiv (p:Int))=((t / p:Nat):Int)∧u64.wrap ((t:Int)-u64.wrap (((t / p:Nat):Int)*(p:Int)))=((t-t / p*p:Nat):Int):=by
 have h1:t / p≤t:=Nat.div_le_self _ _;have h2:=Nat.div_mul_le_self t p;rw[xK6,←Int.natCast_mul];generalize t / p*p=b at h2 ⊢;generalize t / p=c at h1 ⊢;simp only[wU];omega
theorem yR8{q:Nat}(h:1≤q)(h2:q<18446744073709551616):u64.wrap ((q:Int)-1)=((q-1:Nat):Int):=by rw[wU];omega
section
variable {s p1 p0 Y U v1 v0:Nat}
noncomputable def sl1(s p1 p0 Y U v1 v0 q r:Nat):List SV:=j9 135 [(2,U64 Y),(8,U64 s),(9,U64 p1),(10,U64 p0),(11,U64 U),(13,U64 v1),(14,U64 v0),(15,U64 q),(16,U64 r)]
noncomputable def sl2(s p1 p0 Y U v1 v0 a t q r:Nat):List SV:=j9 135 [(2,U64 Y),(8,U64 s),(9,U64 p1),(10,U64 p0),(11,U64 U),(13,U64 v1),(14,U64 v0),(15,U64 a),(16,U64 r),(17,U64 t),(18,U64 q)]
theorem zV5{Q T:Nat}{res:SV}(hQ:(U*4294967296+v1) / Y=Q)(hT:(U*4294967296+v1) % Y=T)(hd:res.data=true)(hY:9223372036854775808≤Y∧Y<18446744073709551616)(e1:p1=Y / 4294967296)(e0:p0=Y % 4294967296)(hU:U<Y)(hv:v1<4294967296)
  (k:b9 pP (j8 pP 333) res (v5 pP 333 1) (sl2 s p1 p0 Y U v1 v0 Q T (T / p1) (T-T / p1*p1)) [])
  (q r:Nat) (h1:q*p1+r=U) (h2:Q≤q) (h3:q≤4294967297) (h4:r<4294967296)
  (ih:∀q' r':Nat,q'<q→q'*p1+r'=U→Q≤q'→r'<4294967296→b9 pP (j8 pP 333) res (v5 pP 333 0) (sl1 s p1 p0 Y U v1 v0 q' r') []):
  b9 pP (j8 pP 333) res (v5 pP 333 0) (sl1 s p1 p0 Y U v1 v0 q r) [] :=by
 have hp1:2147483648≤p1∧p1<4294967296:=by omega
 have hTY:T<Y:=by rw[←hT];exact Nat.mod_lt _ (by omega)
 have D:∀q':Nat,q'=Q→u64.wrap (u64.wrap (u64.wrap ((U:Int)*4294967296)+(v1:Int))-u64.wrap ((q':Int)*(Y:Int)))=((T:Nat):Int):=fun q' h=>by
  subst h;exact zS2 (by rw[←hQ,←hT,Nat.div_add_mod']) (by omega)
 obtain⟨R1,R2⟩:=y35 (t:=T) (p:=p1) (by omega) (by omega)
 have wr:u64.wrap ((r:Int)+(p1:Int))=((r+p1:Nat):Int):=by rw[wU];omega
 have np:(!((p1:Int)==0))=true:=by simp;omega
 -- a step down
 have down:Q+1≤q→(q-1)*p1+(r+p1)=U∧Q≤q-1∧u64.wrap ((q:Int)-1)=((q-1:Nat):Int):=fun h=>by
  refine⟨?_,by omega,yR8 (by omega) (by omega)⟩;obtain⟨q',rfl⟩:∃q',q=q'+1:=⟨q-1,by omega⟩;rw[Nat.add_mul]at h1;rw[Nat.add_sub_cancel];omega
 have wm:u64.wrap (4294967296*(r:Int))=((4294967296*r:Nat):Int):=by rw[wU];omega
 have wm2:u64.wrap (((4294967296*r:Nat):Int)+(v1:Int))=((4294967296*r+v1:Nat):Int):=by rw[wU];omega
 have wqp:q<4294967296→u64.wrap ((q:Int)*(p0:Int))=((q*p0:Nat):Int):=fun h=>by
  have:q*p0≤4294967295*4294967295:=Nat.mul_le_mul (by omega) (by omega);rw[←Int.natCast_mul];exact wN (by omega)
 have less:=zR9 (y:=Y) (u:=U) (u1:=v1) (q:=q) (rh:=r) (by omega) hU hv (by rw[←e1];exact h1);rw[hQ]at less;have out:=zS1 (y:=Y) (u:=U) (u1:=v1) (q:=q) (rh:=r) (by omega) (by rw[←e1];exact h1) (by rw[hQ];exact h2);rw[hQ]at out
 have brk:Q+1≤q→4294967296≤r+p1→q-1=Q:=fun h hb=>by have:=zR6 (y:=Y) (u:=U) (u1:=v1) (q:=q-1) (rh:=r+p1) (by omega) (by rw[←e1];exact(down h).1) (by rw[hQ];exact(down h).2.1) (by omega) hb;rw[hQ]at this;exact this
 have stay:Q+1≤q→r+p1<4294967296→b9 pP (j8 pP 333) res (v5 pP 333 0) (sl1 s p1 p0 Y U v1 v0 (q-1) (r+p1)) [] :=fun h hr=>ih _ _ (by omega) (down h).1 (down h).2.1 hr
 refine w6 k0 (n:=1000) (hint:=.unit) (keep:=x9 135 [2,8,9,10,14,15,16,17,18,11,13]) (p:=zV4) hd ?_;unfold sl1;erw [dv1 Y s p1 p0 U v1 v0 q r];unfold zV6;rw[wr];simp only[Tree.holds,decide_eq_true_eq,decide_eq_false_iff_not,np,true_and];unfold sl1 at stay;unfold sl2 at k;refine⟨fun c=>⟨fun b=>?_,fun b=>?_⟩,fun c=>?_⟩
 ·have hl:=less (.inl (by omega))
  rw[(down hl).2.2,D _ (brk hl (by omega)),R1,R2,brk hl (by omega)];exact⟨o9 _ _,k⟩
 ·have hl:=less (.inl (by omega))
  rw[(down hl).2.2];exact⟨o9 _ _,stay hl (by omega)⟩
 ·rw[wqp (by omega),wm,wm2]
  refine⟨fun d=>⟨fun b=>?_,fun b=>?_⟩,fun d=>?_⟩
  ·have hl:=less (.inr (by rw[←e0];omega))
   rw[(down hl).2.2,D _ (brk hl (by omega)),R1,R2,brk hl (by omega)];exact⟨o9 _ _,k⟩
  ·have hl:=less (.inr (by rw[←e0];omega))
   rw[(down hl).2.2];exact⟨o9 _ _,stay hl (by omega)⟩
  ·have ho:=out (by rw[←e0];omega)
   rw[D _ ho,R1,R2,ho];exact⟨o9 _ _,k⟩
theorem zV3{Q T:Nat}{res:SV}(hQ:(U*4294967296+v1) / Y=Q)(hT:(U*4294967296+v1) % Y=T)(hd:res.data=true)(hY:9223372036854775808≤Y∧Y<18446744073709551616)(e1:p1=Y / 4294967296)(e0:p0=Y % 4294967296)(hU:U<Y)(hv:v1<4294967296)
  (k:b9 pP (j8 pP 333) res (v5 pP 333 1) (sl2 s p1 p0 Y U v1 v0 Q T (T / p1) (T-T / p1*p1)) []):
  ∀ (n q r:Nat),q<n→q*p1+r=U→Q≤q→q≤4294967297→r<4294967296→b9 pP (j8 pP 333) res (v5 pP 333 0) (sl1 s p1 p0 Y U v1 v0 q r) []
 |0,q,r,hn,_,_,_,_=>by omega
 |n+1,q,r,hn,h1,h2,h3,h4=>zV5 hQ hT hd hY e1 e0 hU hv k q r h1 h2 h3 h4 fun q' r' h g1 g2 g4=>zV3 hQ hT hd hY e1 e0 hU hv k n q' r' (by omega) g1 g2 (by omega) g4
noncomputable def dvR(s a q t:Nat):SV:=.tuple [U64 ((a*4294967296+q:Nat):Int),U64 ((t / 2 ^ s:Nat):Int)]
theorem zV9{Q T a t:Nat}(hQ:(t*4294967296+v0) / Y=Q)(hT:(t*4294967296+v0) % Y=T)(hs:s≤64)(hY:9223372036854775808≤Y∧Y<18446744073709551616)(e1:p1=Y / 4294967296)(e0:p0=Y % 4294967296)(ht:t<Y)(hv:v0<4294967296)(ha:a<4294967296)
  (q r:Nat) (h1:q*p1+r=t) (h2:Q≤q) (h3:q≤4294967297) (h4:r<4294967296)
  (ih:∀q' r':Nat,q'<q→q'*p1+r'=t→Q≤q'→r'<4294967296→b9 pP (j8 pP 333) (dvR s a Q T) (v5 pP 333 1) (sl2 s p1 p0 Y U v1 v0 a t q' r') []):
  b9 pP (j8 pP 333) (dvR s a Q T) (v5 pP 333 1) (sl2 s p1 p0 Y U v1 v0 a t q r) [] :=by
 have hp1:2147483648≤p1∧p1<4294967296:=by omega
 have hTY:T<Y:=by rw[←hT];exact Nat.mod_lt _ (by omega)
 have hQl:Q<4294967296:=by rw[←hQ];exact zS0 (by omega) ht hv
 have D:∀q':Nat,q'=Q→u64.wrap (u64.wrap (u64.wrap ((t:Int)*4294967296)+(v0:Int))-u64.wrap ((q':Int)*(Y:Int)))=((T:Nat):Int):=fun q' h=>by
  subst h;exact zS2 (by rw[←hQ,←hT,Nat.div_add_mod']) (by omega)
 have wr:u64.wrap ((r:Int)+(p1:Int))=((r+p1:Nat):Int):=by rw[wU];omega
 have down:Q+1≤q→(q-1)*p1+(r+p1)=t∧Q≤q-1∧u64.wrap ((q:Int)-1)=((q-1:Nat):Int):=fun h=>by
  refine⟨?_,by omega,yR8 (by omega) (by omega)⟩;obtain⟨q',rfl⟩:∃q',q=q'+1:=⟨q-1,by omega⟩;rw[Nat.add_mul]at h1;rw[Nat.add_sub_cancel];omega
 have wm:u64.wrap (4294967296*(r:Int))=((4294967296*r:Nat):Int):=by rw[wU];omega
 have wm2:u64.wrap (((4294967296*r:Nat):Int)+(v0:Int))=((4294967296*r+v0:Nat):Int):=by rw[wU];omega
 have wqp:q<4294967296→u64.wrap ((q:Int)*(p0:Int))=((q*p0:Nat):Int):=fun h=>by
  have:q*p0≤4294967295*4294967295:=Nat.mul_le_mul (by omega) (by omega);rw[←Int.natCast_mul];exact wN (by omega)
 have less:=zR9 (y:=Y) (u:=t) (u1:=v0) (q:=q) (rh:=r) (by omega) ht hv (by rw[←e1];exact h1);rw[hQ]at less;have out:=zS1 (y:=Y) (u:=t) (u1:=v0) (q:=q) (rh:=r) (by omega) (by rw[←e1];exact h1) (by rw[hQ];exact h2);rw[hQ]at out
 have brk:Q+1≤q→4294967296≤r+p1→q-1=Q:=fun h hb=>by have:=zR6 (y:=Y) (u:=t) (u1:=v0) (q:=q-1) (rh:=r+p1) (by omega) (by rw[←e1];exact(down h).1) (by rw[hQ];exact(down h).2.1) (by omega) hb;rw[hQ]at this;exact this
 have stay:=fun(h:Q+1≤q) (hr:r+p1<4294967296)=>ih (q-1) (r+p1) (by omega) (down h).1 (down h).2.1 hr
 have fin:∀q':Nat,q'=Q→u64.wrap (u64.wrap ((a:Int)*4294967296)+(q':Int))=((a*4294967296+Q:Nat):Int):=fun q' h=>by
  subst h;simp only[wU];omega
 have sh:(((T:Nat):Int)).fdiv (2 ^ min (s:Int).toNat 64)=((T / 2 ^ s:Nat):Int):=by
  rw[show min (s:Int).toNat 64=s by omega,Int.fdiv_eq_ediv_of_nonneg _ (Int.le_of_lt (yR7 s))];simp
 have n0:decide ((0:Int)≤(s:Int))=true:=decide_eq_true (by omega);refine w6 k0 (n:=1000) (hint:=.unit) (keep:=x9 135 [2,8,9,10,14,15,16,17,18,11,13]) (p:=zV8) rfl ?_;unfold sl2;erw [dv2 Y s p1 p0 U v1 v0 a t q r];unfold zW0;rw[wr];simp only[Tree.holds,decide_eq_true_eq,decide_eq_false_iff_not,n0,true_and];unfold sl2 at stay;unfold dvR at stay ⊢
 have p0':(0:Int)≤(s:Int):=by omega
 refine⟨fun c=>⟨fun b=>?_,fun b=>?_⟩,fun c=>?_⟩
 ·have hl:=less (.inl (by omega))
  rw[(down hl).2.2,D _ (brk hl (by omega)),sh,fin _ (brk hl (by omega))];rfl
 ·have hl:=less (.inl (by omega))
  rw[(down hl).2.2];exact⟨o9 _ _,stay hl (by omega)⟩
 ·rw[wqp (by omega),wm,wm2]
  refine⟨fun d=>⟨fun b=>?_,fun b=>?_⟩,fun d=>?_⟩
  ·have hl:=less (.inr (by rw[←e0];omega))
   rw[(down hl).2.2,D _ (brk hl (by omega)),sh,fin _ (brk hl (by omega))];rfl
  ·have hl:=less (.inr (by rw[←e0];omega))
   rw[(down hl).2.2];exact⟨o9 _ _,stay hl (by omega)⟩
  ·have ho:=out (by rw[←e0];omega)
   rw[D _ ho,sh,fin _ ho];rfl
theorem zV7{Q T a t:Nat}(hQ:(t*4294967296+v0) / Y=Q)(hT:(t*4294967296+v0) % Y=T)(hs:s≤64)(hY:9223372036854775808≤Y∧Y<18446744073709551616)(e1:p1=Y / 4294967296)(e0:p0=Y % 4294967296)(ht:t<Y)(hv:v0<4294967296)(ha:a<4294967296):
  ∀ (n q r:Nat),q<n→q*p1+r=t→Q≤q→q≤4294967297→r<4294967296→b9 pP (j8 pP 333) (dvR s a Q T) (v5 pP 333 1) (sl2 s p1 p0 Y U v1 v0 a t q r) []
 |0,q,r,hn,_,_,_,_=>by omega
 |n+1,q,r,hn,h1,h2,h3,h4=>zV9 hQ hT hs hY e1 e0 ht hv ha q r h1 h2 h3 h4 fun q' r' h g1 g2 g4=>zV7 hQ hT hs hY e1 e0 ht hv ha n q' r' (by omega) g1 g2 (by omega) g4
end
theorem yG3{a b e:Nat}(ha:a*2 ^ e<18446744073709551616)(hb:b<2 ^ e)(hb2:b<18446744073709551616):(((BitVec.ofInt 64 ((a*2 ^ e:Nat):Int) |||BitVec.ofInt 64 ((b:Nat):Int)).toNat:Nat):Int)=((a*2 ^ e+b:Nat):Int):=by
 have e1:∀m:Nat,m<18446744073709551616→(BitVec.ofInt 64 (m:Int)).toNat=m:=fun m hm=>by
  rw[BitVec.toNat_ofInt];have:((2 ^ 64:Nat):Int)=18446744073709551616:=rfl;rw[this];omega
 rw[BitVec.toNat_or,e1 _ ha,e1 _ hb2,Nat.mul_comm a,←Nat.two_pow_add_eq_or_of_lt hb]
theorem xd1{H L Yn:Nat}(h1:H<Yn)(h2:L<18446744073709551616)(h3:Yn<18446744073709551616):SCall pP 333 [U64 (H:Int),U64 (L:Int),U64 (Yn:Int)] (.tuple [U64 (((H*18446744073709551616+L) / Yn:Nat):Int),U64 (((H*18446744073709551616+L) % Yn:Nat):Int)]):=by
 refine m6 rfl rfl (by kernel_rfl) (w6 (kW (l:=[fLz]) ⟨yo9,trivial⟩) (n:=1000) (hint:=.unit) (keep:=x9 135 [2,8,9,10,11,13,14,15,16]) (p:=zV1) (boxes:=[]) rfl ?_);have e:=dv0 H L Yn;unfold u7 u9 at e;erw [e];clear e;unfold zV2
 have hy0:((Yn:Int)==0)=false:=by simp;omega
 have hyh:decide ((Yn:Int)≤(H:Int))=false:=decide_eq_false (by omega);simp only[Tree.holds,hy0,hyh,Bool.false_eq_true,false_implies,true_implies,true_and,Bool.not_false,and_true];refine⟨fun h0=>?_,fun h0=>?_⟩
 ·have h0:H=0:=by simpa using h0
  subst h0;show SV.tuple _=_;have hl:L / Yn≤L:=Nat.div_le_self _ _;rw[xK6,wN (by omega),Nat.zero_mul,Nat.zero_add,Int.tmod_eq_emod_of_nonneg (by omega)];rfl
 ·obtain⟨n,en,n1,n2,n3,n4⟩:=qX3 (x:=(Yn:Int)) (by omega) (by omega)
  obtain⟨s,hs⟩:∃s:Nat,s=64-n:=⟨_,rfl⟩
  have ws:u64.wrap (64-qX2 (Yn:Int))=(s:Int):=by rw[en,wU];omega
  have ws2:u64.wrap (64-(s:Int))=((64-s:Nat):Int):=by rw[wU];omega
  have m1:min (s:Int).toNat 64=s:=by omega
  have m2:min ((64-s:Nat):Int).toNat 64=64-s:=by omega
  have hp:0<2 ^ s:=Nat.two_pow_pos s
  have pw:∀k:Nat,(2:Int) ^ k=((2 ^ k:Nat):Int):=fun k=>by simp
  -- the divisor, shifted
  have n3':2 ^ (n-1)≤Yn:=by rw[pw]at n3;omega
  have n4':Yn<2 ^ n:=by rw[pw]at n4;omega
  have y1:9223372036854775808≤Yn*2 ^ s:=by
   have:2 ^ (n-1)*2 ^ s≤Yn*2 ^ s:=Nat.mul_le_mul_right _ n3';rw[←Nat.pow_add,show n-1+s=63 by omega]at this;exact this
  have y2:Yn*2 ^ s<18446744073709551616:=by
   have:Yn*2 ^ s<2 ^ n*2 ^ s:=Nat.mul_lt_mul_of_pos_right n4' hp;rw[←Nat.pow_add,show n+s=64 by omega]at this;exact this
  -- the upper half, shifted
  have l1:L / 2 ^ (64-s)<2 ^ s:=by
   rw[Nat.div_lt_iff_lt_mul (Nat.two_pow_pos _),←Nat.pow_add,show s+(64-s)=64 by omega];exact h2
  have l2:L / 2 ^ (64-s)≤L:=Nat.div_le_self _ _;have u0:(H+1)*2 ^ s≤Yn*2 ^ s:=Nat.mul_le_mul_right _ h1;rw[Nat.add_mul,Nat.one_mul]at u0
  have hU:H*2 ^ s+L / 2 ^ (64-s)<Yn*2 ^ s:=by omega
  have lo:L*2 ^ s=L / 2 ^ (64-s)*18446744073709551616+L*2 ^ s % 18446744073709551616:=by
   have:L / 2 ^ (64-s)=L*2 ^ s / 18446744073709551616:=by
    rw[show(18446744073709551616:Nat)=2 ^ (64-s)*2 ^ s by rw[←Nat.pow_add,show 64-s+s=64 by omega],Nat.mul_div_mul_right _ _ hp]
   rw[this];omega
  have wY:u64.wrap ((Yn:Int)*2 ^ s)=((Yn*2 ^ s:Nat):Int):=by rw[pw,←Int.natCast_mul];exact wN y2
  have wH:u64.wrap ((H:Int)*2 ^ s)=((H*2 ^ s:Nat):Int):=by rw[pw,←Int.natCast_mul];exact wN (by omega)
  have wL:u64.wrap ((L:Int)*2 ^ s)=((L*2 ^ s % 18446744073709551616:Nat):Int):=by rw[pw,←Int.natCast_mul,wU];omega
  have fL:((L:Nat):Int).fdiv (2 ^ (64-s))=((L / 2 ^ (64-s):Nat):Int):=by
   rw[Int.fdiv_eq_ediv_of_nonneg _ (Int.le_of_lt (yR7 _)),pw];rfl
  have oU:=yG3 (a:=H) (b:=L / 2 ^ (64-s)) (e:=s) (by omega) l1 (by omega)
  have f32:∀m:Nat,((m:Nat):Int).fdiv 4294967296=((m / 4294967296:Nat):Int):=fun m=>by rw[Int.fdiv_eq_ediv_of_nonneg _ (by omega)];rfl
  have a32:∀m:Nat,m<18446744073709551616→u64.wrap ((((BitVec.ofInt 64 ((m:Nat):Int) &&&BitVec.ofInt 64 4294967295).toNat:Nat):Int))=((m % 4294967296:Nat):Int):=fun m hm=>by rw[zo8 (by omega) (by omega),wU];omega
  have d0:decide ((0:Int)≤(s:Int))=true:=decide_eq_true (by omega);have d1:decide ((0:Int)≤((64-s:Nat):Int))=true:=decide_eq_true (by omega)
  have ok:(okU (Yn:Int)&&decide (1≤(Yn:Int)))=true:=by rw[Bool.and_eq_true,decide_eq_true_eq];exact⟨v8.2 (by omega),by omega⟩
  generalize hYY:Yn*2 ^ s=Y at *
  generalize hUU:H*2 ^ s+L / 2 ^ (64-s)=U at *
  generalize hLL:L*2 ^ s % 18446744073709551616=LO at *
  have hLO:LO<18446744073709551616:=by omega
  have np:(!((Y / 4294967296:Nat):Int)==0)=true:=by simp;omega
  obtain⟨R1,R2⟩:=y35 (t:=U) (p:=Y / 4294967296) (by omega) (by omega);have wU2:u64.wrap ((U:Nat):Int)=(U:Int):=wN (by omega);simp only[ws,ws2,m1,m2,wY,wH,wL,fL,oU,f32,a32 Y y2,a32 LO hLO,d0,d1,ok,np,wU2,R1,R2,true_and];refine⟨o9 _ _,?_⟩;have g1:=zR7 (y:=Y) (u:=U) (u1:=LO / 4294967296) y1 y2 hU (by omega);have hT:(U*4294967296+LO / 4294967296) % Y<Y:=Nat.mod_lt _ (by omega);have g2:=zR7 (y:=Y) (u:=(U*4294967296+LO / 4294967296) % Y) (u1:=LO % 4294967296) y1 y2 hT (by omega);have hQ1:(U*4294967296+LO / 4294967296) / Y<4294967296:=zS0 (by omega) hU (by omega);have two:=xV7 (y:=Y) (u:=U) (u1:=LO / 4294967296) (u0:=LO % 4294967296) (by omega);have key:=zV7 (v1:=LO / 4294967296) (U:=U) (s:=s) rfl rfl (by omega) ⟨y1,y2⟩ rfl rfl hT (show LO % 4294967296<4294967296 by omega) hQ1 _ _ _ (Nat.lt_succ_self _) g2.1 g2.2.1 g2.2.2.1 g2.2.2.2;have key2:=zV3 (v0:=LO % 4294967296) (s:=s) rfl rfl (by rfl) ⟨y1,y2⟩ rfl rfl hU (show LO / 4294967296<4294967296 by omega) key _ _ _ (Nat.lt_succ_self _) g1.1 g1.2.1 g1.2.2.1 g1.2.2.2
  have eN:U*18446744073709551616+(LO / 4294967296*4294967296+LO % 4294967296)=(H*18446744073709551616+L)*2 ^ s:=by
   rw[Nat.add_mul,lo,←hUU,Nat.mul_right_comm H,Nat.add_mul];omega
  rw[eN,←hYY,Nat.mul_div_mul_right _ _ hp,Nat.mul_mod_mul_right]at two
  have res:dvR s ((U*4294967296+LO / 4294967296) / Y) (((U*4294967296+LO / 4294967296) % Y*4294967296+LO % 4294967296) / Y) (((U*4294967296+LO / 4294967296) % Y*4294967296+LO % 4294967296) % Y)=.tuple [U64 (((H*18446744073709551616+L) / Yn:Nat):Int),U64 (((H*18446744073709551616+L) % Yn:Nat):Int)] :=by
   unfold dvR;rw[←hYY,two.1,two.2,Nat.mul_div_cancel _ hp]
  rw[res]at key2;exact key2
def z56:Fact:=qn4 333 fun h l y=>.req (inR h 0 (y-1)&& (okU l&&okU y)) (.leaf (.tuple [U64 ((h*18446744073709551616+l) / y),U64 ((h*18446744073709551616+l) % y)]))
theorem yk9:z56.ok pP:=qn5 fun h l y k=>by
 simp only[Bool.and_eq_true,v8,okU]at k;obtain⟨H,rfl⟩:=Int.eq_ofNat_of_zero_le k.1.1;obtain⟨L,rfl⟩:=Int.eq_ofNat_of_zero_le k.2.1.1;obtain⟨Y,rfl⟩:=Int.eq_ofNat_of_zero_le k.2.2.1;have:=xd1 (H:=H) (L:=L) (Yn:=Y) (by omega) (by omega) (by omega);simp at this;exact this
def mdS(a b c:Int):SV:=if a*b / c<9223372036854775808 then .tuple [J (a*b / c),J 0]else .tuple [J 0,J 3]
def yy7(a b c:Int):Bool:=inR a 0 9223372036854775807&& (inR b 0 9223372036854775807&&inR c 1 9223372036854775807)
theorem yy8{a b c:Int}:yy7 a b c=true↔(0≤a∧a≤9223372036854775807)∧(0≤b∧b≤9223372036854775807)∧1≤c∧c≤9223372036854775807:=by simp only[yy7,Bool.and_eq_true,v8]
theorem q32{a b c:Int}(h:a*b / c<9223372036854775808):mdS a b c=.tuple [J (a*b / c),J 0] :=if_pos h
theorem q31{a b c:Int}(h:¬a*b / c<9223372036854775808):mdS a b c=.tuple [J 0,J 3] :=if_neg h
theorem qC4{a b:Int}(ha:0≤a∧a≤9223372036854775807)(hb:0≤b∧b≤9223372036854775807):0≤a*b / 18446744073709551616∧a*b / 18446744073709551616<18446744073709551616∧a*b / 18446744073709551616*18446744073709551616+a*b % 18446744073709551616=a*b∧0≤a*b:=by
 have h0:0≤a*b:=Int.mul_nonneg ha.1 hb.1;have h1:a*b≤9223372036854775807*9223372036854775807:=Int.mul_le_mul ha.2 hb.2 hb.1 (by omega)
 generalize a*b=x at *
 omega
theorem q33{x c:Int}(hx:0≤x)(hc:1≤c)(h:c≤x / 18446744073709551616):¬x / c<9223372036854775808:=by
 have h1:c*18446744073709551616≤x:=by omega
 have:18446744073709551616≤x / c:=Int.le_ediv_of_mul_le (by omega) (by omega);omega
theorem xk0(a b c:Int)(h:yy7 a b c=true):SCall pP 319 [J a,J b,J c] (mdS a b c):=
 o8 mix [qa5,qd6,z56] ⟨yp7,yt5,yk9,trivial⟩ 1000 (.fork .all (.fork .all (.fork (.fork .all .all) (.fork (.ln 4 (.lit .all)) (.lit (.lit (.fork (.ln 4 (.fork .all (.fork .all .all))) (.ln 5 (.fork .all .all)))))))))
  (t:=let y0:=siz a*siz b / 18446744073709551616*18446744073709551616+siz a*siz b % 18446744073709551616;let y1:Tree SV:=.node (decide (y0 % siz c>0)) (.leaf (.tuple [.int .i64 (i64.wrap (u64.wrap (0-u64.wrap (y0 / siz c+1)))),.int .i64 0])) (.leaf (.tuple [.int .i64 (i64.wrap (u64.wrap (0-y0 / siz c))),.int .i64 0]));let y2:Tree SV:=.leaf (.tuple [.int .i64 0,.int .i64 3]);.node (c==0) (.leaf (.tuple [.int .i64 0,.int .i64 4])) (.req (yy0 a) (.req (yy0 b) (.req (okU (siz a)) (.req (okU (siz b)) (.req (yy0 c) (.node (decide (siz a*siz b / 18446744073709551616≥siz c)) y2 (.req (yy0 c) (.req (inR (siz a*siz b / 18446744073709551616) 0 (siz c-1)&& (okU (siz a*siz b % 18446744073709551616)&&okU (siz c))) (.node ((!decide (a<0)==decide (b<0))==decide (c<0)) (.node (decide (y0 / siz c≥9223372036854775808)) y2 (.leaf (.tuple [.int .i64 (i64.wrap (y0 / siz c)),.int .i64 0]))) (.node (decide (y0 / siz c>9223372036854775808)) y2 (.node (y0 / siz c==9223372036854775808) (.node (decide (y0 % siz c>0)) y2 y1) y1))))))))))))
  (by kernel_rfl) (by
   have o:=yy8.1 h;obtain⟨h1,h2,h3,h4⟩:=qC4 o.1 o.2.1;have sa:siz a=a:=if_neg (by omega);have sb:siz b=b:=if_neg (by omega);have sc:siz c=c:=if_neg (by omega);have m0:0≤a*b / c:=Int.ediv_nonneg h4 (by omega);have m1:a*b / c≤a*b:=Int.ediv_le_self _ h4;have hi:=q33 h4 o.2.2.1;have k1:yy0 a=true:=v8.2 (by omega);have k2:yy0 b=true:=v8.2 (by omega);have k3:yy0 c=true:=v8.2 (by omega);have k4:okU a=true:=v8.2 (by omega);have k5:okU b=true:=v8.2 (by omega);have k6:okU c=true:=v8.2 (by omega);have k7:okU (a*b / 18446744073709551616)=true:=v8.2 (by omega);have k8:okU (a*b % 18446744073709551616)=true:=v8.2 (by omega);have na:decide (a<0)=false:=decide_eq_false (by omega);have nb:decide (b<0)=false:=decide_eq_false (by omega);have nc:decide (c<0)=false:=decide_eq_false (by omega)
   have n0:(c==0)=false:=by simp;omega
   simp only[Tree.holds,sa,sb,sc,h3,k1,k2,k3,k4,k5,k6,k7,k8,na,nb,nc,n0,show(false==false)=true from rfl,show(true==false)=false from rfl,show(false==true)=false from rfl,sL,ne_eq,sLb,sLc,eq_self,sLd,sLe,sLf];(repeat' (first|apply And.intro|intro _));
   all_goals first
    |(rw[q31 (by first|omega|exact hi (by omega))];rfl)
    |(have lt:a*b / c<9223372036854775808:=by omega
      rw[q32 lt,w64 (by omega) (by omega)];rfl)
    |(rw[v8];omega)) (by kernel_rfl) (by unfold mdS;split<;>rfl)
def fMd:Fact:=qk2 319 fun a b c=>.req (yy7 a b c) (.node (decide (a*b / c<9223372036854775808)) (.leaf (.tuple [J (a*b / c),J 0])) (.leaf (.tuple [J 0,J 3])))
theorem yp3:fMd.ok pP:=qk3 (fun a b c h=>⟨fun k=>q32 (of_decide_eq_true k)▸xk0 a b c h,fun k=>q31 (of_decide_eq_false k)▸xk0 a b c h⟩)
def qe4:Fact:=qk7 135 fun m i p=>.req (inR i 0 3) (.node (xC9 m p) (.leaf (.tuple [J (xG0 (axM m i) p),J 0])) (.leaf (.tuple [J 0,J 1])))
theorem yu3:qe4.ok pP:=qk8 (fun m i p h=>by
 have h:=v8.1 h
 have hi:i=0∨i=1∨i=2∨i=3:=by omega
 rcases hi with rfl|rfl|rfl|rfl
 ·exact⟨fun hk=>z14 hk▸xq1 m p,fun hk=>z09 hk▸xq1 m p⟩
 ·exact⟨fun hk=>z14 hk▸xq2 m p,fun hk=>z09 hk▸xq2 m p⟩
 ·exact⟨fun hk=>z14 hk▸xq3 m p,fun hk=>z09 hk▸xq3 m p⟩
 ·exact⟨fun hk=>z14 hk▸xq4 m p,fun hk=>z09 hk▸xq4 m p⟩)
def qf8:Fact:=qk7 192 fun m i p=>.req (inR i 0 3) (.node (xX3 m p) (.leaf (.tuple [J (xY3 (axM m i) p),J 0])) (.leaf (.tuple [J 0,J 1])))
theorem yv7:qf8.ok pP:=qk8 (fun m i p h=>by
 have h:=v8.1 h
 have hi:i=0∨i=1∨i=2∨i=3:=by omega
 rcases hi with rfl|rfl|rfl|rfl
 ·exact⟨fun hk=>z14 hk▸xt5 m p,fun hk=>z09 hk▸xt5 m p⟩
 ·exact⟨fun hk=>z14 hk▸xt6 m p,fun hk=>z09 hk▸xt6 m p⟩
 ·exact⟨fun hk=>z14 hk▸xt7 m p,fun hk=>z09 hk▸xt7 m p⟩
 ·exact⟨fun hk=>z14 hk▸xt8 m p,fun hk=>z09 hk▸xt8 m p⟩)
theorem xk2(m:Ma)(v:V3)(e:Int):SCall pP 63 [m.sv,V3.sv v,J e] (q63 m v e):=
 o8 mix [qe4] ⟨yu3,trivial⟩ 1000 (.go (.lit (.fork (.lit (.go (.lit (.fork (.lit (.go (.lit (.fork (.lit (.go (.lit (.fork (.lit (.go (.lit (.fork (.all) (.all))))) (.lit (.all)))))) (.lit (.all)))))) (.lit (.all)))))) (.lit (.all)))))
  (t:=let y0:Tree SV:=.leaf (.tuple [.agg [.int .i64 0,.int .i64 0,.int .i64 0,.int .i64 0],.int .i64 1]);.req (true) (.req true (.node (xC9 m v.1) (.req true (.req (true) (.req true (.node (xC9 m v.2.1) (.req true (.req (true) (.req true (.node (xC9 m v.2.2) (.req true (.req (true) (.req true (.node (xC9 m e) (.req true (.node (m.xy) (.req true (.req (true) (.req true (.req (true) (.req true (.req (true) (.leaf (.tuple [.agg [.int .i64 (i64.wrap (xG0 (axM m 0) v.1+xG0 (axM m 1) v.2.1)),.int .i64 (i64.wrap (xG0 (axM m 0) v.1-xG0 (axM m 1) v.2.1)),.int .i64 (xG0 (axM m 2) v.2.2),.int .i64 (xG0 (axM m 3) e)],.int .i64 0])))))))) (.leaf (.tuple [.agg [.int .i64 (xG0 (axM m 0) v.1),.int .i64 (xG0 (axM m 1) v.2.1),.int .i64 (xG0 (axM m 2) v.2.2),.int .i64 (xG0 (axM m 3) e)],.int .i64 0])))) y0)))) y0)))) y0)))) y0)))
  (by kernel_rfl) (by
   have ax0:axM m 0=m.x:=rfl;have ax1:axM m 1=m.y:=rfl;have ax2:axM m 2=m.z:=rfl;have ax3:axM m 3=m.e:=rfl;simp only[Tree.holds,sL,ne_eq,sLb,sLc,eq_self,sLd,sLe,sLf];simp only[ax0,ax1,ax2,ax3];(repeat' (first|apply And.intro|intro _));
   all_goals first
    |(rw[q64 (Bool.eq_false_iff.2 (by rw[ne_eq,q60];first|omega|grind))];rfl)
    |(have hk:=q60.1 (show q59 m v e=true by rw[q60];grind)
      have ho:=(Ma.ok_iff m).1 (xD0.1 hk.1).1;have r1:=(xD3 ho.1 (xD0.1 hk.1).2).2;have r2:=(xD3 ho.2.1 (xD0.1 hk.2.1).2).2;rw[q65 (q60.2 hk)];have w1:=w64 (x:=xG0 m.x v.1+xG0 m.y v.2.1) (by omega) (by omega);have w2:=w64 (x:=xG0 m.x v.1-xG0 m.y v.2.1) (by omega) (by omega);unfold q66 zL8;rename_i hxy
      simp only[hxy,w1,w2];rfl)) (by kernel_rfl) (by unfold q63;split<;>rfl)
def qa3:Fact:=ql6 63 fun m v e=>.node (q59 m v e) (.leaf (.tuple [V4.sv (q66 m v e),J 0])) (.leaf (.tuple [V4.sv z4,J 1]))
theorem yp5:qa3.ok pP:=ql7 (fun m v e=>⟨fun hk=>q65 hk▸xk2 m v e,fun hk=>q64 hk▸xk2 m v e⟩)
theorem xh8(m:Ma)(v:V3):SCall pP 214 [m.sv,V3.sv v] (.bool (qM4 m v)):=
 o8 mix [z99] ⟨yp0,trivial⟩ 1000 (.go (.lit (.fork (.ln 7 (.lit .all)) (.ln 7 (.fork .all (.go (.lit (.fork (.ln 7 (.lit .all)) (.ln 7 (.fork .all (.go (.lit (.fork (.ln 7 (.lit .all)) (.ln 7 (.fork .all (.go (.lit .all)))))))))))))))))
  (t:=let y0:Tree SV:=.leaf (.bool false);.req (true) (.req true (.node (decide (v.1<m.x.min)) y0 (.req true (.node (decide (v.1>m.x.max)) y0 (.req true (.req (true) (.node (decide (v.2.1<m.y.min)) y0 (.req true (.node (decide (v.2.1>m.y.max)) y0 (.req true (.req (true) (.node (decide (v.2.2<m.z.min)) y0 (.req true (.node (decide (v.2.2>m.z.max)) y0 (.leaf (.bool m.ok)))))))))))))))))
  (by kernel_rfl) (by simp only[Tree.holds,sL,ne_eq,sLb,sLc,eq_self,sLd,sLe,sLf];(repeat' (first|apply And.intro|intro _));all_goals(refine qG6 ?_;rw[qM5];(try simp only[sL,ne_eq,sLb,sLc,eq_self,sLd,sLe,sLf]); first|omega|grind)) (by kernel_rfl) (by kernel_rfl)
def z87:Fact:=qk9 214 fun m v=>.leaf (.bool (qM4 m v))
theorem yo0:z87.ok pP:=ql8 (xh8)
theorem xn5(m:Ma)(p:V4)(h:(m.ok&&v9 p)=true):SCall pP 193 [m.sv,V4.sv p] (.tuple [V3.sv ((yR2 m p).1,(yR2 m p).2.1,(yR2 m p).2.2.1),J (yR2 m p).2.2.2,J 0]):=
 o8 mix [qf8,z71,z99] ⟨yv7,ym4,yp0,trivial⟩ 1000 (let z0:Plan:=.go (.lit (.fork (.lit (.go (.lit (.fork (.lit (.go (.lit (.fork (.lit (.go (.lit (.fork (.lit (.go (.lit .all))) (.lit .all))))) (.lit .all))))) (.lit .all))))) (.lit .all)));let z1:Plan:=.ln 3 (.lit .all);.go (.lit (.fork (.ln 3 (.fork .all (.go (.lit (.fork (.ln 3 (.fork .all (.go (.lit (.fork (.ln 3 (.fork .all (.go (.lit (.fork (.ln 3 (.fork .all (.go (.lit (.fork z0 z0))))) z1))))) z1))))) z1))))) z1)))
  (t:=let y0:Tree SV:=.leaf (.tuple [.agg [.int .i64 0,.int .i64 0,.int .i64 0],.int .i64 0,.int .i64 1]);.req (true) (.node (decide (p.1≥-281474976710656)) (.node (!decide (p.1≤281474976710656)) y0 (.req true (.node (decide (p.2.1≥-281474976710656)) (.node (!decide (p.2.1≤281474976710656)) y0 (.req true (.node (decide (p.2.2.1≥-281474976710656)) (.node (!decide (p.2.2.1≤281474976710656)) y0 (.req true (.node (decide (p.2.2.2≥-281474976710656)) (.node (!decide (p.2.2.2≤281474976710656)) y0 (.node (m.xy) (.req true (.req (true) (.req (inR (i64.wrap (p.1+p.2.1)) (-4611686018427387904) 4611686018427387904) (.req true (.req (true) (.req (inR (i64.wrap (p.1-p.2.1)) (-4611686018427387904) 4611686018427387904) (.req true (.req (true) (.req true (.req (true) (.node (xX3 m (i64.wrap (p.1+p.2.1) / 2)) (.req true (.req (true) (.req true (.node (xX3 m (i64.wrap (p.1-p.2.1) / 2)) (.req true (.req (true) (.req true (.node (xX3 m p.2.2.1) (.req true (.req (true) (.req true (.node (xX3 m p.2.2.2) (.req true (.req (true) (.req true (.req (true) (.req true (.leaf (.tuple [.agg [.int .i64 (xY3 (axM m 0) (i64.wrap (p.1+p.2.1) / 2)),.int .i64 (xY3 (axM m 1) (i64.wrap (p.1-p.2.1) / 2)),.int .i64 (xY3 (axM m 2) p.2.2.1)],.int .i64 (xY3 (axM m 3) p.2.2.2),.int .i64 0]))))))) y0)))) y0)))) y0)))) y0))))))))))) (.req true (.req (true) (.node (xX3 m p.1) (.req true (.req (true) (.req true (.node (xX3 m p.2.1) (.req true (.req (true) (.req true (.node (xX3 m p.2.2.1) (.req true (.req (true) (.req true (.node (xX3 m p.2.2.2) (.req true (.req (true) (.req true (.req (true) (.req true (.leaf (.tuple [.agg [.int .i64 (xY3 (axM m 0) p.1),.int .i64 (xY3 (axM m 1) p.2.1),.int .i64 (xY3 (axM m 2) p.2.2.1)],.int .i64 (xY3 (axM m 3) p.2.2.2),.int .i64 0]))))))) y0)))) y0)))) y0)))) y0))))) y0))) y0))) y0))) y0))
  (by kernel_rfl) (by
   rw[Bool.and_eq_true,r8]at h;have ho:=h.1;have n1:=w64 (x:=p.1+p.2.1) (by omega) (by omega);have n2:=w64 (x:=p.1-p.2.1) (by omega) (by omega);have d1:=zX8 (a:=p.1+p.2.1) (b:=2) (M:=33554432) (by omega) (by omega) (by omega);have d2:=zX8 (a:=p.1-p.2.1) (b:=2) (M:=33554432) (by omega) (by omega) (by omega)
   have u:∀n:Int,-33554432≤n∧n≤33554432→xX3 m n=true:=fun n hn=>xX4.2 ⟨ho,by omega⟩
   have u1:=u _ d1;have u2:=u _ d2;have u3:=u p.1 (by omega);have u4:=u p.2.1 (by omega);have u5:=u p.2.2.1 (by omega);have u6:=u p.2.2.2 (by omega);have ax0:axM m 0=m.x:=rfl;have ax1:axM m 1=m.y:=rfl;have ax2:axM m 2=m.z:=rfl;have ax3:axM m 3=m.e:=rfl;have i1:inR (p.1+p.2.1) (-4611686018427387904) 4611686018427387904=true:=v8.2 (by omega);have i2:inR (p.1-p.2.1) (-4611686018427387904) 4611686018427387904=true:=v8.2 (by omega)
   have q0:∀n:Int,-16777216≤n∧n≤16777216→decide (n≥-281474976710656)=true∧decide (n≤281474976710656)=true∧decide (n < -281474976710656)=false∧decide (n>281474976710656)=false:=fun n hn=>⟨decide_eq_true (by omega),decide_eq_true (by omega),decide_eq_false (by omega),decide_eq_false (by omega)⟩
   obtain⟨q1,q2,q3,q4⟩:=q0 p.1 (by omega);obtain⟨q5,q6,q7,q8⟩:=q0 p.2.1 (by omega);obtain⟨q9,qa,qb,qc⟩:=q0 p.2.2.1 (by omega);obtain⟨qd,qe,qf,qg⟩:=q0 p.2.2.2 (by omega)
   cases hxy:m.xy
   all_goals simp only[Tree.holds,yR2,xX6,V3.sv,J,hxy,ho,n1,n2,u1,u2,u3,u4,u5,u6,ax0,ax1,ax2,ax3,i1,i2,q1,q2,q3,q4,q5,q6,q7,q8,q9,qa,qb,qc,qd,qe,qf,qg,sL,ne_eq,sLb,sLc,eq_self,sLd,sLe,sLf]) (by kernel_rfl) (by kernel_rfl)
def qc5:Fact:=ql0 193 fun m p=>.req (m.ok&&v9 p) (.leaf (.tuple [V3.sv ((yR2 m p).1,(yR2 m p).2.1,(yR2 m p).2.2.1),J (yR2 m p).2.2.2,J 0]))
theorem ys1:qc5.ok pP:=ql5 (fun m p h=>xn5 m p h)
def lst(v a b c:Int):Int:=if a*b / c<v then a*b / c else v
def qj9(f:FuncId)(h:Int→Int→Int→Int→Tree SV):Fact:=⟨f,fun args=>match args with
 |[.int .i64 a,.int .i64 b,.int .i64 c,.int .i64 d] =>some (h a b c d)
 |_=>none⟩
theorem qk0{P:Program}{f:FuncId}{h:Int→Int→Int→Int→Tree SV}(k:∀a b c d,(h a b c d).says (SCall P f [J a,J b,J c,J d])):(qj9 f h).ok P:=fun args t ht=>by
 simp only[qj9]at ht
 split at ht
 ·injection ht with ht;subst ht;exact k _ _ _ _
 ·cases ht
def okB(v a b c:Int):Bool:=yy7 a b c&&inR v 0 16777216
theorem yy3{v a b c:Int}:okB v a b c=true↔yy7 a b c=true∧0≤v∧v≤16777216:=by simp only[okB,Bool.and_eq_true,v8]
theorem xr8(n:Int)(hn:inR n (-4611686018427387904) 4611686018427387904=true):SCall pP 290 [J n] (J (sz n)):=
 o8 mix [] trivial 1000 (.all)
  (t:=.leaf (SV.int IntKind.i64 (if i64.wrap (0-n)>n then i64.wrap (0-n)else n)))
  (by kernel_rfl) (by
   rw[v8]at hn
   have e:i64.wrap (0-n)= -n:=by rw[w64 (by omega) (by omega)];omega
   simp only[Tree.holds,sL,ne_eq,sLb,sLc,eq_self,sLd,sLe,sLf];(repeat' (first|apply And.intro|intro _));all_goals((try simp only[e]);refine xJ6 ?_;unfold sz;(repeat' split)<;>omega)) (by kernel_rfl) (by kernel_rfl)
theorem yu5:(fSz 290).ok pP:=qk5 fun n h=>xr8 n h
theorem xc0(a b c v:Int)(h:okB v a b c=true):SCall pP 289 [J a,J b,J c,J v] (J (lst v a b c)):=
 o8 mix [fMd] ⟨yp3,trivial⟩ 1000 (.fork (.lit (.all)) (.lit (.all)))
  (t:=.req (yy7 a b c) (.node (decide (a*b / c<9223372036854775808))
 (.leaf (SV.int IntKind.i64 (if v<a*b / c then v else a*b / c)))
 (.leaf (SV.int IntKind.i64 v))))
  (by kernel_rfl) (by
   have o:=yy3.1 h;have m:=yy8.1 o.1;simp only[Tree.holds,sL,ne_eq,sLb,sLc,eq_self,sLd,sLe,sLf];(repeat' (first|apply And.intro|intro _));
   all_goals first
    |exact o.1
    |(refine xJ6 ?_;unfold lst;(repeat' split)<;>omega)) (by kernel_rfl) (by kernel_rfl)
def z44:Fact:=qj9 289 fun a b c v=>.req (okB v a b c) (.leaf (J (lst v a b c)))
theorem yj7:z44.ok pP:=qk0 fun a b c v h=>xc0 a b c v h
def stS(n v s k:Int):Int:=if k=0 then v else lst v s n (sz k)
def zg1(m:Ma)(c:V4):Int:=stS (dom c) (stS (dom c) (stS (dom c) (stS (dom c) 16777216 m.x.accel c.1) m.y.accel c.2.1) m.z.accel c.2.2.1) m.e.accel c.2.2.2
theorem q10{v a b c:Int}(h:okB v a b c=true):0≤lst v a b c∧lst v a b c≤v:=by
 have o:=yy3.1 h;have m:=yy8.1 o.1;have:0≤a*b / c:=Int.ediv_nonneg (Int.mul_nonneg m.1.1 m.2.1.1) (by omega)
 unfold lst;split<;>omega
theorem q11{v a b c:Int}(h:okB v a b c=true)(hc:c≤a*b)(hv:1≤v):1≤lst v a b c∧lst v a b c≤v:=by
 have o:=yy3.1 h;have m:=yy8.1 o.1;have:1≤a*b / c:=Int.le_ediv_of_mul_le (by omega) (by omega)
 unfold lst;split<;>omega
theorem zs4{v s n k:Int}(hs:1≤s∧s≤16777216)(hn:1≤n∧n≤16777216)(hv:1≤v∧v≤16777216)(hk:¬k=0)(hz:sz k≤n):okB v s n (sz k)=true∧sz k≤s*n:=by
 have:1≤sz k:=by unfold sz;split<;>omega
 have h2:1*n≤s*n:=Int.mul_le_mul_of_nonneg_right hs.1 (by omega);exact⟨yy3.2 ⟨yy8.2 (by omega),by omega⟩,by omega⟩
theorem xD1{n v s k:Int}(hs:1≤s∧s≤16777216)(hn:1≤n∧n≤16777216)(hv:1≤v∧v≤16777216)(hz:sz k≤n):1≤stS n v s k∧stS n v s k≤v:=by
 unfold stS
 split
 ·omega
 ·rename_i hk
  obtain⟨h1,h2⟩:=zs4 hs hn hv hk hz;exact q11 h1 h2 hv.1
theorem q12{n v s k:Int}(h:¬k=0):lst v s n (sz k)=stS n v s k:=(if_neg h).symm
theorem xD2{n v s k:Int}(h:k=0):v=stS n v s k:=(if_pos h).symm
structure Four (M:Int) (m:Ma) (c:V4) (s:Ax→Int):Prop where
 h1:∀v,1≤v∧v≤M→1≤stS (dom c) v (s m.x) c.1∧stS (dom c) v (s m.x) c.1≤M
 h2:∀v,1≤v∧v≤M→1≤stS (dom c) v (s m.y) c.2.1∧stS (dom c) v (s m.y) c.2.1≤M
 h3:∀v,1≤v∧v≤M→1≤stS (dom c) v (s m.z) c.2.2.1∧stS (dom c) v (s m.z) c.2.2.1≤M
 h4:∀v,1≤v∧v≤M→1≤stS (dom c) v (s m.e) c.2.2.2∧stS (dom c) v (s m.e) c.2.2.2≤M
 k1:∀v,1≤v∧v≤M→¬c.1=0→okB v (s m.x) (dom c) (sz c.1)=true
 k2:∀v,1≤v∧v≤M→¬c.2.1=0→okB v (s m.y) (dom c) (sz c.2.1)=true
 k3:∀v,1≤v∧v≤M→¬c.2.2.1=0→okB v (s m.z) (dom c) (sz c.2.2.1)=true
 k4:∀v,1≤v∧v≤M→¬c.2.2.2=0→okB v (s m.e) (dom c) (sz c.2.2.2)=true
theorem qv2{M:Int}{m:Ma}{c:V4}{s:Ax→Int}(hM:M≤16777216)(hc:okC c=true)(hs:∀a:Ax,a.ok=true→1≤s a∧s a≤16777216)(hm:m.ok=true):Four M m c s:=by
 have o:=(Ma.ok_iff m).1 hm;have d:=q94 hc;rw[←zT9 hc]at d
 have n1:1≤dom c∧dom c≤16777216:=by omega
 refine⟨fun v hv=>?_,fun v hv=>?_,fun v hv=>?_,fun v hv=>?_,fun v hv k=>(zs4 (hs _ o.1) n1 (by omega) k (by omega)).1,fun v hv k=>(zs4 (hs _ o.2.1) n1 (by omega) k (by omega)).1,fun v hv k=>(zs4 (hs _ o.2.2.1) n1 (by omega) k (by omega)).1,fun v hv k=>(zs4 (hs _ o.2.2.2.1) n1 (by omega) k (by omega)).1⟩
 ·have:=xD1 (hs _ o.1) n1 (v:=v) (by omega) (k:=c.1) (by omega);omega
 ·have:=xD1 (hs _ o.2.1) n1 (v:=v) (by omega) (k:=c.2.1) (by omega);omega
 ·have:=xD1 (hs _ o.2.2.1) n1 (v:=v) (by omega) (k:=c.2.2.1) (by omega);omega
 ·have:=xD1 (hs _ o.2.2.2.1) n1 (v:=v) (by omega) (k:=c.2.2.2) (by omega);omega
theorem zs8(a:Ax)(h:a.ok=true):1≤a.speed∧a.speed≤16777216:=by have:=(Ax.ok_iff a).1 h;omega
theorem zs3(a:Ax)(h:a.ok=true):1≤a.accel∧a.accel≤16777216:=by have:=(Ax.ok_iff a).1 h;omega
theorem zs6(a:Ax)(h:a.ok=true):1≤a.jerk∧a.jerk≤1048576:=by have:=(Ax.ok_iff a).1 h;omega
def okL(m:Ma)(c:V4):Bool:=m.ok&&okC c
theorem yy5{m:Ma}{c:V4}:okL m c=true↔m.ok=true∧okC c=true:=by simp only[okL,Bool.and_eq_true]
def zg9(m:Ma)(c:V4):Int:=match okL m c with
 |true=>zg1 m c
 |false=>0
theorem zh2{m:Ma}{c:V4}(h:okL m c=true):zg9 m c=zg1 m c:=by unfold zg9;rw[h]
theorem zh0{m:Ma}{c:V4}(h:okL m c=false):zg9 m c=0:=by unfold zg9;rw[h]
def xE9(n v s k:Int)(K:Int→Tree SV):Tree SV:=.req true (.node (k != 0) (.req true (.req true (.req (inR k (-4611686018427387904) 4611686018427387904) (.req (okB v s n (sz k)) (K (lst v s n (sz k))))))) (K v))
theorem xF0{n v s k:Int}{K:Int→Tree SV}{L:SV→Prop}(hk:inR k (-4611686018427387904) 4611686018427387904=true)(hb:¬k=0→okB v s n (sz k)=true)(h:(K (stS n v s k)).holds L):(xE9 n v s k K).holds L:=by
 refine⟨rfl,fun c=>⟨rfl,rfl,hk,hb ?_,?_⟩,fun c=>?_⟩
 ·simpa using c
 ·rw[q12 (by simpa using c)];exact h
 ·rw[xD2 (n:=n) (v:=v) (s:=s) (k:=k) (by simpa using c)];exact h
def qv3(m:Ma)(c:V4)(s:Ax→Int)(v:Int)(K:Int→Tree SV):Tree SV:=xE9 (dom c) v (s m.x) c.1 fun v=>xE9 (dom c) v (s m.y) c.2.1 fun v=>xE9 (dom c) v (s m.z) c.2.2.1 fun v=>xE9 (dom c) v (s m.e) c.2.2.2 K
def fourV(m:Ma)(c:V4)(s:Ax→Int)(v:Int):Int:=stS (dom c) (stS (dom c) (stS (dom c) (stS (dom c) v (s m.x) c.1) (s m.y) c.2.1) (s m.z) c.2.2.1) (s m.e) c.2.2.2
theorem qv4{M:Int}{m:Ma}{c:V4}{s:Ax→Int}{K:Int→Tree SV}{L:SV→Prop}(f:Four M m c s)(hc:okC c=true){v:Int}(hv:1≤v∧v≤M)(h:(K (fourV m c s v)).holds L):(qv3 m c s v K).holds L:=by
 have b:=(yy4.1 hc).1;have v1:=f.h1 v hv;have v2:=f.h2 _ v1;have v3:=f.h3 _ v2;exact xF0 (v8.2 (by omega)) (f.k1 v hv) (xF0 (v8.2 (by omega)) (f.k2 _ v1) (xF0 (v8.2 (by omega)) (f.k3 _ v2) (xF0 (v8.2 (by omega)) (f.k4 _ v3) h)))
theorem qv5{M:Int}{m:Ma}{c:V4}{s:Ax→Int}(f:Four M m c s){v:Int}(hv:1≤v∧v≤M):1≤fourV m c s v∧fourV m c s v≤M:=f.h4 _ (f.h3 _ (f.h2 _ (f.h1 v hv)))
theorem xa3(m:Ma)(c:V4):SCall pP 260 [m.sv,V4.sv c] (J (zg9 m c)):=
 o8 mix [z57,qb1,z99,z44,fSz 290] ⟨yl0,yq6,yp0,yj7,yu5,trivial⟩ 1000 (let z1:Plan:=.go (.lit (.fork (.go (.lit (.all))) (.go (.lit (.all)))));let z0:Plan:=.go (.lit (.fork z1 z1));.go (.lit (.fork (.lit (.all)) (.go (.lit (.fork (.all) (.go (.lit (.fork (.go (.lit (.fork z0 z0))) (.go (.lit (.fork z0 z0))))))))))))
  (t:=.req true (.node (!okC c) (.leaf (J 0)) (.node (!m.ok) (.leaf (J 0)) (qv3 m c Ax.accel 16777216 fun v=>.leaf (J v)))))
  (by kernel_rfl) (by
   cases hl:okL m c with
   |false=>
    have:=mt yy5.2 (by rw[hl];exact Bool.false_ne_true);simp only[Tree.holds,zh0 hl,sL,ne_eq,sLb,sLc,eq_self,sLd,sLe,sLf]
    (repeat' (first|apply And.intro|intro _))<;>first|rfl|(exfalso;simp_all)
   |true=>
    obtain⟨hm,hc⟩:=yy5.1 hl;simp only[Tree.holds,zh2 hl,hm,hc,sL,ne_eq,sLb,sLc,eq_self,sLd,sLe,sLf]
    exact qv4 (M:=16777216) (qv2 (by omega) hc zs3 hm) hc (by omega) rfl) (by kernel_rfl) (by kernel_rfl)
def z30:Fact:=ql0 260 fun m c=>.leaf (J (zg9 m c))
theorem yh6:z30.ok pP:=ql5 (xa3)
def xB3(v n l f:Int):Int:=if 0<l∧0<f then(if lst v f n l<1 then 1 else lst v f n l)else v
def xB4(m:Ma)(c:V4)(l f:Int):Int:=match okL m c with
 |true=>xB3 (fourV m c Ax.speed 1048576) (dom c) l f
 |false=>0
theorem xB7{m:Ma}{c:V4}{l f:Int}(h:okL m c=true):xB4 m c l f=xB3 (fourV m c Ax.speed 1048576) (dom c) l f:=by unfold xB4;rw[h]
theorem xB5{m:Ma}{c:V4}{l f:Int}(h:okL m c=false):xB4 m c l f=0:=by unfold xB4;rw[h]
theorem zT6{c:V4}(hc:okC c=true):1≤dom c∧dom c≤16777216:=⟨zU0 hc,(zU1 c).2⟩
theorem xB9{v n l f:Int}(hv:1≤v∧v≤1048576)(hn:1≤n∧n≤16777216)(hl:0<l∧l≤9223372036854775807)(hf:0<f∧f≤9223372036854775807):okB v f n l=true:=yy3.2 ⟨yy8.2 (by omega),by omega⟩
def jS(v A B x:Int):Int:=if sz x=0 then v else lst v A B (sz x)
def jd(a b:V4)(x y:Int):Int:=x*dom b-y*dom a
def qR8(m:Ma)(a b:V4):Int:=match okL m a&&okC b with
 |true=>jS (jS (jS (jS 1048576 (m.x.jerk*dom a) (dom b) (jd a b a.1 b.1)) (m.y.jerk*dom a) (dom b) (jd a b a.2.1 b.2.1)) (m.z.jerk*dom a) (dom b) (jd a b a.2.2.1 b.2.2.1)) (m.e.jerk*dom a) (dom b) (jd a b a.2.2.2 b.2.2.2)
 |false=>0
theorem qR9{m:Ma}{a b:V4}(h:(okL m a&&okC b)=false):qR8 m a b=0:=by unfold qR8;rw[h]
theorem qS1{m:Ma}{a b:V4}(h:(okL m a&&okC b)=true):qR8 m a b=jS (jS (jS (jS 1048576 (m.x.jerk*dom a) (dom b) (jd a b a.1 b.1)) (m.y.jerk*dom a) (dom b) (jd a b a.2.1 b.2.1)) (m.z.jerk*dom a) (dom b) (jd a b a.2.2.1 b.2.2.1)) (m.e.jerk*dom a) (dom b) (jd a b a.2.2.2 b.2.2.2):=by unfold qR8;rw[h]
def jT(e:Int→Bool)(x A B v:Int)(K:Int→Tree SV):Tree SV:=.req true (.req true (.req (inR x (-4611686018427387904) 4611686018427387904) (.node (e (sz x)) (.req true (.req (okB v A B (sz x)) (K (lst v A B (sz x))))) (K v))))
theorem qQ9{e:Int→Bool}(he:∀n,0≤n→(e n=true↔¬n=0)){x A B v:Int}{K:Int→Tree SV}{L:SV→Prop}(hx:inR x (-4611686018427387904) 4611686018427387904=true)(hb:¬sz x=0→okB v A B (sz x)=true)(h:(K (jS v A B x)).holds L):(jT e x A B v K).holds L:=by
 have z:=xJ8 x;refine⟨rfl,rfl,hx,fun c=>⟨rfl,hb ((he _ z).1 c),?_⟩,fun c=>?_⟩
 ·rw[show lst v A B (sz x)=jS v A B x from(if_neg ((he _ z).1 c)).symm];exact h
 ·have:sz x=0:=by
   have hn:=mt (he _ z).2 (by rw[c];exact Bool.false_ne_true);omega
  rw[show v=jS v A B x from(if_pos this).symm];exact h
theorem qQ8{v A B x:Int}(hv:0≤v∧v≤1048576)(h:¬sz x=0→okB v A B (sz x)=true):0≤jS v A B x∧jS v A B x≤1048576:=by
 unfold jS
 split
 ·exact hv
 ·rename_i c
  have:=q10 (h c);omega
theorem qR0{a b:V4}{x y:Int}(hx: -16777216≤x∧x≤16777216)(hy: -16777216≤y∧y≤16777216):(-281474976710656≤x*dom b∧x*dom b≤281474976710656)∧(-281474976710656≤y*dom a∧y*dom a≤281474976710656):=by
 have h1:=q83 (A:=16777216) (B:=16777216) (by omega) hx (zU1 b);have h2:=q83 (A:=16777216) (B:=16777216) (by omega) hy (zU1 a);omega
theorem qR1{a b:V4}{x y:Int}(hx: -16777216≤x∧x≤16777216)(hy: -16777216≤y∧y≤16777216):i64.wrap (i64.wrap (x*dom b)-i64.wrap (y*dom a))=jd a b x y∧inR (jd a b x y) (-4611686018427387904) 4611686018427387904=true∧sz (jd a b x y)≤562949953421312:=by
 have r:=qR0 (a:=a) (b:=b) hx hy;unfold jd;rw[w64 (x:=x*dom b) (by omega) (by omega),w64 (x:=y*dom a) (by omega) (by omega),w64 (by omega) (by omega)];refine⟨rfl,v8.2 (by omega),?_⟩
 unfold sz;split<;>omega
theorem qR2{j n:Int}(hj:1≤j∧j≤1048576)(hn:1≤n∧n≤16777216):0≤j*n∧j*n≤17592186044416:=by
 have h1:0≤j*n:=Int.mul_nonneg (by omega) (by omega);have h2:j*n≤1048576*16777216:=Int.mul_le_mul hj.2 hn.2 (by omega) (by omega);omega
theorem zT7{n k:Int}(hn:1≤n∧n≤16777216)(hk:1≤k∧k≤16777216):0≤n*k∧n*k≤281474976710656:=by
 have h1:0≤n*k:=Int.mul_nonneg (by omega) (by omega);have h2:n*k≤16777216*16777216:=Int.mul_le_mul hn.2 hk.2 (by omega) (by omega);omega
theorem xp9(m:Ma)(c:V4)(l f:Int)(h:(yy0 l&&yy0 f)=true):SCall pP 259 [m.sv,V4.sv c,J l,J f] (J (xB4 m c l f)):=
 o8 mix [z57,qb1,z99,z44,fSz 290] ⟨yl0,yq6,yp0,yj7,yu5,trivial⟩ 1000 (let z1:Plan:=.go (.lit (.fork (.lit (.lit (.fork .all .all))) (.lit (.lit (.lit .all)))));let z0:Plan:=.go (.lit (.fork z1 z1));let z2:Plan:=.go (.lit (.fork z0 z0));.go (.lit (.fork (.lit .all) (.go (.lit (.fork .all (.go (.lit (.fork (.go (.lit (.fork z2 z2))) (.go (.lit (.fork z2 z2))))))))))))
  (t:=.req true (.node (!okC c) (.leaf (J 0)) (.node (!m.ok) (.leaf (J 0)) (qv3 m c Ax.speed 1048576 fun v=>.node (decide (l>0)) (.node (decide (f>0)) (.req (okB v f (dom c) l) (.leaf (J (if(if lst v f (dom c) l>1 then lst v f (dom c) l else 1)<v then(if lst v f (dom c) l>1 then lst v f (dom c) l else 1)else v)))) (.leaf (J v))) (.leaf (J v))))))
  (by kernel_rfl) (by
   rw[Bool.and_eq_true]at h;have h1:=v8.1 h.1;have h2:=v8.1 h.2
   cases hl:okL m c with
   |false=>
    have:=mt yy5.2 (by rw[hl];exact Bool.false_ne_true);simp only[Tree.holds,xB5 hl,sL,ne_eq,sLb,sLc,eq_self,sLd,sLe,sLf]
    (repeat' (first|apply And.intro|intro _))<;>first|rfl|(exfalso;simp_all)
   |true=>
    obtain⟨hm,hc⟩:=yy5.1 hl;simp only[Tree.holds,xB7 hl,hm,hc,sL,ne_eq,sLb,sLc,eq_self,sLd,sLe,sLf];have F:=qv2 (M:=1048576) (m:=m) (c:=c) (s:=Ax.speed) (by omega) hc zs8 hm;have fv:=qv5 F (v:=1048576) (by omega);refine qv4 (M:=1048576) F hc (by omega) ?_;unfold xB3;generalize fourV m c Ax.speed 1048576=v at fv ⊢;have dn:=zT6 hc
    have ob:=fun(a:0<l) (b:0<f)=>xB9 (v:=v) (n:=dom c) (l:=l) (f:=f) (by omega) dn (by omega) (by omega)
    simp only[Tree.holds,sL,ne_eq,sLb,sLc,eq_self,sLd,sLe,sLf];refine⟨fun a=>⟨fun b=>⟨ob a b,?_⟩,fun b=>?_⟩,fun a=>?_⟩
    ·have ln:=q10 (ob a b)
     rw[if_pos (show 0<l∧0<f from⟨a,b⟩)]
     refine xJ6 ?_;(repeat' split)<;>omega
    ·rw[if_neg (show ¬(0<l∧0<f) by omega)]
    ·rw[if_neg (show ¬(0<l∧0<f) by omega)]) (by kernel_rfl) (by kernel_rfl)
theorem xi1(m:Ma)(a b:V4):SCall pP 261 [m.sv,V4.sv a,V4.sv b] (J (qR8 m a b)):=
 o8 mix [z57,qb1,z99,z44,fSz 290] ⟨yl0,yq6,yp0,yj7,yu5,trivial⟩ 1000 (let z2:Plan:=.lit (.all);let z1:Plan:=.go (.lit (.fork (.go z2) (.go z2)));let z0:Plan:=.go (.lit (.fork z1 z1));.go (.lit (.fork z2 (.go (.lit (.fork z2 (.go (.lit (.fork (.all) (.go (.lit (.fork (.go (.lit (.fork z0 z0))) (.go (.lit (.fork z0 z0)))))))))))))))
  (t:=.req true (.node (!okC a) (.leaf (J 0)) (.req true (.node (!okC b) (.leaf (J 0)) (.node (!m.ok) (.leaf (J 0)) (jT (fun n=>decide (n>0)) (i64.wrap (i64.wrap (a.1*dom b)-i64.wrap (b.1*dom a))) (i64.wrap (m.x.jerk*dom a)) (dom b) 1048576 (fun v=>jT (fun n=>decide (n>0)) (i64.wrap (i64.wrap (a.2.1*dom b)-i64.wrap (b.2.1*dom a))) (i64.wrap (m.y.jerk*dom a)) (dom b) v (fun v=>jT (fun n=>decide (n>0)) (i64.wrap (i64.wrap (a.2.2.1*dom b)-i64.wrap (b.2.2.1*dom a))) (i64.wrap (m.z.jerk*dom a)) (dom b) v (fun v=>jT (fun n=>decide (n>0)) (i64.wrap (i64.wrap (a.2.2.2*dom b)-i64.wrap (b.2.2.2*dom a))) (i64.wrap (m.e.jerk*dom a)) (dom b) v (fun v=>.leaf (J v)))))))))))
  (by kernel_rfl) (by
   cases hl:okL m a&&okC b with
   |false=>
    have hn:¬((m.ok=true∧okC a=true)∧okC b=true):=fun k=>by
     have:(okL m a&&okC b)=true:=by rw[Bool.and_eq_true];exact⟨yy5.2 k.1,k.2⟩
     rw[hl]at this;cases this
    simp only[Tree.holds,qR9 hl,sL,ne_eq,sLb,sLc,eq_self,sLd,sLe,sLf]
    (repeat' (first|apply And.intro|intro _))<;>first|rfl|(exfalso;simp_all)
   |true=>
    have h2:=hl;rw[Bool.and_eq_true]at h2;obtain⟨hm,ha⟩:=yy5.1 h2.1;have hb:=h2.2;have mo:=(Ma.ok_iff m).1 hm;have ra:=(yy4.1 ha).1;have rb:=(yy4.1 hb).1;have da:=zT6 ha;have db:=zT6 hb;have j1:=zs6 _ mo.1;have j2:=zs6 _ mo.2.1;have j3:=zs6 _ mo.2.2.1;have j4:=zs6 _ mo.2.2.2.1;obtain⟨w1,i1,z1⟩:=qR1 (a:=a) (b:=b) (x:=a.1) (y:=b.1) (by omega) (by omega);obtain⟨w2,i2,z2⟩:=qR1 (a:=a) (b:=b) (x:=a.2.1) (y:=b.2.1) (by omega) (by omega);obtain⟨w3,i3,z3⟩:=qR1 (a:=a) (b:=b) (x:=a.2.2.1) (y:=b.2.2.1) (by omega) (by omega);obtain⟨w4,i4,z4'⟩:=qR1 (a:=a) (b:=b) (x:=a.2.2.2) (y:=b.2.2.2) (by omega) (by omega);have m1:=qR2 j1 da;have m2:=qR2 j2 da;have m3:=qR2 j3 da;have m4:=qR2 j4 da;have mm:=zT7 da db
    have ob:∀{v A B x:Int},0≤v∧v≤1048576→0≤A∧A≤17592186044416→0≤B∧B≤281474976710656→sz x≤562949953421312→¬sz x=0→okB v A B (sz x)=true:=fun {v A B x} hv hA hB hx h0=>yy3.2 ⟨yy8.2 (by have:=xJ8 x;omega),by omega⟩
    rw[w1,w2,w3,w4];simp only[Tree.holds,qS1 hl,hm,ha,hb,sL,ne_eq,sLb,sLc,eq_self,sLd,sLe,sLf];rw[w64 (x:=m.x.jerk*dom a) (by omega) (by omega),w64 (x:=m.y.jerk*dom a) (by omega) (by omega),w64 (x:=m.z.jerk*dom a) (by omega) (by omega),w64 (x:=m.e.jerk*dom a) (by omega) (by omega)]
    have v0:(0:Int)≤1048576∧(1048576:Int)≤1048576:=by omega
    have b1:=ob (x:=jd a b a.1 b.1) v0 (A:=m.x.jerk*dom a) (B:=dom b) m1 (by omega) z1;have v1:=qQ8 v0 b1;have b2:=ob (x:=jd a b a.2.1 b.2.1) v1 (A:=m.y.jerk*dom a) (B:=dom b) m2 (by omega) z2;have v2:=qQ8 v1 b2;have b3:=ob (x:=jd a b a.2.2.1 b.2.2.1) v2 (A:=m.z.jerk*dom a) (B:=dom b) m3 (by omega) z3;have v3:=qQ8 v2 b3;have b4:=ob (x:=jd a b a.2.2.2 b.2.2.2) v3 (A:=m.e.jerk*dom a) (B:=dom b) m4 (by omega) z4'
    exact qQ9 (fun n hn=>⟨fun k=>by have:=of_decide_eq_true k;omega,fun k=>decide_eq_true (by omega)⟩) i1 b1 (qQ9 (fun n hn=>⟨fun k=>by have:=of_decide_eq_true k;omega,fun k=>decide_eq_true (by omega)⟩) i2 b2 (qQ9 (fun n hn=>⟨fun k=>by have:=of_decide_eq_true k;omega,fun k=>decide_eq_true (by omega)⟩) i3 b3 (qQ9 (fun n hn=>⟨fun k=>by have:=of_decide_eq_true k;omega,fun k=>decide_eq_true (by omega)⟩) i4 b4 rfl)))) (by kernel_rfl) (by kernel_rfl)
def ql3(f:FuncId)(h:Ma→V4→Int→Int→Tree SV):Fact:=⟨f,fun args=>match args with
 |[.agg [.int .i64 a0,.int .i64 a1,.int .i64 a2,.int .i64 a3,.int .i64 a4,.int .i64 a5,.int .i64 a6,.int .i64 b0,.int .i64 b1,.int .i64 b2,.int .i64 b3,.int .i64 b4,.int .i64 b5,.int .i64 b6,.int .i64 c0,.int .i64 c1,.int .i64 c2,.int .i64 c3,.int .i64 c4,.int .i64 c5,.int .i64 c6,.int .i64 d0,.int .i64 d1,.int .i64 d2,.int .i64 d3,.int .i64 d4,.int .i64 d5,.int .i64 d6,.bool xy,.int .i64 t],.agg [.int .i64 x,.int .i64 y,.int .i64 z,.int .i64 w],.int .i64 i,.int .i64 j] =>some (h ⟨⟨a0,a1,a2,a3,a4,a5,a6⟩,⟨b0,b1,b2,b3,b4,b5,b6⟩,⟨c0,c1,c2,c3,c4,c5,c6⟩,⟨d0,d1,d2,d3,d4,d5,d6⟩,xy,t⟩ (x,y,z,w) i j)
 |_=>none⟩
theorem ql4{P:Program}{f:FuncId}{h:Ma→V4→Int→Int→Tree SV}(k:∀m v i j,(h m v i j).says (SCall P f [m.sv,V4.sv v,J i,J j])):(ql3 f h).ok P:=fun args t ht=>by
 simp only[ql3]at ht
 split at ht
 ·injection ht with ht;subst ht;exact k ⟨⟨_,_,_,_,_,_,_⟩,⟨_,_,_,_,_,_,_⟩,⟨_,_,_,_,_,_,_⟩,⟨_,_,_,_,_,_,_⟩,_,_⟩ (_,_,_,_) _ _
 ·cases ht
def ql1(f:FuncId)(h:Ma→V4→V4→Tree SV):Fact:=⟨f,fun args=>match args with
 |[.agg [.int .i64 a0,.int .i64 a1,.int .i64 a2,.int .i64 a3,.int .i64 a4,.int .i64 a5,.int .i64 a6,.int .i64 b0,.int .i64 b1,.int .i64 b2,.int .i64 b3,.int .i64 b4,.int .i64 b5,.int .i64 b6,.int .i64 c0,.int .i64 c1,.int .i64 c2,.int .i64 c3,.int .i64 c4,.int .i64 c5,.int .i64 c6,.int .i64 d0,.int .i64 d1,.int .i64 d2,.int .i64 d3,.int .i64 d4,.int .i64 d5,.int .i64 d6,.bool xy,.int .i64 t],.agg [.int .i64 x,.int .i64 y,.int .i64 z,.int .i64 w],.agg [.int .i64 x2,.int .i64 y2,.int .i64 z2,.int .i64 w2]] =>some (h ⟨⟨a0,a1,a2,a3,a4,a5,a6⟩,⟨b0,b1,b2,b3,b4,b5,b6⟩,⟨c0,c1,c2,c3,c4,c5,c6⟩,⟨d0,d1,d2,d3,d4,d5,d6⟩,xy,t⟩ (x,y,z,w) (x2,y2,z2,w2))
 |_=>none⟩
theorem ql2{P:Program}{f:FuncId}{h:Ma→V4→V4→Tree SV}(k:∀m v u,(h m v u).says (SCall P f [m.sv,V4.sv v,V4.sv u])):(ql1 f h).ok P:=fun args t ht=>by
 simp only[ql1]at ht
 split at ht
 ·injection ht with ht;subst ht;exact k ⟨⟨_,_,_,_,_,_,_⟩,⟨_,_,_,_,_,_,_⟩,⟨_,_,_,_,_,_,_⟩,⟨_,_,_,_,_,_,_⟩,_,_⟩ (_,_,_,_) (_,_,_,_)
 ·cases ht
def qe0:Fact:=ql3 259 fun m c l f=>.req (yy0 l&&yy0 f) (.leaf (J (xB4 m c l f)))
theorem yt9:qe0.ok pP:=ql4 (fun m c l f h=>xp9 m c l f h)
def z90:Fact:=ql1 261 fun m a b=>.leaf (J (qR8 m a b))
theorem yo3:z90.ok pP:=ql2 (xi1)
section
variable {m:Ma} {c:V4}
theorem zh1(h:okL m c=true):1≤zg9 m c∧zg9 m c≤16777216:=by
 obtain⟨hm,hc⟩:=yy5.1 h;rw[zh2 h];exact qv5 (qv2 (M:=16777216) (by omega) hc zs3 hm) (v:=16777216) (by omega)
theorem xC0(h:okL m c=true):1≤fourV m c Ax.speed 1048576∧fourV m c Ax.speed 1048576≤1048576:=by
 obtain⟨hm,hc⟩:=yy5.1 h;exact qv5 (qv2 (M:=1048576) (by omega) hc zs8 hm) (v:=1048576) (by omega)
theorem xB8(h:okL m c=true):xB4 m c 0 0=fourV m c Ax.speed 1048576:=by
 rw[xB7 h];unfold xB3;rw[if_neg (by omega)]
theorem xB6(h:okL m c=true){l f:Int}(hl:l≤9223372036854775807)(hf:f≤9223372036854775807):1≤xB4 m c l f∧xB4 m c l f≤xB4 m c 0 0∧xB4 m c 0 0≤1048576:=by
 have t:=xC0 h;have hc:=(yy5.1 h).2;rw[xB8 h];refine⟨?_,?_,t.2⟩
 all_goals
  rw[xB7 h];unfold xB3
  split
  ·rename_i k
   have b:=xB9 (v:=fourV m c Ax.speed 1048576) (n:=dom c) (l:=l) (f:=f) (by omega) (zT6 hc) (by omega) (by omega);have n:=q10 b
   split<;>omega
  ·omega
theorem qS0(m:Ma)(a b:V4):0≤qR8 m a b∧qR8 m a b≤1048576:=by
 cases hl:okL m a&&okC b with
 |false=>rw[qR9 hl];omega
 |true=>
  have h2:=hl;rw[Bool.and_eq_true]at h2;obtain⟨hm,ha⟩:=yy5.1 h2.1;have hb:=h2.2;have mo:=(Ma.ok_iff m).1 hm;have ra:=(yy4.1 ha).1;have rb:=(yy4.1 hb).1;have da:=zT6 ha;have db:=zT6 hb;have j1:=zs6 _ mo.1;have j2:=zs6 _ mo.2.1;have j3:=zs6 _ mo.2.2.1;have j4:=zs6 _ mo.2.2.2.1;obtain⟨w1,i1,z1⟩:=qR1 (a:=a) (b:=b) (x:=a.1) (y:=b.1) (by omega) (by omega);obtain⟨w2,i2,z2⟩:=qR1 (a:=a) (b:=b) (x:=a.2.1) (y:=b.2.1) (by omega) (by omega);obtain⟨w3,i3,z3⟩:=qR1 (a:=a) (b:=b) (x:=a.2.2.1) (y:=b.2.2.1) (by omega) (by omega);obtain⟨w4,i4,z4'⟩:=qR1 (a:=a) (b:=b) (x:=a.2.2.2) (y:=b.2.2.2) (by omega) (by omega);have m1:=qR2 j1 da;have m2:=qR2 j2 da;have m3:=qR2 j3 da;have m4:=qR2 j4 da
  have ob:∀{v A B x:Int},0≤v∧v≤1048576→0≤A∧A≤17592186044416→0≤B∧B≤281474976710656→sz x≤562949953421312→1≤B→¬sz x=0→okB v A B (sz x)=true:=fun {v A B x} hv hA hB hx _ h0=>yy3.2 ⟨yy8.2 (by have:=xJ8 x;omega),by omega⟩
  rw[qS1 hl]
  have v0:(0:Int)≤1048576∧(1048576:Int)≤1048576:=by omega
  have v1:=qQ8 v0 (ob (A:=m.x.jerk*dom a) (B:=dom b) (x:=jd a b a.1 b.1) v0 m1 (by omega) z1 db.1);have v2:=qQ8 v1 (ob (A:=m.y.jerk*dom a) (B:=dom b) (x:=jd a b a.2.1 b.2.1) v1 m2 (by omega) z2 db.1);have v3:=qQ8 v2 (ob (A:=m.z.jerk*dom a) (B:=dom b) (x:=jd a b a.2.2.1 b.2.2.1) v2 m3 (by omega) z3 db.1);exact qQ8 v3 (ob (A:=m.e.jerk*dom a) (B:=dom b) (x:=jd a b a.2.2.2 b.2.2.2) v3 m4 (by omega) z4' db.1)
theorem xC3{v M:Int}(hv:0≤v∧v≤M):0≤v*v∧v*v≤M*M:=⟨Int.mul_nonneg hv.1 hv.1,Int.mul_le_mul hv.2 hv.2 hv.1 (by omega)⟩
theorem xC2{v M:Int}(hv:1≤v∧v≤M):1≤v*v∧v*v≤M*M:=by
 have h1:1*1≤v*v:=Int.mul_le_mul hv.1 hv.1 (by omega) (by omega);exact⟨by omega,(xC3 (v:=v) (M:=M) (by omega)).2⟩
end
def qs9:List Int→Int→Int
 |[],d=>d
 |n::l,d=>if 0<n then n else qs9 l d
def qE4:List Int→Bool
 |[] =>false
 |n::_=>n==0
def e9(f:Fw):Int:=if f.moving=true∧0<f.active then f.active else qs9 f.lines (f.line+1)
def y50(f:Fw):Bool:=match f.moving with
 |true=>f.active==0
 |false=>qE4 f.lines
theorem y53{f:Fw}(h:f.moving=true):y50 f=(f.active==0):=by unfold y50;rw[h]
theorem y52{f:Fw}(h:f.moving=false):y50 f=qE4 f.lines:=by unfold y50;rw[h]
def xy9(f:Fw):Bool:=zz4 f.pos&& (decide (f.lines.length=f.queue.length)&& (decide (f.queue.length≤32)&& (inR f.line 0 1099511627776&& (inR f.active 0 1099511627776&&f.lines.all fun n=>inR n 0 1099511627776))))
theorem xz0{f:Fw}:xy9 f=true↔zz4 f.pos=true∧f.lines.length=f.queue.length∧f.queue.length≤32∧(0≤f.line∧f.line≤1099511627776)∧(0≤f.active∧f.active≤1099511627776)∧∀n∈f.lines,0≤n∧n≤1099511627776:=by
 simp only[xy9,Bool.and_eq_true,decide_eq_true_eq,v8,List.all_eq_true]
theorem qt2:∀ (l:List Int) (d:Int),(∀n∈l,0≤n∧n≤1099511627776)→0≤d∧d≤1099511627777→0≤qs9 l d∧qs9 l d≤1099511627777
 |[],d,_,h=>h
 |n::l,d,k,h=>by
  unfold qs9;have:=k n List.mem_cons_self
  split
  ·omega
  ·exact qt2 l d (fun x hx=>k x (List.mem_cons_of_mem _ hx)) h
theorem yF8{f:Fw}(h:xy9 f=true):0≤e9 f∧e9 f≤1099511627777:=by
 obtain⟨_,_,_,h1,h2,h3⟩:=xz0.1 h;unfold e9
 split
 ·omega
 ·exact qt2 _ _ h3 (by omega)
def qZ5(f:Fw):V4:=if f.moving=true∧0<f.active then begin4 f else if f.homed=true∧y50 f=false then f.pos else f.ret
def qZ4(f:Fw):Fw:={f with ret:=qZ5 f,line:=e9 f-1,back:=f.back||f.homed,homed:=false,moving:=false,queue:=[],lines:=[],mo:=m0,active:=0,dwell:=0,waits:=0}
def xD6(b:Bk)(t:Int):Mo:=match okS b t with
 |true=>xD5 b t
 |false=>m0
theorem xD8{b:Bk}{t:Int}(h:okS b t=true):xD6 b t=xD5 b t:=by unfold xD6;rw[h]
theorem xD7{b:Bk}{t:Int}(h:okS b t=false):xD6 b t=m0:=by unfold xD6;rw[h]
def zE6(f:Fw):Bool:=!f.moving&& (!f.queue.isEmpty&& (!(f.mode==3)&&f.dwell==0))
theorem zE7{f:Fw}:zE6 f=true↔f.moving=false∧¬f.queue.length=0∧¬f.mode=3∧f.dwell=0:=by
 simp only[zE6,Bool.and_eq_true,Bool.not_eq_true',beq_iff_eq,beq_eq_false_iff_ne,ne_eq,List.isEmpty_eq_false_iff,List.length_eq_zero_iff]
def xD4(f:Fw):Fw:={f with mo:=xD6 (f.queue.getD 0 dBk) f.ma.ticks,moving:=true,active:=f.lines.getD 0 0,queue:=f.queue.drop 1,lines:=f.lines.drop 1}
def t7(f:Fw):Fw:=match zE6 f with
 |true=>xD4 f
 |false=>f
theorem zx3{f:Fw}(h:zE6 f=true):t7 f=xD4 f:=by unfold t7;rw[h]
theorem zx1{f:Fw}(h:zE6 f=false):t7 f=f:=by unfold t7;rw[h]
def y07(g:Gu)(r:Int):Gu:=if g.fault=0 then g else g.rest r
def y30(g:Gu)(r:Int):Bool:=g.fault==0||g.resE r==0
theorem y31{g:Gu}{r:Int}:y30 g r=true↔g.fault=0∨g.resE r=0:=by simp only[y30,Bool.or_eq_true,beq_iff_eq]
def xT9(f:Fw):Fw:={f with g0:=f.g0.touch,g1:=f.g1.touch}
def xG8(f:Fw):Fw:={f with g0:=f.g0.stop,g1:=f.g1.stop}
def xG7(f:Fw):Fw:={qZ4 (xG8 f)with mode:=3}
def ya4(m:Ma)(c:V4)(len feed:Int):Bk:=(c,zg9 m c,0,xB4 m c len feed*xB4 m c len feed,0)
def zF6(m:Ma)(q:List Bk)(i:Nat):Int:=if i=0 then 0 else qR8 m (q.getD (i-1) dBk).1 (q.getD i dBk).1*qR8 m (q.getD (i-1) dBk).1 (q.getD i dBk).1
def zG3(m:Ma)(q:List Bk):List Int:=(List.range q.length).map (zF6 m q)
def z04(f:Fw):Int:=if f.moving=true then f.mo.1.2.2.2.2 else if f.queue.length=0 then 0 else(f.queue.getD 0 dBk).2.2.1
def s9(f:Fw)(c:V4)(len:Int):List Bk:=f.queue++[ya4 f.ma c len f.feed]
def zk4(f:Fw)(c:V4)(len:Int):Bool:=decide (z04 f≤crL (s9 f c len) 0)&&decide (gL (s9 f c len) (zG3 f.ma (s9 f c len)) (z04 f) 0=z04 f)
theorem zk5{f:Fw}{c:V4}{len:Int}:zk4 f c len=true↔z04 f≤crL (s9 f c len) 0∧gL (s9 f c len) (zG3 f.ma (s9 f c len)) (z04 f) 0=z04 f:=by simp only[zk4,Bool.and_eq_true,decide_eq_true_eq]
def m8(f:Fw)(c:V4)(len line:Int):Fw:={f with queue:=plB (s9 f c len) (gL (s9 f c len) (zG3 f.ma (s9 f c len)) (z04 f)),lines:=f.lines++[line]}
theorem yc3(f:Fw)(h:f.queue=[])(k:f.lines=[]):j6 (f7 f) f.cells:=by
 obtain⟨⟩:=f;dsimp only at h k;subst h k
 repeat(first|exact trivial|refine⟨.same _,?_⟩|refine⟨.nil _,?_⟩)
def qD3(h k:Int):Bool:=!(i64.wrap ((BitVec.ofInt 64 h &&&BitVec.ofInt 64 k).toNat:Int)==0)
theorem qD4{h k:Int}:qD3 h k=true↔¬i64.wrap ((BitVec.ofInt 64 h &&&BitVec.ofInt 64 k).toNat:Int)=0:=by simp only[qD3,Bool.not_eq_true',beq_eq_false_iff_ne,ne_eq]
def m7(f:Fw)(c:Gc.C):V3:=(if qD3 c.has 1=true then c.x else f.loc.1,if qD3 c.has 2=true then c.y else f.loc.2.1,if qD3 c.has 4=true then c.z else f.loc.2.2)
def xK8(f:Fw)(c:Gc.C):Int:=if qD3 c.has 8=true then c.e else f.e
def sqs(a b:V3):Int:=(b.1-a.1)*(b.1-a.1)+(b.2.1-a.2.1)*(b.2.1-a.2.1)+(b.2.2-a.2.2)*(b.2.2-a.2.2)
def qW7(f:Fw)(p:V3)(e:Int):Int:=if isq (sqs f.loc p)=0 then(if e-f.e<f.e-e then f.e-e else e-f.e)else isq (sqs f.loc p)
def f0(f:Fw)(c:Gc.C):Fw:=if qD3 c.has 16=true then {f with feed:=c.f} else f
def q77(f:Fw)(c:Gc.C):V4:=q66 f.ma (m7 f c) (xK8 f c)
def q73(f:Fw)(c:Gc.C):V4:=xI5 (q77 f c) (qz2 f)
def tlE(g:Fw)(u:V3)(e:Int)(p d:V4):Int:=match v9 p&&v9 d with
 |false=>2
 |true=>match nz4 d with
  |false=>0
  |true=>if 32≤g.queue.length then 18 else if zk4 g d (qW7 g u e)=true then 0 else 2
def tlF(g:Fw)(line:Int)(u:V3)(e:Int)(d:V4):Fw:=match nz4 d with
 |false=>{g with loc:=u,e:=e}
 |true=>{m8 g d (qW7 g u e) line with loc:=u,e:=e}
def tlO(g:Fw)(line:Int)(u:V3)(e:Int)(p d:V4):Fw:=if tlE g u e p d=0 then tlF g line u e d else g
def q74(f:Fw)(line:Int)(c:Gc.C):Int:=
 if line<1∨f.homed=false∨f.back=true∨¬f.mode=1 then 14
 else if qM4 f.ma (m7 f c)=false∨q59 f.ma (m7 f c) (xK8 f c)=false then 8
 else if f.e<xK8 f c∧f.r0<f.cold then 15
 else 0
def q71(f:Fw)(line:Int)(c:Gc.C):Int:=if q74 f line c=0 then tlE (f0 f c) (m7 f c) (xK8 f c) (q77 f c) (q73 f c)else q74 f line c
def q75(f:Fw)(line:Int)(c:Gc.C):Fw:=tlF (f0 f c) line (m7 f c) (xK8 f c) (q73 f c)
def q76(f:Fw)(line:Int)(c:Gc.C):Fw:=if q74 f line c=0 then tlO (f0 f c) line (m7 f c) (xK8 f c) (q77 f c) (q73 f c)else if q74 f line c=14 then f else f0 f c
def qI2(f:Fw):Int:=if xX3 f.ma f.pos.2.2.2=true then xY3 f.ma.e f.pos.2.2.2 else 0
def qH4(f:Fw)(line:Int):Bool:=(line==0&&f.homed)||f.back
def qI7(f:Fw)(line:Int):V4:=if line=0∧f.homed=true then f.pos else f.ret
def qG9(f:Fw)(line:Int):Fw:={f with ret:=qI7 f line,back:=false,pos:=(0,0,0,f.pos.2.2.2),homed:=true,loc:=(0,0,0),e:=qI2 f}
def qH6(f:Fw)(line:Int):V4:=(0,0,(qI7 f line).2.2.1,0)
def qH9(f:Fw)(line:Int):V4:=((qI7 f line).1,(qI7 f line).2.1,0,0)
def backOk(f:Fw)(c:V4):Bool:=!nz4 c||zk4 f c 0
def f8(f:Fw)(c:V4):Fw:=if nz4 c=true then m8 f c 0 0 else f
def qI9(f:Fw)(line:Int):Int:=
 if qH4 f line=false then 0
 else if backOk (qG9 f line) (qH6 f line)=false then 2
 else if backOk (f8 (qG9 f line) (qH6 f line)) (qH9 f line)=false then 2 else 0
def yR1(m:Ma)(p:V4):V3:=((yR2 m p).1,(yR2 m p).2.1,(yR2 m p).2.2.1)
def qI4(f:Fw)(line:Int):Fw:=
 if qH4 f line=false then qG9 f line
 else {f8 (f8 (qG9 f line) (qH6 f line)) (qH9 f line)with loc:=yR1 f.ma (qI7 f line)}
def resE(f:Fw):Int:=if ¬f.mode=3 then 14 else if y30 f.g0 f.r0=false∨y30 f.g1 f.r1=false then 16 else 0
def y06(f:Fw):Fw:={f with g0:=y07 f.g0 f.r0,g1:=y07 f.g1 f.r1,mode:=1}
def qH2(f:Fw)(line:Int):Int:=if qK6 f=false then 18 else if ¬f.mode=1 then 14 else qI9 f line
def orB(a b:Int):Int:=i64.wrap ((BitVec.ofInt 64 a |||BitVec.ofInt 64 b).toNat:Int)
def qX7(f:Fw)(line:Int):Fw:=if line=0 then f else {f with line:=line}
def doE(f:Fw)(line:Int)(c:Gc.C):Int:=
 if c.code=1112 then 0
 else if c.code=1999 then resE f
 else if f.mode=3 then 16
 else if c.code=1025 then(if f.mode=1 then 0 else 14)
 else if c.code=1024 then(if f.mode=2 then 0 else 14)
 else if ¬f.waits=0∨¬f.dwell=0 then 18
 else if c.code=0∨c.code=1 then q71 f line c
 else if c.code=4 then(if qK6 f=true then 0 else 18)
 else if c.code=28 then qH2 f line
 else 0
def doF(f:Fw)(line:Int)(c:Gc.C):Fw:=
 if c.code=1112 then xG7 (qX7 f line)
 else if c.code=1999 then y06 f
 else if c.code=1025 then {f with mode:=2}
 else if c.code=1024 then {f with mode:=1}
 else if c.code=0∨c.code=1 then q75 f line c
 else if c.code=4 then {f with dwell:=c.s}
 else if c.code=28 then qI4 f line
 else if c.code=1104 then {f with c0:=f.c0.aim c.s}
 else if c.code=1109 then {f with c0:=f.c0.aim c.s,waits:=orB f.waits 1}
 else if c.code=1140 then {f with c1:=f.c1.aim c.s}
 else if c.code=1190 then {f with c1:=f.c1.aim c.s,waits:=orB f.waits 2}
 else {f with fan:=c.s}
def zg2(f:Fw)(line:Int)(c:Gc.C):Int:=
 if v6 f=false∨c.valid=false∨(¬line=0∧¬line=f.line+1)∨1099511627776<line then 1 else doE f line c
def zg4(f:Fw)(line:Int)(c:Gc.C):Fw:=xT9 (if c.code=1112 then doF f line c else qX7 (doF f line c) line)
def yX8(f:Fw)(r s:Int):Fw:={f with r0:=r,r1:=s,ticks:=if f.ticks+1<1099511627776 then f.ticks+1 else 1099511627776}
def qE6(f:Fw):Fw:={f with c0:=f.c0.step f.r0,c1:=f.c1.step f.r1,g0:=f.g0.step f.r0 (f.c0.step f.r0).target (f.c0.duty f.r0),g1:=f.g1.step f.r1 (f.c1.step f.r1).target (f.c1.duty f.r1)}
def zU9(f:Fw):Int:=f.g0.duty f.r0 (f.c0.step f.r0).target (f.c0.duty f.r0)
def zV0(f:Fw):Int:=f.g1.duty f.r1 (f.c1.step f.r1).target (f.c1.duty f.r1)
def ya6(a b:Gu):Bool:=a.fault==0&&!(b.fault==0)
def q02(f:Fw):Bool:=ya6 f.g0 (qE6 f).g0||ya6 f.g1 (qE6 f).g1
def q04(f:Fw):Fw:=if q02 f=true then {qZ4 (qE6 f)with mode:=3} else qE6 f
def x55(c:Co)(g:Gu)(r:Int):Bool:=decide (c.target-g.band≤r)
def x46(f:Fw):Fw:={f with waits:=if x55 f.c1 f.g1 f.r1=true then Gc.andNot (if x55 f.c0 f.g0 f.r0=true then Gc.andNot f.waits 1 else f.waits) 2 else(if x55 f.c0 f.g0 f.r0=true then Gc.andNot f.waits 1 else f.waits)}
def xE7(f:Fw):Fw:=if z00 (xL8 f.mo f.ma.ticks)=true then {f with pos:=r9 f.pos (xM1 f.mo f.ma.ticks),mo:=m0,moving:=false,active:=0} else {f with pos:=r9 f.pos (xM1 f.mo f.ma.ticks),mo:=xL8 f.mo f.ma.ticks}
def y65(f:Fw):Fw:=if 0<f.dwell then {f with dwell:=f.dwell-1} else if(t7 f).moving=true then xE7 (t7 f)else t7 f
def y66(f:Fw):V4:=if 0<f.dwell then z4 else if(t7 f).moving=true then xM1 (t7 f).mo (t7 f).ma.ticks else z4
def qJ6(f:Fw)(r s:Int):Fw:=x46 (q04 (yX8 f r s))
def xL6(f:Fw)(r s:Int):Fw:=if v6 f=false then f else if(qJ6 f r s).mode=3 then qJ6 f r s else y65 (qJ6 f r s)
def xM3(f:Fw)(r s:Int):V4:=if v6 f=false then z4 else if(qJ6 f r s).mode=3 then z4 else y66 (qJ6 f r s)
def xL4(f:Fw)(r s:Int):Int×Int:=if v6 f=false then(0,0)else if(qJ6 f r s).mode=3 then(0,0)else(zU9 (yX8 f r s),zV0 (yX8 f r s))
theorem qE5{l:List Int}:qE4 l=true↔0<l.length∧l.getD 0 0=0:=by
 cases l with
 |nil=>simp[qE4]
 |cons n l=>simp[qE4]
def qX5(f:Fw):Bool:=decide (f.lines.length=f.queue.length)
theorem y51{f:Fw}:y50 f=true↔(f.moving=true∧f.active=0)∨(f.moving=false∧0<f.lines.length∧f.lines.getD 0 0=0):=by
 cases hm:f.moving
 ·rw[y52 hm,qE5];simp
 ·rw[y53 hm];simp
theorem qX6{f:Fw}:qX5 f=true↔f.lines.length=f.queue.length:=by simp only[qX5,decide_eq_true_eq]
def yA9:Plan:=.fork (.ln 6 (.fork .all .all)) (.ln 6 (.lit .all))
noncomputable def yB0(f:Fw):Tree StopX:=let y0:Tree StopX:=.leaf (.at (v5 pP 228 0) 43 (j9 43 [(0,.ptr 0 0),(27,.list (Ty.int IntKind.i64) f.lines),(28,J (↑f.lines.length:Int)),(29,J 0)]) [some (.cells (Fw.cells f))]); .node (f.moving) (.node (decide (f.active>0)) (.leaf (.fin (.ret (J f.active) [some (.cells (Fw.cells f))]))) y0) y0
theorem op0(f:Fw):xx1 (Env.ofB pP (v7 []) (d7 []) (d9 []) (d8 []) (x8 []) (x8 []) (x8 []) (x8 [])) 1000 (j8 pP 228) 1 (x9 43 [0,27,28,29]) (u9 pP 228) yA9 (u7 pP 228 [.ptr 0 0]) [some (.cells f.cells)] =yB0 f:=by kernel_rfl
def yB2:Plan:=.fork (.fork (.all) (.all)) (.all)
noncomputable def yB3(f:Fw)(n i:Int):Tree StopX:= .node (decide (i<n)) (.req (decide (0≤i)&&decide (i< (↑f.lines.length:Int))) (.node (decide (f.lines.getD i.toNat 0>0)) (.leaf (.fin (.ret (J (f.lines.getD i.toNat 0)) [some (.cells (Fw.cells f))]))) (.leaf (.at (v5 pP 228 0) 43 (j9 43 [(0,.ptr 0 0),(27,.list (Ty.int IntKind.i64) f.lines),(28,J n),(29,J (i64.wrap (i+1)))]) [some (.cells (Fw.cells f))])))) (.leaf (.fin (.ret (J (i64.wrap (f.line+1))) [some (.cells (Fw.cells f))])))
theorem op1(f:Fw)(n i:Int):xx1 (Env.ofB pP (v7 []) (d7 []) (d9 []) (d8 []) (x8 []) (x8 []) (x8 []) (x8 [])) 1000 (j8 pP 228) 1 (x9 43 [0,27,28,29]) (v5 pP 228 0) yB2 (j9 43 [(0,.ptr 0 0),(27,LI f.lines),(28,J n),(29,J i)]) [some (.cells f.cells)] =yB3 f n i:=by kernel_rfl
end Go.Proofs.YtnkaepnblikcdaaGreat
