/-
  What the statement needs: an evaluator of the model, contracts of the functions that it reaches, and the plain law.
-/
import Derived.Test.YtnkaepnblikcdaaGreatVE3
import Derived.Lib.Mul64
set_option maxRecDepth 100000
set_option linter.unusedVariables false
set_option linter.unusedSimpArgs false
open Go.IntKind (i64 u64)
namespace Go.Proofs.YtnkaepnblikcdaaGreat
open Go.Sx
abbrev V3:=Int×Int×Int
def V3.sv(v:V3):SV:=.agg [I64 v.1,I64 v.2.1,I64 v.2.2]
def axM(m:Ma)(i:Int):Ax:=if i=0 then m.x else if i=1 then m.y else if i=2 then m.z else m.e
def xz2(m:Ma)(p:Int):Bool:=m.ok&&inR p (-1073741824) 1073741824
theorem xz3{m:Ma}{p:Int}:xz2 m p=true↔m.ok=true∧-1073741824≤p∧p≤1073741824:=by simp only[xz2,Bool.and_eq_true,v8]
def xT6(m:Ma)(p:Int):Bool:=m.ok&&inR p (-70368744177664) 70368744177664
theorem xT7{m:Ma}{p:Int}:xT6 m p=true↔m.ok=true∧-70368744177664≤p∧p≤70368744177664:=by simp only[xT6,Bool.and_eq_true,v8]
def xC3(a:Ax)(p:Int):Int:=rnd (p*a.num) a.den
def xU6(a:Ax)(p:Int):Int:=rnd (p*a.den) a.num
def z06(b:Bool)(n:Int):SV:=match b with
 |true=>.tuple [I64 n,I64 0]
 |false=>.tuple [I64 0,I64 1]
theorem z08{b:Bool}{n:Int}(h:b=true):z06 b n=.tuple [I64 n,I64 0] :=by rw[h];rfl
theorem z07{b:Bool}{n:Int}(h:b=false):z06 b n=.tuple [I64 0,I64 1] :=by rw[h];rfl
theorem q70{p n A B:Int}(hA:0≤A)(hp: -A≤p∧p≤A)(hn:0≤n∧n≤B): -(A*B)≤p*n∧p*n≤A*B:=by
 have h1:p*n≤A*n:=Int.mul_le_mul_of_nonneg_right hp.2 hn.1
 have h2:A*n≤A*B:=Int.mul_le_mul_of_nonneg_left hn.2 hA
 have h3:(-A)*n≤p*n:=Int.mul_le_mul_of_nonneg_right hp.1 hn.1
 rw[Int.neg_mul]at h3
 omega
theorem xz6{a:Ax}{p:Int}(h:a.ok=true)(hp: -1073741824≤p∧p≤1073741824):(-70368744177664≤p*a.num∧p*a.num≤70368744177664)∧-70368744177664≤xC3 a p∧xC3 a p≤70368744177665:=by
 rw[Ax.ok_iff]at h
 have:=q70 (A:=1073741824) (B:=65536) (by omega) hp (n:=a.num) (by omega)
 exact⟨this,y36 (M:=70368744177664) (by omega) (by omega) this⟩
theorem xT8{a:Ax}{p M:Int}(h:a.ok=true)(hM:0≤M)(hp: -M≤p∧p≤M):(-(M*65536)≤p*a.den∧p*a.den≤M*65536)∧-(M*65536)≤xU6 a p∧xU6 a p≤M*65536+1:=by
 rw[Ax.ok_iff]at h
 have:=q70 (A:=M) (B:=65536) (by omega) hp (n:=a.den) (by omega)
 exact⟨this,y36 (M:=M*65536) (by omega) (by omega) this⟩
def zL7(xy:Bool)(c:V4):V4:=match xy with
 |true=>(c.1+c.2.1,c.1-c.2.1,c.2.2.1,c.2.2.2)
 |false=>c
def q53(m:Ma)(v:V3)(e:Int):V4:=zL7 m.xy (xC3 m.x v.1,xC3 m.y v.2.1,xC3 m.z v.2.2,xC3 m.e e)
def q46(m:Ma)(v:V3)(e:Int):Bool:=xz2 m v.1&& (xz2 m v.2.1&& (xz2 m v.2.2&&xz2 m e))
theorem q47{m:Ma}{v:V3}{e:Int}:q46 m v e=true↔xz2 m v.1=true∧xz2 m v.2.1=true∧xz2 m v.2.2=true∧xz2 m e=true:=by simp only[q46,Bool.and_eq_true]
def qL2(m:Ma)(v:V3):Bool:=m.ok&& (inR v.1 m.x.min m.x.max&& (inR v.2.1 m.y.min m.y.max&&inR v.2.2 m.z.min m.z.max))
theorem qL3{m:Ma}{v:V3}:qL2 m v=true↔m.ok=true∧(m.x.min≤v.1∧v.1≤m.x.max)∧(m.y.min≤v.2.1∧v.2.1≤m.y.max)∧m.z.min≤v.2.2∧v.2.2≤m.z.max:=by simp only[qL2,Bool.and_eq_true,v8]
def xT9(xy:Bool)(p:V4):V4:=match xy with
 |true=>((p.1+p.2.1) / 2,(p.1-p.2.1) / 2,p.2.2.1,p.2.2.2)
 |false=>p
def yP1(m:Ma)(p:V4):V4:=(xU6 m.x (xT9 m.xy p).1,xU6 m.y (xT9 m.xy p).2.1,xU6 m.z (xT9 m.xy p).2.2.1,xU6 m.e (xT9 m.xy p).2.2.2)
def q50(m:Ma)(v:V3)(e:Int):SV:=match q46 m v e with
 |true=>.tuple [V4.sv (q53 m v e),I64 0]
 |false=>.tuple [V4.sv z4,I64 1]
theorem q52{m:Ma}{v:V3}{e:Int}(h:q46 m v e=true):q50 m v e=.tuple [V4.sv (q53 m v e),I64 0] :=by unfold q50;rw[h]
theorem q51{m:Ma}{v:V3}{e:Int}(h:q46 m v e=false):q50 m v e=.tuple [V4.sv z4,I64 1] :=by unfold q50;rw[h]
def qj7(f:FuncId)(h:Ma→Int→Int→Tree SV):Fact:=⟨f,fun args=>match args with
 |[.agg [.int .i64 a0,.int .i64 a1,.int .i64 a2,.int .i64 a3,.int .i64 a4,.int .i64 a5,.int .i64 a6,.int .i64 b0,.int .i64 b1,.int .i64 b2,.int .i64 b3,.int .i64 b4,.int .i64 b5,.int .i64 b6,.int .i64 c0,.int .i64 c1,.int .i64 c2,.int .i64 c3,.int .i64 c4,.int .i64 c5,.int .i64 c6,.int .i64 d0,.int .i64 d1,.int .i64 d2,.int .i64 d3,.int .i64 d4,.int .i64 d5,.int .i64 d6,.bool xy,.int .i64 t],.int .i64 i,.int .i64 p] =>some (h ⟨⟨a0,a1,a2,a3,a4,a5,a6⟩,⟨b0,b1,b2,b3,b4,b5,b6⟩,⟨c0,c1,c2,c3,c4,c5,c6⟩,⟨d0,d1,d2,d3,d4,d5,d6⟩,xy,t⟩ i p)
 |_=>none⟩
theorem qj8{P:Program}{f:FuncId}{h:Ma→Int→Int→Tree SV}(k:∀m i p,(h m i p).says (SCall P f [m.sv,I64 i,I64 p])):(qj7 f h).ok P:=fun args t ht=>by
 simp only[qj7]at ht
 split at ht
 ·injection ht with ht;subst ht;exact k ⟨⟨_,_,_,_,_,_,_⟩,⟨_,_,_,_,_,_,_⟩,⟨_,_,_,_,_,_,_⟩,⟨_,_,_,_,_,_,_⟩,_,_⟩ _ _
 ·cases ht
def qj9(f:FuncId)(h:Ma→V3→Tree SV):Fact:=⟨f,fun args=>match args with
 |[.agg [.int .i64 a0,.int .i64 a1,.int .i64 a2,.int .i64 a3,.int .i64 a4,.int .i64 a5,.int .i64 a6,.int .i64 b0,.int .i64 b1,.int .i64 b2,.int .i64 b3,.int .i64 b4,.int .i64 b5,.int .i64 b6,.int .i64 c0,.int .i64 c1,.int .i64 c2,.int .i64 c3,.int .i64 c4,.int .i64 c5,.int .i64 c6,.int .i64 d0,.int .i64 d1,.int .i64 d2,.int .i64 d3,.int .i64 d4,.int .i64 d5,.int .i64 d6,.bool xy,.int .i64 t],.agg [.int .i64 x,.int .i64 y,.int .i64 z]] =>some (h ⟨⟨a0,a1,a2,a3,a4,a5,a6⟩,⟨b0,b1,b2,b3,b4,b5,b6⟩,⟨c0,c1,c2,c3,c4,c5,c6⟩,⟨d0,d1,d2,d3,d4,d5,d6⟩,xy,t⟩ (x,y,z))
 |_=>none⟩
theorem qk8{P:Program}{f:FuncId}{h:Ma→V3→Tree SV}(k:∀m v,(h m v).says (SCall P f [m.sv,V3.sv v])):(qj9 f h).ok P:=fun args t ht=>by
 simp only[qj9]at ht
 split at ht
 ·injection ht with ht;subst ht;exact k ⟨⟨_,_,_,_,_,_,_⟩,⟨_,_,_,_,_,_,_⟩,⟨_,_,_,_,_,_,_⟩,⟨_,_,_,_,_,_,_⟩,_,_⟩ (_,_,_)
 ·cases ht
def qk6(f:FuncId)(h:Ma→V3→Int→Tree SV):Fact:=⟨f,fun args=>match args with
 |[.agg [.int .i64 a0,.int .i64 a1,.int .i64 a2,.int .i64 a3,.int .i64 a4,.int .i64 a5,.int .i64 a6,.int .i64 b0,.int .i64 b1,.int .i64 b2,.int .i64 b3,.int .i64 b4,.int .i64 b5,.int .i64 b6,.int .i64 c0,.int .i64 c1,.int .i64 c2,.int .i64 c3,.int .i64 c4,.int .i64 c5,.int .i64 c6,.int .i64 d0,.int .i64 d1,.int .i64 d2,.int .i64 d3,.int .i64 d4,.int .i64 d5,.int .i64 d6,.bool xy,.int .i64 t],.agg [.int .i64 x,.int .i64 y,.int .i64 z],.int .i64 e] =>some (h ⟨⟨a0,a1,a2,a3,a4,a5,a6⟩,⟨b0,b1,b2,b3,b4,b5,b6⟩,⟨c0,c1,c2,c3,c4,c5,c6⟩,⟨d0,d1,d2,d3,d4,d5,d6⟩,xy,t⟩ (x,y,z) e)
 |_=>none⟩
theorem qk7{P:Program}{f:FuncId}{h:Ma→V3→Int→Tree SV}(k:∀m v e,(h m v e).says (SCall P f [m.sv,V3.sv v,I64 e])):(qk6 f h).ok P:=fun args t ht=>by
 simp only[qk6]at ht
 split at ht
 ·injection ht with ht;subst ht;exact k ⟨⟨_,_,_,_,_,_,_⟩,⟨_,_,_,_,_,_,_⟩,⟨_,_,_,_,_,_,_⟩,⟨_,_,_,_,_,_,_⟩,_,_⟩ (_,_,_) _
 ·cases ht
def qk0(f:FuncId)(h:Ma→V4→Tree SV):Fact:=⟨f,fun args=>match args with
 |[.agg [.int .i64 a0,.int .i64 a1,.int .i64 a2,.int .i64 a3,.int .i64 a4,.int .i64 a5,.int .i64 a6,.int .i64 b0,.int .i64 b1,.int .i64 b2,.int .i64 b3,.int .i64 b4,.int .i64 b5,.int .i64 b6,.int .i64 c0,.int .i64 c1,.int .i64 c2,.int .i64 c3,.int .i64 c4,.int .i64 c5,.int .i64 c6,.int .i64 d0,.int .i64 d1,.int .i64 d2,.int .i64 d3,.int .i64 d4,.int .i64 d5,.int .i64 d6,.bool xy,.int .i64 t],.agg [.int .i64 x,.int .i64 y,.int .i64 z,.int .i64 w]] =>some (h ⟨⟨a0,a1,a2,a3,a4,a5,a6⟩,⟨b0,b1,b2,b3,b4,b5,b6⟩,⟨c0,c1,c2,c3,c4,c5,c6⟩,⟨d0,d1,d2,d3,d4,d5,d6⟩,xy,t⟩ (x,y,z,w))
 |_=>none⟩
theorem qk5{P:Program}{f:FuncId}{h:Ma→V4→Tree SV}(k:∀m v,(h m v).says (SCall P f [m.sv,V4.sv v])):(qk0 f h).ok P:=fun args t ht=>by
 simp only[qk0]at ht
 split at ht
 ·injection ht with ht;subst ht;exact k ⟨⟨_,_,_,_,_,_,_⟩,⟨_,_,_,_,_,_,_⟩,⟨_,_,_,_,_,_,_⟩,⟨_,_,_,_,_,_,_⟩,_,_⟩ (_,_,_,_)
 ·cases ht
theorem xn0(m:Ma)(p:Int):SCall pP 135 [m.sv,I64 0,I64 p] (z06 (xz2 m p) (xC3 m.x p)):=
 o9 mix [z93,qc7] ⟨yn4,yr5,trivial⟩ 1000 (.fork (.ln 9 (.lit .all)) (.ln 7 (.fork (.ln 5 (.fork .all .all)) (.ln 5 (.lit .all)))))
  (t:=.node (!m.ok) (.leaf (.tuple [.int .i64 0,.int .i64 1])) (.node (decide (p≥-1073741824)) (.node (!decide (p≤1073741824)) (.leaf (.tuple [.int .i64 0,.int .i64 1])) (.req true (.req (true) (.req (inR m.x.den 1 4611686018427387904&&inR (i64.wrap (p*m.x.num)) (-4611686018427387904) 4611686018427387904) (.leaf (.tuple [.int .i64 (rnd (i64.wrap (p*m.x.num)) m.x.den),.int .i64 0])))))) (.leaf (.tuple [.int .i64 0,.int .i64 1]))))
  (by kernel_rfl) (by
   simp only[Tree.holds,sL,ne_eq,sLb,sLc,eq_self,sLd,sLe,sLf];(repeat' (first|apply And.intro|intro _));
   all_goals first
    |(rw[z07 (Bool.eq_false_iff.2 (by rw[ne_eq,xz3];first|omega|grind))];rfl)
    |(have hk:=xz3.1 (show xz2 m p=true by rw[xz3];first|omega|grind)
      have hx:m.x.ok=true:=by have:=Ma.ok_iff m;grind
      have r:=xz6 hx hk.2
      have ho:=(Ax.ok_iff _).1 hx
      have w:=w64 (x:=p*m.x.num) (by omega) (by omega)
      first
      |(rw[z08 (xz3.2 hk),w];rfl)
      |(rw[w,v8];omega)
      |(rw[v8];omega))) (by kernel_rfl) (by unfold z06;split<;>rfl)
theorem xq1(m:Ma)(p:Int):SCall pP 192 [m.sv,I64 0,I64 p] (z06 (xT6 m p) (xU6 m.x p)):=
 o9 mix [z93,qc7] ⟨yn4,yr5,trivial⟩ 1000 (.fork (.ln 9 (.lit .all)) (.ln 7 (.fork (.ln 5 (.fork .all .all)) (.ln 5 (.lit .all)))))
  (t:=.node (!m.ok) (.leaf (.tuple [.int .i64 0,.int .i64 1])) (.node (decide (p≥-70368744177664)) (.node (!decide (p≤70368744177664)) (.leaf (.tuple [.int .i64 0,.int .i64 1])) (.req true (.req (true) (.req (inR m.x.num 1 4611686018427387904&&inR (i64.wrap (p*m.x.den)) (-4611686018427387904) 4611686018427387904) (.leaf (.tuple [.int .i64 (rnd (i64.wrap (p*m.x.den)) m.x.num),.int .i64 0])))))) (.leaf (.tuple [.int .i64 0,.int .i64 1]))))
  (by kernel_rfl) (by
   simp only[Tree.holds,sL,ne_eq,sLb,sLc,eq_self,sLd,sLe,sLf];(repeat' (first|apply And.intro|intro _));
   all_goals first
    |(rw[z07 (Bool.eq_false_iff.2 (by rw[ne_eq,xT7];first|omega|grind))];rfl)
    |(have hk:=xT7.1 (show xT6 m p=true by rw[xT7];first|omega|grind)
      have hx:m.x.ok=true:=by have:=Ma.ok_iff m;grind
      have r:=xT8 hx (by omega) hk.2
      have ho:=(Ax.ok_iff _).1 hx
      have w:=w64 (x:=p*m.x.den) (by omega) (by omega)
      first
      |(rw[z08 (xT7.2 hk),w];rfl)
      |(rw[w,v8];omega)
      |(rw[v8];omega))) (by kernel_rfl) (by unfold z06;split<;>rfl)
theorem xn1(m:Ma)(p:Int):SCall pP 135 [m.sv,I64 1,I64 p] (z06 (xz2 m p) (xC3 m.y p)):=
 o9 mix [z93,qc7] ⟨yn4,yr5,trivial⟩ 1000 (.fork (.ln 9 (.lit .all)) (.ln 7 (.fork (.ln 5 (.fork .all .all)) (.ln 5 (.lit .all)))))
  (t:=.node (!m.ok) (.leaf (.tuple [.int .i64 0,.int .i64 1])) (.node (decide (p≥-1073741824)) (.node (!decide (p≤1073741824)) (.leaf (.tuple [.int .i64 0,.int .i64 1])) (.req true (.req (true) (.req (inR m.y.den 1 4611686018427387904&&inR (i64.wrap (p*m.y.num)) (-4611686018427387904) 4611686018427387904) (.leaf (.tuple [.int .i64 (rnd (i64.wrap (p*m.y.num)) m.y.den),.int .i64 0])))))) (.leaf (.tuple [.int .i64 0,.int .i64 1]))))
  (by kernel_rfl) (by
   simp only[Tree.holds,sL,ne_eq,sLb,sLc,eq_self,sLd,sLe,sLf];(repeat' (first|apply And.intro|intro _));
   all_goals first
    |(rw[z07 (Bool.eq_false_iff.2 (by rw[ne_eq,xz3];first|omega|grind))];rfl)
    |(have hk:=xz3.1 (show xz2 m p=true by rw[xz3];first|omega|grind)
      have hx:m.y.ok=true:=by have:=Ma.ok_iff m;grind
      have r:=xz6 hx hk.2
      have ho:=(Ax.ok_iff _).1 hx
      have w:=w64 (x:=p*m.y.num) (by omega) (by omega)
      first
      |(rw[z08 (xz3.2 hk),w];rfl)
      |(rw[w,v8];omega)
      |(rw[v8];omega))) (by kernel_rfl) (by unfold z06;split<;>rfl)
theorem xq2(m:Ma)(p:Int):SCall pP 192 [m.sv,I64 1,I64 p] (z06 (xT6 m p) (xU6 m.y p)):=
 o9 mix [z93,qc7] ⟨yn4,yr5,trivial⟩ 1000 (.fork (.ln 9 (.lit .all)) (.ln 7 (.fork (.ln 5 (.fork .all .all)) (.ln 5 (.lit .all)))))
  (t:=.node (!m.ok) (.leaf (.tuple [.int .i64 0,.int .i64 1])) (.node (decide (p≥-70368744177664)) (.node (!decide (p≤70368744177664)) (.leaf (.tuple [.int .i64 0,.int .i64 1])) (.req true (.req (true) (.req (inR m.y.num 1 4611686018427387904&&inR (i64.wrap (p*m.y.den)) (-4611686018427387904) 4611686018427387904) (.leaf (.tuple [.int .i64 (rnd (i64.wrap (p*m.y.den)) m.y.num),.int .i64 0])))))) (.leaf (.tuple [.int .i64 0,.int .i64 1]))))
  (by kernel_rfl) (by
   simp only[Tree.holds,sL,ne_eq,sLb,sLc,eq_self,sLd,sLe,sLf];(repeat' (first|apply And.intro|intro _));
   all_goals first
    |(rw[z07 (Bool.eq_false_iff.2 (by rw[ne_eq,xT7];first|omega|grind))];rfl)
    |(have hk:=xT7.1 (show xT6 m p=true by rw[xT7];first|omega|grind)
      have hx:m.y.ok=true:=by have:=Ma.ok_iff m;grind
      have r:=xT8 hx (by omega) hk.2
      have ho:=(Ax.ok_iff _).1 hx
      have w:=w64 (x:=p*m.y.den) (by omega) (by omega)
      first
      |(rw[z08 (xT7.2 hk),w];rfl)
      |(rw[w,v8];omega)
      |(rw[v8];omega))) (by kernel_rfl) (by unfold z06;split<;>rfl)
theorem xn2(m:Ma)(p:Int):SCall pP 135 [m.sv,I64 2,I64 p] (z06 (xz2 m p) (xC3 m.z p)):=
 o9 mix [z93,qc7] ⟨yn4,yr5,trivial⟩ 1000 (.fork (.ln 9 (.lit .all)) (.ln 7 (.fork (.ln 5 (.fork .all .all)) (.ln 5 (.lit .all)))))
  (t:=.node (!m.ok) (.leaf (.tuple [.int .i64 0,.int .i64 1])) (.node (decide (p≥-1073741824)) (.node (!decide (p≤1073741824)) (.leaf (.tuple [.int .i64 0,.int .i64 1])) (.req true (.req (true) (.req (inR m.z.den 1 4611686018427387904&&inR (i64.wrap (p*m.z.num)) (-4611686018427387904) 4611686018427387904) (.leaf (.tuple [.int .i64 (rnd (i64.wrap (p*m.z.num)) m.z.den),.int .i64 0])))))) (.leaf (.tuple [.int .i64 0,.int .i64 1]))))
  (by kernel_rfl) (by
   simp only[Tree.holds,sL,ne_eq,sLb,sLc,eq_self,sLd,sLe,sLf];(repeat' (first|apply And.intro|intro _));
   all_goals first
    |(rw[z07 (Bool.eq_false_iff.2 (by rw[ne_eq,xz3];first|omega|grind))];rfl)
    |(have hk:=xz3.1 (show xz2 m p=true by rw[xz3];first|omega|grind)
      have hx:m.z.ok=true:=by have:=Ma.ok_iff m;grind
      have r:=xz6 hx hk.2
      have ho:=(Ax.ok_iff _).1 hx
      have w:=w64 (x:=p*m.z.num) (by omega) (by omega)
      first
      |(rw[z08 (xz3.2 hk),w];rfl)
      |(rw[w,v8];omega)
      |(rw[v8];omega))) (by kernel_rfl) (by unfold z06;split<;>rfl)
theorem xq3(m:Ma)(p:Int):SCall pP 192 [m.sv,I64 2,I64 p] (z06 (xT6 m p) (xU6 m.z p)):=
 o9 mix [z93,qc7] ⟨yn4,yr5,trivial⟩ 1000 (.fork (.ln 9 (.lit .all)) (.ln 7 (.fork (.ln 5 (.fork .all .all)) (.ln 5 (.lit .all)))))
  (t:=.node (!m.ok) (.leaf (.tuple [.int .i64 0,.int .i64 1])) (.node (decide (p≥-70368744177664)) (.node (!decide (p≤70368744177664)) (.leaf (.tuple [.int .i64 0,.int .i64 1])) (.req true (.req (true) (.req (inR m.z.num 1 4611686018427387904&&inR (i64.wrap (p*m.z.den)) (-4611686018427387904) 4611686018427387904) (.leaf (.tuple [.int .i64 (rnd (i64.wrap (p*m.z.den)) m.z.num),.int .i64 0])))))) (.leaf (.tuple [.int .i64 0,.int .i64 1]))))
  (by kernel_rfl) (by
   simp only[Tree.holds,sL,ne_eq,sLb,sLc,eq_self,sLd,sLe,sLf];(repeat' (first|apply And.intro|intro _));
   all_goals first
    |(rw[z07 (Bool.eq_false_iff.2 (by rw[ne_eq,xT7];first|omega|grind))];rfl)
    |(have hk:=xT7.1 (show xT6 m p=true by rw[xT7];first|omega|grind)
      have hx:m.z.ok=true:=by have:=Ma.ok_iff m;grind
      have r:=xT8 hx (by omega) hk.2
      have ho:=(Ax.ok_iff _).1 hx
      have w:=w64 (x:=p*m.z.den) (by omega) (by omega)
      first
      |(rw[z08 (xT7.2 hk),w];rfl)
      |(rw[w,v8];omega)
      |(rw[v8];omega))) (by kernel_rfl) (by unfold z06;split<;>rfl)
theorem xn3(m:Ma)(p:Int):SCall pP 135 [m.sv,I64 3,I64 p] (z06 (xz2 m p) (xC3 m.e p)):=
 o9 mix [z93,qc7] ⟨yn4,yr5,trivial⟩ 1000 (.fork (.ln 9 (.lit .all)) (.ln 7 (.fork (.ln 5 (.fork .all .all)) (.ln 5 (.lit .all)))))
  (t:=.node (!m.ok) (.leaf (.tuple [.int .i64 0,.int .i64 1])) (.node (decide (p≥-1073741824)) (.node (!decide (p≤1073741824)) (.leaf (.tuple [.int .i64 0,.int .i64 1])) (.req true (.req (true) (.req (inR m.e.den 1 4611686018427387904&&inR (i64.wrap (p*m.e.num)) (-4611686018427387904) 4611686018427387904) (.leaf (.tuple [.int .i64 (rnd (i64.wrap (p*m.e.num)) m.e.den),.int .i64 0])))))) (.leaf (.tuple [.int .i64 0,.int .i64 1]))))
  (by kernel_rfl) (by
   simp only[Tree.holds,sL,ne_eq,sLb,sLc,eq_self,sLd,sLe,sLf];(repeat' (first|apply And.intro|intro _));
   all_goals first
    |(rw[z07 (Bool.eq_false_iff.2 (by rw[ne_eq,xz3];first|omega|grind))];rfl)
    |(have hk:=xz3.1 (show xz2 m p=true by rw[xz3];first|omega|grind)
      have hx:m.e.ok=true:=by have:=Ma.ok_iff m;grind
      have r:=xz6 hx hk.2
      have ho:=(Ax.ok_iff _).1 hx
      have w:=w64 (x:=p*m.e.num) (by omega) (by omega)
      first
      |(rw[z08 (xz3.2 hk),w];rfl)
      |(rw[w,v8];omega)
      |(rw[v8];omega))) (by kernel_rfl) (by unfold z06;split<;>rfl)
theorem xq4(m:Ma)(p:Int):SCall pP 192 [m.sv,I64 3,I64 p] (z06 (xT6 m p) (xU6 m.e p)):=
 o9 mix [z93,qc7] ⟨yn4,yr5,trivial⟩ 1000 (.fork (.ln 9 (.lit .all)) (.ln 7 (.fork (.ln 5 (.fork .all .all)) (.ln 5 (.lit .all)))))
  (t:=.node (!m.ok) (.leaf (.tuple [.int .i64 0,.int .i64 1])) (.node (decide (p≥-70368744177664)) (.node (!decide (p≤70368744177664)) (.leaf (.tuple [.int .i64 0,.int .i64 1])) (.req true (.req (true) (.req (inR m.e.num 1 4611686018427387904&&inR (i64.wrap (p*m.e.den)) (-4611686018427387904) 4611686018427387904) (.leaf (.tuple [.int .i64 (rnd (i64.wrap (p*m.e.den)) m.e.num),.int .i64 0])))))) (.leaf (.tuple [.int .i64 0,.int .i64 1]))))
  (by kernel_rfl) (by
   simp only[Tree.holds,sL,ne_eq,sLb,sLc,eq_self,sLd,sLe,sLf];(repeat' (first|apply And.intro|intro _));
   all_goals first
    |(rw[z07 (Bool.eq_false_iff.2 (by rw[ne_eq,xT7];first|omega|grind))];rfl)
    |(have hk:=xT7.1 (show xT6 m p=true by rw[xT7];first|omega|grind)
      have hx:m.e.ok=true:=by have:=Ma.ok_iff m;grind
      have r:=xT8 hx (by omega) hk.2
      have ho:=(Ax.ok_iff _).1 hx
      have w:=w64 (x:=p*m.e.den) (by omega) (by omega)
      first
      |(rw[z08 (xT7.2 hk),w];rfl)
      |(rw[w,v8];omega)
      |(rw[v8];omega))) (by kernel_rfl) (by unfold z06;split<;>rfl)
def qg3(f:FuncId)(h:Co→Int→Tree SV):Fact:=⟨f,fun args=>match args with
 |[.agg [.int .i64 a0,.int .i64 a1,.int .i64 a2,.int .i64 a3,.int .i64 a4,.int .i64 a5],.int .i64 i] =>some (h ⟨a0,a1,a2,a3,a4,a5⟩ i)
 |_=>none⟩
theorem qg4{P:Program}{f:FuncId}{h:Co→Int→Tree SV}(k:∀c i,(h c i).says (SCall P f [c.sv,I64 i])):(qg3 f h).ok P:=fun args t ht=>by
 simp only[qg3]at ht
 split at ht
 ·injection ht with ht;subst ht;exact k ⟨_,_,_,_,_,_⟩ _
 ·cases ht
def qi5(f:FuncId)(h:Gu→Tree SV):Fact:=⟨f,fun args=>match args with
 |[.agg [.int .i64 a0,.int .i64 a1,.int .i64 a2,.int .i64 a3,.int .i64 a4,.int .i64 a5,.int .i64 a6,.int .i64 a7,.int .i64 a8,.int .i64 a9,.bool d]] =>some (h ⟨a0,a1,a2,a3,a4,a5,a6,a7,a8,a9,d⟩)
 |_=>none⟩
theorem qi6{P:Program}{f:FuncId}{h:Gu→Tree SV}(k:∀g,(h g).says (SCall P f [g.sv])):(qi5 f h).ok P:=fun args t ht=>by
 simp only[qi5]at ht
 split at ht
 ·injection ht with ht;subst ht;exact k ⟨_,_,_,_,_,_,_,_,_,_,_⟩
 ·cases ht
def qi3(f:FuncId)(h:Gu→Int→Tree SV):Fact:=⟨f,fun args=>match args with
 |[.agg [.int .i64 a0,.int .i64 a1,.int .i64 a2,.int .i64 a3,.int .i64 a4,.int .i64 a5,.int .i64 a6,.int .i64 a7,.int .i64 a8,.int .i64 a9,.bool d],.int .i64 i] =>some (h ⟨a0,a1,a2,a3,a4,a5,a6,a7,a8,a9,d⟩ i)
 |_=>none⟩
theorem qi4{P:Program}{f:FuncId}{h:Gu→Int→Tree SV}(k:∀g i,(h g i).says (SCall P f [g.sv,I64 i])):(qi3 f h).ok P:=fun args t ht=>by
 simp only[qi3]at ht
 split at ht
 ·injection ht with ht;subst ht;exact k ⟨_,_,_,_,_,_,_,_,_,_,_⟩ _
 ·cases ht
def qi1(f:FuncId)(h:Gu→Int→Int→Int→Tree SV):Fact:=⟨f,fun args=>match args with
 |[.agg [.int .i64 a0,.int .i64 a1,.int .i64 a2,.int .i64 a3,.int .i64 a4,.int .i64 a5,.int .i64 a6,.int .i64 a7,.int .i64 a8,.int .i64 a9,.bool d],.int .i64 r,.int .i64 t,.int .i64 u] =>some (h ⟨a0,a1,a2,a3,a4,a5,a6,a7,a8,a9,d⟩ r t u)
 |_=>none⟩
theorem qi2{P:Program}{f:FuncId}{h:Gu→Int→Int→Int→Tree SV}(k:∀g r t u,(h g r t u).says (SCall P f [g.sv,I64 r,I64 t,I64 u])):(qi1 f h).ok P:=fun args t ht=>by
 simp only[qi1]at ht
 split at ht
 ·injection ht with ht;subst ht;exact k ⟨_,_,_,_,_,_,_,_,_,_,_⟩ _ _ _
 ·cases ht
def Co.zero:Co:=⟨0,0,0,0,0,0⟩
def zn3(c:Co)(t:Int):Bool:=c.ok&&inR t 0 400000
theorem zn4{c:Co}{t:Int}:zn3 c t=true↔c.ok=true∧0≤t∧t≤400000:=by simp only[zn3,Bool.and_eq_true,v8]
def Co.aim(c:Co)(t:Int):Co:=⟨t,c.kp,c.ki,c.scale,0,c.limit⟩
def zn5(c:Co)(t:Int):SV:=match zn3 c t with
 |true=>.tuple [Co.sv (c.aim t),I64 0]
 |false=>.tuple [Co.sv Co.zero,I64 1]
theorem zn7{c:Co}{t:Int}(h:zn3 c t=true):zn5 c t=.tuple [Co.sv (c.aim t),I64 0] :=by unfold zn5;rw[h]
theorem zn6{c:Co}{t:Int}(h:zn3 c t=false):zn5 c t=.tuple [Co.sv Co.zero,I64 1] :=by unfold zn5;rw[h]
def Co.acc(c:Co)(r:Int):Int:=cla (c.sum+c.ki*(c.target-r)) 0 c.limit
def zK8(c:Co)(r:Int):Bool:=c.ok&&inR r (-1073741824) 1073741824
theorem zK9{c:Co}{r:Int}:zK8 c r=true↔c.ok=true∧-1073741824≤r∧r≤1073741824:=by simp only[zK8,Bool.and_eq_true,v8]
def Co.step(c:Co)(r:Int):Co:=match zK8 c r with
 |true=>⟨c.target,c.kp,c.ki,c.scale,if c.target=0 then 0 else c.acc r,c.limit⟩
 |false=>c
def Co.duty(c:Co)(r:Int):Int:=match zK8 c r with
 |true=>if c.target=0 then 0 else cla ((c.kp*(c.target-r)+c.acc r) / c.scale) 0 255
 |false=>0
def coS(c:Co)(r:Int):SV:=.tuple [Co.sv (c.step r),I64 (c.duty r)]
theorem zL0{c:Co}{r:Int}(h:zK8 c r=false):coS c r=.tuple [Co.sv c,I64 0] :=by unfold coS Co.step Co.duty;rw[h]
theorem zL1{c:Co}{r:Int}(h:zK8 c r=true)(h0:c.target=0):coS c r=.tuple [Co.sv ⟨c.target,c.kp,c.ki,c.scale,0,c.limit⟩,I64 0] :=by unfold coS Co.step Co.duty;rw[h];simp only[if_pos h0]
theorem zL2{c:Co}{r:Int}(h:zK8 c r=true)(h0:¬c.target=0):coS c r=.tuple [Co.sv ⟨c.target,c.kp,c.ki,c.scale,c.acc r,c.limit⟩,I64 (cla ((c.kp*(c.target-r)+c.acc r) / c.scale) 0 255)] :=by unfold coS Co.step Co.duty;rw[h];simp only[if_neg h0]
theorem zL3{c:Co}{r:Int}(h:zK8 c r=true):(-1125899906842624*2≤c.ki*(c.target-r)∧c.ki*(c.target-r)≤1125899906842624*2)∧(-1125899906842624*2≤c.kp*(c.target-r)∧c.kp*(c.target-r)≤1125899906842624*2)∧0≤c.acc r∧c.acc r≤1099511627776:=by
 rw[zK9,Co.ok_iff]at h
 have e:∀k:Int,0≤k∧k≤1048576→-1125899906842624*2≤k*(c.target-r)∧k*(c.target-r)≤1125899906842624*2:=fun k hk=>by
  have h1:k*(c.target-r)≤k*2147483648:=Int.mul_le_mul_of_nonneg_left (by omega) hk.1
  have h3:k*(-2147483648)≤k*(c.target-r):=Int.mul_le_mul_of_nonneg_left (by omega) hk.1
  omega
 refine⟨e _ h.1.2.2.1,e _ h.1.2.1,?_⟩
 have:=zI1 (n:=c.sum+c.ki*(c.target-r)) (lo:=0) (hi:=c.limit) (by omega)
 unfold Co.acc;omega
def Gu.zero:Gu:=⟨0,0,0,0,0,0,0,0,0,0,false⟩
def Gu.touch(g:Gu):Gu:=match g.ok with
 |true=>{g with quiet:=0}
 |false=>g
def Gu.stop(g:Gu):Gu:=match g.ok with
 |true=>{g with fault:=4}
 |false=>g
theorem Gu.touch_yes{g:Gu}(h:g.ok=true):g.touch={g with quiet:=0}:=by unfold Gu.touch;rw[h]
theorem Gu.touch_no{g:Gu}(h:g.ok=false):g.touch=g:=by unfold Gu.touch;rw[h]
theorem Gu.stop_yes{g:Gu}(h:g.ok=true):g.stop={g with fault:=4}:=by unfold Gu.stop;rw[h]
theorem Gu.stop_no{g:Gu}(h:g.ok=false):g.stop=g:=by unfold Gu.stop;rw[h]
def Gu.resE(g:Gu)(r:Int):Int:=match g.ok with
 |true=>if g.fault=0 then 14 else if r<g.low then 16 else if g.high<r then 16 else 0
 |false=>1
def Gu.rest(g:Gu)(r:Int):Gu:=⟨g.low,g.high,g.watch,g.rise,g.band,r,0,g.idle,0,0,g.door⟩
def Gu.cnt(g:Gu)(r:Int):Int:=if g.base+g.rise≤r then 1 else g.count+1
def Gu.bas(g:Gu)(r:Int):Int:=if g.base+g.rise≤r then r else g.base
def Gu.way(g:Gu)(r t u:Int):Nat:=match g.ok with
 |false=>0
 |true=>if g.fault=0 then
   if r<g.low then 1 else if g.high<r then 2 else if g.idle≤g.quiet+1 then 3 else if g.door=true then 4
   else if cla u 0 255=0 then 5 else if cla t (-1073741824) 1073741824-g.band≤r then 5 else if g.watch≤g.cnt r then 6 else 7
  else 0
def Gu.step(g:Gu)(r t u:Int):Gu:=match g.way r t u with
 |0=>g
 |1=>{g with fault:=1}
 |2=>{g with fault:=2}
 |3=>{g with quiet:=g.idle,base:=r,count:=0}
 |4=>{g with quiet:=g.quiet+1,base:=r,count:=0}
 |5=>{g with quiet:=g.quiet+1,base:=r,count:=0}
 |6=>{g with quiet:=g.quiet+1,base:=g.bas r,count:=g.watch,fault:=3}
 |_=>{g with quiet:=g.quiet+1,base:=g.bas r,count:=g.cnt r}
def Gu.duty(g:Gu)(r t u:Int):Int:=match g.way r t u with
 |5=>cla u 0 255
 |7=>cla u 0 255
 |_=>0
def guS(g:Gu)(r t u:Int):SV:=.tuple [Gu.sv (g.step r t u),I64 (g.duty r t u)]
theorem y86(c:Co)(t:Int):SCall pP 217 [c.sv,I64 t] (zn5 c t):=
 o9 mix [z46] ⟨yj0,trivial⟩ 1000 (.fork (.ln 5 (.lit .all)) (.lit (.lit (.fork (.lit (.lit (.lit .all))) (.lit (.lit (.fork .all .all)))))))
  (t:=let y0:Tree SV:=.leaf (.tuple [.agg [.int .i64 0,.int .i64 0,.int .i64 0,.int .i64 0,.int .i64 0,.int .i64 0],.int .i64 1]);.node (!c.ok) y0 (.node (decide (t<0)) y0 (.node (decide (t>400000)) y0 (.leaf (.tuple [.agg [.int .i64 t,.int .i64 c.kp,.int .i64 c.ki,.int .i64 c.scale,.int .i64 0,.int .i64 c.limit],.int .i64 0])))))
  (by kernel_rfl) (by
   simp only[Tree.holds,sL,ne_eq,sLb,sLc,eq_self,sLd,sLe,sLf];(repeat' (first|apply And.intro|intro _));
   all_goals first
    |(rw[zn6 (Bool.eq_false_iff.2 (by rw[ne_eq,zn4];first|omega|grind))];rfl)
    |(rw[zn7 (zn4.2 (by first|omega|grind))];rfl)) (by kernel_rfl) (by unfold zn5;split<;>rfl)
def z32:Fact:=qg3 217 fun c t=>.node (zn3 c t) (.leaf (.tuple [Co.sv (c.aim t),I64 0])) (.leaf (.tuple [Co.sv Co.zero,I64 1]))
theorem yg8:z32.ok pP:=qg4 (fun c t=>⟨fun hk=>zn7 hk▸y86 c t,fun hk=>zn6 hk▸y86 c t⟩)
theorem xa3(c:Co)(r:Int):SCall pP 162 [c.sv,I64 r] (coS c r):=
 o9 mix [z46,z42,z67] ⟨yj0,yi6,yl0,trivial⟩ 1000 (.fork (.ln 5 (.lit .all)) (.lit (.lit (.fork (.lit (.lit (.lit .all))) (.lit (.lit (.fork .all (.fork .all .all))))))))
  (t:=let y0:Tree SV:=.leaf (.tuple [.agg [.int .i64 c.target,.int .i64 c.kp,.int .i64 c.ki,.int .i64 c.scale,.int .i64 c.sum,.int .i64 c.limit],.int .i64 0]);let y1:=i64.wrap (c.sum+i64.wrap (c.ki*i64.wrap (c.target-r)));let y2:=i64.wrap (c.kp*i64.wrap (c.target-r))+cla y1 0 c.limit;.node (!c.ok) y0 (.node (decide (r < -1073741824)) y0 (.node (decide (r>1073741824)) y0 (.node (c.target==0) (.leaf (.tuple [.agg [.int .i64 c.target,.int .i64 c.kp,.int .i64 c.ki,.int .i64 c.scale,.int .i64 0,.int .i64 c.limit],.int .i64 0])) (.req (decide (0≤c.limit)) (.req (inR c.scale 1 4611686018427387904&&inR (i64.wrap y2) (-4611686018427387904) 4611686018427387904) (.req true (.leaf (.tuple [.agg [.int .i64 c.target,.int .i64 c.kp,.int .i64 c.ki,.int .i64 c.scale,.int .i64 (cla y1 0 c.limit),.int .i64 c.limit],.int .i64 (cla (i64.wrap y2 / c.scale) 0 255)])))))))))
  (by kernel_rfl) (by
   have z:=zL3 (c:=c) (r:=r)
   have li:=zK9 (c:=c) (r:=r)
   have ci:=Co.ok_iff c
   simp only[Tree.holds,sL,ne_eq,sLb,sLc,eq_self,sLd,sLe,sLf];(repeat' (first|apply And.intro|intro _));
   all_goals first
    |(rw[zL0 (Bool.eq_false_iff.2 (by rw[ne_eq,zK9];first|omega|grind))];rfl)
    |(have hl:zK8 c r=true:=zK9.2 (by first|omega|grind)
      have hc:=ci.1 (li.1 hl).1
      have hr:=li.1 hl
      have z:=z hl
      have w1:=w64 (x:=c.target-r) (by omega) (by omega)
      have w2:=w64 (x:=c.ki*(c.target-r)) (by omega) (by omega)
      have w3:=w64 (x:=c.kp*(c.target-r)) (by omega) (by omega)
      have w4:=w64 (x:=c.sum+c.ki*(c.target-r)) (by omega) (by omega)
      have w5:=w64 (x:=c.kp*(c.target-r)+c.acc r) (by omega) (by omega)
      have e:cla (c.sum+c.ki*(c.target-r)) 0 c.limit=c.acc r:=rfl
      (try simp only[w1,w2,w3,w4,e,w5])
      first
      |(rw[v8];omega)
      |omega
      |(rw[zL1 hl (by assumption)];rfl)
      |(rw[zL2 hl (by assumption)];rfl))) (by kernel_rfl) (by kernel_rfl)
theorem xp4(g:Gu):SCall pP 73 [g.sv] (g.touch.sv):=
 o9 mix [z73] ⟨yl6,trivial⟩ 1000 (.fork (.all) (.all))
  (t:=.node (g.ok) (.leaf (.agg [.int .i64 g.low,.int .i64 g.high,.int .i64 g.watch,.int .i64 g.rise,.int .i64 g.band,.int .i64 g.base,.int .i64 g.count,.int .i64 g.idle,.int .i64 0,.int .i64 g.fault,.bool g.door])) (.leaf (.agg [.int .i64 g.low,.int .i64 g.high,.int .i64 g.watch,.int .i64 g.rise,.int .i64 g.band,.int .i64 g.base,.int .i64 g.count,.int .i64 g.idle,.int .i64 g.quiet,.int .i64 g.fault,.bool g.door])))
  (by kernel_rfl) (by simp only[Tree.holds,sL,ne_eq,sLb,sLc,eq_self,sLd,sLe,sLf];(repeat' (first|apply And.intro|intro _));all_goals first|(rw[Gu.touch_yes (by assumption)];rfl)|(rw[Gu.touch_no (by assumption)];rfl)) (by kernel_rfl) (by kernel_rfl)
def qe1:Fact:=qi5 73 fun g=>.leaf g.touch.sv
theorem yt1:qe1.ok pP:=qi6 (xp4)
theorem xn9(g:Gu):SCall pP 211 [g.sv] (g.stop.sv):=
 o9 mix [z73] ⟨yl6,trivial⟩ 1000 (.fork (.all) (.all))
  (t:=.node (g.ok) (.leaf (.agg [.int .i64 g.low,.int .i64 g.high,.int .i64 g.watch,.int .i64 g.rise,.int .i64 g.band,.int .i64 g.base,.int .i64 g.count,.int .i64 g.idle,.int .i64 g.quiet,.int .i64 4,.bool g.door])) (.leaf (.agg [.int .i64 g.low,.int .i64 g.high,.int .i64 g.watch,.int .i64 g.rise,.int .i64 g.band,.int .i64 g.base,.int .i64 g.count,.int .i64 g.idle,.int .i64 g.quiet,.int .i64 g.fault,.bool g.door])))
  (by kernel_rfl) (by simp only[Tree.holds,sL,ne_eq,sLb,sLc,eq_self,sLd,sLe,sLf];(repeat' (first|apply And.intro|intro _));all_goals first|(rw[Gu.stop_yes (by assumption)];rfl)|(rw[Gu.stop_no (by assumption)];rfl)) (by kernel_rfl) (by kernel_rfl)
def qd4:Fact:=qi5 211 fun g=>.leaf g.stop.sv
theorem ys3:qd4.ok pP:=qi6 (xn9)
theorem xl7(g:Gu)(r:Int):SCall pP 212 [g.sv,I64 r] (.tuple [if g.resE r=0 then(g.rest r).sv else Gu.zero.sv,I64 (g.resE r)]):=
 o9 mix [z73] ⟨yl6,trivial⟩ 1000 (.fork .all (.fork .all (.fork (.ln 4 (.lit .all)) (.ln 4 (.fork .all .all)))))
  (t:=let y0:Tree SV:=.leaf (.tuple [.agg [.int .i64 0,.int .i64 0,.int .i64 0,.int .i64 0,.int .i64 0,.int .i64 0,.int .i64 0,.int .i64 0,.int .i64 0,.int .i64 0,.bool false],.int .i64 16]);.node (!g.ok) (.leaf (.tuple [.agg [.int .i64 0,.int .i64 0,.int .i64 0,.int .i64 0,.int .i64 0,.int .i64 0,.int .i64 0,.int .i64 0,.int .i64 0,.int .i64 0,.bool false],.int .i64 1])) (.node (g.fault==0) (.leaf (.tuple [.agg [.int .i64 0,.int .i64 0,.int .i64 0,.int .i64 0,.int .i64 0,.int .i64 0,.int .i64 0,.int .i64 0,.int .i64 0,.int .i64 0,.bool false],.int .i64 14])) (.node (decide (r<g.low)) y0 (.node (decide (r>g.high)) y0 (.leaf (.tuple [.agg [.int .i64 g.low,.int .i64 g.high,.int .i64 g.watch,.int .i64 g.rise,.int .i64 g.band,.int .i64 r,.int .i64 0,.int .i64 g.idle,.int .i64 0,.int .i64 0,.bool g.door],.int .i64 0]))))))
  (by kernel_rfl) (by
   simp only[Tree.holds,sL,ne_eq,sLb,sLc,eq_self,sLd,sLe,sLf];(repeat' (first|apply And.intro|intro _));
   all_goals(unfold Gu.resE;simp_all only[];grind[Gu.rest,Gu.zero,Gu.sv,Gu.cells,I64])) (by kernel_rfl) (by split<;>rfl)
theorem xd6(g:Gu)(r t u:Int):SCall pP 163 [g.sv,I64 r,I64 t,I64 u] (guS g r t u):=
 o9 mix [z73,z42] ⟨yl6,yi6,trivial⟩ 1000 (.fork (.ln 3 (.lit .all)) (.ln 3 (.fork .all (.fork (.lit .all) (.fork (.fork .all .all) (.fork .all (.fork .all (.fork (.ln 6 (.lit .all)) (.ln 6 (.fork .all (.fork (.fork .all .all) (.fork .all .all))))))))))))
  (t:=let y0:Tree SV:=.leaf (.tuple [.agg [.int .i64 g.low,.int .i64 g.high,.int .i64 g.watch,.int .i64 g.rise,.int .i64 g.band,.int .i64 g.base,.int .i64 g.count,.int .i64 g.idle,.int .i64 g.quiet,.int .i64 g.fault,.bool g.door],.int .i64 0]);let y2:=i64.wrap (g.quiet+1);let y1:Tree SV:=.leaf (.tuple [.agg [.int .i64 g.low,.int .i64 g.high,.int .i64 g.watch,.int .i64 g.rise,.int .i64 g.band,.int .i64 r,.int .i64 0,.int .i64 g.idle,.int .i64 y2,.int .i64 g.fault,.bool g.door],.int .i64 (cla u 0 255)]);.node (!g.ok) y0 (.node (g.fault != 0) y0 (.node (decide (r<g.low)) (.leaf (.tuple [.agg [.int .i64 g.low,.int .i64 g.high,.int .i64 g.watch,.int .i64 g.rise,.int .i64 g.band,.int .i64 g.base,.int .i64 g.count,.int .i64 g.idle,.int .i64 g.quiet,.int .i64 1,.bool g.door],.int .i64 0])) (.node (decide (r>g.high)) (.node (g.fault==0) (.leaf (.tuple [.agg [.int .i64 g.low,.int .i64 g.high,.int .i64 g.watch,.int .i64 g.rise,.int .i64 g.band,.int .i64 g.base,.int .i64 g.count,.int .i64 g.idle,.int .i64 g.quiet,.int .i64 2,.bool g.door],.int .i64 0])) y0) (.node (decide (i64.wrap (g.quiet+1)≥g.idle)) (.leaf (.tuple [.agg [.int .i64 g.low,.int .i64 g.high,.int .i64 g.watch,.int .i64 g.rise,.int .i64 g.band,.int .i64 r,.int .i64 0,.int .i64 g.idle,.int .i64 g.idle,.int .i64 g.fault,.bool g.door],.int .i64 0])) (.req true (.req (true) (.node (g.door) (.leaf (.tuple [.agg [.int .i64 g.low,.int .i64 g.high,.int .i64 g.watch,.int .i64 g.rise,.int .i64 g.band,.int .i64 r,.int .i64 0,.int .i64 g.idle,.int .i64 y2,.int .i64 g.fault,.bool g.door],.int .i64 0])) (.node (cla u 0 255==0) y1 (.node (decide (r≥i64.wrap (cla t (-1073741824) 1073741824-g.band))) y1 (.node (decide (r≥i64.wrap (g.base+g.rise))) (.node (decide (1≥g.watch)) (.leaf (.tuple [.agg [.int .i64 g.low,.int .i64 g.high,.int .i64 g.watch,.int .i64 g.rise,.int .i64 g.band,.int .i64 r,.int .i64 g.watch,.int .i64 g.idle,.int .i64 y2,.int .i64 3,.bool g.door],.int .i64 0])) (.leaf (.tuple [.agg [.int .i64 g.low,.int .i64 g.high,.int .i64 g.watch,.int .i64 g.rise,.int .i64 g.band,.int .i64 r,.int .i64 1,.int .i64 g.idle,.int .i64 y2,.int .i64 g.fault,.bool g.door],.int .i64 (cla u 0 255)]))) (.node (decide (i64.wrap (g.count+1)≥g.watch)) (.leaf (.tuple [.agg [.int .i64 g.low,.int .i64 g.high,.int .i64 g.watch,.int .i64 g.rise,.int .i64 g.band,.int .i64 g.base,.int .i64 g.watch,.int .i64 g.idle,.int .i64 y2,.int .i64 3,.bool g.door],.int .i64 0])) (.leaf (.tuple [.agg [.int .i64 g.low,.int .i64 g.high,.int .i64 g.watch,.int .i64 g.rise,.int .i64 g.band,.int .i64 g.base,.int .i64 (i64.wrap (g.count+1)),.int .i64 g.idle,.int .i64 y2,.int .i64 g.fault,.bool g.door],.int .i64 (cla u 0 255)]))))))))))))))
  (by kernel_rfl) (by
   have cu:=zI1 (n:=u) (lo:=0) (hi:=255) (by omega)
   have ct:=zI1 (n:=t) (lo:= -1073741824) (hi:=1073741824) (by omega)
   cases hok:g.ok with
   |false=>simp only[Tree.holds,hok,sL,ne_eq,sLb,sLc,eq_self,sLd,sLe,sLf];unfold guS Gu.step Gu.duty Gu.way;rw[hok];rfl
   |true=>
    have o:=(Gu.ok_iff g).1 hok
    have w1:=w64 (x:=g.quiet+1) (by omega) (by omega)
    have w2:=w64 (x:=g.count+1) (by omega) (by omega)
    have w3:=w64 (x:=g.base+g.rise) (by omega) (by omega)
    have w4:=w64 (x:=cla t (-1073741824) 1073741824-g.band) (by omega) (by omega)
    have w5:i64.wrap (0+1)=1:=by decide
    simp only[Tree.holds,hok,w1,w2,w3,w4,w5,sL,ne_eq,sLb,sLc,eq_self,sLd,sLe,sLf];(repeat' (first|apply And.intro|intro _));
    all_goals first
     |omega
     |(have hw:g.way r t u=0:=by(unfold Gu.way;simp only[hok];simp (config:={zetaDelta:=false}) only[Gu.cnt];grind)
       unfold guS Gu.step Gu.duty
       (simp only[hw,Gu.sv,Gu.cells,I64,Gu.bas,Gu.cnt,SV.tuple.injEq,SV.agg.injEq,List.cons.injEq,SV.int.injEq,SV.bool.injEq,true_and,and_true,eq_self])<;>(first|rfl|((repeat' apply And.intro)<;>first|rfl|omega|(unfold cla;(repeat' split)<;>omega)|grind)))
     |(have hw:g.way r t u=1:=by(unfold Gu.way;simp only[hok];simp (config:={zetaDelta:=false}) only[Gu.cnt];grind)
       unfold guS Gu.step Gu.duty
       (simp only[hw,Gu.sv,Gu.cells,I64,Gu.bas,Gu.cnt,SV.tuple.injEq,SV.agg.injEq,List.cons.injEq,SV.int.injEq,SV.bool.injEq,true_and,and_true,eq_self])<;>(first|rfl|((repeat' apply And.intro)<;>first|rfl|omega|(unfold cla;(repeat' split)<;>omega)|grind)))
     |(have hw:g.way r t u=2:=by(unfold Gu.way;simp only[hok];simp (config:={zetaDelta:=false}) only[Gu.cnt];grind)
       unfold guS Gu.step Gu.duty
       (simp only[hw,Gu.sv,Gu.cells,I64,Gu.bas,Gu.cnt,SV.tuple.injEq,SV.agg.injEq,List.cons.injEq,SV.int.injEq,SV.bool.injEq,true_and,and_true,eq_self])<;>(first|rfl|((repeat' apply And.intro)<;>first|rfl|omega|(unfold cla;(repeat' split)<;>omega)|grind)))
     |(have hw:g.way r t u=3:=by(unfold Gu.way;simp only[hok];simp (config:={zetaDelta:=false}) only[Gu.cnt];grind)
       unfold guS Gu.step Gu.duty
       (simp only[hw,Gu.sv,Gu.cells,I64,Gu.bas,Gu.cnt,SV.tuple.injEq,SV.agg.injEq,List.cons.injEq,SV.int.injEq,SV.bool.injEq,true_and,and_true,eq_self])<;>(first|rfl|((repeat' apply And.intro)<;>first|rfl|omega|(unfold cla;(repeat' split)<;>omega)|grind)))
     |(have hw:g.way r t u=4:=by(unfold Gu.way;simp only[hok];simp (config:={zetaDelta:=false}) only[Gu.cnt];grind)
       unfold guS Gu.step Gu.duty
       (simp only[hw,Gu.sv,Gu.cells,I64,Gu.bas,Gu.cnt,SV.tuple.injEq,SV.agg.injEq,List.cons.injEq,SV.int.injEq,SV.bool.injEq,true_and,and_true,eq_self])<;>(first|rfl|((repeat' apply And.intro)<;>first|rfl|omega|(unfold cla;(repeat' split)<;>omega)|grind)))
     |(have hw:g.way r t u=5:=by(unfold Gu.way;simp only[hok];simp (config:={zetaDelta:=false}) only[Gu.cnt];grind)
       unfold guS Gu.step Gu.duty
       (simp only[hw,Gu.sv,Gu.cells,I64,Gu.bas,Gu.cnt,SV.tuple.injEq,SV.agg.injEq,List.cons.injEq,SV.int.injEq,SV.bool.injEq,true_and,and_true,eq_self])<;>(first|rfl|((repeat' apply And.intro)<;>first|rfl|omega|(unfold cla;(repeat' split)<;>omega)|grind)))
     |(have hw:g.way r t u=6:=by(unfold Gu.way;simp only[hok];simp (config:={zetaDelta:=false}) only[Gu.cnt];grind)
       unfold guS Gu.step Gu.duty
       (simp only[hw,Gu.sv,Gu.cells,I64,Gu.bas,Gu.cnt,SV.tuple.injEq,SV.agg.injEq,List.cons.injEq,SV.int.injEq,SV.bool.injEq,true_and,and_true,eq_self])<;>(first|rfl|((repeat' apply And.intro)<;>first|rfl|omega|(unfold cla;(repeat' split)<;>omega)|grind)))
     |(have hw:g.way r t u=7:=by(unfold Gu.way;simp only[hok];simp (config:={zetaDelta:=false}) only[Gu.cnt];grind)
       unfold guS Gu.step Gu.duty
       (simp only[hw,Gu.sv,Gu.cells,I64,Gu.bas,Gu.cnt,SV.tuple.injEq,SV.agg.injEq,List.cons.injEq,SV.int.injEq,SV.bool.injEq,true_and,and_true,eq_self])<;>(first|rfl|((repeat' apply And.intro)<;>first|rfl|omega|(unfold cla;(repeat' split)<;>omega)|grind)))
) (by kernel_rfl) (by kernel_rfl)
def z47:Fact:=qg3 162 fun c r=>.leaf (coS c r)
theorem yj1:z47.ok pP:=qg4 (xa3)
def qc5:Fact:=qi3 212 fun g r=>.node (decide (g.resE r=0)) (.leaf (.tuple [(g.rest r).sv,I64 0])) (.leaf (.tuple [Gu.zero.sv,I64 (g.resE r)]))
theorem yr2:qc5.ok pP:=qi4 (fun g r=>by
 have h:=xl7 g r
 constructor
 ·intro hd
  have hd:=of_decide_eq_true hd
  rw[if_pos hd,hd]at h;exact h
 ·intro hd
  have hd:=of_decide_eq_false hd
  rw[if_neg hd]at h;exact h)
def z72:Fact:=qi1 163 fun g r t u=>.leaf (guS g r t u)
theorem yl5:z72.ok pP:=qi2 (xd6)
end Go.Proofs.YtnkaepnblikcdaaGreat
namespace Go.Proofs.YtnkaepnblikcdaaGreat.Gc
open Go.Sx
structure C where
 code:Int
 has:Int
 x:Int
 y:Int
 z:Int
 e:Int
 f:Int
 s:Int
def C.cells(c:C):List SV:=[I64 c.code,I64 c.has,I64 c.x,I64 c.y,I64 c.z,I64 c.e,I64 c.f,I64 c.s]
def C.sv(c:C):SV:=.agg c.cells
def oneS(k:Int):Prop:=k=4∨k=1104∨k=1109∨k=1140∨k=1190∨k=1106
def none0(k:Int):Prop:=k=28∨k=1024∨k=1025∨k=1107∨k=1112∨k=1999
instance (k:Int):Decidable (oneS k):=by unfold oneS;infer_instance
instance (k:Int):Decidable (none0 k):=by unfold none0;infer_instance
def may(k:Int):Int:=if k=0 then 23 else if k=1 then 31 else if oneS k then 32 else 0
def allW(k:Int):Bool:=decide (oneS k)||decide (none0 k)
def okC(k:Int):Bool:=decide (k=0)||(decide (k=1)||(decide (oneS k)||decide (none0 k)))
def lo(k:Int)(w:Int):Int:=if w=4 then 1 else if w≠5 then -1073741824 else 0
def hi(k:Int)(w:Int):Int:=if w=4 then 1048576 else if w≠5 then 1073741824 else if k=4 then 1048576 else if k=1106 then 255 else 400000
def C.num(c:C)(w:Int):Int:=if w=0 then c.x else if w=1 then c.y else if w=2 then c.z else if w=3 then c.e else if w=4 then c.f else c.s
def factC(f:FuncId)(h:C→Tree SV):Fact:=⟨f,fun args=>match args with
 |[.agg [.int .i64 a0,.int .i64 a1,.int .i64 a2,.int .i64 a3,.int .i64 a4,.int .i64 a5,.int .i64 a6,.int .i64 a7]] =>some (h ⟨a0,a1,a2,a3,a4,a5,a6,a7⟩)
 |_=>none⟩
theorem factC_ok{P:Program}{f:FuncId}{h:C→Tree SV}(k:∀c,(h c).says (SCall P f [c.sv])):(factC f h).ok P:=fun args t ht=>by
 simp only[factC]at ht
 split at ht
 ·injection ht with ht;subst ht;exact k ⟨_,_,_,_,_,_,_,_⟩
 ·cases ht
def qf2:Fact:=qi8 140 fun k=>.leaf (.tuple [I64 (may k),.bool (allW k),.bool (okC k)])
def qd0:Fact:=qj1 142 fun k w=>.leaf (.tuple [I64 (lo k w),I64 (hi k w)])
def yU3(k w n:Int):Bool:=if w<4 then inR n (-1073741824) 1073741824 else if w=4 then inR n 1 1048576 else if k=4 then inR n 0 1048576 else if k=1106 then inR n 0 255 else inR n 0 400000
def z59:Fact:=⟨141,fun args=>match args with
 |[.ptr id off,.int .i64 w] =>some (.node (w==0) (.leaf (.ptr id (off+2))) (.node (w==1) (.leaf (.ptr id (off+3))) (.node (w==2) (.leaf (.ptr id (off+4))) (.node (w==3) (.leaf (.ptr id (off+5))) (.node (w==4) (.leaf (.ptr id (off+6))) (.leaf (.ptr id (off+7))))))))
 |_=>none⟩
theorem xr2(k:Int):SCall pP 140 [I64 k] (.tuple [I64 (may k),.bool (allW k),.bool (okC k)]):=
 o9 mix [] trivial 1000 (let z1:Plan:=.fork (.all) (.all);let z0:Plan:=.fork (.all) (.fork z1 (.fork z1 (.fork z1 (.fork z1 (.fork z1 z1)))));.fork (.all) (.fork (.all) (.fork z0 (.fork z0 (.fork z0 (.fork z0 (.fork z0 z0)))))))
  (t:=let y1:Tree SV:=.leaf (.tuple [I64 0,.bool false,.bool false]);let y2:Tree SV:=.leaf (.tuple [I64 32,.bool true,.bool true]);let y3:Tree SV:=.leaf (.tuple [I64 0,.bool true,.bool true]);let y0:Tree SV:=.node (k==28) (.node (k==28) y3 y1) (.node (k==1024) (.node (k==1024) y3 y1) (.node (k==1025) (.node (k==1025) y3 y1) (.node (k==1107) (.node (k==1107) y3 y1) (.node (k==1112) (.node (k==1112) y3 y1) (.node (k==1999) y3 y1)))));.node (k==0) (.leaf (.tuple [I64 23,.bool false,.bool true])) (.node (k==1) (.leaf (.tuple [I64 31,.bool false,.bool true])) (.node (k==4) (.node (k==4) y2 y0) (.node (k==1104) (.node (k==1104) y2 y0) (.node (k==1109) (.node (k==1109) y2 y0) (.node (k==1140) (.node (k==1140) y2 y0) (.node (k==1190) (.node (k==1190) y2 y0) (.node (k==1106) y2 y0))))))))
  (by kernel_rfl) (by
   simp only[Tree.holds]
   repeat' (first|apply And.intro|intro _)
   all_goals(simp_all[may,allW,okC,lo,hi,oneS,none0,yU3,inR,I64,C.sv,C.cells])) (by kernel_rfl) (by kernel_rfl)
theorem yu6:qf2.ok pP:=qj5 xr2
theorem xm7(k w:Int):SCall pP 142 [I64 k,I64 w] (.tuple [I64 (lo k w),I64 (hi k w)]):=
 o9 mix [] trivial 1000 (.fork (.all) (.fork (.all) (.fork (.all) (.fork (.all) (.all)))))
  (t:=.node (w==4)
 (.leaf (SV.tuple [I64 1,I64 1048576]))
 (.node (w != 5)
  (.leaf (SV.tuple [I64 (-1073741824),I64 1073741824]))
  (.node (k==4)
   (.leaf (SV.tuple [I64 0,I64 1048576]))
   (.node (k==1106)
    (.leaf (SV.tuple [I64 0,I64 255]))
    (.leaf (SV.tuple [I64 0,I64 400000]))))))
   (by kernel_rfl) (by
    simp only[Tree.holds]
    repeat' (first|apply And.intro|intro _)
    all_goals(simp_all[may,allW,okC,lo,hi,oneS,none0,yU3,inR,I64,C.sv,C.cells])) (by kernel_rfl) (by kernel_rfl)
theorem yr9:qd0.ok pP:=qj4 xm7
theorem hK{l:List Fact}(h:zo5 pP l):Known pP (Env.of pP (v6 l)):=qS3 mix (xF1 l h.all)
theorem xc2(id off:Nat)(w:Int):(Tree.node (w==0) (.leaf (.ptr id (off+2))) (.node (w==1) (.leaf (.ptr id (off+3))) (.node (w==2) (.leaf (.ptr id (off+4))) (.node (w==3) (.leaf (.ptr id (off+5))) (.node (w==4) (.leaf (.ptr id (off+6))) (.leaf (.ptr id (off+7)))))))).says (SCall pP 141 [.ptr id off,I64 w]):=by
 have key:∀v,(∀m,(z09 (Env.of pP (v6 [])) 1000 141 [.ptr id off,I64 w] .all m).holds fun x=>x=(v,m))→SCall pP 141 [.ptr id off,I64 w] v:=fun v h=>xs6 (hK (l:=[]) trivial) h
 have e:∀m,z09 (Env.of pP (v6 [])) 1000 141 [.ptr id off,I64 w] .all m=.node (w==0) (.leaf (.ptr id (off+2),m)) (.node (w==1) (.leaf (.ptr id (off+3),m)) (.node (w==2) (.leaf (.ptr id (off+4),m)) (.node (w==3) (.leaf (.ptr id (off+5),m)) (.node (w==4) (.leaf (.ptr id (off+6),m)) (.leaf (.ptr id (off+7),m)))))):=fun m=>by kernel_rfl
 simp only[Tree.says]
 refine⟨fun h=>key _ fun m=>?_,fun h1=>⟨fun h=>key _ fun m=>?_,fun h2=>⟨fun h=>key _ fun m=>?_,fun h3=>⟨fun h=>key _ fun m=>?_,fun h4=>⟨fun h=>key _ fun m=>?_,fun h5=>key _ fun m=>?_⟩⟩⟩⟩⟩<;>rw[e m]<;>simp_all[Tree.holds]
theorem yk2:z59.ok pP:=fun args t ht=>by
 simp only[z59]at ht
 split at ht
 ·injection ht with ht;subst ht;exact xc2 _ _ _
 ·cases ht
def xW2:Plan:=.fork (.ln 9 (.lit .all)) (.ln 5 (.fork (.ln 3 (.lit .all)) (.lit (.fork (.ln 6 (.fork .all .all)) (.ln 6 (.lit .all))))))
noncomputable def xW3(c:C):Tree Stop:=let y0:Tree Stop:=.leaf (.at (j9 pP 71 0) 64 (j8 64 [(1,.ptr 0 0),(35,I64 0)]) [some (.cells [I64 c.code,I64 c.has,I64 c.x,I64 c.y,I64 c.z,I64 c.e,I64 c.f,I64 c.s])]); .node (!okC c.code) (.leaf (.done (.bool false))) (.node (i64.wrap ↑(BitVec.ofInt 64 c.has &&& ~~~BitVec.ofInt 64 (may c.code)).toNat != 0) (.leaf (.done (.bool false))) (.node (allW c.code) (.node (c.has != may c.code) (.leaf (.done (.bool false))) y0) y0))
theorem xW1(c:C):w9 (Env.of pP (v6 [qf2,qd0,z59])) 1000 (j7 pP 71) .unit (x8 64 [1,35]) (u7 pP 71) xW2 (v9 pP 71 [c.sv]) [] =xW3 c:=by kernel_rfl
def xW5:Plan:=let z1:Plan:=.fork (.ln 3 (.lit .all)) (.ln 3 (.fork .all .all));let z0:Plan:=.fork z1 z1;.fork (.fork z0 (.fork z0 (.fork z0 (.fork z0 (.fork z0 z0))))) .all
noncomputable def xW6(c:C)(i:Int):Tree Stop:=let y0:Tree Stop:=.leaf (.at (j9 pP 71 0) 64 (j8 64 [(1,.ptr 0 0),(35,I64 (i64.wrap (i+1)))]) [some (.cells [I64 c.code,I64 c.has,I64 c.x,I64 c.y,I64 c.z,I64 c.e,I64 c.f,I64 c.s])]);let y1:Tree Stop:=.leaf (.done (.bool false));let y2:=i64.wrap ↑(BitVec.ofInt 64 (c.has.fdiv (2 ^ min i.toNat 64)) &&&BitVec.ofInt 64 1).toNat==0;let y3:=decide (0≤i); .node (decide (i<6)) (.node (i==0) (.req y3 (.node y2 (.node (decide (c.x<0)) y1 (.node (decide (c.x>0)) y1 y0)) (.node (decide (c.x<lo c.code i)) y1 (.node (decide (c.x>hi c.code i)) y1 y0)))) (.node (i==1) (.req y3 (.node y2 (.node (decide (c.y<0)) y1 (.node (decide (c.y>0)) y1 y0)) (.node (decide (c.y<lo c.code i)) y1 (.node (decide (c.y>hi c.code i)) y1 y0)))) (.node (i==2) (.req y3 (.node y2 (.node (decide (c.z<0)) y1 (.node (decide (c.z>0)) y1 y0)) (.node (decide (c.z<lo c.code i)) y1 (.node (decide (c.z>hi c.code i)) y1 y0)))) (.node (i==3) (.req y3 (.node y2 (.node (decide (c.e<0)) y1 (.node (decide (c.e>0)) y1 y0)) (.node (decide (c.e<lo c.code i)) y1 (.node (decide (c.e>hi c.code i)) y1 y0)))) (.node (i==4) (.req y3 (.node y2 (.node (decide (c.f<0)) y1 (.node (decide (c.f>0)) y1 y0)) (.node (decide (c.f<lo c.code i)) y1 (.node (decide (c.f>hi c.code i)) y1 y0)))) (.req y3 (.node y2 (.node (decide (c.s<0)) y1 (.node (decide (c.s>0)) y1 y0)) (.node (decide (c.s<lo c.code i)) y1 (.node (decide (c.s>hi c.code i)) y1 y0))))))))) (.leaf (.done (.bool true)))
theorem xW4(c:C)(i:Int):w9 (Env.of pP (v6 [qf2,qd0,z59])) 1000 (j7 pP 71) .unit (x8 64 [1,35]) (j9 pP 71 0) xW5 (j8 64 [(1,.ptr 0 0),(35,I64 i)]) [some (.cells c.cells)] =xW6 c i:=by kernel_rfl
def bit(h i:Int):Int:=i64.wrap ↑(BitVec.ofInt 64 (h.fdiv (2 ^ min i.toNat 64)) &&&BitVec.ofInt 64 1).toNat
def andNot(h m:Int):Int:=i64.wrap ↑(BitVec.ofInt 64 h &&& ~~~BitVec.ofInt 64 m).toNat
def okW(c:C)(i:Int):Bool:=if bit c.has i=0 then c.num i==0 else inR (c.num i) (lo c.code i) (hi c.code i)
def rest(c:C):Nat→Bool
 |0=>true
 |n+1=>okW c (5-n)&&rest c n
theorem yZ7(c:C){i:Int}(h:0≤i)(h6:i<6):rest c (6-i).toNat=(okW c i&&rest c (6-(i+1)).toNat):=by
 obtain⟨n,hn⟩:∃n:Nat,(6-i).toNat=n+1:=⟨(5-i).toNat,by omega⟩
 rw[hn,show(6-(i+1)).toNat=n by omega,rest,show(5:Int)-n=i by omega]
def C.pre(c:C):Bool:=okC c.code&& (andNot c.has (may c.code)==0&&!(allW c.code&&!(c.has==may c.code)))
def C.valid(c:C):Bool:=c.pre&&rest c 6
noncomputable def stV(c:C)(i:Int):Stop:=Stop.at (j9 pP 71 0) 64 (j8 64 [(1,SV.ptr 0 0),(35,I64 i)]) [some (Box.cells c.cells)]
theorem qK8{n l h:Int}:inR n l h=true↔l≤n∧n≤h:=by
 rw[inR,Bool.and_eq_true,decide_eq_true_eq,decide_eq_true_eq]
theorem yd1(c:C):c.num 0=c.x:=rfl
theorem yd2(c:C):c.num 1=c.y:=rfl
theorem yd3(c:C):c.num 2=c.z:=rfl
theorem yd4(c:C):c.num 3=c.e:=rfl
theorem yd5(c:C):c.num 4=c.f:=rfl
theorem yd6(c:C):c.num 5=c.s:=rfl
theorem yx3{c:C}{i n:Int}(hn:c.num i=n):(okW c i=true↔(bit c.has i=0∧n=0)∨(bit c.has i≠0∧lo c.code i≤n∧n≤hi c.code i)):=by
 unfold okW
 rw[hn]
 by_cases h:bit c.has i=0
 ·simp[h]
 ·simp[h,qK8]
theorem xX1{c:C}{i:Int}(h0:0≤i)(Q:Stop→Prop)(q0:6≤i→Q (.done (.bool true)))(q1:i<6→¬okW c i=true→Q (.done (.bool false)))(q2:i<6→okW c i=true→Q (stV c (i+1))):(xW6 c i).holds Q:=by
 have wi:i<6→i64.wrap (i+1)=i+1:=fun h=>x42 (by omega) (by omega)
 have eb:i64.wrap ↑(BitVec.ofInt 64 (c.has.fdiv (2 ^ min i.toNat 64)) &&&BitVec.ofInt 64 1).toNat=bit c.has i:=rfl
 unfold xW6
 rw[eb]
 unfold stV C.cells at q2
 have key:∀n,c.num i=n→i<6→(Tree.node (bit c.has i==0)
   (.node (decide (n<0)) (.leaf (Stop.done (SV.bool false))) (.node (decide (n>0)) (.leaf (Stop.done (SV.bool false))) (.leaf (Stop.at (j9 pP 71 0) 64 (j8 64 [(1,SV.ptr 0 0),(35,I64 (i64.wrap (i+1)))]) [some (Box.cells [I64 c.code,I64 c.has,I64 c.x,I64 c.y,I64 c.z,I64 c.e,I64 c.f,I64 c.s])]))))
   (.node (decide (n<lo c.code i)) (.leaf (Stop.done (SV.bool false))) (.node (decide (n>hi c.code i)) (.leaf (Stop.done (SV.bool false))) (.leaf (Stop.at (j9 pP 71 0) 64 (j8 64 [(1,SV.ptr 0 0),(35,I64 (i64.wrap (i+1)))]) [some (Box.cells [I64 c.code,I64 c.has,I64 c.x,I64 c.y,I64 c.z,I64 c.e,I64 c.f,I64 c.s])]))))).holds Q:=by
  intro n hn h6
  have ok:=yx3 (c:=c) hn
  rw[wi h6]
  simp only[Tree.holds,beq_iff_eq,beq_eq_false_iff_ne,decide_eq_true_eq,decide_eq_false_iff_not]
  repeat' (first|apply And.intro|intro _)
  all_goals first
   |(refine q1 h6 ?_;rw[ok];omega)
   |(refine q2 h6 ?_;rw[ok];omega)
 simp only[Tree.holds,beq_iff_eq,beq_eq_false_iff_ne,decide_eq_true_eq,decide_eq_false_iff_not]at key ⊢
 refine⟨fun h6=>⟨?_,fun n0=>⟨?_,fun n1=>⟨?_,fun n2=>⟨?_,fun n3=>⟨?_,fun n4=>?_⟩⟩⟩⟩⟩,fun h=>q0 (by omega)⟩
 ·rintro rfl;exact⟨h0,key _ (yd1 c) h6⟩
 ·rintro rfl;exact⟨h0,key _ (yd2 c) h6⟩
 ·rintro rfl;exact⟨h0,key _ (yd3 c) h6⟩
 ·rintro rfl;exact⟨h0,key _ (yd4 c) h6⟩
 ·rintro rfl;exact⟨h0,key _ (yd5 c) h6⟩
 ·obtain rfl:i=5:=by omega
  exact⟨h0,key _ (yd6 c) h6⟩
theorem fsV:zo5 pP [qf2,qd0,z59] :=⟨yu6,yr9,yk2,trivial⟩
theorem xX2(c:C)(v:Bool):∀i:Int,(0≤i∧i≤6∧v=rest c (6-i).toNat)→b8 pP (j7 pP 71) (.bool v) (j9 pP 71 0) (j8 64 [(1,.ptr 0 0),(35,I64 i)]) [some (.cells c.cells)] :=by
 refine y67 (hK fsV) (n:=1000) (hint:=.unit) rfl (fun i:Int=>0≤i∧i≤6∧v=rest c (6-i).toNat) (fun i=>(6-i).toNat) (x8 64 [1,35]) (fun _=>j9 pP 71 0) (fun i=>j8 64 [(1,.ptr 0 0),(35,I64 i)]) (fun _=>[some (.cells c.cells)]) (fun _=>xW5) fun i hi=>?_
 obtain⟨h0,h6,hv⟩:=hi
 rw[xW4]
 refine xX1 h0 _ (fun h=>?_) (fun h hw=>?_) (fun h hw=>?_)
 ·show SV.bool true=SV.bool v
  rw[hv,show(6-i).toNat=0 by omega];rfl
 ·show SV.bool false=SV.bool v
  rw[hv,yZ7 c h0 h]
  simp[hw]
 ·refine⟨o8 _ _,.inl ⟨i+1,⟨by omega,by omega,?_⟩,by omega,rfl,rfl,rfl⟩⟩
  rw[hv,yZ7 c h0 h,hw,Bool.true_and]
theorem s_valid(c:C):SCall pP 71 [c.sv] (.bool c.valid):=by
 refine m6 rfl rfl (by kernel_rfl) (w6 (hK fsV) (n:=1000) (hint:=.unit) (keep:=x8 64 [1,35]) (p:=xW2) (boxes:=[]) rfl ?_)
 have e:=xW1 c
 unfold v9 u7 at e
 erw [e]
 unfold xW3
 have ea:i64.wrap ↑(BitVec.ofInt 64 c.has &&& ~~~BitVec.ofInt 64 (may c.code)).toNat=andNot c.has (may c.code):=rfl
 rw[ea]
 simp only[Tree.holds,Bool.not_eq_true',Bool.not_eq_false',bne_iff_ne,bne_eq_false_iff_eq]
 refine⟨fun h=>?_,fun h=>⟨fun h2=>?_,fun h2=>⟨fun h3=>⟨fun h4=>?_,fun h4=>?_⟩,fun h3=>?_⟩⟩⟩
 ·simp[C.valid,C.pre,h]
 ·simp[C.valid,C.pre,h,h2]
 ·simp[C.valid,C.pre,h,h2,h3,h4]
 ·exact⟨o8 _ _,xX2 c _ 0 ⟨by omega,by omega,by
   have:c.pre=true:=by
    simp only[C.pre,h,h3,h2]
    rw[show(c.has==may c.code)=true by simpa using h4];rfl
   rw[C.valid,this,Bool.true_and];rfl⟩⟩
 ·exact⟨o8 _ _,xX2 c _ 0 ⟨by omega,by omega,by simp[C.valid,C.pre,h,h2,h3]⟩⟩
end Go.Proofs.YtnkaepnblikcdaaGreat.Gc
namespace Go.Proofs.YtnkaepnblikcdaaGreat
open Go.Sx
def V3.cells(v:V3):List SV:=[I64 v.1,I64 v.2.1,I64 v.2.2]
structure Fw where
 ma:Ma
 mode:Int
 homed:Bool
 pos:V4
 loc:V3
 e:Int
 feed:Int
 queue:List Bk
 lines:List Int
 mo:Mo
 moving:Bool
 active:Int
 back:Bool
 ret:V4
 dwell:Int
 waits:Int
 c0:Co
 c1:Co
 g0:Gu
 g1:Gu
 fan:Int
 line:Int
 ticks:Int
 cold:Int
 r0:Int
 r1:Int
def Fw.cells(f:Fw):List SV:=[I64 f.ma.x.num,I64 f.ma.x.den,I64 f.ma.x.speed,I64 f.ma.x.accel,I64 f.ma.x.jerk,I64 f.ma.x.min,I64 f.ma.x.max,I64 f.ma.y.num,I64 f.ma.y.den,I64 f.ma.y.speed,
 I64 f.ma.y.accel,I64 f.ma.y.jerk,I64 f.ma.y.min,I64 f.ma.y.max,I64 f.ma.z.num,I64 f.ma.z.den,I64 f.ma.z.speed,I64 f.ma.z.accel,I64 f.ma.z.jerk,I64 f.ma.z.min,
 I64 f.ma.z.max,I64 f.ma.e.num,I64 f.ma.e.den,I64 f.ma.e.speed,I64 f.ma.e.accel,I64 f.ma.e.jerk,I64 f.ma.e.min,I64 f.ma.e.max,.bool f.ma.xy,I64 f.ma.ticks,
 I64 f.mode,.bool f.homed,I64 f.pos.1,I64 f.pos.2.1,I64 f.pos.2.2.1,I64 f.pos.2.2.2,I64 f.loc.1,I64 f.loc.2.1,I64 f.loc.2.2,I64 f.e,
 I64 f.feed,LB f.queue,LI f.lines,I64 f.mo.1.1.1,I64 f.mo.1.1.2.1,I64 f.mo.1.1.2.2.1,I64 f.mo.1.1.2.2.2,I64 f.mo.1.2.1,I64 f.mo.1.2.2.1,I64 f.mo.1.2.2.2.1,
 I64 f.mo.1.2.2.2.2,I64 f.mo.2.1,I64 f.mo.2.2,.bool f.moving,I64 f.active,.bool f.back,I64 f.ret.1,I64 f.ret.2.1,I64 f.ret.2.2.1,I64 f.ret.2.2.2,
 I64 f.dwell,I64 f.waits,I64 f.c0.target,I64 f.c0.kp,I64 f.c0.ki,I64 f.c0.scale,I64 f.c0.sum,I64 f.c0.limit,I64 f.c1.target,I64 f.c1.kp,
 I64 f.c1.ki,I64 f.c1.scale,I64 f.c1.sum,I64 f.c1.limit,I64 f.g0.low,I64 f.g0.high,I64 f.g0.watch,I64 f.g0.rise,I64 f.g0.band,I64 f.g0.base,
 I64 f.g0.count,I64 f.g0.idle,I64 f.g0.quiet,I64 f.g0.fault,.bool f.g0.door,I64 f.g1.low,I64 f.g1.high,I64 f.g1.watch,I64 f.g1.rise,I64 f.g1.band,
 I64 f.g1.base,I64 f.g1.count,I64 f.g1.idle,I64 f.g1.quiet,I64 f.g1.fault,.bool f.g1.door,I64 f.fan,I64 f.line,I64 f.ticks,I64 f.cold,
 I64 f.r0,I64 f.r1]
def Fw.sv(f:Fw):SV:=.agg f.cells
inductive NilL:SV→SV→Prop where
 |same (x:SV):NilL x x
 |nil (t:Ty):NilL .nilS (.list t [])
def x9:List SV→List SV→Prop
 |[],[] =>True
 |x::xs,y::ys=>NilL x y∧x9 xs ys
 |_,_=>False
theorem x9.refl:∀l:List SV,x9 l l
 |[] =>trivial
 |x::l=>⟨.same x,x9.refl l⟩
theorem x9.append:∀{a b c d:List SV},x9 a b→x9 c d→x9 (a++c) (b++d)
 |[],[],_,_,_,h=>h
 |x::xs,y::ys,_,_,h,k=>⟨h.1,h.2.append k⟩
theorem NilL.rep{R:Nat→Prop}{ρ:Rho}{n:Nat}{w:World}{x y:SV}{v:Value}(h:NilL x y)(hr:Rep R ρ n w x v):Rep R ρ n w y v:=by
 cases h with
 |same=>exact hr
 |nil t=>exact⟨none,0,by rw[show v=_ from hr];rfl,Nat.le_refl _,fun h=>absurd h (Nat.lt_irrefl _)⟩
theorem x9.rep{R:Nat→Prop}{ρ:Rho}{n:Nat}{w:World}:∀{xs ys:List SV} {vs:List Value},x9 xs ys→j6 R ρ n w xs vs→j6 R ρ n w ys vs
 |[],[],_,_,hr=>hr
 |x::xs,y::ys,_,h,hr=>by
  obtain⟨u,us,rfl,h1,h2⟩:=hr
  exact⟨u,us,rfl,h.1.rep h1,h.2.rep h2⟩
theorem xt0{P:Program}{f:FuncId}{cs ds:List SV}{rest:List SV}{v:SV}(hn:x9 cs ds)(h:SCall P f (.agg ds::rest) v):SCall P f (.agg cs::rest) v:=by
 intro m w0 R0 ρ w vs hm hvs
 obtain⟨u,us,rfl,⟨ws,h1,h2⟩,h3⟩:=hvs
 exact h m w0 R0 ρ w _ hm ⟨u,us,rfl,⟨ws,h1,hn.rep h2⟩,h3⟩
def tkI:List SV→Option (Int×List SV)
 |.int .i64 a0::r=>some (a0,r)
 |_=>none
theorem xL1{l r:List SV}{x:Int}(h:tkI l=some (x,r)):x9 l ([I64 x] ++r):=by
 unfold tkI at h
 split at h
 ·cases h;exact x9.refl _
 ·cases h
def tkT:List SV→Option (Bool×List SV)
 |.bool b::r=>some (b,r)
 |_=>none
theorem xM7{l r:List SV}{x:Bool}(h:tkT l=some (x,r)):x9 l ([SV.bool x] ++r):=by
 unfold tkT at h
 split at h
 ·cases h;exact x9.refl _
 ·cases h
def xN0:List SV→Option (V4×List SV)
 |.int .i64 a0::.int .i64 a1::.int .i64 a2::.int .i64 a3::r=>some ((a0,a1,a2,a3),r)
 |_=>none
theorem xN1{l r:List SV}{x:V4}(h:xN0 l=some (x,r)):x9 l (V4.cells x++r):=by
 unfold xN0 at h
 split at h
 ·cases h;exact x9.refl _
 ·cases h
def xM8:List SV→Option (V3×List SV)
 |.int .i64 a0::.int .i64 a1::.int .i64 a2::r=>some ((a0,a1,a2),r)
 |_=>none
theorem xM9{l r:List SV}{x:V3}(h:xM8 l=some (x,r)):x9 l (V3.cells x++r):=by
 unfold xM8 at h
 split at h
 ·cases h;exact x9.refl _
 ·cases h
def xL5:List SV→Option (Mo×List SV)
 |.int .i64 a0::.int .i64 a1::.int .i64 a2::.int .i64 a3::.int .i64 a4::.int .i64 a5::.int .i64 a6::.int .i64 a7::.int .i64 a8::.int .i64 a9::r=>some ((((a0,a1,a2,a3),a4,a5,a6,a7),a8,a9),r)
 |_=>none
theorem xL6{l r:List SV}{x:Mo}(h:xL5 l=some (x,r)):x9 l (Mo.cells x++r):=by
 unfold xL5 at h
 split at h
 ·cases h;exact x9.refl _
 ·cases h
def xK5:List SV→Option (Co×List SV)
 |.int .i64 a0::.int .i64 a1::.int .i64 a2::.int .i64 a3::.int .i64 a4::.int .i64 a5::r=>some (⟨a0,a1,a2,a3,a4,a5⟩,r)
 |_=>none
theorem xK6{l r:List SV}{x:Co}(h:xK5 l=some (x,r)):x9 l (Co.cells x++r):=by
 unfold xK5 at h
 split at h
 ·cases h;exact x9.refl _
 ·cases h
def xK9:List SV→Option (Gu×List SV)
 |.int .i64 a0::.int .i64 a1::.int .i64 a2::.int .i64 a3::.int .i64 a4::.int .i64 a5::.int .i64 a6::.int .i64 a7::.int .i64 a8::.int .i64 a9::.bool d::r=>some (⟨a0,a1,a2,a3,a4,a5,a6,a7,a8,a9,d⟩,r)
 |_=>none
theorem xL0{l r:List SV}{x:Gu}(h:xK9 l=some (x,r)):x9 l (Gu.cells x++r):=by
 unfold xK9 at h
 split at h
 ·cases h;exact x9.refl _
 ·cases h
def xK3:List SV→Option (Ax×List SV)
 |.int .i64 a0::.int .i64 a1::.int .i64 a2::.int .i64 a3::.int .i64 a4::.int .i64 a5::.int .i64 a6::r=>some (⟨a0,a1,a2,a3,a4,a5,a6⟩,r)
 |_=>none
theorem xK4{l r:List SV}{x:Ax}(h:xK3 l=some (x,r)):x9 l (Ax.cells x++r):=by
 unfold xK3 at h
 split at h
 ·cases h;exact x9.refl _
 ·cases h
def tkQ:List SV→Option (List Bk×List SV)
 |.list (.pair (.pair (.int .i64) (.pair (.int .i64) (.pair (.int .i64) (.int .i64)))) (.pair (.int .i64) (.pair (.int .i64) (.pair (.int .i64) (.int .i64))))) l::r=>some (l,r)
 |.nilS::r=>some ([],r)
 |_=>none
theorem xM6{l r:List SV}{x:List Bk}(h:tkQ l=some (x,r)):x9 l ([LB x] ++r):=by
 unfold tkQ at h
 split at h
 ·cases h;exact x9.refl _
 ·cases h;exact⟨.nil _,x9.refl _⟩
 ·cases h
def tkL:List SV→Option (List Int×List SV)
 |.list (.int .i64) l::r=>some (l,r)
 |.nilS::r=>some ([],r)
 |_=>none
theorem xL2{l r:List SV}{x:List Int}(h:tkL l=some (x,r)):x9 l ([LI x] ++r):=by
 unfold tkL at h
 split at h
 ·cases h;exact x9.refl _
 ·cases h;exact⟨.nil _,x9.refl _⟩
 ·cases h
theorem NilL.trans{x y z:SV}(h:NilL x y)(k:NilL y z):NilL x z:=by
 cases h with
 |same=>exact k
 |nil t=>cases k;exact .nil t
theorem x9.trans:∀{a b c:List SV},x9 a b→x9 b c→x9 a c
 |[],[],[],_,_=>trivial
 |_::_,_::_,_::_,h,k=>⟨h.1.trans k.1,x9.trans h.2 k.2⟩
def xL3(l:List SV):Option (Ma×List SV):=
 match xK3 l with
 |none=>none
 |some (x,l1)=>
   match xK3 l1 with
   |none=>none
   |some (y,l2)=>
     match xK3 l2 with
     |none=>none
     |some (z,l3)=>
       match xK3 l3 with
       |none=>none
       |some (e,l4)=>
         match tkT l4 with
         |none=>none
         |some (b,l5)=>
           match tkI l5 with
           |none=>none
           |some (t,l6)=>
             some (⟨x,y,z,e,b,t⟩,l6)
theorem xL4{l r:List SV}{x:Ma}(h:xL3 l=some (x,r)):x9 l (Ma.cells x++r):=by
 unfold xL3 at h
 split at h
 ·cases h
 rename_i x l1 h1
 split at h
 ·cases h
 rename_i y l2 h2
 split at h
 ·cases h
 rename_i z l3 h3
 split at h
 ·cases h
 rename_i e l4 h4
 split at h
 ·cases h
 rename_i b l5 h5
 split at h
 ·cases h
 rename_i t l6 h6
 cases h
 have k6:=xL1 h6
 have k5:=x9.trans (xM7 h5) (x9.append (x9.refl _) k6)
 have k4:=x9.trans (xK4 h4) (x9.append (x9.refl _) k5)
 have k3:=x9.trans (xK4 h3) (x9.append (x9.refl _) k4)
 have k2:=x9.trans (xK4 h2) (x9.append (x9.refl _) k3)
 have k1:=x9.trans (xK4 h1) (x9.append (x9.refl _) k2)
 exact k1
def xK7(l:List SV):Option (Fw×List SV):=
 match xL3 l with
 |none=>none
 |some (y0,l1)=>
   match tkI l1 with
   |none=>none
   |some (y1,l2)=>
     match tkT l2 with
     |none=>none
     |some (y2,l3)=>
       match xN0 l3 with
       |none=>none
       |some (y3,l4)=>
         match xM8 l4 with
         |none=>none
         |some (y4,l5)=>
           match tkI l5 with
           |none=>none
           |some (y5,l6)=>
             match tkI l6 with
             |none=>none
             |some (y6,l7)=>
               match tkQ l7 with
               |none=>none
               |some (y7,l8)=>
                 match tkL l8 with
                 |none=>none
                 |some (y8,l9)=>
                   match xL5 l9 with
                   |none=>none
                   |some (y9,l10)=>
                     match tkT l10 with
                     |none=>none
                     |some (y10,l11)=>
                       match tkI l11 with
                       |none=>none
                       |some (y11,l12)=>
                         match tkT l12 with
                         |none=>none
                         |some (y12,l13)=>
                           match xN0 l13 with
                           |none=>none
                           |some (y13,l14)=>
                             match tkI l14 with
                             |none=>none
                             |some (y14,l15)=>
                               match tkI l15 with
                               |none=>none
                               |some (y15,l16)=>
                                 match xK5 l16 with
                                 |none=>none
                                 |some (y16,l17)=>
                                   match xK5 l17 with
                                   |none=>none
                                   |some (y17,l18)=>
                                     match xK9 l18 with
                                     |none=>none
                                     |some (y18,l19)=>
                                       match xK9 l19 with
                                       |none=>none
                                       |some (y19,l20)=>
                                         match tkI l20 with
                                         |none=>none
                                         |some (y20,l21)=>
                                           match tkI l21 with
                                           |none=>none
                                           |some (y21,l22)=>
                                             match tkI l22 with
                                             |none=>none
                                             |some (y22,l23)=>
                                               match tkI l23 with
                                               |none=>none
                                               |some (y23,l24)=>
                                                 match tkI l24 with
                                                 |none=>none
                                                 |some (y24,l25)=>
                                                   match tkI l25 with
                                                   |none=>none
                                                   |some (y25,l26)=>
                                                     some (⟨y0,y1,y2,y3,y4,y5,y6,y7,y8,y9,y10,y11,y12,y13,y14,y15,y16,y17,y18,y19,y20,y21,y22,y23,y24,y25⟩,l26)
theorem xK8{l r:List SV}{x:Fw}(h:xK7 l=some (x,r)):x9 l (Fw.cells x++r):=by
 unfold xK7 at h
 split at h
 ·cases h
 rename_i y0 l1 h1
 split at h
 ·cases h
 rename_i y1 l2 h2
 split at h
 ·cases h
 rename_i y2 l3 h3
 split at h
 ·cases h
 rename_i y3 l4 h4
 split at h
 ·cases h
 rename_i y4 l5 h5
 split at h
 ·cases h
 rename_i y5 l6 h6
 split at h
 ·cases h
 rename_i y6 l7 h7
 split at h
 ·cases h
 rename_i y7 l8 h8
 split at h
 ·cases h
 rename_i y8 l9 h9
 split at h
 ·cases h
 rename_i y9 l10 h10
 split at h
 ·cases h
 rename_i y10 l11 h11
 split at h
 ·cases h
 rename_i y11 l12 h12
 split at h
 ·cases h
 rename_i y12 l13 h13
 split at h
 ·cases h
 rename_i y13 l14 h14
 split at h
 ·cases h
 rename_i y14 l15 h15
 split at h
 ·cases h
 rename_i y15 l16 h16
 split at h
 ·cases h
 rename_i y16 l17 h17
 split at h
 ·cases h
 rename_i y17 l18 h18
 split at h
 ·cases h
 rename_i y18 l19 h19
 split at h
 ·cases h
 rename_i y19 l20 h20
 split at h
 ·cases h
 rename_i y20 l21 h21
 split at h
 ·cases h
 rename_i y21 l22 h22
 split at h
 ·cases h
 rename_i y22 l23 h23
 split at h
 ·cases h
 rename_i y23 l24 h24
 split at h
 ·cases h
 rename_i y24 l25 h25
 split at h
 ·cases h
 rename_i y25 l26 h26
 cases h
 have k26:=xL1 h26
 have k25:=x9.trans (xL1 h25) (x9.append (x9.refl _) k26)
 have k24:=x9.trans (xL1 h24) (x9.append (x9.refl _) k25)
 have k23:=x9.trans (xL1 h23) (x9.append (x9.refl _) k24)
 have k22:=x9.trans (xL1 h22) (x9.append (x9.refl _) k23)
 have k21:=x9.trans (xL1 h21) (x9.append (x9.refl _) k22)
 have k20:=x9.trans (xL0 h20) (x9.append (x9.refl _) k21)
 have k19:=x9.trans (xL0 h19) (x9.append (x9.refl _) k20)
 have k18:=x9.trans (xK6 h18) (x9.append (x9.refl _) k19)
 have k17:=x9.trans (xK6 h17) (x9.append (x9.refl _) k18)
 have k16:=x9.trans (xL1 h16) (x9.append (x9.refl _) k17)
 have k15:=x9.trans (xL1 h15) (x9.append (x9.refl _) k16)
 have k14:=x9.trans (xN1 h14) (x9.append (x9.refl _) k15)
 have k13:=x9.trans (xM7 h13) (x9.append (x9.refl _) k14)
 have k12:=x9.trans (xL1 h12) (x9.append (x9.refl _) k13)
 have k11:=x9.trans (xM7 h11) (x9.append (x9.refl _) k12)
 have k10:=x9.trans (xL6 h10) (x9.append (x9.refl _) k11)
 have k9:=x9.trans (xL2 h9) (x9.append (x9.refl _) k10)
 have k8:=x9.trans (xM6 h8) (x9.append (x9.refl _) k9)
 have k7:=x9.trans (xL1 h7) (x9.append (x9.refl _) k8)
 have k6:=x9.trans (xL1 h6) (x9.append (x9.refl _) k7)
 have k5:=x9.trans (xM9 h5) (x9.append (x9.refl _) k6)
 have k4:=x9.trans (xN1 h4) (x9.append (x9.refl _) k5)
 have k3:=x9.trans (xM7 h3) (x9.append (x9.refl _) k4)
 have k2:=x9.trans (xL1 h2) (x9.append (x9.refl _) k3)
 have k1:=x9.trans (xL4 h1) (x9.append (x9.refl _) k2)
 exact k1
def zq3(l:List SV):Option Fw:=match xK7 l with
 |some (f,r)=>match r with
  |[] =>some f
  |_=>none
 |none=>none
theorem zq4{l:List SV}{f:Fw}(h:zq3 l=some f):x9 l f.cells:=by
 unfold zq3 at h
 split at h
 ·split at h
  ·rename_i h1
   injection h with h;subst h
   have:=xK8 h1
   rwa [List.append_nil]at this
  ·cases h
 ·cases h
def qh8(f:FuncId)(h:Fw→List SV→Option (Tree SV)):Fact:=⟨f,fun args=>match args with
 |.agg l::rest=>match zq3 l with
  |some x=>h x rest
  |none=>none
 |_=>none⟩
theorem xs4{P:Program}{f:FuncId}{a b:List SV}(h:∀v,SCall P f a v→SCall P f b v):∀t:Tree SV,t.says (SCall P f a)→t.says (SCall P f b)
 |.leaf v,k=>h v k
 |.node _ t u,k=>⟨fun hb=>xs4 h t (k.1 hb),fun hb=>xs4 h u (k.2 hb)⟩
 |.req _ t,k=>fun hb=>xs4 h t (k hb)
 |.fail _,_=>trivial
theorem qh9{P:Program}{f:FuncId}{h:Fw→List SV→Option (Tree SV)}(k:∀x rest t,h x rest=some t→t.says (SCall P f (x.sv::rest))):(qh8 f h).ok P:=fun args t ht=>by
 simp only[qh8]at ht
 split at ht
 ·split at ht
  ·rename_i hx
   exact xs4 (fun v hv=>xt0 (zq4 hx) hv) t (k _ _ _ ht)
  ·cases ht
 ·cases ht
def qg6(f:FuncId)(h:Fw→Tree SV):Fact:=qh8 f fun x rest=>match rest with
 |[] =>some (h x)
 |_=>none
theorem qg7{P:Program}{f:FuncId}{h:Fw→Tree SV}(k:∀x,(h x).says (SCall P f [x.sv])):(qg6 f h).ok P:=qh9 fun x rest t ht=>by
 split at ht
 ·injection ht with ht;subst ht;exact k x
 ·cases ht
def yK0(f:Fw):Bool:=f.ma.ok&& (f.c0.ok&& (f.c1.ok&& (f.g0.ok&&f.g1.ok)))
theorem yK1{f:Fw}:yK0 f=true↔f.ma.ok=true∧f.c0.ok=true∧f.c1.ok=true∧f.g0.ok=true∧f.g1.ok=true:=by simp only[yK0,Bool.and_eq_true]
def far(n:Int):Bool:=inR n (-16777216) 16777216
def q44(f:Fw):Bool:=inR f.mode 1 3
def yd9(f:Fw):Bool:=far f.loc.1&& (far f.loc.2.1&& (far f.loc.2.2&& (far f.e&& (inR f.feed 0 1048576&& (inR f.dwell 0 1048576&& (inR f.waits 0 3&& (inR f.fan 0 255&& (inR f.line 0 1099511627776&& (inR f.active 0 1099511627776&& (inR f.ticks 0 1099511627776&&inR f.cold 0 400000))))))))))
theorem ye0{f:Fw}:yd9 f=true↔(-16777216≤f.loc.1∧f.loc.1≤16777216)∧(-16777216≤f.loc.2.1∧f.loc.2.1≤16777216)∧(-16777216≤f.loc.2.2∧f.loc.2.2≤16777216)∧(-16777216≤f.e∧f.e≤16777216)∧(0≤f.feed∧f.feed≤1048576)∧(0≤f.dwell∧f.dwell≤1048576)∧(0≤f.waits∧f.waits≤3)∧(0≤f.fan∧f.fan≤255)∧(0≤f.line∧f.line≤1099511627776)∧(0≤f.active∧f.active≤1099511627776)∧(0≤f.ticks∧f.ticks≤1099511627776)∧0≤f.cold∧f.cold≤400000:=by simp only[yd9,far,Bool.and_eq_true,v8]
def q41(f:Fw):Bool:=q44 f&&yd9 f
theorem q42{f:Fw}:q41 f=true↔(1≤f.mode∧f.mode≤3)∧yd9 f=true:=by simp only[q41,q44,Bool.and_eq_true,v8]
theorem xj7(f:Fw):SCall pP 86 [f.sv] (.bool (yK0 f)):=
 o9 mix [z93,z46,z73] ⟨yn4,yj0,yl6,trivial⟩ 1000 (.fork (.ln 4 (.fork (.ln 4 (.fork (.ln 4 (.fork (.ln 3 (.lit .all)) (.ln 3 (.lit .all)))) (.ln 8 (.lit .all)))) (.ln 13 (.lit .all)))) (.ln 18 (.lit .all)))
  (t:=.node (f.ma.ok)
 (.req (true) (.node (f.c0.ok)
   (.req (true) (.node (f.c1.ok)
     (.req (true) (.node (f.g0.ok)
       (.req (true) (.leaf (SV.bool f.g1.ok)))
       (.leaf (SV.bool false))))
     (.leaf (SV.bool false))))
   (.leaf (SV.bool false))))
 (.leaf (SV.bool false)))
   (by kernel_rfl) (by simp only[Tree.holds,sL,ne_eq,sLb,sLc,eq_self,sLd,sLe,sLf];(repeat' (first|apply And.intro|intro _));all_goals(refine qF4 ?_;rw[yK1];(try simp only[sL,ne_eq,sLb,sLc,eq_self,sLd,sLe,sLf]); first|omega|grind)) (by kernel_rfl) (by kernel_rfl)
theorem xi8(f:Fw):SCall pP 87 [f.sv] (.bool (q41 f)):=
 o9 mix [] trivial 1000 (let z1:Plan:=.ln 10 (.lit .all);let z0:Plan:=.fork (.ln 3 (.fork (.ln 16 (.lit .all)) (.ln 3 (.fork (.ln 5 (.fork z1 (.ln 3 (.fork (.ln 5 (.fork (.ln 4 (.lit .all)) (.lit (.lit (.fork (.ln 5 (.fork .all (.fork (.ln 3 (.fork (.ln 14 (.lit .all)) (.lit (.lit (.fork (.ln 5 (.fork (.ln 9 (.lit .all)) (.lit (.lit (.fork (.ln 5 (.fork (.ln 4 (.lit .all)) (.lit (.lit (.fork (.ln 5 (.fork .all (.fork (.ln 3 (.fork (.lit (.lit (.fork (.ln 4 (.fork (.lit (.lit (.fork (.ln 4 (.fork (.lit (.lit (.fork (.ln 3 (.lit .all)) (.ln 3 (.lit .all))))) (.lit (.lit (.lit .all))))) (.ln 7 (.lit .all))))) (.ln 6 (.lit .all)))) (.ln 11 (.lit .all))))) z1)) (.ln 14 (.lit .all))))) (.ln 5 (.lit .all))))))) z1))))) (.ln 15 (.lit .all))))))) (.ln 18 (.lit .all))))) (.ln 5 (.lit .all))))))) z1)))) (.ln 16 (.lit .all)))))) (.ln 20 (.lit .all));.fork (.ln 3 (.fork (.ln 3 (.fork .all z0)) (.ln 4 z0))) (.ln 8 z0))
  (t:=let y1:Tree SV:=.leaf (.bool false);let y0:Tree SV:=.node (decide (f.loc.1≥-16777216)) (.node (!decide (f.loc.1≤16777216)) y1 (.node (decide (f.loc.2.1≥-16777216)) (.node (!decide (f.loc.2.1≤16777216)) y1 (.node (decide (f.loc.2.2≥-16777216)) (.node (!decide (f.loc.2.2≤16777216)) y1 (.node (decide (f.e≥-16777216)) (.node (!decide (f.e≤16777216)) y1 (.node (decide (f.feed≥0)) (.node (!decide (f.feed≤1048576)) y1 (.node (decide (f.dwell≥0)) (.node (!decide (f.dwell≤1048576)) y1 (.node (decide (f.waits≥0)) (.node (!decide (f.waits≤3)) y1 (.node (decide (f.fan≥0)) (.node (!decide (f.fan≤255)) y1 (.node (decide (f.line≥0)) (.node (decide (f.line≤1099511627776)) (.node (decide (f.active≥0)) (.node (decide (f.active≤1099511627776)) (.node (decide (f.ticks≥0)) (.node (decide (f.ticks≤1099511627776)) (.node (decide (f.cold≥0)) (.leaf (.bool (decide (f.cold≤400000)))) y1) y1) y1) y1) y1) y1) y1)) y1)) y1)) y1)) y1)) y1)) y1)) y1)) y1;.node (f.mode != 1) (.node (f.mode != 2) (.node (f.mode != 3) y1 y0) y0) y0)
  (by kernel_rfl) (by simp only[Tree.holds,sL,ne_eq,sLb,sLc,eq_self,sLd,sLe,sLf];(repeat' (first|apply And.intro|intro _));all_goals(refine qF4 ?_;rw[q42,ye0];(try simp only[sL,ne_eq,sLb,sLc,eq_self,sLd,sLe,sLf]); first|omega|grind)) (by kernel_rfl) (by kernel_rfl)
theorem xi5(c:V4):SCall pP 184 [V4.sv c] (.bool (v7 c)):=
 o9 mix [] trivial 1000 (.go (.lit (.fork (.ln 3 (.fork .all (.go (.lit (.fork (.ln 3 (.fork .all (.go (.lit (.fork (.ln 3 (.fork .all (.go (.lit (.fork (.ln 3 (.fork .all (.go (.lit .all)))) (.ln 3 (.lit .all))))))) (.ln 3 (.lit .all))))))) (.ln 3 (.lit .all))))))) (.ln 3 (.lit .all)))))
  (t:=let y0:Tree SV:=.leaf (.bool false);.req (true) (.node (decide (c.1≥-16777216)) (.node (!decide (c.1≤16777216)) y0 (.req true (.node (decide (c.2.1≥-16777216)) (.node (!decide (c.2.1≤16777216)) y0 (.req true (.node (decide (c.2.2.1≥-16777216)) (.node (!decide (c.2.2.1≤16777216)) y0 (.req true (.node (decide (c.2.2.2≥-16777216)) (.node (!decide (c.2.2.2≤16777216)) y0 (.leaf (.bool true))) y0))) y0))) y0))) y0))
  (by kernel_rfl) (by simp only[Tree.holds,sL,ne_eq,sLb,sLc,eq_self,sLd,sLe,sLf];(repeat' (first|apply And.intro|intro _));all_goals(refine qF4 ?_;rw[t8];(try simp only[sL,ne_eq,sLb,sLc,eq_self,sLd,sLe,sLf]); first|omega|grind)) (by kernel_rfl) (by kernel_rfl)
def zz3(c:V4):Bool:=in4 1152921504606846976 c
theorem zz4{c:V4}:zz3 c=true↔(-1152921504606846976≤c.1∧c.1≤1152921504606846976)∧(-1152921504606846976≤c.2.1∧c.2.1≤1152921504606846976)∧(-1152921504606846976≤c.2.2.1∧c.2.2.1≤1152921504606846976)∧-1152921504606846976≤c.2.2.2∧c.2.2.2≤1152921504606846976:=qK7
theorem q04(m:Mo):in4 562949970198528 (q02 m)=true:=by
 rw[qK7]
 by_cases h:xW7 m.1=true∧0≤m.2.1∧m.2.1≤dom m.1.1
 ·rw[q05 h];have:=zr1 m.1.1 m.2.1;omega
 ·rw[q03 h];decide
def qb4:Fact:=qg6 86 fun f=>.leaf (.bool (yK0 f))
theorem yq0:qb4.ok pP:=qg7 (fun f=>xj7 f)
def qa3:Fact:=qg6 87 fun f=>.leaf (.bool (q41 f))
theorem yo6:qa3.ok pP:=qg7 (fun f=>xi8 f)
def qa0:Fact:=qm8 184 fun c=>.leaf (.bool (v7 c))
theorem yo2:qa0.ok pP:=qn3 (xi5)
def m8(a b:V4):V4:=(i64.wrap (a.1+b.1),i64.wrap (a.2.1+b.2.1),i64.wrap (a.2.2.1+b.2.2.1),i64.wrap (a.2.2.2+b.2.2.2))
def wsub4(a b:V4):V4:=(i64.wrap (a.1-b.1),i64.wrap (a.2.1-b.2.1),i64.wrap (a.2.2.1-b.2.2.1),i64.wrap (a.2.2.2-b.2.2.2))
theorem x03{a b:V4}(ha:zz3 a=true)(hb:zz3 b=true):m8 a b=r8 a b:=by
 rw[zz4]at ha hb
 unfold m8 r8
 rw[w64 (x:=a.1+b.1) (by omega) (by omega),w64 (x:=a.2.1+b.2.1) (by omega) (by omega),w64 (x:=a.2.2.1+b.2.2.1) (by omega) (by omega),w64 (x:=a.2.2.2+b.2.2.2) (by omega) (by omega)]
theorem x48{a b:V4}(ha:zz3 a=true)(hb:zz3 b=true):wsub4 a b=xE8 a b:=by
 rw[zz4]at ha hb
 unfold wsub4 xE8
 rw[w64 (x:=a.1-b.1) (by omega) (by omega),w64 (x:=a.2.1-b.2.1) (by omega) (by omega),w64 (x:=a.2.2.1-b.2.2.1) (by omega) (by omega),w64 (x:=a.2.2.2-b.2.2.2) (by omega) (by omega)]
theorem xk3(a b:V4):SCall pP 137 [V4.sv a,V4.sv b] (V4.sv (m8 a b)):=
 o9 mix [] trivial 1000 (.go (.lit (.go (.lit (.go (.lit (.go (.lit (.go (.lit (.all)))))))))))
  (t:=.req (true) (.req true (.req (true) (.req true (.req (true) (.req true (.req (true) (.req true (.req (true) (.req true (.req (true) (.req true (.leaf (.agg [.int .i64 (i64.wrap (a.1+b.1)),.int .i64 (i64.wrap (a.2.1+b.2.1)),.int .i64 (i64.wrap (a.2.2.1+b.2.2.1)),.int .i64 (i64.wrap (a.2.2.2+b.2.2.2))]))))))))))))))
  (by kernel_rfl) (by simp only[Tree.holds,sL,ne_eq,sLb,sLc,eq_self,sLd,sLe,sLf];exact rfl) (by kernel_rfl) (by kernel_rfl)
def qb6:Fact:=qn1 137 fun a b=>.leaf (V4.sv (m8 a b))
theorem yq2:qb6.ok pP:=qn2 (fun a b=>xk3 a b)
theorem xh3(a b:V4):SCall pP 209 [V4.sv a,V4.sv b] (V4.sv (wsub4 a b)):=
 o9 mix [] trivial 1000 (.go (.lit (.go (.lit (.go (.lit (.go (.lit (.go (.lit (.all)))))))))))
  (t:=.req (true) (.req true (.req (true) (.req true (.req (true) (.req true (.req (true) (.req true (.req (true) (.req true (.req (true) (.req true (.leaf (.agg [.int .i64 (i64.wrap (a.1-b.1)),.int .i64 (i64.wrap (a.2.1-b.2.1)),.int .i64 (i64.wrap (a.2.2.1-b.2.2.1)),.int .i64 (i64.wrap (a.2.2.2-b.2.2.2))]))))))))))))))
  (by kernel_rfl) (by simp only[Tree.holds,sL,ne_eq,sLb,sLc,eq_self,sLd,sLe,sLf];exact rfl) (by kernel_rfl) (by kernel_rfl)
def z95:Fact:=qn1 209 fun a b=>.leaf (V4.sv (wsub4 a b))
theorem yn7:z95.ok pP:=qn2 (fun a b=>xh3 a b)
def m0B(m:Mo):Bool:=inR m.1.1.1 0 0&& (inR m.1.1.2.1 0 0&& (inR m.1.1.2.2.1 0 0&& (inR m.1.1.2.2.2 0 0&& (inR m.1.2.1 0 0&& (inR m.1.2.2.1 0 0&& (inR m.1.2.2.2.1 0 0&& (inR m.1.2.2.2.2 0 0&& (inR m.2.1 0 0&&inR m.2.2 0 0))))))))
theorem q01{m:Mo}:m0B m=true↔m.1.1.1=0∧m.1.1.2.1=0∧m.1.1.2.2.1=0∧m.1.1.2.2.2=0∧m.1.2.1=0∧m.1.2.2.1=0∧m.1.2.2.2.1=0∧m.1.2.2.2.2=0∧m.2.1=0∧m.2.2=0:=by
 have z:∀n:Int,inR n 0 0=true↔n=0:=fun n=>by rw[v8];omega
 simp only[m0B,Bool.and_eq_true,z]
def xC5(f:Fw):Bool:=m0B f.mo&&inR f.active 0 0
theorem xC6{f:Fw}:xC5 f=true↔m0B f.mo=true∧f.active=0:=by
 have z:∀n:Int,inR n 0 0=true↔n=0:=fun n=>by rw[v8];omega
 simp only[xC5,Bool.and_eq_true,z]
def q66(f:Fw):Bool:=match f.moving with
 |true=>y65 f.mo f.ma.ticks
 |false=>xC5 f
theorem q68{f:Fw}(h:f.moving=true):q66 f=y65 f.mo f.ma.ticks:=by unfold q66;rw[h]
theorem q67{f:Fw}(h:f.moving=false):q66 f=xC5 f:=by unfold q66;rw[h]
def begin4(f:Fw):V4:=match f.moving with
 |true=>xE8 f.pos (q02 f.mo)
 |false=>f.pos
theorem zy9{f:Fw}(h:f.moving=true):begin4 f=xE8 f.pos (q02 f.mo):=by unfold begin4;rw[h]
theorem zy8{f:Fw}(h:f.moving=false):begin4 f=f.pos:=by unfold begin4;rw[h]
theorem xi0(f:Fw):SCall pP 88 [f.sv] (.bool (q66 f)):=
 o9 mix [qf1,z54,z83] ⟨yt9,yj7,ym6,trivial⟩ 1000 (.fork (.fork (.lit (.lit (.lit .all))) (.lit (.lit (.lit .all)))) (.fork (.ln 9 (.lit .all)) (.ln 7 (.fork (.ln 5 (.fork .all (.fork (.lit (.lit (.lit .all))) (.lit (.lit (.lit .all)))))) (.ln 5 (.lit .all))))))
  (t:=.node (!f.moving) (.node (f.mo.1.1.1==0&& (f.mo.1.1.2.1==0&& (f.mo.1.1.2.2.1==0&& (f.mo.1.1.2.2.2==0&&true)))&& (f.mo.1.2.1==0&& (f.mo.1.2.2.1==0&& (f.mo.1.2.2.2.1==0&& (f.mo.1.2.2.2.2==0&&true))))&& (f.mo.2.1==0&& (f.mo.2.2==0&&true))) (.leaf (.bool (f.active==0))) (.leaf (.bool false))) (.node (!xW7 f.mo.1) (.leaf (.bool false)) (.node (decide (f.mo.2.1≥0)) (.node (!decide (f.mo.2.1≤i64.wrap (dom f.mo.1.1-1))) (.leaf (.bool false)) (.node (decide (f.mo.2.2≥1)) (.leaf (.bool (decide (f.mo.2.2≤ivl f.mo.1 (i64.wrap (f.mo.2.1+1)) f.ma.ticks)))) (.leaf (.bool false)))) (.leaf (.bool false)))))
  (by kernel_rfl) (by
   have iv:=qP2 f.mo.1 (f.mo.2.1+1) f.ma.ticks
   have dr:=zU0 f.mo.1.1
   have w1:=w64 (x:=dom f.mo.1.1-1) (by omega) (by omega)
   have w2:0≤f.mo.2.1∧f.mo.2.1≤dom f.mo.1.1-1→i64.wrap (f.mo.2.1+1)=f.mo.2.1+1:=fun h=>w64 (by omega) (by omega)
   have rm:=y66 (m:=f.mo) (t:=f.ma.ticks)
   have st:=xC6 (f:=f)
   have m0:=q01 (m:=f.mo)
   cases hm:f.moving
   ·rw[q67 hm]
    simp only[Tree.holds,hm,sL,ne_eq,sLb,sLc,eq_self,sLd,sLe,sLf];(repeat' (first|apply And.intro|intro _));
    all_goals(refine qF4 ?_;rw[st,m0];(try simp only[sL,ne_eq,sLb,sLc,eq_self,sLd,sLe,sLf]);first|omega|grind)
   ·rw[q68 hm]
    simp only[Tree.holds,hm,w1,sL,ne_eq,sLb,sLc,eq_self,sLd,sLe,sLf];(repeat' (first|apply And.intro|intro _));
    all_goals(refine qF4 ?_;rw[rm];(try simp only[sL,ne_eq,sLb,sLc,eq_self,sLd,sLe,sLf]);first|omega|grind)) (by kernel_rfl) (by kernel_rfl)
theorem y94(f:Fw)(h:zz3 f.pos=true):SCall pP 136 [f.sv] (V4.sv (begin4 f)):=
 o9 mix [z95,z94] ⟨yn7,yn5,trivial⟩ 1000 (.fork (.all) (.all))
  (t:=.node (!f.moving) (.leaf (.agg [.int .i64 f.pos.1,.int .i64 f.pos.2.1,.int .i64 f.pos.2.2.1,.int .i64 f.pos.2.2.2])) (.leaf (.agg [.int .i64 (wsub4 f.pos (q02 f.mo)).1,.int .i64 (wsub4 f.pos (q02 f.mo)).2.1,.int .i64 (wsub4 f.pos (q02 f.mo)).2.2.1,.int .i64 (wsub4 f.pos (q02 f.mo)).2.2.2])))
  (by kernel_rfl) (by
   have mr:=qK7.1 (q04 f.mo)
   have hb:zz3 (q02 f.mo)=true:=zz4.2 (by omega)
   cases hm:f.moving
   ·rw[zy8 hm]
    simp only[Tree.holds,hm,sL,ne_eq,sLb,sLc,eq_self,sLd,sLe,sLf];first|rfl|(intros;rfl)
   ·rw[zy9 hm]
    simp only[Tree.holds,hm,sL,ne_eq,sLb,sLc,eq_self,sLd,sLe,sLf]
    rw[x48 h hb];rfl) (by kernel_rfl) (by kernel_rfl)
def z97:Fact:=qg6 88 fun f=>.leaf (.bool (q66 f))
theorem yn9:z97.ok pP:=qg7 (fun f=>xi0 f)
def z39:Fact:=qg6 136 fun f=>.req (zz3 f.pos) (.leaf (V4.sv (begin4 f)))
theorem yh9:z39.ok pP:=qg7 (fun f h=>y94 f h)
def yR9:Plan:=.fork (.ln 17 (.lit .all)) (.ln 7 (.fork (.ln 9 (.lit .all)) (.ln 4 (.fork (.ln 4 (.lit .all)) (.ln 4 (.fork .all (.fork .all (.fork .all .all))))))))
noncomputable def yS0(f:Fw):Tree Stop:=let y0:Tree Stop:=.leaf (.done (.bool false));let y1:=m8 (begin4 f) f.mo.1.1; .node (decide ((↑f.queue.length:Int)>32)) y0 (.node ((↑f.lines.length:Int) !=(↑f.queue.length:Int)) y0 (.node (!v7 f.pos) y0 (.node (!v7 f.ret) y0 (.req (zz3 f.pos) (.node (!v7 (begin4 f)) y0 (.node (!v7 y1) y0 (.leaf (.at (j9 pP 89 0) 75 (j8 75 [(1,.ptr 0 0),(3,.ptr 1 0),(46,.list t6 f.queue),(47,.int .i64 (↑f.queue.length:Int)),(48,.int .i64 0)]) [some (.cells (Fw.cells f)),some (.cells [.int .i64 y1.1,.int .i64 y1.2.1,.int .i64 y1.2.2.1,.int .i64 y1.2.2.2])]))))))))
theorem qp0(f:Fw):w9 (Env.of pP (v6 [qa0,z39,qb6,qf1])) 1000 (j7 pP 89) .unit (x8 75 [1,3,46,47,48]) (u7 pP 89) yR9 (v9 pP 89 [f.sv]) [] =yS0 f:=by kernel_rfl
def yS1:Plan:=.fork (.fork (.ln 11 (.lit .all)) (.ln 5 (.fork (.ln 5 (.fork (.ln 3 (.lit .all)) (.ln 3 (.fork .all .all)))) (.ln 9 (.lit .all))))) .all
noncomputable def yS2(f:Fw)(p:V4)(n i:Int):Tree Stop:=let y0:=m8 p (f.queue.getD i.toNat dBk).1;let y1:Tree Stop:=.leaf (.done (.bool false)); .node (decide (i<n)) (.req (decide (0≤i)&&decide (i< (↑f.queue.length:Int))) (.node (!xW7 (f.queue.getD i.toNat dBk)) y1 (.req (decide (0≤i)&&decide (i< (↑f.lines.length:Int))) (.node (decide (f.lines.getD i.toNat 0≥0)) (.node (!decide (f.lines.getD i.toNat 0≤1099511627776)) y1 (.node (!v7 y0) y1 (.leaf (.at (j9 pP 89 0) 75 (j8 75 [(1,.ptr 0 0),(3,.ptr 1 0),(46,.list t6 f.queue),(47,.int .i64 n),(48,.int .i64 (i64.wrap (i+1)))]) [some (.cells (Fw.cells f)),some (.cells [.int .i64 y0.1,.int .i64 y0.2.1,.int .i64 y0.2.2.1,.int .i64 y0.2.2.2])])))) y1)))) (.leaf (.done (.bool true)))
theorem qp1(f:Fw)(p:V4)(n i:Int):w9 (Env.of pP (v6 [qa0,z39,qb6,qf1])) 1000 (j7 pP 89) .unit (x8 75 [1,3,46,47,48]) (j9 pP 89 0) yS1 (j8 75 [(1,.ptr 0 0),(3,.ptr 1 0),(46,LB f.queue),(47,I64 n),(48,I64 i)]) [some (.cells f.cells),some (.cells p.cells)] =yS2 f p n i:=by kernel_rfl
def qy8:Plan:=.fork (.all) (.all)
noncomputable def qy9(f:Fw)(p:V4)(n i:Int):Tree Stop:= .node (decide (i<n)) (.req (decide (0≤i)&&decide (i< (↑f.queue.length:Int))) (.leaf (.at (j9 pP 66 0) 29 (j8 29 [(2,.ptr 0 0),(3,.ptr 1 0),(17,.list t6 f.queue),(18,.int .i64 n),(19,.int .i64 (i64.wrap (i+1)))]) [some (.cells [.int .i64 0,.int .i64 0,.int .i64 0,.int .i64 0]),some (.cells [.int .i64 (m8 p (f.queue.getD i.toNat dBk).1).1,.int .i64 (m8 p (f.queue.getD i.toNat dBk).1).2.1,.int .i64 (m8 p (f.queue.getD i.toNat dBk).1).2.2.1,.int .i64 (m8 p (f.queue.getD i.toNat dBk).1).2.2.2])]))) (.leaf (.done (.agg [.int .i64 p.1,.int .i64 p.2.1,.int .i64 p.2.2.1,.int .i64 p.2.2.2])))
theorem gp1(f:Fw)(p:V4)(n i:Int):w9 (Env.of pP (v6 [qa0,z39,qb6,qf1])) 1000 (j7 pP 66) .unit (x8 29 [2,3,17,18,19]) (j9 pP 66 0) qy8 (j8 29 [(2,.ptr 0 0),(3,.ptr 1 0),(17,LB f.queue),(18,I64 n),(19,I64 i)]) [some (.cells (V4.cells z4)),some (.cells p.cells)] =qy9 f p n i:=by kernel_rfl
def qy6:Plan:=.fork (.all) (.all)
noncomputable def qy7(f:Fw):Tree Stop:=let y0:=j8 29 [(2,.ptr 0 0),(3,.ptr 1 0),(17,.list t6 f.queue),(18,.int .i64 (↑f.queue.length:Int)),(19,.int .i64 0)];let y1:=m8 (begin4 f) f.mo.1.1;let y2:Box:=.cells [.int .i64 0,.int .i64 0,.int .i64 0,.int .i64 0]; .req (zz3 f.pos) (.node (f.moving) (.leaf (.at (j9 pP 66 0) 29 y0 [some y2,some (.cells [.int .i64 y1.1,.int .i64 y1.2.1,.int .i64 y1.2.2.1,.int .i64 y1.2.2.2])])) (.leaf (.at (j9 pP 66 0) 29 y0 [some y2,some (.cells [.int .i64 (begin4 f).1,.int .i64 (begin4 f).2.1,.int .i64 (begin4 f).2.2.1,.int .i64 (begin4 f).2.2.2])])))
theorem gp0(f:Fw):w9 (Env.of pP (v6 [qa0,z39,qb6,qf1])) 1000 (j7 pP 66) .unit (x8 29 [2,3,17,18,19]) (u7 pP 66) qy6 (v9 pP 66 [f.sv]) [] =qy7 f:=by kernel_rfl
def yO6(p:V4)(q:List Bk):Nat→V4
 |0=>p
 |i+1=>r8 (yO6 p q i) (q.getD i dBk).1
def zA6(p:V4)(q:List Bk)(ls:List Int)(i:Nat):Bool:=xW7 (q.getD i dBk)&& (inR (ls.getD i 0) 0 1099511627776&&v7 (yO6 p q (i+1)))
theorem zA7{p:V4}{q:List Bk}{ls:List Int}{i:Nat}:zA6 p q ls i=true↔xW7 (q.getD i dBk)=true∧(0≤ls.getD i 0∧ls.getD i 0≤1099511627776)∧v7 (yO6 p q (i+1))=true:=by simp only[zA6,Bool.and_eq_true,v8]
def yS4(f:Fw):V4:=r8 (begin4 f) f.mo.1.1
def yS7(f:Fw):Bool:=decide (f.queue.length≤32)&& (decide (f.lines.length=f.queue.length)&& (v7 f.pos&& (v7 f.ret&& (v7 (begin4 f)&& (v7 (yS4 f)&& (List.range f.queue.length).all fun i=>zA6 (yS4 f) f.queue f.lines i)))))
theorem yS8{f:Fw}:yS7 f=true↔f.queue.length≤32∧f.lines.length=f.queue.length∧v7 f.pos=true∧v7 f.ret=true∧v7 (begin4 f)=true∧v7 (yS4 f)=true∧∀i,i<f.queue.length→zA6 (yS4 f) f.queue f.lines i=true:=by
 simp only[yS7,Bool.and_eq_true,decide_eq_true_eq,List.all_eq_true,List.mem_range]
theorem q89{c:V4}(h:v7 c=true):zz3 c=true:=by rw[t8]at h;exact zz4.2 (by omega)
theorem q69{f:Fw}(h:q66 f=true):v7 f.mo.1.1=true:=by
 cases hm:f.moving with
 |true=>
  rw[q68 hm,y66]at h
  have:=(yw3.1 (xW8.1 h.1).1.1).1
  exact t8.2 this
 |false=>
  rw[q67 hm,xC6,q01]at h
  rw[t8];omega
theorem fsQ:zo5 pP [qa0,z39,qb6,qf1] :=⟨yo2,yh9,yq2,yt9,trivial⟩
section
variable {f:Fw}
noncomputable abbrev RQ(f:Fw)(v:Bool)(p:V4)(i:Nat):Prop:=b8 pP (j7 pP 89) (.bool v) (j9 pP 89 0) (j8 75 [(1,.ptr 0 0),(3,.ptr 1 0),(46,LB f.queue),(47,I64 f.queue.length),(48,I64 i)]) [some (.cells f.cells),some (.cells p.cells)]
theorem yS3(hl:f.lines.length=f.queue.length)(hlen:f.queue.length≤32){p:V4}{v:Bool}(hv:v=true↔∀i,i<f.queue.length→zA6 p f.queue f.lines i=true):∀ (k i:Nat),i+k=f.queue.length→v7 (yO6 p f.queue i)=true→(∀t,t<i→zA6 p f.queue f.lines t=true)→RQ f v (yO6 p f.queue i) i
 |0,i,hi,hn,hp=>by
  unfold RQ
  refine w6 (kW fsQ) (n:=1000) (hint:=.unit) (keep:=x8 75 [1,3,46,47,48]) (p:=yS1) rfl ?_
  erw [qp1 f (yO6 p f.queue i) f.queue.length i]
  unfold yS2
  refine⟨fun c=>absurd (of_decide_eq_true c) (by omega),fun _=>?_⟩
  rw[hv.2 fun t ht=>hp t (by omega)]
  exact rfl
 |k+1,i,hi,hn,hp=>by
  have bad:¬zA6 p f.queue f.lines i=true→v=false:=fun c=>by
   cases v with
   |false=>rfl
   |true=>exact absurd (hv.1 rfl i (by omega)) c
  have nx:zA6 p f.queue f.lines i=true→RQ f v (yO6 p f.queue (i+1)) (i+1):=fun ok=>yS3 hl hlen hv k (i+1) (by omega) (zA7.1 ok).2.2 fun t ht=>by
   rcases Nat.lt_or_ge t i with c|c
   ·exact hp t c
   ·rw[show t=i by omega];exact ok
  have t0:(i:Int).toNat=i:=by omega
  have w1:i64.wrap ((i:Int)+1)=((i+1:Nat):Int):=by rw[w64 (by omega) (by omega)];omega
  have b1:=q89 hn
  have ps:xW7 (f.queue.getD i dBk)=true→m8 (yO6 p f.queue i) (f.queue.getD i dBk).1=yO6 p f.queue (i+1):=fun c=>x03 b1 (q89 (t8.2 (yw3.1 (xW8.1 c).1.1).1))
  have dlt:decide ((i:Int)<f.queue.length)=true:=decide_eq_true (by omega)
  unfold RQ at nx ⊢
  refine w6 (kW fsQ) (n:=1000) (hint:=.unit) (keep:=x8 75 [1,3,46,47,48]) (p:=yS1) rfl ?_
  erw [qp1 f (yO6 p f.queue i) f.queue.length i]
  unfold yS2
  have bi:=@zA7 p f.queue f.lines i
  simp only[dlt,t0,w1,Tree.holds,Bool.and_eq_true,decide_eq_true_eq,decide_eq_false_iff_not,Bool.true_eq_false,false_implies,true_implies,true_and,and_true,not_false_eq_true,Bool.not_eq_true',Bool.not_eq_false']
  refine⟨by omega,fun c=>?_,fun c=>⟨by omega,fun d=>⟨fun g=>?_,fun g=>⟨fun n=>?_,fun n=>?_⟩⟩,fun d=>?_⟩⟩
  ·rw[bad fun o=>by rw[(bi.1 o).1]at c;cases c]
  ·rw[bad fun o=>by have:=(bi.1 o).2.1;omega]
  ·rw[ps c]at n;rw[bad fun o=>by rw[(bi.1 o).2.2]at n;cases n]
  ·rw[ps c]at n ⊢;exact⟨o8 _ _,nx (bi.2 ⟨c,by omega,n⟩)⟩
  ·rw[bad fun o=>by have:=(bi.1 o).2.1;omega]
theorem xl2(f:Fw)(h:q66 f=true):SCall pP 89 [f.sv] (.bool (yS7 f)):=by
 have qi:=@yS8 f
 have nc:=q69 h
 refine m6 rfl rfl (by kernel_rfl) (w6 (kW fsQ) (n:=1000) (hint:=.unit) (keep:=x8 75 [1,3,46,47,48]) (p:=yR9) (boxes:=[]) rfl ?_)
 have q:=qp0 f
 unfold v9 u7 at q
 erw [q]
 unfold yS0
 have bad:∀{P:Prop},(yS7 f=true→P)→¬P→yS7 f=false:=fun {P} k n=>by
  cases hq:yS7 f with
  |false=>rfl
  |true=>exact absurd (k hq) n
 simp only[Tree.holds,Bool.and_eq_true,decide_eq_true_eq,decide_eq_false_iff_not,bne_iff_ne,bne_eq_false_iff_eq,ne_eq,Bool.not_eq_true',Bool.not_eq_false']
 refine⟨fun a=>?_,fun a=>⟨fun b=>?_,fun b=>⟨fun c=>?_,fun c=>⟨fun d=>?_,fun d=>⟨q89 c,fun g=>?_,fun g=>?_⟩⟩⟩⟩⟩
 ·rw[bad (fun k=>(qi.1 k).1) (by omega)]
 ·rw[bad (fun k=>(qi.1 k).2.1) (by omega)]
 ·rw[bad (fun k=>(qi.1 k).2.2.1) (by rw[c];exact Bool.false_ne_true)]
 ·rw[bad (fun k=>(qi.1 k).2.2.2.1) (by rw[d];exact Bool.false_ne_true)]
 ·rw[bad (fun k=>(qi.1 k).2.2.2.2.1) (by rw[g];exact Bool.false_ne_true)]
 ·have e:m8 (begin4 f) f.mo.1.1=yS4 f:=x03 (q89 g) (q89 nc)
  rw[e]
  refine⟨fun i=>?_,fun i=>⟨o8 _ _,?_⟩⟩
  ·rw[bad (fun k=>(qi.1 k).2.2.2.2.2.1) (by rw[i];exact Bool.false_ne_true)]
  ·have:=yS3 (f:=f) (p:=yS4 f) (v:=yS7 f) (by omega) (by omega) ⟨fun k=>(qi.1 k).2.2.2.2.2.2,fun k=>qi.2 ⟨by omega,by omega,c,d,g,i,k⟩⟩ f.queue.length 0 (by omega) i (fun t ht=>absurd ht (Nat.not_lt_zero _))
   exact this
end
def qy4(f:Fw):V4:=yO6 (yS4 f) f.queue f.queue.length
theorem yO9{f:Fw}(h:yS7 f=true):∀i,i≤f.queue.length→v7 (yO6 (yS4 f) f.queue i)=true
 |0,_=>(yS8.1 h).2.2.2.2.2.1
 |i+1,hi=>(zA7.1 ((yS8.1 h).2.2.2.2.2.2 i (by omega))).2.2
theorem zA8{f:Fw}(h:yS7 f=true){i:Nat}(hi:i<f.queue.length):v7 (f.queue.getD i dBk).1=true:=
 t8.2 (yw3.1 (xW8.1 (zA7.1 ((yS8.1 h).2.2.2.2.2.2 i hi)).1).1.1).1
theorem yS6{f:Fw}(h:q66 f=true)(hm:f.moving=false):yS4 f=begin4 f:=by
 rw[q67 hm,xC6,q01]at h
 unfold yS4 r8
 rw[h.1.1,h.1.2.1,h.1.2.2.1,h.1.2.2.2.1]
 simp
section
variable {f:Fw}
theorem qz0(h:yS7 f=true):∀ (k i:Nat),i+k=f.queue.length→
  b8 pP (j7 pP 66) (V4.sv (qy4 f)) (j9 pP 66 0) (j8 29 [(2,.ptr 0 0),(3,.ptr 1 0),(17,LB f.queue),(18,I64 f.queue.length),(19,I64 i)]) [some (.cells (V4.cells z4)),some (.cells (V4.cells (yO6 (yS4 f) f.queue i)))]
 |0,i,hi=>by
  refine w6 (kW fsQ) (n:=1000) (hint:=.unit) (keep:=x8 29 [2,3,17,18,19]) (p:=qy8) rfl ?_
  erw [gp1 f (yO6 (yS4 f) f.queue i) f.queue.length i]
  unfold qy9
  refine⟨fun c=>absurd (of_decide_eq_true c) (by omega),fun _=>?_⟩
  unfold qy4
  rw[show f.queue.length=i by omega]
  exact rfl
 |k+1,i,hi=>by
  have nx:=qz0 h k (i+1) (by omega)
  have hlen:=(yS8.1 h).1
  have t0:(i:Int).toNat=i:=by omega
  have w1:i64.wrap ((i:Int)+1)=((i+1:Nat):Int):=by rw[w64 (by omega) (by omega)];omega
  have ps:m8 (yO6 (yS4 f) f.queue i) (f.queue.getD i dBk).1=yO6 (yS4 f) f.queue (i+1):=x03 (q89 (yO9 h i (by omega))) (q89 (zA8 h (by omega)))
  refine w6 (kW fsQ) (n:=1000) (hint:=.unit) (keep:=x8 29 [2,3,17,18,19]) (p:=qy8) rfl ?_
  erw [gp1 f (yO6 (yS4 f) f.queue i) f.queue.length i]
  unfold qy9
  refine⟨fun _=>?_,fun c=>absurd (of_decide_eq_false c) (by omega)⟩
  simp only[t0,w1,ps,Tree.holds,Bool.and_eq_true,decide_eq_true_eq]
  exact⟨by omega,o8 _ _,nx⟩
theorem xd4(f:Fw)(h:(q66 f&&yS7 f)=true):SCall pP 66 [f.sv] (V4.sv (qy4 f)):=by
 rw[Bool.and_eq_true]at h
 have q:=yS8.1 h.2
 refine m6 rfl rfl (by kernel_rfl) (w6 (kW fsQ) (n:=1000) (hint:=.unit) (keep:=x8 29 [2,3,17,18,19]) (p:=qy6) (boxes:=[]) rfl ?_)
 have e:=gp0 f
 unfold v9 u7 at e
 erw [e]
 unfold qy7
 have nx:=qz0 h.2 f.queue.length 0 (by omega)
 refine⟨q89 q.2.2.1,fun c=>⟨o8 _ _,?_⟩,fun c=>⟨o8 _ _,?_⟩⟩
 ·have:m8 (begin4 f) f.mo.1.1=yS4 f:=x03 (q89 q.2.2.2.2.1) (q89 (q69 h.1))
  rw[this];exact nx
 ·have:=yS6 h.1 c
  rw[←this];exact nx
end
theorem q06(m:Mo):zz3 (q02 m)=true:=by
 have mr:=qK7.1 (q04 m)
 exact zz4.2 (by omega)
section
variable {f:Fw}
end
def qc0:Fact:=qg6 89 fun f=>.req (q66 f) (.leaf (.bool (yS7 f)))
theorem yq6:qc0.ok pP:=qg7 (fun f h=>xl2 f h)
def z70:Fact:=qg6 66 fun f=>.req (q66 f&&yS7 f) (.leaf (V4.sv (qy4 f)))
theorem yl3:z70.ok pP:=qg7 (fun f h=>xd4 f h)
def yJ9(c d:Co)(g h:Gu):Bool:=c.ok&& (d.ok&& (g.ok&&h.ok))
def zZ5(f:Fw):Bool:=(!(f.mode==3)&&f.homed)||(!f.moving&&f.queue.isEmpty)
def v5(f:Fw):Bool:=yK0 f&& (q41 f&& (q66 f&& (yS7 f&&zZ5 f)))
theorem xW9{f:Fw}:v5 f=true↔yK0 f=true∧q41 f=true∧q66 f=true∧yS7 f=true∧zZ5 f=true:=by simp only[v5,Bool.and_eq_true]
theorem zZ6{f:Fw}:zZ5 f=true↔(¬f.mode=3∧f.homed=true)∨(f.moving=false∧f.queue.length=0):=by
 simp only[zZ5,Bool.or_eq_true,Bool.and_eq_true,Bool.not_eq_true',beq_eq_false_iff_ne,ne_eq,List.isEmpty_iff,List.length_eq_zero_iff]
def qJ4(f:Fw):Bool:=!f.moving&& (f.queue.isEmpty&&f.dwell==0)
theorem qJ5{f:Fw}:qJ4 f=true↔f.moving=false∧f.queue.length=0∧f.dwell=0:=by
 simp only[qJ4,Bool.and_eq_true,Bool.not_eq_true',beq_iff_eq,List.isEmpty_iff,List.length_eq_zero_iff]
theorem s_valid(f:Fw):SCall pP 31 [f.sv] (.bool (v5 f)):=
 o9 mix [qb4,qa3,z97,qc0] ⟨yq0,yo6,yn9,yq6,trivial⟩ 1000 (.fork (.ln 11 (.lit .all)) (.ln 3 (.fork (.ln 7 (.lit .all)) (.ln 3 (.fork (.ln 3 (.lit .all)) (.ln 3 (.fork .all (.fork (.lit (.lit (.fork (.ln 4 (.lit .all)) (.ln 3 (.fork (.ln 5 (.lit .all)) (.ln 5 (.lit .all))))))) (.ln 6 (.fork (.ln 5 (.lit .all)) (.ln 5 (.lit .all))))))))))))
  (t:=let y0:Tree SV:=.leaf (.bool false);let y1:Tree SV:=.node (!f.moving) (.leaf (.bool ((↑f.queue.length:Int)==0))) y0;.node (!yK0 f) y0 (.node (!q41 f) y0 (.node (!q66 f) y0 (.req (q66 f) (.node (!yS7 f) y0 (.node (f.mode != 3) (.node (f.homed) (.leaf (.bool true)) y1) y1))))))
  (by kernel_rfl) (by
   have vi:=xW9 (f:=f)
   have ei:=zZ6 (f:=f)
   simp only[Tree.holds,sL,ne_eq,sLb,sLc,eq_self,sLd,sLe,sLf];(repeat' (first|apply And.intro|intro _));
   all_goals first
    |assumption
    |(refine qF4 ?_;rw[vi,ei];(try simp only[sL,ne_eq,sLb,sLc,eq_self,sLd,sLe,sLf]);first|omega|grind)) (by kernel_rfl) (by kernel_rfl)
def qf0:Fact:=qg6 31 fun f=>.leaf (.bool (v5 f))
theorem yt8:qf0.ok pP:=qg7 (fun f=>s_valid f)
theorem xf1(f:Fw):SCall pP 65 [f.sv] (.bool (qJ4 f)):=
 o9 mix [] trivial 1000 (.fork (.ln 4 (.fork (.lit (.lit (.lit .all))) (.lit (.lit (.lit .all))))) (.ln 7 (.lit .all)))
  (t:=.node (!f.moving)
 (.node ((↑f.queue.length:Int)==0)
  (.leaf (SV.bool (f.dwell==0)))
  (.leaf (SV.bool false)))
 (.leaf (SV.bool false)))
   (by kernel_rfl) (by simp only[Tree.holds,sL,ne_eq,sLb,sLc,eq_self,sLd,sLe,sLf];(repeat' (first|apply And.intro|intro _));all_goals(refine qF4 ?_;rw[qJ5];(try simp only[sL,ne_eq,sLb,sLc,eq_self,sLd,sLe,sLf]); first|omega|grind)) (by kernel_rfl) (by kernel_rfl)
def z76:Fact:=qg6 65 fun f=>.leaf (.bool (qJ4 f))
theorem ym0:z76.ok pP:=qg7 (fun f=>xf1 f)
def zb7(f:Fw):Bool:=v5 f&&qJ4 f
theorem zb8{f:Fw}:zb7 f=true↔v5 f=true∧qJ4 f=true:=by simp only[zb7,Bool.and_eq_true]
theorem y80(f:Fw):SCall pP 20 [f.sv] (.bool (zb7 f)):=
 o9 mix [qf0,z76] ⟨yt8,ym0,trivial⟩ 1000 (.fork (.lit (.lit (.all))) (.lit (.lit (.all))))
  (t:=.node (v5 f)
 (.leaf (SV.bool (qJ4 f)))
 (.leaf (SV.bool false)))
   (by kernel_rfl) (by simp only[Tree.holds,sL,ne_eq,sLb,sLc,eq_self,sLd,sLe,sLf];(repeat' (first|apply And.intro|intro _));all_goals(refine qF4 ?_;rw[zb8];(try simp only[sL,ne_eq,sLb,sLc,eq_self,sLd,sLe,sLf]); first|omega|grind)) (by kernel_rfl) (by kernel_rfl)
def z77:Fact:=qg6 20 fun f=>.leaf (.bool (zb7 f))
theorem ym1:z77.ok pP:=qg7 (fun f=>y80 f)
theorem xt4{P:Program}{f:FuncId}{args:List SV}{v v':SV}(h:SCall P f args v)(hv:∀ (R:Nat→Prop) (ρ:Rho) (n:Nat) (w:World) (u:Value),Rep R ρ n w v u→Rep R ρ n w v' u):SCall P f args v':=by
 intro m w0 R0 ρ w vs hm hvs
 refine zc1.mono (fun u w' hu=>?_) (h m w0 R0 ρ w vs hm hvs)
 obtain⟨ρ',g1,g2,g3⟩:=hu
 exact⟨ρ',g1,g2,hv _ _ _ _ _ g3⟩
theorem yb5{cs ds rest:List SV}(hn:x9 cs ds)(R:Nat→Prop)(ρ:Rho)(n:Nat)(w:World)(u:Value)(h:Rep R ρ n w (.tuple (.agg cs::rest)) u):Rep R ρ n w (.tuple (.agg ds::rest)) u:=by
 obtain⟨vs,h1,x,xs,h2,⟨ws,h3,h4⟩,h5⟩:=h
 exact⟨vs,h1,x,xs,h2,⟨ws,h3,hn.rep h4⟩,h5⟩
def q95(m:Ma)(c d:Co)(g h:Gu)(cold:Int):Bool:=m.ok&& (c.ok&& (d.ok&& (g.ok&& (h.ok&& (inR cold 0 400000&& (inR g.fault 0 0&&inR h.fault 0 0))))))
theorem q96{m:Ma}{c d:Co}{g h:Gu}{cold:Int}:q95 m c d g h cold=true↔m.ok=true∧c.ok=true∧d.ok=true∧g.ok=true∧h.ok=true∧(0≤cold∧cold≤400000)∧g.fault=0∧h.fault=0:=by
 have z:∀n:Int,inR n 0 0=true↔n=0:=fun n=>by rw[v8];omega
 simp only[q95,Bool.and_eq_true,v8,z]
def a0:Ax:=⟨0,0,0,0,0,0,0⟩
def ma0:Ma:=⟨a0,a0,a0,a0,false,0⟩
def fw0:Fw:=⟨ma0,0,false,z4,(0,0,0),0,0,[],[],m0,false,0,false,z4,0,0,Co.zero,Co.zero,Gu.zero,Gu.zero,0,0,0,0,0,0⟩
def u9(m:Ma)(c d:Co)(g h:Gu)(cold:Int):Fw:={fw0 with ma:=m,mode:=1,c0:=c,c1:=d,g0:=g,g1:=h,cold:=cold}
def f4(f:Fw):List SV:=f.cells.take 41++(.nilS::.nilS::f.cells.drop 43)
def q97(m:Ma)(c d:Co)(g h:Gu)(cold:Int):SV:=match q95 m c d g h cold with
 |true=>.tuple [.agg (f4 (u9 m c d g h cold)),I64 0]
 |false=>.tuple [.agg (f4 fw0),I64 1]
theorem q99{m:Ma}{c d:Co}{g h:Gu}{cold:Int}(k:q95 m c d g h cold=true):q97 m c d g h cold=.tuple [.agg (f4 (u9 m c d g h cold)),I64 0] :=by unfold q97;rw[k]
theorem q98{m:Ma}{c d:Co}{g h:Gu}{cold:Int}(k:q95 m c d g h cold=false):q97 m c d g h cold=.tuple [.agg (f4 fw0),I64 1] :=by unfold q97;rw[k]
theorem xi6(m:Ma)(c d:Co)(g h:Gu)(cold:Int):SCall pP 61 [m.sv,.agg (c.cells++d.cells),.agg (g.cells++h.cells),I64 cold] (q97 m c d g h cold):=
 o9 mix [qb4] ⟨yq0,trivial⟩ 1000 (.fork (.ln 13 (.lit .all)) (.lit (.fork (.ln 5 (.fork (.ln 9 (.lit .all)) (.ln 4 (.fork (.ln 4 (.lit .all)) (.ln 4 (.fork .all .all)))))) (.ln 15 (.lit .all)))))
  (t:=let y0:Tree SV:=.leaf (.tuple [.agg (f4 fw0),I64 1]);.node (!yK0 (Fw.mk m 1 false (0,0,0,0) (0,0,0) 0 0 [] [] (((0,0,0,0),0,0,0,0),0,0) false 0 false (0,0,0,0) 0 0 c d g h 0 0 0 cold 0 0)) y0 (.node (decide (cold≥0)) (.node (!decide (cold≤400000)) y0 (.req true (.node (g.fault != 0) y0 (.req true (.node (h.fault != 0) y0 (.leaf (.tuple [.agg [I64 m.x.num,I64 m.x.den,I64 m.x.speed,I64 m.x.accel,I64 m.x.jerk,I64 m.x.min,I64 m.x.max,I64 m.y.num,I64 m.y.den,I64 m.y.speed,I64 m.y.accel,I64 m.y.jerk,I64 m.y.min,I64 m.y.max,I64 m.z.num,I64 m.z.den,I64 m.z.speed,I64 m.z.accel,I64 m.z.jerk,I64 m.z.min,I64 m.z.max,I64 m.e.num,I64 m.e.den,I64 m.e.speed,I64 m.e.accel,I64 m.e.jerk,I64 m.e.min,I64 m.e.max,.bool m.xy,I64 m.ticks,I64 1,.bool false,I64 0,I64 0,I64 0,I64 0,I64 0,I64 0,I64 0,I64 0,I64 0,SV.nilS,SV.nilS,I64 0,I64 0,I64 0,I64 0,I64 0,I64 0,I64 0,I64 0,I64 0,I64 0,.bool false,I64 0,.bool false,I64 0,I64 0,I64 0,I64 0,I64 0,I64 0,I64 c.target,I64 c.kp,I64 c.ki,I64 c.scale,I64 c.sum,I64 c.limit,I64 d.target,I64 d.kp,I64 d.ki,I64 d.scale,I64 d.sum,I64 d.limit,I64 g.low,I64 g.high,I64 g.watch,I64 g.rise,I64 g.band,I64 g.base,I64 g.count,I64 g.idle,I64 g.quiet,I64 g.fault,.bool g.door,I64 h.low,I64 h.high,I64 h.watch,I64 h.rise,I64 h.band,I64 h.base,I64 h.count,I64 h.idle,I64 h.quiet,I64 h.fault,.bool h.door,I64 0,I64 0,I64 0,I64 cold,I64 0,I64 0],I64 0]))))))) y0))
  (by kernel_rfl) (by
   simp only[yK0,yJ9]
   simp only[Tree.holds,sL,ne_eq,sLb,sLc,eq_self,sLd,sLe,sLf];(repeat' (first|apply And.intro|intro _));
   all_goals first|(rw[q98 (Bool.eq_false_iff.2 (by rw[ne_eq,q96];grind))];try rfl)|(rw[q99 (q96.2 (by grind))];try rfl)) (by kernel_rfl) (by unfold q97;split<;>rfl)
def allQ.{u}{β:Type u}(p:β→Prop):List β→Prop
 |[] =>True
 |x::l=>p x∧allQ p l
theorem allQ.all.{u}{β:Type u}{p:β→Prop}:∀{l:List β},allQ p l→∀x∈l,p x
 |[],_=>fun x hx=>by cases hx
 |y::l,h=>fun x hx=>by
  cases hx with
  |head=>exact h.1
  |tail _ hx=>exact h.2.all x hx
theorem MRel.weak{w0:World}{R0:RSet}{ρ:Rho}{w:World}{m m2:Mem}{id:Nat}{cs cs2:List SV}(h:MRel w0 R0 ρ w m)(hB:m.get id=some (.cells cs))(hn:x9 cs cs2)(h2:zc0 m id (some (.cells cs2)) m2):MRel w0 R0 ρ w m2∧m7 w0 R0 ρ w m ρ w m2:=by
 have hg:∀k B,m2.get k=some B→∃C,m.get k=some C∧(xw3 (ρ k) B→xw3 (ρ k) C):=fun k B hk=>by
  rw[h2.1 k]at hk
  split at hk
  ·rename_i hki;subst hki;exact⟨_,hB,fun _=>trivial⟩
  ·exact⟨B,hk,fun x=>x⟩
 have hro:∀b,RO w0 R0 ρ w m b→RO w0 R0 ρ w m2 b:=fun b hb=>by
  rcases hb with hb|⟨k1,k2,k3,k4⟩
  ·exact .inl hb
  ·exact .inr ⟨k1,k2,fun k B hk hs=>by
    obtain⟨C,hC,hs'⟩:=hg k B hk
    exact k3 k C hC (hs' hs),k4⟩
 have e:m7 w0 R0 ρ w m ρ w m2:=⟨by rw[h2.2];exact Nat.le_refl _,fun _ _=>rfl,fun b hb=>⟨hro b hb,rfl⟩⟩
 refine⟨⟨h.below,fun k B hk=>?_,fun k B hk hs=>?_,fun k B hk hs=>?_,fun k k' B B' hk hk' hs hs' heq=>?_,fun k B hk=>?_,h.hid.1,fun k B hk hs=>?_⟩,e⟩
 ·obtain⟨C,hC,_⟩:=hg k B hk;rw[h2.2];exact h.lt k C hC
 ·obtain⟨C,hC,hs'⟩:=hg k B hk;exact h.lo k C hC (hs' hs)
 ·obtain⟨C,hC,hs'⟩:=hg k B hk;exact h.hi k C hC (hs' hs)
 ·obtain⟨C,hC,c1⟩:=hg k B hk
  obtain⟨C',hC',c2⟩:=hg k' B' hk'
  exact h.inj k k' C C' hC hC' (c1 hs) (c2 hs') heq
 ·rw[h2.1 k]at hk
  split at hk
  ·rename_i hki
   subst hki
   injection hk with hk;subst hk
   obtain⟨arr,el,fr,k1,k2,k3⟩:=h.box k _ hB
   exact⟨arr,el,fr,k1,k2,hn.rep (j6.mono e _ _ k3)⟩
  ·exact za2.mono e _ (fun _=>rfl) (h.box k B hk)
 ·obtain⟨C,hC,hs'⟩:=hg k B hk;exact h.hid.2 k C hC (hs' hs)
theorem q30{w0:World}{R0:RSet}{ρ:Rho}{w:World}{m:Mem}(h:MRel w0 R0 ρ w m){id:Nat}{B C:Box}(hB:m.get id=some B):∃m2,zc0 m id (some C) m2:=by
 obtain⟨m2,hn,hg⟩:=q26 m.next ((List.range m.next).map fun k=>if k=id then some C else m.get k)
 refine⟨m2,fun k=>?_,hn⟩
 rw[hg k,List.getElem?_map]
 by_cases hk:k<m.next
 ·rw[List.getElem?_range hk];rfl
 ·have hki:¬k=id:=fun e=>by subst e;exact hk (h.lt k B hB)
  rw[List.getElem?_eq_none (by simpa using hk),if_neg hki]
  cases hx:m.get k with
  |none=>rfl
  |some D=>exact absurd (h.lt k D hx) hk
theorem zv9{P:Program}{f:FuncId}{args cs x:List SV}{v:SV}{C:Box}(hn:x9 cs x)(h:za1 P f args (.cells x) (false,v,C)):za1 P f args (.cells cs) (false,v,C):=by
 intro m m' id hB hm' w0 R0 ρ w vs hm hvs
 obtain⟨m2,h2⟩:=q30 (C:=.cells x) hm hB
 obtain⟨a,e⟩:=MRel.weak hm hB hn h2
 have hm2:zc0 m2 id (some C) m':=⟨fun k=>by rw[hm'.1 k,h2.1 k];split<;>rfl,hm'.2.trans h2.2.symm⟩
 refine zc1.mono (fun u w' hu=>?_) (h m2 m' id (by rw[h2.1,if_pos rfl]) hm2 w0 R0 ρ w vs a (j6.mono e _ _ hvs))
 obtain⟨ρ',g1,g2,g3⟩:=hu
 exact⟨ρ',g1,e.trans g2,g3⟩
theorem zw1{P:Program}{f:FuncId}{args cs x:List SV}{v:SV}{B:Box}(hn:x9 cs x)(h:za1 P f args B (false,v,.cells cs)):za1 P f args B (false,v,.cells x):=by
 intro m m' id hB hm' w0 R0 ρ w vs hm hvs
 obtain⟨m1,h1⟩:=q30 (C:=.cells cs) hm hB
 refine zc1.mono (fun u w' hu=>?_) (h m m1 id hB h1 w0 R0 ρ w vs hm hvs)
 obtain⟨ρ',g1,g2,g3⟩:=hu
 obtain⟨a,e⟩:=MRel.weak g1 (by rw[h1.1,if_pos rfl]) hn (m2:=m') ⟨fun k=>by rw[hm'.1 k,h1.1 k];split<;>rfl,hm'.2.trans h1.2.symm⟩
 exact⟨ρ',a,g2.trans e,Rep.mono e _ _ g3⟩
def zb3(P:Program)(f:FuncId)(rest:List SV)(x:Fw)(r:SV×Fw):Prop:=za1 P f rest (.cells x.cells) (false,r.1,.cells r.2.cells)
inductive endsAt (v:SV) (y:Fw):StopX→Prop where
 |mk (cs:List SV) (hn:x9 cs y.cells) (hd:b9 cs=true):endsAt v y (.fin (.ret v [some (.cells cs)]))
theorem ends{v u:SV}{y:Fw}{cs:List SV}(h:u=v)(hn:x9 cs y.cells)(hd:b9 cs=true):endsAt v y (.fin (.ret u [some (.cells cs)])):=by subst h;exact .mk cs hn hd
theorem qv6(f:Fw):b9 f.cells=true:=rfl
theorem qo6{P:Program}{f:FuncId}{rest cs:List SV}{x y:Fw}{v:SV}(hf:qt9 P f (.ptr 0 0::rest)=true)(hd:b9 rest=true)(hv:v.data=true)(hc:b9 cs=true)(hn:x9 cs y.cells)(h:zd3 P (j7 P f) [] 1 (.ret v [some (.cells cs)]) (u7 P f) (v9 P f (.ptr 0 0::rest)) [some (.cells x.cells)]):zb3 P f rest x (v,y):=
 zw1 hn (zw0 hf h rfl hd (qv6 x) hc hv)
theorem z01{v:SV}{y:Fw}:∀t:Tree StopX,t.holds (endsAt v y)→∃cs,x9 cs y.cells∧b9 cs=true∧t.holds fun o=>match o with
   |.fin r'=>r'=.ret v [some (.cells cs)]
   |.at items' size slots' boxes'=>slots'.length=size∧False
 |.leaf o,h=>by
  have h:endsAt v y o:=h
  cases h with
  |mk cs hn hd=>exact⟨cs,hn,hd,rfl⟩
 |.node b t f,h=>by
  cases b with
  |true=>
   obtain⟨cs,h1,h2,h3⟩:=z01 t (h.1 rfl)
   exact⟨cs,h1,h2,fun _=>h3,fun hb=>by cases hb⟩
  |false=>
   obtain⟨cs,h1,h2,h3⟩:=z01 f (h.2 rfl)
   exact⟨cs,h1,h2,fun hb=>(by cases hb),fun _=>h3⟩
 |.req b t,h=>by
  obtain⟨cs,h1,h2,h3⟩:=z01 t h.2
  exact⟨cs,h1,h2,h.1,h3⟩
 |.fail _,h=>h.elim
theorem qo7{P:Program}{E:Env}(hK:Known P E)(n:Nat)(p:Plan){keep:List Item→List Bool}{f:FuncId}{rest:List SV}{x y:Fw}{v:SV}{t:Tree StopX}(ht:xt5 E n (j7 P f) 1 keep (u7 P f) p (v9 P f (.ptr 0 0::rest)) [some (.cells x.cells)] =t)(h:t.holds (endsAt v y))(hf:qt9 P f (.ptr 0 0::rest)=true)(hd:b9 rest=true)(hv:v.data=true):zb3 P f rest x (v,y):=by
 obtain⟨cs,h1,h2,h3⟩:=z01 t h
 refine qo6 (cs:=cs) hf hd hv h2 h1 (y70 hK (n:=n) (keep:=keep) (p:=p) (Nat.le_refl _) ?_)
 rw[ht]
 exact Tree.holds_mono (fun o ho=>by
  cases o with
  |fin r=>exact ho
  |«at» i s l b=>exact ho.2.elim) t h3
def okT:Tree (SV×Fw)→Tree (Bool×SV×Box)
 |.leaf x=>.leaf (false,x.1,.cells x.2.cells)
 |.node b t f=>.node b (okT t) (okT f)
 |.req b t=>.req b (okT t)
 |.fail n=>.fail n
def zz1(f:FuncId)(h:Fw→List SV→Option (Tree (SV×Fw))):BFact:=⟨f,fun args B=>match B with
 |.cells cs=>match zq3 cs with
  |some x=>match h x args with
   |some t=>some (okT t)
   |none=>none
  |none=>none
 |_=>none⟩
theorem yx2{P:Program}{f:FuncId}{args cs:List SV}{x:Fw}(hn:x9 cs x.cells):∀t:Tree (SV×Fw),t.says (zb3 P f args x)→(okT t).says (za1 P f args (.cells cs))
 |.leaf _,k=>zv9 hn k
 |.node _ t u,k=>⟨fun hb=>yx2 hn t (k.1 hb),fun hb=>yx2 hn u (k.2 hb)⟩
 |.req _ t,k=>fun hb=>yx2 hn t (k hb)
 |.fail _,_=>trivial
theorem zz2{P:Program}{f:FuncId}{h:Fw→List SV→Option (Tree (SV×Fw))}(k:∀x rest t,h x rest=some t→t.says (zb3 P f rest x)):(zz1 f h).ok P:=fun args B t ht=>by
 simp only[zz1]at ht
 split at ht
 ·split at ht
  ·rename_i hx
   split at ht
   ·rename_i t' ht'
    injection ht with ht;subst ht
    exact yx2 (zq4 hx) t' (k _ _ _ ht')
   ·cases ht
  ·cases ht
 ·cases ht
noncomputable def wT(m:Mem)(id:Nat):Tree (SV×Fw)→Tree (SV×Mem)
 |.leaf x=>m.set id (some (.cells x.2.cells)) fun m'=>.leaf (x.1,m')
 |.node b t f=>.node b (wT m id t) (wT m id f)
 |.req b t=>.req b (wT m id t)
 |.fail n=>.fail n
noncomputable def x29(f:FuncId)(h:Fw→List SV→Option (Tree (SV×Fw))):WFact:=⟨f,fun args m=>match args with
 |a::rest=>match a with
  |.ptr id off=>match Nat.beq off 0 with
   |true=>match m.get id with
    |some B=>match B with
     |.cells cs=>match zq3 cs with
      |some x=>match h x rest with
       |some t=>some (wT m id t)
       |none=>none
      |none=>none
     |_=>none
    |none=>none
   |false=>none
  |_=>none
 |_=>none⟩
theorem x02{P:Program}{f:FuncId}{args cs:List SV}{x:Fw}{m:Mem}{id:Nat}(hB:m.get id=some (.cells cs))(hn:x9 cs x.cells):∀t:Tree (SV×Fw),t.says (zb3 P f args x)→(wT m id t).says (ze4 P f (.ptr id 0::args) m)
 |.leaf _,k=>xu8 fun m' hm=>(zv9 hn k:za1 P f args (.cells cs) _) m m' id hB hm
 |.node _ t u,k=>⟨fun hb=>x02 hB hn t (k.1 hb),fun hb=>x02 hB hn u (k.2 hb)⟩
 |.req _ t,k=>fun hb=>x02 hB hn t (k hb)
 |.fail _,_=>trivial
theorem x30{P:Program}{f:FuncId}{h:Fw→List SV→Option (Tree (SV×Fw))}(k:∀x rest t,h x rest=some t→t.says (zb3 P f rest x)):(x29 f h).ok P:=fun args m t ht=>by
 simp only[x29]at ht
 split at ht
 ·split at ht
  ·rename_i id off
   split at ht
   ·rename_i h0
    have h0:=Nat.eq_of_beq_eq_true h0
    subst h0
    split at ht
    ·rename_i B hB
     split at ht
     ·rename_i cs
      split at ht
      ·rename_i hx
       split at ht
       ·rename_i t' ht'
        injection ht with ht;subst ht
        exact x02 hB (zq4 hx) t' (k _ _ _ ht')
       ·cases ht
      ·cases ht
     ·cases ht
    ·cases ht
   ·cases ht
  ·cases ht
 ·cases ht
def zJ2:Plan:=.lit (.all)
noncomputable def zJ3(cap:Nat):Tree Stop:= .req (true) (.leaf (.done (.list t6 [])))
theorem zJ1(cap:Nat):w9 (Env.of pP (v6 [])) 1000 (j7 pP 175) t6 (x8 8 []) (u7 pP 175) zJ2 (v9 pP 175 [.raw (.slice none 0 cap)]) [] =zJ3 cap:=by kernel_rfl
def zJ5:Plan:=.lit (.lit (.all))
noncomputable def zJ6(a:Addr)(cap:Nat):Tree Stop:= .req (true) (.leaf (.done (.list t6 [])))
theorem zJ4(a:Addr)(cap:Nat):w9 (Env.of pP (v6 [])) 1000 (j7 pP 175) t6 (x8 8 []) (u7 pP 175) zJ5 (v9 pP 175 [.raw (.slice (some a) 0 cap)]) [] =zJ6 a cap:=by kernel_rfl
def zI9:Plan:=.lit (.lit (.all))
noncomputable def zJ0(b:Ty.T t6)(l:List (Ty.T t6)):Tree Stop:= .req (!(b::l).isEmpty) (.req (decide ((0+(b::l).length)*64≤140737488355328)) (.leaf (.done (.list t6 (b::l)))))
theorem zI8(b:Ty.T t6)(l:List (Ty.T t6)):w9 (Env.of pP (v6 [])) 1000 (j7 pP 175) t6 (x8 8 []) (u7 pP 175) zI9 (v9 pP 175 [.list t6 (b::l)]) [] =zJ0 b l:=by kernel_rfl
def zK1:Plan:=.lit (.all)
noncomputable def zK2(cap:Nat):Tree Stop:= .req (true) (.leaf (.done (.list (Ty.int IntKind.i64) [])))
theorem zK0(cap:Nat):w9 (Env.of pP (v6 [])) 1000 (j7 pP 176) (.int .i64) (x8 8 []) (u7 pP 176) zK1 (v9 pP 176 [.raw (.slice none 0 cap)]) [] =zK2 cap:=by kernel_rfl
def zK4:Plan:=.lit (.lit (.all))
noncomputable def zK5(a:Addr)(cap:Nat):Tree Stop:= .req (true) (.leaf (.done (.list (Ty.int IntKind.i64) [])))
theorem zK3(a:Addr)(cap:Nat):w9 (Env.of pP (v6 [])) 1000 (j7 pP 176) (.int .i64) (x8 8 []) (u7 pP 176) zK4 (v9 pP 176 [.raw (.slice (some a) 0 cap)]) [] =zK5 a cap:=by kernel_rfl
def zJ8:Plan:=.lit (.lit (.all))
noncomputable def zJ9(b:Ty.T (.int .i64))(l:List (Ty.T (.int .i64))):Tree Stop:= .req (!(b::l).isEmpty) (.req (decide ((0+(b::l).length)*8≤140737488355328)) (.leaf (.done (.list (Ty.int IntKind.i64) (b::l)))))
theorem zJ7(b:Ty.T (.int .i64))(l:List (Ty.T (.int .i64))):w9 (Env.of pP (v6 [])) 1000 (j7 pP 176) (.int .i64) (x8 8 []) (u7 pP 176) zJ8 (v9 pP 176 [.list (.int .i64) (b::l)]) [] =zJ9 b l:=by kernel_rfl
end Go.Proofs.YtnkaepnblikcdaaGreat
namespace Go.Sx
open Go.RowKit
section
variable {w0:World} {R0:RSet} {ρ:Rho} {w:World} {m mc m':Mem} {ρc:Rho} {w':World}
theorem qB4{id:Nat}{t:Ty}{l:List t.T}{u:Value}(hm:MRel w0 R0 ρ w m)(hc:MRel w (RS w0 R0 ρ w m) ρc w' mc)(hg0:mc.get id=some (.rows t l))(h3:zb9 m (.rows t l) m')(hr:Rep (RO w (RS w0 R0 ρ w m) ρc w' mc) ρc mc.next w' (.row id) u):n7 w0 R0 ρ w m (.row m.next) m' u w':=by
 have hh:=Hand.start hm hc
 have hm':∀j B,m'.get j=some B→(j=m.next∧B=.rows t l)∨(j≠m.next∧m.get j=some B):=fun j B hj=>by
  rw[h3.1 j]at hj
  by_cases e:j=m.next
  ·rw[if_pos e]at hj;injection hj with hj;exact .inl ⟨e,hj.symm⟩
  ·rw[if_neg e]at hj;exact .inr ⟨e,hj⟩
 have hwsz:=hm.size_le
 have e:Ext (RR w0 R0 ρ w m ρc mc w') ρ m.next w' (RR w0 R0 ρ w m ρc mc w') (upd ρ m.next (ρc id)) m'.next w':=⟨by rw[h3.2];omega,fun j hj=>t4 _ _ (by omega),fun b hb=>⟨hb,rfl⟩⟩
 have hand:Hand w0 R0 ρ w m ρc mc w' (upd ρ m.next (ρc id)) m' ⟨0,.e⟩:=by
  refine⟨by rw[h3.2];omega,fun j hj=>t4 _ _ (by omega),fun j B hj=>?_,fun j B hj hs=>?_,fun j B hj hs=>?_,fun j B hj hs=>?_,fun j j' B B' hj hj' hs hs' he=>?_,fun j B hj=>?_,fun j B hj=>(by cases hj),fun j B hj=>(by cases hj),fun b hb=>?_⟩
  ·rw[h3.2]
   rcases hm' j B hj with⟨rfl,_⟩|⟨_,n2⟩
   ·omega
   ·have:=hh.lt j B n2;omega
  ·rcases hm' j B hj with⟨rfl,rfl⟩|⟨n1,n2⟩
   ·rw[s9]at hs ⊢;have:=hc.lo id _ hg0 hs;omega
   ·rw[t4 _ _ n1]at hs ⊢;exact hh.lo j B n2 hs
  ·rcases hm' j B hj with⟨rfl,rfl⟩|⟨n1,n2⟩
   ·rw[s9]at hs ⊢;exact hc.hi id _ hg0 hs
   ·rw[t4 _ _ n1]at hs ⊢;exact hh.hi j B n2 hs
  ·rcases hm' j B hj with⟨rfl,rfl⟩|⟨n1,n2⟩
   ·rw[s9]at hs ⊢;exact fun hr=>by have:=(hm.hid.1 _ hr).1;have:=hc.lo id _ hg0 hs;omega
   ·rw[t4 _ _ n1]at hs ⊢;exact hh.nh j B n2 hs
  ·rcases hm' j B hj with⟨rfl,rfl⟩|⟨n1,n2⟩<;>rcases hm' j' B' hj' with⟨rfl,rfl⟩|⟨n1',n2'⟩
   ·rfl
   ·rw[s9]at hs he;rw[t4 _ _ n1']at hs' he
    exact absurd he.symm (hh.apart id _ hg0 hs j' B' n2' hs')
   ·rw[s9]at hs' he;rw[t4 _ _ n1]at hs he
    exact absurd he (hh.apart id _ hg0 hs' j B n2 hs)
   ·rw[t4 _ _ n1]at hs he;rw[t4 _ _ n1']at hs' he
    exact hh.inj j j' B B' n2 n2' hs hs' he
  ·rcases hm' j B hj with⟨rfl,rfl⟩|⟨n1,n2⟩
   ·rw[s9]
    obtain⟨b1,b2,b3⟩:=hc.box id _ hg0
    refine⟨b1,b2,fun hp=>?_⟩
    obtain⟨arr,el,fr,q1,q2,q3,q4⟩:=b3 hp
    refine⟨arr,el,fr,q1,q2,q3,fun i hi=>?_⟩
    obtain⟨cs,c1,c2,c3⟩:=q4 i hi
    exact⟨cs,c1,c2,p8.mono (fun b hb=>⟨.inr hb,rfl⟩) _ _ _ c3⟩
   ·rw[t4 _ _ n1]
    exact za2.mono e B (fun _=>rfl) (hh.box j B n2)
  ·have hne:xw3 (ρc id) (.rows t l)→(ρc id).1≠b:=fun hs=>by
    rcases hb with hb|hb
    ·have:=hm.ro_lt hb;have:=hc.lo id _ hg0 hs;omega
    ·exact hc.ro_ne hb hg0 hs
   rcases hh.ro b hb with hb|⟨g1,g2,g3,g4⟩
   ·exact .inl hb
   ·refine .inr ⟨g1,g2,fun j B hj hs=>?_,g4⟩
    rcases hm' j B hj with⟨rfl,rfl⟩|⟨n1,n2⟩
    ·rw[s9]at hs ⊢;exact hne hs
    ·rw[t4 _ _ n1]at hs ⊢;exact g3 j B n2 hs
 obtain⟨g4,g5⟩:=hand.finish hm hc
 obtain⟨_,a,hu,ha⟩:=hr
 exact⟨_,g4,g5,by rw[h3.2];omega,a,by rw[s9];exact hu,by rw[s9];exact ha⟩
theorem qB3{t:Ty}{a:Option Addr}(hm:MRel w0 R0 ρ w m)(hc:MRel w (RS w0 R0 ρ w m) ρc w' mc)(h3:zb9 m (.rows t []) m'):n7 w0 R0 ρ w m (.row m.next) m' (.slice a 0 0) w':=by
 have hh:=Hand.start hm hc
 have hm':∀j B,m'.get j=some B→(j=m.next∧B=.rows t [])∨(j≠m.next∧m.get j=some B):=fun j B hj=>by
  rw[h3.1 j]at hj
  by_cases e:j=m.next
  ·rw[if_pos e]at hj;injection hj with hj;exact .inl ⟨e,hj.symm⟩
  ·rw[if_neg e]at hj;exact .inr ⟨e,hj⟩
 have e:Ext (RR w0 R0 ρ w m ρc mc w') ρ m.next w' (RR w0 R0 ρ w m ρc mc w') (upd ρ m.next (0,0,0)) m'.next w':=⟨by rw[h3.2];omega,fun j hj=>t4 _ _ (by omega),fun b hb=>⟨hb,rfl⟩⟩
 have no:¬xw3 (upd ρ m.next (0,0,0) m.next) (.rows t []):=by rw[s9];exact Nat.lt_irrefl 0
 have hand:Hand w0 R0 ρ w m ρc mc w' (upd ρ m.next (0,0,0)) m' ⟨0,.e⟩:=by
  refine⟨by rw[h3.2];omega,fun j hj=>t4 _ _ (by omega),fun j B hj=>?_,fun j B hj hs=>?_,fun j B hj hs=>?_,fun j B hj hs=>?_,fun j j' B B' hj hj' hs hs' he=>?_,fun j B hj=>?_,fun j B hj=>(by cases hj),fun j B hj=>(by cases hj),fun b hb=>?_⟩
  ·rw[h3.2]
   rcases hm' j B hj with⟨rfl,_⟩|⟨_,n2⟩
   ·omega
   ·have:=hh.lt j B n2;omega
  ·rcases hm' j B hj with⟨rfl,rfl⟩|⟨n1,n2⟩
   ·exact absurd hs no
   ·rw[t4 _ _ n1]at hs ⊢;exact hh.lo j B n2 hs
  ·rcases hm' j B hj with⟨rfl,rfl⟩|⟨n1,n2⟩
   ·exact absurd hs no
   ·rw[t4 _ _ n1]at hs ⊢;exact hh.hi j B n2 hs
  ·rcases hm' j B hj with⟨rfl,rfl⟩|⟨n1,n2⟩
   ·exact absurd hs no
   ·rw[t4 _ _ n1]at hs ⊢;exact hh.nh j B n2 hs
  ·rcases hm' j B hj with⟨rfl,rfl⟩|⟨n1,n2⟩
   ·exact absurd hs no
   ·rcases hm' j' B' hj' with⟨rfl,rfl⟩|⟨n1',n2'⟩
    ·exact absurd hs' no
    ·rw[t4 _ _ n1']at hs' he;rw[t4 _ _ n1]at hs he
     exact hh.inj j j' B B' n2 n2' hs hs' he
  ·rcases hm' j B hj with⟨rfl,rfl⟩|⟨n1,n2⟩
   ·rw[s9];exact⟨rfl,Nat.le_refl _,fun h0=>absurd h0 (Nat.lt_irrefl _)⟩
   ·rw[t4 _ _ n1]
    exact za2.mono e B (fun _=>rfl) (hh.box j B n2)
  ·rcases hh.ro b hb with hb|⟨g1,g2,g3,g4⟩
   ·exact .inl hb
   ·refine .inr ⟨g1,g2,fun j B hj hs=>?_,g4⟩
    rcases hm' j B hj with⟨rfl,rfl⟩|⟨n1,n2⟩
    ·exact absurd hs no
    ·rw[t4 _ _ n1]at hs ⊢;exact g3 j B n2 hs
 obtain⟨g4,g5⟩:=hand.finish hm hc
 exact⟨_,g4,g5,by rw[h3.2];omega,a,by rw[s9],by rw[s9];exact fun h0=>absurd h0 (Nat.lt_irrefl _)⟩
end
def yF5(t:Ty)(l:List t.T)(v:SV)(mc:Mem):Prop:=
 (∃id,v=.row id∧mc.get id=some (.rows t l))∨(l=[] ∧(v=.nilS∨(∃id off,v=.arr id off 0)))
theorem yG2{P:Program}{E:Env}(hK:Known P E){n:Nat}{f:FuncId}{args:List SV}{p:Plan}{t:Ty}{l:List t.T}(hd:b9 args=true)(h:(z14 E n f args p).holds fun x=>yF5 t l x.1 x.2){m m':Mem}(hp:zb9 m (.rows t l) m'):zd6 P m (.row m.next) m' f args:=by
 intro w0 R0 ρ w vs hm hvs
 unfold z14 at h
 split at h
 ·rename_i fn hfn
  have hf:=hK.e.fn f fn hfn
  split at h
  ·rename_i body hb
   split at h
   ·rename_i hn
    obtain⟨fr,h1,h2,h3,h4⟩:=q13 h
    obtain⟨out,h5,h6⟩:=z27 hK.e hK.s hK.mix n _ _ _ _ _ _ h1
    cases out with
    |stop it fr' m'=>exact h5.elim
    |pan v fr' m'=>exact h5.elim
    |ret p' fr' mc=>
     dsimp only at h5
     obtain⟨v',h7,h8⟩:=y02 hK.e h5
     have h7:yF5 t l v' mc:=h7
     rw[zD5 hf hb hn]
     obtain⟨o1,o2⟩:=yG4 hm ρ
     have hfr:=qu8 h2 h3 h4 (j6.data (R':=RO w (RS w0 R0 ρ w m) ρ w ⟨0,.e⟩) (ρ':=ρ) (n':=0) o2 args vs hd hvs)
     refine Calls.mono (zE4 hf hb h6 h8 o1 hfr) fun e w' ⟨u,he,ρ',g1,g2,g3⟩=>⟨u,he,?_⟩
     rcases h7 with⟨id,rfl,hg⟩|⟨rfl,rfl|⟨id,off,rfl⟩⟩
     ·exact qB4 hm g1 hg hp g3
     ·rw[show u=_ from g3];exact qB3 hm g1 hp
     ·obtain⟨_,hu⟩:=g3
      rw[hu];exact qB3 hm g1 hp
   ·exact h.elim
  ·exact h.elim
 ·exact h.elim
noncomputable def q23(t:Ty)(l:List t.T):Mem:=⟨1,.n .e (some (.rows t l)) .e⟩
theorem yG7{P:Program}{f:FuncId}{args:List SV}{t:Ty}{l:List t.T}(h:∀m m',zb9 m (.rows t l) m'→zd6 P m (.row m.next) m' f args):zc5 P f args (.row 0,q23 t l):=by
 intro m v' m' ha
 change ((q23 t l).set 0 none fun mc=>m.push (.rows t l) fun m id=>Tree.leaf (SV.row id,m)).holds _ at ha
 obtain⟨mc',h1,h2⟩:=Mem.set_holds ha
 obtain⟨m1,h3,h4⟩:=Mem.push_holds h2
 injection h4 with e1 e2
 subst e1 e2
 exact h m m1 h3
noncomputable def yF6(x:SV×Mem):SV:=match x.1 with
 |.row id=>match x.2.get id with
  |some (.rows t l)=>.list t l
  |_=>.undef
 |.nilS=>.nilS
 |.arr _ _ n=>match n with
  |0=>.nilS
  |_+1=>.undef
 |_=>.undef
noncomputable def Tree.ownT:Tree (SV×Mem)→Tree SV
 |.leaf x=>.leaf (yF6 x)
 |.node b t f=>.node b t.ownT f.ownT
 |.req b t=>.req b t.ownT
 |.fail n=>.fail n
theorem yF8{t:Ty}{l:List t.T}{x:SV×Mem}(h:yF6 x=.list t l):yF5 t l x.1 x.2:=by
 unfold yF6 at h
 split at h
 ·rename_i id hx
  split at h
  ·rename_i t' l' hg
   injection h with h1 h2
   subst h1
   have h2:=eq_of_heq h2
   subst h2
   exact .inl ⟨id,hx,hg⟩
  ·cases h
 ·cases h
 ·split at h<;>cases h
 ·cases h
theorem yF7{t:Ty}{x:SV×Mem}(h:yF6 x=.nilS):yF5 t [] x.1 x.2:=by
 unfold yF6 at h
 split at h
 ·split at h<;>cases h
 ·rename_i hx;exact .inr ⟨rfl,.inl hx⟩
 ·rename_i id off n hx
  split at h
  ·exact .inr ⟨rfl,.inr ⟨id,off,hx⟩⟩
  ·cases h
 ·cases h
theorem Tree.ownT_holds{L:SV→Prop}:∀t:Tree (SV×Mem),t.ownT.holds L→t.holds fun x=>L (yF6 x)
 |.leaf _,h=>h
 |.node _ t f,h=>⟨fun hb=>ownT_holds t (h.1 hb),fun hb=>ownT_holds f (h.2 hb)⟩
 |.req _ t,h=>⟨h.1,ownT_holds t h.2⟩
 |.fail _,h=>h.elim
theorem yG3{P:Program}{E:Env}(hK:Known P E)(n:Nat)(p:Plan){f:FuncId}{args:List SV}{t:Ty}{l:List t.T}{T:Tree SV}(hT:(z14 E n f args p).ownT=T)(h:T.holds fun v=>v=.list t l)(hd:b9 args=true){m m':Mem}(hp:zb9 m (.rows t l) m'):zd6 P m (.row m.next) m' f args:=
 yG2 hK (n:=n) (p:=p) hd (Tree.holds_mono (fun x hx=>yF8 hx) _ (Tree.ownT_holds _ (by rw[hT];exact h))) hp
theorem yG5{P:Program}{E:Env}(hK:Known P E)(n:Nat)(p:Plan){f:FuncId}{args:List SV}{t:Ty}{T:Tree SV}(hT:(z14 E n f args p).ownT=T)(h:T.holds fun v=>v=.nilS)(hd:b9 args=true){m m':Mem}(hp:zb9 m (.rows t []) m'):zd6 P m (.row m.next) m' f args:=
 yG2 hK (n:=n) (p:=p) (l:=([] :List t.T)) hd (Tree.holds_mono (fun x hx=>yF7 hx) _ (Tree.ownT_holds _ (by rw[hT];exact h))) hp
end Go.Sx
namespace Go.Proofs.YtnkaepnblikcdaaGreat
open Go.Sx
theorem zK6{P:Program}{f:FuncId}{t:Ty}(hn:∀cap,SCall P f [.raw (.slice none 0 cap)] (.list t []))(hs:∀a cap,SCall P f [.raw (.slice (some a) 0 cap)] (.list t []))(l:List t.T)
  (hc:∀b r,l=b::r→SCall P f [.list t (b::r)] (.list t (b::r))):SCall P f [.list t l] (.list t l):=by
 cases l with
 |cons b r=>exact hc b r rfl
 |nil=>
  intro m w0 R0 ρ w vs hm hvs
  obtain⟨u,us,rfl,h1,h2⟩:=hvs
  rw[show us=[]from h2]
  obtain⟨a,cap,hxv,_,_⟩:=h1
  injection hxv with hxv
  subst hxv
  cases a with
  |none=>exact hn cap m w0 R0 ρ w [_] hm ⟨_,[],rfl,rfl,rfl⟩
  |some a=>exact hs a cap m w0 R0 ρ w [_] hm ⟨_,[],rfl,rfl,rfl⟩
theorem yb4{P:Program}{f:FuncId}{t:Ty}{v:SV}(h:SCall P f [.list t []] v):SCall P f [.nilS] v:=by
 intro m w0 R0 ρ w vs hm hvs
 obtain⟨u,us,rfl,h1,h2⟩:=hvs
 refine h m w0 R0 ρ w _ hm ⟨u,us,rfl,?_,h2⟩
 exact⟨none,0,by rw[show u=_ from h1];rfl,Nat.le_refl _,fun h=>absurd h (Nat.lt_irrefl _)⟩
def qq5(n:Nat):Bool:=decide ((n:Int)≤100000)
theorem qq6{n:Nat}:qq5 n=true↔n≤100000:=by simp only[qq5,decide_eq_true_eq];omega
theorem xa0(l:List Bk)(h:qq5 l.length=true):SCall pP 175 [LB l] (LB l):=by
 have h:=qq6.1 h
 refine zK6 (t:=t6) (fun cap=>?_) (fun a cap=>?_) l (fun b r hl=>?_)
 ·refine m6 rfl rfl (by kernel_rfl) (w6 k0 (n:=1000) (hint:=t6) (keep:=x8 8 []) (p:=zJ2) (boxes:=[]) rfl ?_)
  have e:=zJ1 cap
  unfold v9 u7 at e
  erw [e]
  exact⟨rfl,rfl⟩
 ·refine m6 rfl rfl (by kernel_rfl) (w6 k0 (n:=1000) (hint:=t6) (keep:=x8 8 []) (p:=zJ5) (boxes:=[]) rfl ?_)
  have e:=zJ4 a cap
  unfold v9 u7 at e
  erw [e]
  exact⟨rfl,rfl⟩
 ·subst hl
  refine m6 rfl rfl (by kernel_rfl) (w6 k0 (n:=1000) (hint:=t6) (keep:=x8 8 []) (p:=zI9) (boxes:=[]) rfl ?_)
  have e:=zI8 b r
  unfold v9 u7 at e
  erw [e]
  refine⟨rfl,?_,rfl⟩
  rw[decide_eq_true_eq]
  have h:(List.length (α:=Ty.T t6) (b::r):Nat)≤100000:=h
  omega
theorem xa1(l:List Int)(h:qq5 l.length=true):SCall pP 176 [LI l] (LI l):=by
 have h:=qq6.1 h
 refine zK6 (t:=.int .i64) (fun cap=>?_) (fun a cap=>?_) l (fun b r hl=>?_)
 ·refine m6 rfl rfl (by kernel_rfl) (w6 k0 (n:=1000) (hint:=.int .i64) (keep:=x8 8 []) (p:=zK1) (boxes:=[]) rfl ?_)
  have e:=zK0 cap
  unfold v9 u7 at e
  erw [e]
  exact⟨rfl,rfl⟩
 ·refine m6 rfl rfl (by kernel_rfl) (w6 k0 (n:=1000) (hint:=.int .i64) (keep:=x8 8 []) (p:=zK4) (boxes:=[]) rfl ?_)
  have e:=zK3 a cap
  unfold v9 u7 at e
  erw [e]
  exact⟨rfl,rfl⟩
 ·subst hl
  refine m6 rfl rfl (by kernel_rfl) (w6 k0 (n:=1000) (hint:=.int .i64) (keep:=x8 8 []) (p:=zJ8) (boxes:=[]) rfl ?_)
  have e:=zJ7 b r
  unfold v9 u7 at e
  erw [e]
  refine⟨rfl,?_,rfl⟩
  rw[decide_eq_true_eq]
  have h:(List.length (α:=Ty.T (.int .i64)) (b::r):Nat)≤100000:=h
  omega
def z44:Fact:=⟨175,fun args=>match args with
 |[.list (.pair (.pair (.int .i64) (.pair (.int .i64) (.pair (.int .i64) (.int .i64)))) (.pair (.int .i64) (.pair (.int .i64) (.pair (.int .i64) (.int .i64))))) l] =>some (.req (qq5 (List.length l)) (.leaf (LB l)))
 |[.nilS] =>some (.leaf (LB []))
 |_=>none⟩
def z45:Fact:=⟨176,fun args=>match args with
 |[.list (.int .i64) l] =>some (.req (qq5 (List.length l)) (.leaf (LI l)))
 |[.nilS] =>some (.leaf (LI []))
 |_=>none⟩
theorem yi8:z44.ok pP:=fun args t ht=>by
 simp only[z44]at ht
 split at ht
 ·injection ht with ht;subst ht;exact xa0 _
 ·injection ht with ht;subst ht
  exact yb4 (t:=t6) (xa0 [] rfl)
 ·cases ht
theorem yi9:z45.ok pP:=fun args t ht=>by
 simp only[z45]at ht
 split at ht
 ·injection ht with ht;subst ht;exact xa1 _
 ·injection ht with ht;subst ht
  exact yb4 (t:=.int .i64) (xa1 [] rfl)
 ·cases ht
theorem yG1{P:Program}{f:FuncId}{t:Ty}(hn:∀cap m m',zb9 m (.rows t []) m'→zd6 P m (.row m.next) m' f [.raw (.slice none 0 cap)])(hs:∀a cap m m',zb9 m (.rows t []) m'→zd6 P m (.row m.next) m' f [.raw (.slice (some a) 0 cap)])(l:List t.T)
  (hc:∀b r,l=b::r→∀m m',zb9 m (.rows t (b::r)) m'→zd6 P m (.row m.next) m' f [.list t (b::r)]) {m m':Mem} (hp:zb9 m (.rows t l) m'):zd6 P m (.row m.next) m' f [.list t l] :=by
 cases l with
 |cons b r=>exact hc b r rfl m m' hp
 |nil=>
  intro w0 R0 ρ w vs hm hvs
  obtain⟨u,us,rfl,h1,h2⟩:=hvs
  rw[show us=[]from h2]
  obtain⟨a,cap,hxv,_,_⟩:=h1
  injection hxv with hxv
  subst hxv
  cases a with
  |none=>exact hn cap m m' hp w0 R0 ρ w [_] hm ⟨_,[],rfl,rfl,rfl⟩
  |some a=>exact hs a cap m m' hp w0 R0 ρ w [_] hm ⟨_,[],rfl,rfl,rfl⟩
theorem yf9(cap:Nat):(z14 (Env.of pP (v6 [])) 1000 175 [.raw (.slice none 0 cap)] zJ2).ownT=.req true (.leaf .nilS):=by kernel_rfl
theorem yg0(a:Addr)(cap:Nat):(z14 (Env.of pP (v6 [])) 1000 175 [.raw (.slice (some a) 0 cap)] zJ5).ownT=.req true (.leaf .nilS):=by kernel_rfl
theorem yf8(b:Bk)(l:List Bk):(z14 (Env.of pP (v6 [])) 1000 175 [.list t6 (b::l)] zI9).ownT=.req (!(b::l).isEmpty) (.req (decide ((0+(b::l).length)*64≤140737488355328)) (.leaf (.list t6 (b::l)))):=by kernel_rfl
theorem yg2(cap:Nat):(z14 (Env.of pP (v6 [])) 1000 176 [.raw (.slice none 0 cap)] zK1).ownT=.req true (.leaf .nilS):=by kernel_rfl
theorem yg3(a:Addr)(cap:Nat):(z14 (Env.of pP (v6 [])) 1000 176 [.raw (.slice (some a) 0 cap)] zK4).ownT=.req true (.leaf .nilS):=by kernel_rfl
theorem yg1(b:Int)(l:List Int):(z14 (Env.of pP (v6 [])) 1000 176 [.list (.int .i64) (b::l)] zJ8).ownT=.req (!(b::l).isEmpty) (.req (decide ((0+(b::l).length)*8≤140737488355328)) (.leaf (.list (.int .i64) (b::l)))):=by kernel_rfl
theorem yF9(l:List Bk)(h:qq5 l.length=true):zc5 pP 175 [LB l] (.row 0,q23 t6 l):=
 yG7 (t:=t6) fun m m' hp=>yG1 (t:=t6) (fun cap m m' hp=>yG5 k0 1000 zJ2 (yf9 cap) ⟨rfl,rfl⟩ rfl hp) (fun a cap m m' hp=>yG5 k0 1000 zJ5 (yg0 a cap) ⟨rfl,rfl⟩ rfl hp) l (fun b r e m m' hp=>yG3 (t:=t6) k0 1000 zI9 (yf8 b r) ⟨rfl,by
  have h:=qq6.1 h
  rw[e]at h
  rw[decide_eq_true_eq]
  have h:(List.length (α:=Ty.T t6) (b::r):Nat)≤100000:=h
  omega,rfl⟩ rfl hp) hp
theorem yG0(l:List Int)(h:qq5 l.length=true):zc5 pP 176 [LI l] (.row 0,q23 (.int .i64) l):=
 yG7 (t:=.int .i64) fun m m' hp=>yG1 (t:=.int .i64) (fun cap m m' hp=>yG5 k0 1000 zK1 (yg2 cap) ⟨rfl,rfl⟩ rfl hp) (fun a cap m m' hp=>yG5 k0 1000 zK4 (yg3 a cap) ⟨rfl,rfl⟩ rfl hp) l (fun b r e m m' hp=>yG3 (t:=.int .i64) k0 1000 zJ8 (yg1 b r) ⟨rfl,by
  have h:=qq6.1 h
  rw[e]at h
  rw[decide_eq_true_eq]
  have h:(List.length (α:=Ty.T (.int .i64)) (b::r):Nat)≤100000:=h
  omega,rfl⟩ rfl hp) hp
theorem yG6{P:Program}{f:FuncId}{t:Ty}{x:SV×Mem}(h:zc5 P f [.list t []] x):zc5 P f [.nilS] x:=by
 intro m v' m' ha w0 R0 ρ w vs hm hvs
 obtain⟨u,us,rfl,h1,h2⟩:=hvs
 refine h m v' m' ha w0 R0 ρ w _ hm ⟨u,us,rfl,?_,h2⟩
 exact⟨none,0,by rw[show u=_ from h1];rfl,Nat.le_refl _,fun h=>absurd h (Nat.lt_irrefl _)⟩
noncomputable def yf6:OFact:=⟨175,fun args=>match args with
 |[.list (.pair (.pair (.int .i64) (.pair (.int .i64) (.pair (.int .i64) (.int .i64)))) (.pair (.int .i64) (.pair (.int .i64) (.pair (.int .i64) (.int .i64))))) l] =>some (.req (qq5 (List.length l)) (.leaf (.row 0,q23 t6 l)))
 |[.nilS] =>some (.leaf (.row 0,q23 t6 []))
 |_=>none⟩
noncomputable def yf7:OFact:=⟨176,fun args=>match args with
 |[.list (.int .i64) l] =>some (.req (qq5 (List.length l)) (.leaf (.row 0,q23 (.int .i64) l)))
 |[.nilS] =>some (.leaf (.row 0,q23 (.int .i64) []))
 |_=>none⟩
theorem yo7:yf6.ok pP:=fun args t ht=>by
 simp only[yf6]at ht
 split at ht
 ·injection ht with ht;subst ht;exact yF9 _
 ·injection ht with ht;subst ht;exact yG6 (t:=t6) (yF9 [] rfl)
 ·cases ht
theorem yo8:yf7.ok pP:=fun args t ht=>by
 simp only[yf7]at ht
 split at ht
 ·injection ht with ht;subst ht;exact yG0 _
 ·injection ht with ht;subst ht;exact yG6 (t:=.int .i64) (yG0 [] rfl)
 ·cases ht
def qU7:List UInt8:=[0,1,2,2,3,3,3,3,4,4,4,4,4,4,4,4,5,5,5,5,5,5,5,5,5,5,5,5,5,5,5,5,6,6,6,6,6,6,6,6,6,6,6,6,6,6,6,6,6,6,6,6,6,6,6,6,6,6,6,6,6,6,6,6,7,7,7,7,7,7,7,7,7,7,7,7,7,7,7,7,7,7,7,7,7,7,7,7,7,7,7,7,7,7,7,7,7,7,7,7,7,7,7,7,7,7,7,7,7,7,7,7,7,7,7,7,7,7,7,7,7,7,7,7,7,7,7,7,8,8,8,8,8,8,8,8,8,8,8,8,8,8,8,8,8,8,8,8,8,8,8,8,8,8,8,8,8,8,8,8,8,8,8,8,8,8,8,8,8,8,8,8,8,8,8,8,8,8,8,8,8,8,8,8,8,8,8,8,8,8,8,8,8,8,8,8,8,8,8,8,8,8,8,8,8,8,8,8,8,8,8,8,8,8,8,8,8,8,8,8,8,8,8,8,8,8,8,8,8,8,8,8,8,8,8,8,8,8,8,8,8,8,8,8,8,8,8,8,8,8,8,8,8,8,8,8]
def U64(n:Int):SV:=.int .u64 n
def qU9(x:Int):Int:=(qU7.getD x.toNat 0).toNat
def qV9(x:Int):Int:=
 if x≥4294967296 then
  if x / 4294967296≥65536 then
   if x / 4294967296 / 65536≥256 then 56+qU9 (x / 4294967296 / 65536 / 256)else 48+qU9 (x / 4294967296 / 65536)
  else if x / 4294967296≥256 then 40+qU9 (x / 4294967296 / 256)else 32+qU9 (x / 4294967296)
 else if x≥65536 then
  if x / 65536≥256 then 24+qU9 (x / 65536 / 256)else 16+qU9 (x / 65536)
 else if x≥256 then 8+qU9 (x / 256)else qU9 x
def okU(x:Int):Bool:=inR x 0 18446744073709551615
def qm2(f:FuncId)(h:Int→Tree SV):Fact:=⟨f,fun args=>match args with
 |[.int .u64 a] =>some (h a)
 |_=>none⟩
theorem qm7{P:Program}{f:FuncId}{h:Int→Tree SV}(k:∀a,(h a).says (SCall P f [U64 a])):(qm2 f h).ok P:=fun args t ht=>by
 simp only[qm2]at ht
 split at ht
 ·injection ht with ht;subst ht;exact k _
 ·cases ht
def qm3(f:FuncId)(h:Int→Int→Tree SV):Fact:=⟨f,fun args=>match args with
 |[.int .u64 a,.int .u64 b] =>some (h a b)
 |_=>none⟩
theorem qm6{P:Program}{f:FuncId}{h:Int→Int→Tree SV}(k:∀a b,(h a b).says (SCall P f [U64 a,U64 b])):(qm3 f h).ok P:=fun args t ht=>by
 simp only[qm3]at ht
 split at ht
 ·injection ht with ht;subst ht;exact k _ _
 ·cases ht
def qm4(f:FuncId)(h:Int→Int→Int→Tree SV):Fact:=⟨f,fun args=>match args with
 |[.int .u64 a,.int .u64 b,.int .u64 c] =>some (h a b c)
 |_=>none⟩
theorem qm5{P:Program}{f:FuncId}{h:Int→Int→Int→Tree SV}(k:∀a b c,(h a b c).says (SCall P f [U64 a,U64 b,U64 c])):(qm4 f h).ok P:=fun args t ht=>by
 simp only[qm4]at ht
 split at ht
 ·injection ht with ht;subst ht;exact k _ _ _
 ·cases ht
theorem qU8:((List.range 256).all fun k=>Nat.ble (qU7.getD k 0).toNat 8&& (Nat.beq k 0||(Nat.ble (2 ^ ((qU7.getD k 0).toNat-1)) k&& (Nat.blt k (2 ^ (qU7.getD k 0).toNat)&&Nat.ble 1 (qU7.getD k 0).toNat))))=true:=by kernel_rfl
theorem qV1{x:Int}(h0:1≤x)(h1:x<256):∃t:Nat,qU9 x=t∧1≤t∧t≤8∧(2:Int) ^ (t-1)≤x∧x<2 ^ t:=by
 have h:=List.all_eq_true.1 qU8 x.toNat (List.mem_range.2 (by omega))
 simp only[Bool.and_eq_true,Bool.or_eq_true,Nat.ble_eq,Nat.beq_eq_true_eq,Nat.blt_eq]at h
 obtain⟨h2,h3⟩:=h
 rcases h3 with h3|⟨h3,h4,h5⟩
 ·have:=Nat.eq_of_beq_eq_true h3;omega
 ·refine⟨_,rfl,h5,h2,?_,?_⟩
  ·have:((2 ^ ((qU7.getD x.toNat 0).toNat-1):Nat):Int)≤(x.toNat:Int):=Int.ofNat_le.2 h3
   rw[Int.toNat_of_nonneg (by omega)]at this
   simpa using this
  ·have:((x.toNat:Nat):Int)< ((2 ^ ((qU7.getD x.toNat 0).toNat):Nat):Int):=Int.ofNat_lt.2 h4
   rw[Int.toNat_of_nonneg (by omega)]at this
   simpa using this
theorem qW1{x:Int}{e t:Nat}(ht:1≤t)(h1:(2:Int) ^ (t-1)≤x / 2 ^ e)(h2:x / 2 ^ e<2 ^ t):(2:Int) ^ (e+t-1)≤x∧x<2 ^ (e+t):=by
 have hp:(0:Int)<2 ^ e:=yP6 e
 constructor
 ·rw[Int.le_ediv_iff_mul_le hp]at h1
  rw[show e+t-1=(t-1)+e by omega,Int.pow_add];exact h1
 ·rw[Int.ediv_lt_iff_lt_mul hp]at h2
  rw[show e+t=t+e by omega,Int.pow_add];exact h2
theorem qW0{x:Int}(h0:1≤x)(h1:x<18446744073709551616):∃n:Nat,qV9 x=n∧1≤n∧n≤64∧(2:Int) ^ (n-1)≤x∧x<2 ^ n:=by
 have go:∀ (e:Nat) (k:Int),e≤56→k=x / 2 ^ e→1≤k→k<256→∃n:Nat,(e:Int)+qU9 k=n∧1≤n∧n≤64∧(2:Int) ^ (n-1)≤x∧x<2 ^ n:=fun e k he hk k1 k2=>by
  obtain⟨t,e1,e2,e3,e4,e5⟩:=qV1 k1 k2
  rw[hk]at e4 e5
  obtain⟨u1,u2⟩:=qW1 e2 e4 e5
  exact⟨e+t,by rw[e1];simp,by omega,by omega,u1,u2⟩
 unfold qV9
 (repeat' split)
 ·exact go 56 _ (by omega) (by rw[show(2:Int) ^ 56=72057594037927936 by decide];omega) (by omega) (by omega)
 ·exact go 48 _ (by omega) (by rw[show(2:Int) ^ 48=281474976710656 by decide];omega) (by omega) (by omega)
 ·exact go 40 _ (by omega) (by rw[show(2:Int) ^ 40=1099511627776 by decide];omega) (by omega) (by omega)
 ·exact go 32 _ (by omega) (by rw[show(2:Int) ^ 32=4294967296 by decide]) (by omega) (by omega)
 ·exact go 24 _ (by omega) (by rw[show(2:Int) ^ 24=16777216 by decide];omega) (by omega) (by omega)
 ·exact go 16 _ (by omega) (by rw[show(2:Int) ^ 16=65536 by decide]) (by omega) (by omega)
 ·exact go 8 _ (by omega) (by rw[show(2:Int) ^ 8=256 by decide]) (by omega) (by omega)
 ·have:=go 0 x (by omega) (by simp) (by omega) (by omega)
  simpa using this
theorem qV0(x:Int):0≤qU9 x∧qU9 x≤255:=by unfold qU9;have:=(qU7.getD x.toNat 0).toNat_lt;omega
theorem w8{x:Int}(h0:0≤x)(h1:x<256):IntKind.u8.wrap x=x:=by
 have h2:IntKind.wrap .u8 x=if false&&decide (x % 256≥128)then x % 256-256 else x % 256:=rfl
 rw[h2]
 simp only[Bool.false_and,Bool.false_eq_true,if_false]
 omega
theorem wU(x:Int):u64.wrap x=x % 18446744073709551616:=by
 have h2:IntKind.wrap .u64 x=if false&&decide (x % 18446744073709551616≥9223372036854775808)then x % 18446744073709551616-18446744073709551616 else x % 18446744073709551616:=rfl
 rw[h2]
 simp only[Bool.false_and,Bool.false_eq_true,if_false]
theorem zo7{x:Int}(h0:0≤x)(h1:x<18446744073709551616):(((BitVec.ofInt 64 x &&&BitVec.ofInt 64 4294967295).toNat:Nat):Int)=x % 4294967296:=by
 obtain⟨m,rfl⟩:=Int.eq_ofNat_of_zero_le h0
 have e1:(BitVec.ofInt 64 (m:Int)).toNat=m:=by
  rw[BitVec.toNat_ofInt]
  have:((2 ^ 64:Nat):Int)=18446744073709551616:=rfl
  rw[this];omega
 have e2:(BitVec.ofInt 64 4294967295).toNat=2 ^ 32-1:=by decide
 rw[BitVec.toNat_and,e1,e2,Nat.and_two_pow_sub_one_eq_mod]
 omega
theorem xf8(x:Int)(h:okU x=true):SCall pP 318 [U64 x] (I64 (qV9 x)):=
 o9 mix [] trivial 1000 (.fork (.fork (.fork (.all) (.all)) (.fork (.all) (.all))) (.fork (.fork (.all) (.all)) (.fork (.all) (.all))))
  (t:=let y0:=x.fdiv 4294967296;let y1:=y0.fdiv 65536;let y2:=x.fdiv 65536;.node (decide (x≥4294967296)) (.req true (.node (decide (x.fdiv 4294967296≥65536)) (.req true (.node (decide (y0.fdiv 65536≥256)) (.req true (.req (decide (0≤IntKind.u8.wrap (y1.fdiv 256))&&decide (IntKind.u8.wrap (y1.fdiv 256)<256)) (.leaf (.int .i64 (i64.wrap (56+i64.wrap (↑(qU7.getD (IntKind.u8.wrap (y1.fdiv 256)).toNat 0).toNat:Int))))))) (.req (decide (0≤IntKind.u8.wrap y1)&&decide (IntKind.u8.wrap y1<256)) (.leaf (.int .i64 (i64.wrap (48+i64.wrap (↑(qU7.getD (IntKind.u8.wrap y1).toNat 0).toNat:Int)))))))) (.node (decide (x.fdiv 4294967296≥256)) (.req true (.req (decide (0≤IntKind.u8.wrap (y0.fdiv 256))&&decide (IntKind.u8.wrap (y0.fdiv 256)<256)) (.leaf (.int .i64 (i64.wrap (40+i64.wrap (↑(qU7.getD (IntKind.u8.wrap (y0.fdiv 256)).toNat 0).toNat:Int))))))) (.req (decide (0≤IntKind.u8.wrap y0)&&decide (IntKind.u8.wrap y0<256)) (.leaf (.int .i64 (i64.wrap (32+i64.wrap (↑(qU7.getD (IntKind.u8.wrap y0).toNat 0).toNat:Int))))))))) (.node (decide (x≥65536)) (.req true (.node (decide (x.fdiv 65536≥256)) (.req true (.req (decide (0≤IntKind.u8.wrap (y2.fdiv 256))&&decide (IntKind.u8.wrap (y2.fdiv 256)<256)) (.leaf (.int .i64 (i64.wrap (24+i64.wrap (↑(qU7.getD (IntKind.u8.wrap (y2.fdiv 256)).toNat 0).toNat:Int))))))) (.req (decide (0≤IntKind.u8.wrap y2)&&decide (IntKind.u8.wrap y2<256)) (.leaf (.int .i64 (i64.wrap (16+i64.wrap (↑(qU7.getD (IntKind.u8.wrap y2).toNat 0).toNat:Int)))))))) (.node (decide (x≥256)) (.req true (.req (decide (0≤IntKind.u8.wrap (x.fdiv 256))&&decide (IntKind.u8.wrap (x.fdiv 256)<256)) (.leaf (.int .i64 (i64.wrap (8+i64.wrap (↑(qU7.getD (IntKind.u8.wrap (x.fdiv 256)).toNat 0).toNat:Int))))))) (.req (decide (0≤IntKind.u8.wrap x)&&decide (IntKind.u8.wrap x<256)) (.leaf (.int .i64 (i64.wrap (0+i64.wrap (↑(qU7.getD (IntKind.u8.wrap x).toNat 0).toNat:Int)))))))))
  (by kernel_rfl) (by
   have r:=v8.1 h
   have f1:∀y:Int,y.fdiv 4294967296=y / 4294967296:=fun y=>Int.fdiv_eq_ediv_of_nonneg _ (by omega)
   have f2:∀y:Int,y.fdiv 65536=y / 65536:=fun y=>Int.fdiv_eq_ediv_of_nonneg _ (by omega)
   have f3:∀y:Int,y.fdiv 256=y / 256:=fun y=>Int.fdiv_eq_ediv_of_nonneg _ (by omega)
   simp only[f1,f2,f3]
   have g:∀k:Int,0≤k→k<256→i64.wrap (((qU7.getD (IntKind.u8.wrap k).toNat 0).toNat:Nat):Int)=qU9 k:=fun k h0 h1=>by
    have:=qV0 k
    rw[w8 h0 h1];exact w64 (by have:((qU7.getD k.toNat 0).toNat:Int)=qU9 k:=rfl;omega) (by have:((qU7.getD k.toNat 0).toNat:Int)=qU9 k:=rfl;omega)
   simp only[Tree.holds,sL,ne_eq,sLb,sLc,eq_self,sLd,sLe,sLf];(repeat' (first|apply And.intro|intro _));
   all_goals first
    |(rw[w8 (by omega) (by omega)];omega)
    |(rw[g _ (by omega) (by omega)]
      refine xF9 ?_
      have:=qV0
      unfold qV9
      repeat first|rw[if_pos (by omega)] |rw[if_neg (by omega)]
      first
      |(rw[w64 (by have:=qV0 (x / 4294967296 / 65536 / 256);omega) (by have:=qV0 (x / 4294967296 / 65536 / 256);omega)])
      |(rw[w64 (by have:=qV0 (x / 4294967296 / 65536);omega) (by have:=qV0 (x / 4294967296 / 65536);omega)])
      |(rw[w64 (by have:=qV0 (x / 4294967296 / 256);omega) (by have:=qV0 (x / 4294967296 / 256);omega)])
      |(rw[w64 (by have:=qV0 (x / 4294967296);omega) (by have:=qV0 (x / 4294967296);omega)])
      |(rw[w64 (by have:=qV0 (x / 65536 / 256);omega) (by have:=qV0 (x / 65536 / 256);omega)])
      |(rw[w64 (by have:=qV0 (x / 65536);omega) (by have:=qV0 (x / 65536);omega)])
      |(rw[w64 (by have:=qV0 (x / 256);omega) (by have:=qV0 (x / 256);omega)])
      |(rw[w64 (by have:=qV0 x;omega) (by have:=qV0 x;omega)];omega))) (by kernel_rfl) (by kernel_rfl)
def z89:Fact:=qm2 318 fun x=>.req (okU x) (.leaf (I64 (qV9 x)))
theorem yn0:z89.ok pP:=qm7 fun x h=>xf8 x h
def yP8(x y:Int):SV:=.tuple [U64 (x*y / 18446744073709551616),U64 (x*y % 18446744073709551616)]
theorem yJ5{a b c d:Int}(h:a=c)(k:b=d):SV.tuple [SV.int .u64 a,SV.int .u64 b] =SV.tuple [U64 c,U64 d] :=by subst h k;rfl
theorem xi1(x y:Int)(hx:okU x=true)(hy:okU y=true):SCall pP 331 [U64 x,U64 y] (yP8 x y):=
 o9 mix [] trivial 1000 (.all)
  (t:=let y1:=(↑(BitVec.ofInt 64 x &&&BitVec.ofInt 64 4294967295).toNat:Int);let y2:=(↑(BitVec.ofInt 64 y &&&BitVec.ofInt 64 4294967295).toNat:Int);let y0:=u64.wrap (u64.wrap (x.fdiv 4294967296*u64.wrap y2)+(u64.wrap (u64.wrap y1*u64.wrap y2)).fdiv 4294967296);.req (true) (.req true (.req (true) (.req true (.req (true) (.leaf (.tuple [.int .u64 (u64.wrap (u64.wrap (u64.wrap (x.fdiv 4294967296*y.fdiv 4294967296)+y0.fdiv 4294967296)+(u64.wrap (u64.wrap (↑(BitVec.ofInt 64 y0 &&&BitVec.ofInt 64 4294967295).toNat:Int)+u64.wrap (u64.wrap y1*y.fdiv 4294967296))).fdiv 4294967296)),.int .u64 (u64.wrap (x*y))])))))))
  (by kernel_rfl) (by
   have rx:=v8.1 hx
   have ry:=v8.1 hy
   obtain⟨X,rfl⟩:=Int.eq_ofNat_of_zero_le rx.1
   obtain⟨Y,rfl⟩:=Int.eq_ofNat_of_zero_le ry.1
   have f1:∀y:Int,y.fdiv 4294967296=y / 4294967296:=fun y=>Int.fdiv_eq_ediv_of_nonneg _ (by omega)
   simp only[Tree.holds,f1,zo7 rx.1 (by omega),zo7 ry.1 (by omega),true_and]
   obtain⟨k1,k2,k3,k4⟩:=Go.Lib.mul64_hi X Y (by omega) (by omega)
   have wN:∀n:Nat,n<18446744073709551616→u64.wrap (n:Int)=(n:Int):=fun n hn=>by rw[wU];omega
   have c1:(X:Int) % 4294967296=((X % 4294967296:Nat):Int):=by omega
   have c2:(Y:Int) % 4294967296=((Y % 4294967296:Nat):Int):=by omega
   have c3:(X:Int) / 4294967296=((X / 4294967296:Nat):Int):=by omega
   have c4:(Y:Int) / 4294967296=((Y / 4294967296:Nat):Int):=by omega
   have q1:=Nat.mul_le_mul (show X / 4294967296≤4294967295 by omega) (show Y % 4294967296≤4294967295 by omega)
   have q2:=Nat.mul_le_mul (show X % 4294967296≤4294967295 by omega) (show Y / 4294967296≤4294967295 by omega)
   have q3:=Nat.mul_le_mul (show X / 4294967296≤4294967295 by omega) (show Y / 4294967296≤4294967295 by omega)
   have q4:=Nat.mul_le_mul (show X % 4294967296≤4294967295 by omega) (show Y % 4294967296≤4294967295 by omega)
   simp only[c1,c2,c3,c4,←Int.natCast_mul,wN _ (show X % 4294967296<18446744073709551616 by omega),wN _ (show Y % 4294967296<18446744073709551616 by omega)]
   generalize ha:X / 4294967296*(Y % 4294967296)=a at *
   generalize hb:X % 4294967296*(Y / 4294967296)=b at *
   generalize hc:X / 4294967296*(Y / 4294967296)=c at *
   generalize hd:X % 4294967296*(Y % 4294967296)=d at *
   simp only[wN a (by omega),wN b (by omega),wN c (by omega),wN d (by omega)]
   have c5:((d:Nat):Int) / 4294967296=((d / 4294967296:Nat):Int):=by omega
   simp only[c5,←Int.natCast_add]
   have ea:=wN (a+d / 4294967296) (by omega)
   simp only[ea]
   have c6:=zo7 (x:=((a+d / 4294967296:Nat):Int)) (by omega) (by omega)
   simp only[c6]
   refine yJ5 ?_ ?_
   ·simp only[wU];omega
   ·rw[wU];omega) (by kernel_rfl) (by kernel_rfl)
def z98:Fact:=qm3 331 fun x y=>.req (okU x) (.req (okU y) (.leaf (yP8 x y)))
theorem yo0:z98.ok pP:=qm6 (fun x y hx hy=>xi1 x y hx hy)
def siz(x:Int):Int:=if x<0 then -x else x
def yv9(x:Int):Bool:=inR x (-9223372036854775808) 9223372036854775807
theorem xm4(x:Int)(h:yv9 x=true):SCall pP 332 [I64 x] (U64 (siz x)):=
 o9 mix [] trivial 1000 (.fork (.all) (.all))
  (t:=.node (decide (x<0))
 (.leaf (SV.int IntKind.u64 (u64.wrap (0-u64.wrap x))))
 (.leaf (SV.int IntKind.u64 (u64.wrap x))))
   (by kernel_rfl) (by
    have r:=v8.1 h
    simp only[Tree.holds,sL,ne_eq,sLb,sLc,eq_self,sLd,sLe,sLf]
    refine⟨fun hc=>?_,fun hc=>?_⟩<;>unfold siz U64<;>simp only[wU]
    ·rw[if_pos hc];congr 1;omega
    ·rw[if_neg hc];congr 1;omega) (by kernel_rfl) (by kernel_rfl)
def qc8:Fact:=qi8 332 fun x=>.req (yv9 x) (.leaf (U64 (siz x)))
theorem yr7:qc8.ok pP:=qj5 (fun x h=>xm4 x h)
theorem xg9(x:Int)(h:(okU x&&decide (1≤x))=true):SCall pP 337 [U64 x] (I64 (64-qV9 x)):=
 o9 mix [z89] ⟨yn0,trivial⟩ 1000 (.all)
  (t:=.req (okU x) (.leaf (SV.int IntKind.i64 (i64.wrap (64-qV9 x)))))
  (by kernel_rfl) (by
   rw[Bool.and_eq_true,decide_eq_true_eq]at h
   have r:=v8.1 h.1
   obtain⟨n,e1,e2,e3,_⟩:=qW0 h.2 (by omega)
   refine⟨h.1,?_⟩
   rw[w64 (by omega) (by omega)];rfl) (by kernel_rfl) (by kernel_rfl)
def fLz:Fact:=qm2 337 fun x=>.req (okU x&&decide (1≤x)) (.leaf (I64 (64-qV9 x)))
theorem yn3:fLz.ok pP:=qm7 fun x h=>xg9 x h
def zU9:Plan:=.fork (.all) (.fork (.all) (.fork (.all) (.all)))
noncomputable def zV0(h l y:Int):Tree Stop:=let y2:=u64.wrap (64-qV9 y);let y0:=(↑(BitVec.ofInt 64 (u64.wrap (h*2 ^ min y2.toNat 64)) |||BitVec.ofInt 64 (l.fdiv (2 ^ min (u64.wrap (64-u64.wrap (64-qV9 y))).toNat 64))).toNat:Int);let y1:=u64.wrap (y*2 ^ min y2.toNat 64);let y3:=decide (0≤u64.wrap (64-qV9 y)); .node (y==0) (.fail 14) (.node (decide (y≤h)) (.fail 14) (.node (h==0) (.req (!y==0) (.req (!y==0) (.leaf (.done (.tuple [.int .u64 (u64.wrap (l.tdiv y)),.int .u64 (l.tmod y)]))))) (.req (okU y&&decide (1≤y)) (.req y3 (.req true (.req y3 (.req (decide (0≤u64.wrap (64-u64.wrap (64-qV9 y)))) (.req y3 (.req true (.req (!y1.fdiv 4294967296==0) (.leaf (.at (j9 pP 333 0) 135 (j8 135 [(2,.int .u64 y1),(8,.int .u64 y2),(9,.int .u64 (y1.fdiv 4294967296)),(10,.int .u64 (u64.wrap (↑(BitVec.ofInt 64 y1 &&&BitVec.ofInt 64 4294967295).toNat:Int))),(11,.int .u64 (u64.wrap y0)),(13,.int .u64 ((u64.wrap (l*2 ^ min y2.toNat 64)).fdiv 4294967296)),(14,.int .u64 (u64.wrap (↑(BitVec.ofInt 64 (u64.wrap (l*2 ^ min y2.toNat 64)) &&&BitVec.ofInt 64 4294967295).toNat:Int))),(15,.int .u64 (u64.wrap ((u64.wrap y0).tdiv (y1.fdiv 4294967296)))),(16,.int .u64 (u64.wrap (u64.wrap y0-u64.wrap (u64.wrap ((u64.wrap y0).tdiv (y1.fdiv 4294967296))*y1.fdiv 4294967296))))]) []))))))))))))
theorem dv0(h l y:Int):w9 (Env.of pP (v6 [fLz])) 1000 (j7 pP 333) .unit (x8 135 [2,8,9,10,11,13,14,15,16]) (u7 pP 333) zU9 (v9 pP 333 [U64 h,U64 l,U64 y]) [] =zV0 h l y:=by kernel_rfl
def zV2:Plan:=.fork (.ln 9 (.fork .all .all)) (.ln 8 (.fork (.fork .all .all) .all))
noncomputable def zV4(y s p1 p0 u v1 v0 q r:Int):Tree Stop:=let y1:=u64.wrap (u64.wrap (u*4294967296)+v1)-u64.wrap (u64.wrap (q-1)*y);let y0:Tree Stop:=.node (decide (u64.wrap (r+p1)≥4294967296)) (.req (!p1==0) (.leaf (.at (j9 pP 333 1) 135 (j8 135 [(2,.int .u64 y),(8,.int .u64 s),(9,.int .u64 p1),(10,.int .u64 p0),(11,.int .u64 u),(13,.int .u64 v1),(14,.int .u64 v0),(15,.int .u64 (u64.wrap (q-1))),(16,.int .u64 (u64.wrap (u64.wrap y1-u64.wrap (u64.wrap ((u64.wrap y1).tdiv p1)*p1)))),(17,.int .u64 (u64.wrap y1)),(18,.int .u64 (u64.wrap ((u64.wrap y1).tdiv p1)))]) []))) (.leaf (.at (j9 pP 333 0) 135 (j8 135 [(2,.int .u64 y),(8,.int .u64 s),(9,.int .u64 p1),(10,.int .u64 p0),(11,.int .u64 u),(13,.int .u64 v1),(14,.int .u64 v0),(15,.int .u64 (u64.wrap (q-1))),(16,.int .u64 (u64.wrap (r+p1)))]) []));let y2:=u64.wrap (u64.wrap (u*4294967296)+v1)-u64.wrap (q*y); .node (decide (q≥4294967296)) y0 (.node (decide (u64.wrap (q*p0)>u64.wrap (u64.wrap (4294967296*r)+v1))) y0 (.req (!p1==0) (.leaf (.at (j9 pP 333 1) 135 (j8 135 [(2,.int .u64 y),(8,.int .u64 s),(9,.int .u64 p1),(10,.int .u64 p0),(11,.int .u64 u),(13,.int .u64 v1),(14,.int .u64 v0),(15,.int .u64 q),(16,.int .u64 (u64.wrap (u64.wrap y2-u64.wrap (u64.wrap ((u64.wrap y2).tdiv p1)*p1)))),(17,.int .u64 (u64.wrap y2)),(18,.int .u64 (u64.wrap ((u64.wrap y2).tdiv p1)))]) []))))
theorem dv1(y s p1 p0 u v1 v0 q r:Int):w9 (Env.of pP (v6 [])) 1000 (j7 pP 333) .unit (x8 135 [2,8,9,10,14,15,16,17,18,11,13]) (j9 pP 333 0) zV2 (j8 135 [(2,U64 y),(8,U64 s),(9,U64 p1),(10,U64 p0),(11,U64 u),(13,U64 v1),(14,U64 v0),(15,U64 q),(16,U64 r)]) [] =zV4 y s p1 p0 u v1 v0 q r:=by kernel_rfl
def zV6:Plan:=.fork (.ln 9 (.fork .all .all)) (.ln 8 (.fork (.fork .all .all) .all))
noncomputable def zV8(y s p1 p0 u v1 v0 a t q r:Int):Tree Stop:=let y0:Tree Stop:=.node (decide (u64.wrap (r+p1)≥4294967296)) (.req (decide (0≤s)) (.leaf (.done (.tuple [.int .u64 (u64.wrap (u64.wrap (a*4294967296)+u64.wrap (q-1))),.int .u64 ((u64.wrap (u64.wrap (u64.wrap (t*4294967296)+v0)-u64.wrap (u64.wrap (q-1)*y))).fdiv (2 ^ min s.toNat 64))])))) (.leaf (.at (j9 pP 333 1) 135 (j8 135 [(2,.int .u64 y),(8,.int .u64 s),(9,.int .u64 p1),(10,.int .u64 p0),(11,.int .u64 u),(13,.int .u64 v1),(14,.int .u64 v0),(15,.int .u64 a),(16,.int .u64 (u64.wrap (r+p1))),(17,.int .u64 t),(18,.int .u64 (u64.wrap (q-1)))]) [])); .node (decide (q≥4294967296)) y0 (.node (decide (u64.wrap (q*p0)>u64.wrap (u64.wrap (4294967296*r)+v0))) y0 (.req (decide (0≤s)) (.leaf (.done (.tuple [.int .u64 (u64.wrap (u64.wrap (a*4294967296)+q)),.int .u64 ((u64.wrap (u64.wrap (u64.wrap (t*4294967296)+v0)-u64.wrap (q*y))).fdiv (2 ^ min s.toNat 64))])))))
theorem dv2(y s p1 p0 u v1 v0 a t q r:Int):w9 (Env.of pP (v6 [])) 1000 (j7 pP 333) .unit (x8 135 [2,8,9,10,14,15,16,17,18,11,13]) (j9 pP 333 1) zV6 (j8 135 [(2,U64 y),(8,U64 s),(9,U64 p1),(10,U64 p0),(11,U64 u),(13,U64 v1),(14,U64 v0),(15,U64 a),(16,U64 r),(17,U64 t),(18,U64 q)]) [] =zV8 y s p1 p0 u v1 v0 a t q r:=by kernel_rfl
theorem wN{n:Nat}(hn:n<18446744073709551616):u64.wrap (n:Int)=(n:Int):=by rw[wU];omega
theorem xG9(a b:Nat):((a:Int).tdiv (b:Int))=((a / b:Nat):Int):=by
 rw[Int.tdiv_eq_ediv_of_nonneg (by omega)];rfl
theorem zS1{U v Q Y R:Nat}(h:U*4294967296+v=Q*Y+R)(hR:R<18446744073709551616):u64.wrap (u64.wrap (u64.wrap ((U:Int)*4294967296)+(v:Int))-u64.wrap ((Q:Int)*(Y:Int)))=((R:Nat):Int):=by
 rw[←Int.natCast_mul Q Y]
 generalize Q*Y=b at h ⊢
 simp only[wU];omega
theorem yZ8{t p:Nat}(ht:t<18446744073709551616)(hp:0<p):u64.wrap ((t:Int).tdiv (p:Int))=((t / p:Nat):Int)∧u64.wrap ((t:Int)-u64.wrap (((t / p:Nat):Int)*(p:Int)))=((t-t / p*p:Nat):Int):=by
 have h1:t / p≤t:=Nat.div_le_self _ _
 have h2:=Nat.div_mul_le_self t p
 rw[xG9,←Int.natCast_mul]
 generalize t / p*p=b at h2 ⊢
 generalize t / p=c at h1 ⊢
 simp only[wU];omega
theorem yP7{q:Nat}(h:1≤q)(h2:q<18446744073709551616):u64.wrap ((q:Int)-1)=((q-1:Nat):Int):=by rw[wU];omega
section
variable {s p1 p0 Y U v1 v0:Nat}
noncomputable def sl1(s p1 p0 Y U v1 v0 q r:Nat):List SV:=j8 135 [(2,U64 Y),(8,U64 s),(9,U64 p1),(10,U64 p0),(11,U64 U),(13,U64 v1),(14,U64 v0),(15,U64 q),(16,U64 r)]
noncomputable def sl2(s p1 p0 Y U v1 v0 a t q r:Nat):List SV:=j8 135 [(2,U64 Y),(8,U64 s),(9,U64 p1),(10,U64 p0),(11,U64 U),(13,U64 v1),(14,U64 v0),(15,U64 a),(16,U64 r),(17,U64 t),(18,U64 q)]
theorem zV3{Q T:Nat}{res:SV}(hQ:(U*4294967296+v1) / Y=Q)(hT:(U*4294967296+v1) % Y=T)(hd:res.data=true)(hY:9223372036854775808≤Y∧Y<18446744073709551616)(e1:p1=Y / 4294967296)(e0:p0=Y % 4294967296)(hU:U<Y)(hv:v1<4294967296)
  (k:b8 pP (j7 pP 333) res (j9 pP 333 1) (sl2 s p1 p0 Y U v1 v0 Q T (T / p1) (T-T / p1*p1)) [])
  (q r:Nat) (h1:q*p1+r=U) (h2:Q≤q) (h3:q≤4294967297) (h4:r<4294967296)
  (ih:∀q' r':Nat,q'<q→q'*p1+r'=U→Q≤q'→r'<4294967296→b8 pP (j7 pP 333) res (j9 pP 333 0) (sl1 s p1 p0 Y U v1 v0 q' r') []):
  b8 pP (j7 pP 333) res (j9 pP 333 0) (sl1 s p1 p0 Y U v1 v0 q r) [] :=by
 have hp1:2147483648≤p1∧p1<4294967296:=by omega
 have hTY:T<Y:=by rw[←hT];exact Nat.mod_lt _ (by omega)
 have D:∀q':Nat,q'=Q→u64.wrap (u64.wrap (u64.wrap ((U:Int)*4294967296)+(v1:Int))-u64.wrap ((q':Int)*(Y:Int)))=((T:Nat):Int):=fun q' h=>by
  subst h;exact zS1 (by rw[←hQ,←hT,Nat.div_add_mod']) (by omega)
 obtain⟨R1,R2⟩:=yZ8 (t:=T) (p:=p1) (by omega) (by omega)
 have wr:u64.wrap ((r:Int)+(p1:Int))=((r+p1:Nat):Int):=by rw[wU];omega
 have np:(!((p1:Int)==0))=true:=by simp;omega
 -- a step down
 have down:Q+1≤q→(q-1)*p1+(r+p1)=U∧Q≤q-1∧u64.wrap ((q:Int)-1)=((q-1:Nat):Int):=fun h=>by
  refine⟨?_,by omega,yP7 (by omega) (by omega)⟩
  obtain⟨q',rfl⟩:∃q',q=q'+1:=⟨q-1,by omega⟩
  rw[Nat.add_mul]at h1
  rw[Nat.add_sub_cancel];omega
 have wm:u64.wrap (4294967296*(r:Int))=((4294967296*r:Nat):Int):=by rw[wU];omega
 have wm2:u64.wrap (((4294967296*r:Nat):Int)+(v1:Int))=((4294967296*r+v1:Nat):Int):=by rw[wU];omega
 have wqp:q<4294967296→u64.wrap ((q:Int)*(p0:Int))=((q*p0:Nat):Int):=fun h=>by
  have:q*p0≤4294967295*4294967295:=Nat.mul_le_mul (by omega) (by omega)
  rw[←Int.natCast_mul];exact wN (by omega)
 have less:=zR8 (y:=Y) (u:=U) (u1:=v1) (q:=q) (rh:=r) (by omega) hU hv (by rw[←e1];exact h1)
 rw[hQ]at less
 have out:=zS0 (y:=Y) (u:=U) (u1:=v1) (q:=q) (rh:=r) (by omega) (by rw[←e1];exact h1) (by rw[hQ];exact h2)
 rw[hQ]at out
 have brk:Q+1≤q→4294967296≤r+p1→q-1=Q:=fun h hb=>by have:=zR5 (y:=Y) (u:=U) (u1:=v1) (q:=q-1) (rh:=r+p1) (by omega) (by rw[←e1];exact(down h).1) (by rw[hQ];exact(down h).2.1) (by omega) hb;rw[hQ]at this;exact this
 have stay:Q+1≤q→r+p1<4294967296→b8 pP (j7 pP 333) res (j9 pP 333 0) (sl1 s p1 p0 Y U v1 v0 (q-1) (r+p1)) [] :=fun h hr=>ih _ _ (by omega) (down h).1 (down h).2.1 hr
 refine w6 k0 (n:=1000) (hint:=.unit) (keep:=x8 135 [2,8,9,10,14,15,16,17,18,11,13]) (p:=zV2) hd ?_
 unfold sl1
 erw [dv1 Y s p1 p0 U v1 v0 q r]
 unfold zV4
 rw[wr]
 simp only[Tree.holds,decide_eq_true_eq,decide_eq_false_iff_not,np,true_and]
 unfold sl1 at stay
 unfold sl2 at k
 refine⟨fun c=>⟨fun b=>?_,fun b=>?_⟩,fun c=>?_⟩
 ·have hl:=less (.inl (by omega))
  rw[(down hl).2.2,D _ (brk hl (by omega)),R1,R2,brk hl (by omega)]
  exact⟨o8 _ _,k⟩
 ·have hl:=less (.inl (by omega))
  rw[(down hl).2.2]
  exact⟨o8 _ _,stay hl (by omega)⟩
 ·rw[wqp (by omega),wm,wm2]
  refine⟨fun d=>⟨fun b=>?_,fun b=>?_⟩,fun d=>?_⟩
  ·have hl:=less (.inr (by rw[←e0];omega))
   rw[(down hl).2.2,D _ (brk hl (by omega)),R1,R2,brk hl (by omega)]
   exact⟨o8 _ _,k⟩
  ·have hl:=less (.inr (by rw[←e0];omega))
   rw[(down hl).2.2]
   exact⟨o8 _ _,stay hl (by omega)⟩
  ·have ho:=out (by rw[←e0];omega)
   rw[D _ ho,R1,R2,ho]
   exact⟨o8 _ _,k⟩
theorem zV1{Q T:Nat}{res:SV}(hQ:(U*4294967296+v1) / Y=Q)(hT:(U*4294967296+v1) % Y=T)(hd:res.data=true)(hY:9223372036854775808≤Y∧Y<18446744073709551616)(e1:p1=Y / 4294967296)(e0:p0=Y % 4294967296)(hU:U<Y)(hv:v1<4294967296)
  (k:b8 pP (j7 pP 333) res (j9 pP 333 1) (sl2 s p1 p0 Y U v1 v0 Q T (T / p1) (T-T / p1*p1)) []):
  ∀ (n q r:Nat),q<n→q*p1+r=U→Q≤q→q≤4294967297→r<4294967296→b8 pP (j7 pP 333) res (j9 pP 333 0) (sl1 s p1 p0 Y U v1 v0 q r) []
 |0,q,r,hn,_,_,_,_=>by omega
 |n+1,q,r,hn,h1,h2,h3,h4=>zV3 hQ hT hd hY e1 e0 hU hv k q r h1 h2 h3 h4 fun q' r' h g1 g2 g4=>zV1 hQ hT hd hY e1 e0 hU hv k n q' r' (by omega) g1 g2 (by omega) g4
noncomputable def dvR(s a q t:Nat):SV:=.tuple [U64 ((a*4294967296+q:Nat):Int),U64 ((t / 2 ^ s:Nat):Int)]
theorem zV7{Q T a t:Nat}(hQ:(t*4294967296+v0) / Y=Q)(hT:(t*4294967296+v0) % Y=T)(hs:s≤64)(hY:9223372036854775808≤Y∧Y<18446744073709551616)(e1:p1=Y / 4294967296)(e0:p0=Y % 4294967296)(ht:t<Y)(hv:v0<4294967296)(ha:a<4294967296)
  (q r:Nat) (h1:q*p1+r=t) (h2:Q≤q) (h3:q≤4294967297) (h4:r<4294967296)
  (ih:∀q' r':Nat,q'<q→q'*p1+r'=t→Q≤q'→r'<4294967296→b8 pP (j7 pP 333) (dvR s a Q T) (j9 pP 333 1) (sl2 s p1 p0 Y U v1 v0 a t q' r') []):
  b8 pP (j7 pP 333) (dvR s a Q T) (j9 pP 333 1) (sl2 s p1 p0 Y U v1 v0 a t q r) [] :=by
 have hp1:2147483648≤p1∧p1<4294967296:=by omega
 have hTY:T<Y:=by rw[←hT];exact Nat.mod_lt _ (by omega)
 have hQl:Q<4294967296:=by rw[←hQ];exact zR9 (by omega) ht hv
 have D:∀q':Nat,q'=Q→u64.wrap (u64.wrap (u64.wrap ((t:Int)*4294967296)+(v0:Int))-u64.wrap ((q':Int)*(Y:Int)))=((T:Nat):Int):=fun q' h=>by
  subst h;exact zS1 (by rw[←hQ,←hT,Nat.div_add_mod']) (by omega)
 have wr:u64.wrap ((r:Int)+(p1:Int))=((r+p1:Nat):Int):=by rw[wU];omega
 have down:Q+1≤q→(q-1)*p1+(r+p1)=t∧Q≤q-1∧u64.wrap ((q:Int)-1)=((q-1:Nat):Int):=fun h=>by
  refine⟨?_,by omega,yP7 (by omega) (by omega)⟩
  obtain⟨q',rfl⟩:∃q',q=q'+1:=⟨q-1,by omega⟩
  rw[Nat.add_mul]at h1
  rw[Nat.add_sub_cancel];omega
 have wm:u64.wrap (4294967296*(r:Int))=((4294967296*r:Nat):Int):=by rw[wU];omega
 have wm2:u64.wrap (((4294967296*r:Nat):Int)+(v0:Int))=((4294967296*r+v0:Nat):Int):=by rw[wU];omega
 have wqp:q<4294967296→u64.wrap ((q:Int)*(p0:Int))=((q*p0:Nat):Int):=fun h=>by
  have:q*p0≤4294967295*4294967295:=Nat.mul_le_mul (by omega) (by omega)
  rw[←Int.natCast_mul];exact wN (by omega)
 have less:=zR8 (y:=Y) (u:=t) (u1:=v0) (q:=q) (rh:=r) (by omega) ht hv (by rw[←e1];exact h1)
 rw[hQ]at less
 have out:=zS0 (y:=Y) (u:=t) (u1:=v0) (q:=q) (rh:=r) (by omega) (by rw[←e1];exact h1) (by rw[hQ];exact h2)
 rw[hQ]at out
 have brk:Q+1≤q→4294967296≤r+p1→q-1=Q:=fun h hb=>by have:=zR5 (y:=Y) (u:=t) (u1:=v0) (q:=q-1) (rh:=r+p1) (by omega) (by rw[←e1];exact(down h).1) (by rw[hQ];exact(down h).2.1) (by omega) hb;rw[hQ]at this;exact this
 have stay:=fun(h:Q+1≤q) (hr:r+p1<4294967296)=>ih (q-1) (r+p1) (by omega) (down h).1 (down h).2.1 hr
 have fin:∀q':Nat,q'=Q→u64.wrap (u64.wrap ((a:Int)*4294967296)+(q':Int))=((a*4294967296+Q:Nat):Int):=fun q' h=>by
  subst h
  simp only[wU];omega
 have sh:(((T:Nat):Int)).fdiv (2 ^ min (s:Int).toNat 64)=((T / 2 ^ s:Nat):Int):=by
  rw[show min (s:Int).toNat 64=s by omega,Int.fdiv_eq_ediv_of_nonneg _ (Int.le_of_lt (yP6 s))]
  simp
 have n0:decide ((0:Int)≤(s:Int))=true:=decide_eq_true (by omega)
 refine w6 k0 (n:=1000) (hint:=.unit) (keep:=x8 135 [2,8,9,10,14,15,16,17,18,11,13]) (p:=zV6) rfl ?_
 unfold sl2
 erw [dv2 Y s p1 p0 U v1 v0 a t q r]
 unfold zV8
 rw[wr]
 simp only[Tree.holds,decide_eq_true_eq,decide_eq_false_iff_not,n0,true_and]
 unfold sl2 at stay
 unfold dvR at stay ⊢
 have p0':(0:Int)≤(s:Int):=by omega
 refine⟨fun c=>⟨fun b=>?_,fun b=>?_⟩,fun c=>?_⟩
 ·have hl:=less (.inl (by omega))
  rw[(down hl).2.2,D _ (brk hl (by omega)),sh,fin _ (brk hl (by omega))]
  rfl
 ·have hl:=less (.inl (by omega))
  rw[(down hl).2.2]
  exact⟨o8 _ _,stay hl (by omega)⟩
 ·rw[wqp (by omega),wm,wm2]
  refine⟨fun d=>⟨fun b=>?_,fun b=>?_⟩,fun d=>?_⟩
  ·have hl:=less (.inr (by rw[←e0];omega))
   rw[(down hl).2.2,D _ (brk hl (by omega)),sh,fin _ (brk hl (by omega))]
   rfl
  ·have hl:=less (.inr (by rw[←e0];omega))
   rw[(down hl).2.2]
   exact⟨o8 _ _,stay hl (by omega)⟩
  ·have ho:=out (by rw[←e0];omega)
   rw[D _ ho,sh,fin _ ho]
   rfl
theorem zV5{Q T a t:Nat}(hQ:(t*4294967296+v0) / Y=Q)(hT:(t*4294967296+v0) % Y=T)(hs:s≤64)(hY:9223372036854775808≤Y∧Y<18446744073709551616)(e1:p1=Y / 4294967296)(e0:p0=Y % 4294967296)(ht:t<Y)(hv:v0<4294967296)(ha:a<4294967296):
  ∀ (n q r:Nat),q<n→q*p1+r=t→Q≤q→q≤4294967297→r<4294967296→b8 pP (j7 pP 333) (dvR s a Q T) (j9 pP 333 1) (sl2 s p1 p0 Y U v1 v0 a t q r) []
 |0,q,r,hn,_,_,_,_=>by omega
 |n+1,q,r,hn,h1,h2,h3,h4=>zV7 hQ hT hs hY e1 e0 ht hv ha q r h1 h2 h3 h4 fun q' r' h g1 g2 g4=>zV5 hQ hT hs hY e1 e0 ht hv ha n q' r' (by omega) g1 g2 (by omega) g4
end
theorem yE2{a b e:Nat}(ha:a*2 ^ e<18446744073709551616)(hb:b<2 ^ e)(hb2:b<18446744073709551616):(((BitVec.ofInt 64 ((a*2 ^ e:Nat):Int) |||BitVec.ofInt 64 ((b:Nat):Int)).toNat:Nat):Int)=((a*2 ^ e+b:Nat):Int):=by
 have e1:∀m:Nat,m<18446744073709551616→(BitVec.ofInt 64 (m:Int)).toNat=m:=fun m hm=>by
  rw[BitVec.toNat_ofInt]
  have:((2 ^ 64:Nat):Int)=18446744073709551616:=rfl
  rw[this];omega
 rw[BitVec.toNat_or,e1 _ ha,e1 _ hb2,Nat.mul_comm a,←Nat.two_pow_add_eq_or_of_lt hb]
theorem xa8{H L Yn:Nat}(h1:H<Yn)(h2:L<18446744073709551616)(h3:Yn<18446744073709551616):SCall pP 333 [U64 (H:Int),U64 (L:Int),U64 (Yn:Int)] (.tuple [U64 (((H*18446744073709551616+L) / Yn:Nat):Int),U64 (((H*18446744073709551616+L) % Yn:Nat):Int)]):=by
 refine m6 rfl rfl (by kernel_rfl) (w6 (kW (l:=[fLz]) ⟨yn3,trivial⟩) (n:=1000) (hint:=.unit) (keep:=x8 135 [2,8,9,10,11,13,14,15,16]) (p:=zU9) (boxes:=[]) rfl ?_)
 have e:=dv0 H L Yn
 unfold v9 u7 at e
 erw [e]
 clear e
 unfold zV0
 have hy0:((Yn:Int)==0)=false:=by simp;omega
 have hyh:decide ((Yn:Int)≤(H:Int))=false:=decide_eq_false (by omega)
 simp only[Tree.holds,hy0,hyh,Bool.false_eq_true,false_implies,true_implies,true_and,Bool.not_false,and_true]
 refine⟨fun h0=>?_,fun h0=>?_⟩
 ·have h0:H=0:=by simpa using h0
  subst h0
  show SV.tuple _=_
  have hl:L / Yn≤L:=Nat.div_le_self _ _
  rw[xG9,wN (by omega),Nat.zero_mul,Nat.zero_add,Int.tmod_eq_emod_of_nonneg (by omega)]
  rfl
 ·obtain⟨n,en,n1,n2,n3,n4⟩:=qW0 (x:=(Yn:Int)) (by omega) (by omega)
  obtain⟨s,hs⟩:∃s:Nat,s=64-n:=⟨_,rfl⟩
  have ws:u64.wrap (64-qV9 (Yn:Int))=(s:Int):=by rw[en,wU];omega
  have ws2:u64.wrap (64-(s:Int))=((64-s:Nat):Int):=by rw[wU];omega
  have m1:min (s:Int).toNat 64=s:=by omega
  have m2:min ((64-s:Nat):Int).toNat 64=64-s:=by omega
  have hp:0<2 ^ s:=Nat.two_pow_pos s
  have pw:∀k:Nat,(2:Int) ^ k=((2 ^ k:Nat):Int):=fun k=>by simp
  -- the divisor, shifted
  have n3':2 ^ (n-1)≤Yn:=by rw[pw]at n3;omega
  have n4':Yn<2 ^ n:=by rw[pw]at n4;omega
  have y1:9223372036854775808≤Yn*2 ^ s:=by
   have:2 ^ (n-1)*2 ^ s≤Yn*2 ^ s:=Nat.mul_le_mul_right _ n3'
   rw[←Nat.pow_add,show n-1+s=63 by omega]at this
   exact this
  have y2:Yn*2 ^ s<18446744073709551616:=by
   have:Yn*2 ^ s<2 ^ n*2 ^ s:=Nat.mul_lt_mul_of_pos_right n4' hp
   rw[←Nat.pow_add,show n+s=64 by omega]at this
   exact this
  -- the upper half, shifted
  have l1:L / 2 ^ (64-s)<2 ^ s:=by
   rw[Nat.div_lt_iff_lt_mul (Nat.two_pow_pos _),←Nat.pow_add,show s+(64-s)=64 by omega];exact h2
  have l2:L / 2 ^ (64-s)≤L:=Nat.div_le_self _ _
  have u0:(H+1)*2 ^ s≤Yn*2 ^ s:=Nat.mul_le_mul_right _ h1
  rw[Nat.add_mul,Nat.one_mul]at u0
  have hU:H*2 ^ s+L / 2 ^ (64-s)<Yn*2 ^ s:=by omega
  have lo:L*2 ^ s=L / 2 ^ (64-s)*18446744073709551616+L*2 ^ s % 18446744073709551616:=by
   have:L / 2 ^ (64-s)=L*2 ^ s / 18446744073709551616:=by
    rw[show(18446744073709551616:Nat)=2 ^ (64-s)*2 ^ s by rw[←Nat.pow_add,show 64-s+s=64 by omega],Nat.mul_div_mul_right _ _ hp]
   rw[this];omega
  have wY:u64.wrap ((Yn:Int)*2 ^ s)=((Yn*2 ^ s:Nat):Int):=by rw[pw,←Int.natCast_mul];exact wN y2
  have wH:u64.wrap ((H:Int)*2 ^ s)=((H*2 ^ s:Nat):Int):=by rw[pw,←Int.natCast_mul];exact wN (by omega)
  have wL:u64.wrap ((L:Int)*2 ^ s)=((L*2 ^ s % 18446744073709551616:Nat):Int):=by rw[pw,←Int.natCast_mul,wU];omega
  have fL:((L:Nat):Int).fdiv (2 ^ (64-s))=((L / 2 ^ (64-s):Nat):Int):=by
   rw[Int.fdiv_eq_ediv_of_nonneg _ (Int.le_of_lt (yP6 _)),pw];rfl
  have oU:=yE2 (a:=H) (b:=L / 2 ^ (64-s)) (e:=s) (by omega) l1 (by omega)
  have f32:∀m:Nat,((m:Nat):Int).fdiv 4294967296=((m / 4294967296:Nat):Int):=fun m=>by rw[Int.fdiv_eq_ediv_of_nonneg _ (by omega)];rfl
  have a32:∀m:Nat,m<18446744073709551616→u64.wrap ((((BitVec.ofInt 64 ((m:Nat):Int) &&&BitVec.ofInt 64 4294967295).toNat:Nat):Int))=((m % 4294967296:Nat):Int):=fun m hm=>by rw[zo7 (by omega) (by omega),wU];omega
  have d0:decide ((0:Int)≤(s:Int))=true:=decide_eq_true (by omega)
  have d1:decide ((0:Int)≤((64-s:Nat):Int))=true:=decide_eq_true (by omega)
  have ok:(okU (Yn:Int)&&decide (1≤(Yn:Int)))=true:=by rw[Bool.and_eq_true,decide_eq_true_eq];exact⟨v8.2 (by omega),by omega⟩
  generalize hYY:Yn*2 ^ s=Y at *
  generalize hUU:H*2 ^ s+L / 2 ^ (64-s)=U at *
  generalize hLL:L*2 ^ s % 18446744073709551616=LO at *
  have hLO:LO<18446744073709551616:=by omega
  have np:(!((Y / 4294967296:Nat):Int)==0)=true:=by simp;omega
  obtain⟨R1,R2⟩:=yZ8 (t:=U) (p:=Y / 4294967296) (by omega) (by omega)
  have wU2:u64.wrap ((U:Nat):Int)=(U:Int):=wN (by omega)
  simp only[ws,ws2,m1,m2,wY,wH,wL,fL,oU,f32,a32 Y y2,a32 LO hLO,d0,d1,ok,np,wU2,R1,R2,true_and]
  refine⟨o8 _ _,?_⟩
  have g1:=zR6 (y:=Y) (u:=U) (u1:=LO / 4294967296) y1 y2 hU (by omega)
  have hT:(U*4294967296+LO / 4294967296) % Y<Y:=Nat.mod_lt _ (by omega)
  have g2:=zR6 (y:=Y) (u:=(U*4294967296+LO / 4294967296) % Y) (u1:=LO % 4294967296) y1 y2 hT (by omega)
  have hQ1:(U*4294967296+LO / 4294967296) / Y<4294967296:=zR9 (by omega) hU (by omega)
  have two:=xS0 (y:=Y) (u:=U) (u1:=LO / 4294967296) (u0:=LO % 4294967296) (by omega)
  have key:=zV5 (v1:=LO / 4294967296) (U:=U) (s:=s) rfl rfl (by omega) ⟨y1,y2⟩ rfl rfl hT (show LO % 4294967296<4294967296 by omega) hQ1 _ _ _ (Nat.lt_succ_self _) g2.1 g2.2.1 g2.2.2.1 g2.2.2.2
  have key2:=zV1 (v0:=LO % 4294967296) (s:=s) rfl rfl (by rfl) ⟨y1,y2⟩ rfl rfl hU (show LO / 4294967296<4294967296 by omega) key _ _ _ (Nat.lt_succ_self _) g1.1 g1.2.1 g1.2.2.1 g1.2.2.2
  have eN:U*18446744073709551616+(LO / 4294967296*4294967296+LO % 4294967296)=(H*18446744073709551616+L)*2 ^ s:=by
   rw[Nat.add_mul,lo,←hUU,Nat.mul_right_comm H,Nat.add_mul];omega
  rw[eN,←hYY,Nat.mul_div_mul_right _ _ hp,Nat.mul_mod_mul_right]at two
  have res:dvR s ((U*4294967296+LO / 4294967296) / Y) (((U*4294967296+LO / 4294967296) % Y*4294967296+LO % 4294967296) / Y) (((U*4294967296+LO / 4294967296) % Y*4294967296+LO % 4294967296) % Y)=.tuple [U64 (((H*18446744073709551616+L) / Yn:Nat):Int),U64 (((H*18446744073709551616+L) % Yn:Nat):Int)] :=by
   unfold dvR
   rw[←hYY,two.1,two.2,Nat.mul_div_cancel _ hp]
  rw[res]at key2
  exact key2
def z53:Fact:=qm4 333 fun h l y=>.req (inR h 0 (y-1)&& (okU l&&okU y)) (.leaf (.tuple [U64 ((h*18446744073709551616+l) / y),U64 ((h*18446744073709551616+l) % y)]))
theorem yj6:z53.ok pP:=qm5 fun h l y k=>by
 simp only[Bool.and_eq_true,v8,okU]at k
 obtain⟨H,rfl⟩:=Int.eq_ofNat_of_zero_le k.1.1
 obtain⟨L,rfl⟩:=Int.eq_ofNat_of_zero_le k.2.1.1
 obtain⟨Y,rfl⟩:=Int.eq_ofNat_of_zero_le k.2.2.1
 have:=xa8 (H:=H) (L:=L) (Yn:=Y) (by omega) (by omega) (by omega)
 simp at this
 exact this
def mdS(a b c:Int):SV:=if a*b / c<9223372036854775808 then .tuple [I64 (a*b / c),I64 0]else .tuple [I64 0,I64 3]
def yw6(a b c:Int):Bool:=inR a 0 9223372036854775807&& (inR b 0 9223372036854775807&&inR c 1 9223372036854775807)
theorem yw7{a b c:Int}:yw6 a b c=true↔(0≤a∧a≤9223372036854775807)∧(0≤b∧b≤9223372036854775807)∧1≤c∧c≤9223372036854775807:=by simp only[yw6,Bool.and_eq_true,v8]
theorem q19{a b c:Int}(h:a*b / c<9223372036854775808):mdS a b c=.tuple [I64 (a*b / c),I64 0] :=if_pos h
theorem q18{a b c:Int}(h:¬a*b / c<9223372036854775808):mdS a b c=.tuple [I64 0,I64 3] :=if_neg h
theorem qB2{a b:Int}(ha:0≤a∧a≤9223372036854775807)(hb:0≤b∧b≤9223372036854775807):0≤a*b / 18446744073709551616∧a*b / 18446744073709551616<18446744073709551616∧a*b / 18446744073709551616*18446744073709551616+a*b % 18446744073709551616=a*b∧0≤a*b:=by
 have h0:0≤a*b:=Int.mul_nonneg ha.1 hb.1
 have h1:a*b≤9223372036854775807*9223372036854775807:=Int.mul_le_mul ha.2 hb.2 hb.1 (by omega)
 generalize a*b=x at *
 omega
theorem q20{x c:Int}(hx:0≤x)(hc:1≤c)(h:c≤x / 18446744073709551616):¬x / c<9223372036854775808:=by
 have h1:c*18446744073709551616≤x:=by omega
 have:18446744073709551616≤x / c:=Int.le_ediv_of_mul_le (by omega) (by omega)
 omega
theorem xh2(a b c:Int)(h:yw6 a b c=true):SCall pP 319 [I64 a,I64 b,I64 c] (mdS a b c):=
 o9 mix [z98,qc8,z53] ⟨yo0,yr7,yj6,trivial⟩ 1000 (.fork .all (.fork .all (.fork (.fork .all .all) (.fork (.ln 4 (.lit .all)) (.lit (.lit (.fork (.ln 4 (.fork .all (.fork .all .all))) (.ln 5 (.fork .all .all)))))))))
  (t:=let y0:=siz a*siz b / 18446744073709551616*18446744073709551616+siz a*siz b % 18446744073709551616;let y1:Tree SV:=.node (decide (y0 % siz c>0)) (.leaf (.tuple [.int .i64 (i64.wrap (u64.wrap (0-u64.wrap (y0 / siz c+1)))),.int .i64 0])) (.leaf (.tuple [.int .i64 (i64.wrap (u64.wrap (0-y0 / siz c))),.int .i64 0]));let y2:Tree SV:=.leaf (.tuple [.int .i64 0,.int .i64 3]);.node (c==0) (.leaf (.tuple [.int .i64 0,.int .i64 4])) (.req (yv9 a) (.req (yv9 b) (.req (okU (siz a)) (.req (okU (siz b)) (.req (yv9 c) (.node (decide (siz a*siz b / 18446744073709551616≥siz c)) y2 (.req (yv9 c) (.req (inR (siz a*siz b / 18446744073709551616) 0 (siz c-1)&& (okU (siz a*siz b % 18446744073709551616)&&okU (siz c))) (.node ((!decide (a<0)==decide (b<0))==decide (c<0)) (.node (decide (y0 / siz c≥9223372036854775808)) y2 (.leaf (.tuple [.int .i64 (i64.wrap (y0 / siz c)),.int .i64 0]))) (.node (decide (y0 / siz c>9223372036854775808)) y2 (.node (y0 / siz c==9223372036854775808) (.node (decide (y0 % siz c>0)) y2 y1) y1))))))))))))
  (by kernel_rfl) (by
   have o:=yw7.1 h
   obtain⟨h1,h2,h3,h4⟩:=qB2 o.1 o.2.1
   have sa:siz a=a:=if_neg (by omega)
   have sb:siz b=b:=if_neg (by omega)
   have sc:siz c=c:=if_neg (by omega)
   have m0:0≤a*b / c:=Int.ediv_nonneg h4 (by omega)
   have m1:a*b / c≤a*b:=Int.ediv_le_self _ h4
   have hi:=q20 h4 o.2.2.1
   have k1:yv9 a=true:=v8.2 (by omega)
   have k2:yv9 b=true:=v8.2 (by omega)
   have k3:yv9 c=true:=v8.2 (by omega)
   have k4:okU a=true:=v8.2 (by omega)
   have k5:okU b=true:=v8.2 (by omega)
   have k6:okU c=true:=v8.2 (by omega)
   have k7:okU (a*b / 18446744073709551616)=true:=v8.2 (by omega)
   have k8:okU (a*b % 18446744073709551616)=true:=v8.2 (by omega)
   have na:decide (a<0)=false:=decide_eq_false (by omega)
   have nb:decide (b<0)=false:=decide_eq_false (by omega)
   have nc:decide (c<0)=false:=decide_eq_false (by omega)
   have n0:(c==0)=false:=by simp;omega
   simp only[Tree.holds,sa,sb,sc,h3,k1,k2,k3,k4,k5,k6,k7,k8,na,nb,nc,n0,show(false==false)=true from rfl,show(true==false)=false from rfl,show(false==true)=false from rfl,sL,ne_eq,sLb,sLc,eq_self,sLd,sLe,sLf];(repeat' (first|apply And.intro|intro _));
   all_goals first
    |(rw[q18 (by first|omega|exact hi (by omega))];rfl)
    |(have lt:a*b / c<9223372036854775808:=by omega
      rw[q19 lt,w64 (by omega) (by omega)];rfl)
    |(rw[v8];omega)) (by kernel_rfl) (by unfold mdS;split<;>rfl)
def fMd:Fact:=qj2 319 fun a b c=>.req (yw6 a b c) (.node (decide (a*b / c<9223372036854775808)) (.leaf (.tuple [I64 (a*b / c),I64 0])) (.leaf (.tuple [I64 0,I64 3])))
theorem yn6:fMd.ok pP:=qj3 (fun a b c h=>⟨fun k=>q19 (of_decide_eq_true k)▸xh2 a b c h,fun k=>q18 (of_decide_eq_false k)▸xh2 a b c h⟩)
def qd5:Fact:=qj7 135 fun m i p=>.req (inR i 0 3) (.node (xz2 m p) (.leaf (.tuple [I64 (xC3 (axM m i) p),I64 0])) (.leaf (.tuple [I64 0,I64 1])))
theorem ys4:qd5.ok pP:=qj8 (fun m i p h=>by
 have h:=v8.1 h
 have hi:i=0∨i=1∨i=2∨i=3:=by omega
 rcases hi with rfl|rfl|rfl|rfl
 ·exact⟨fun hk=>z08 hk▸xn0 m p,fun hk=>z07 hk▸xn0 m p⟩
 ·exact⟨fun hk=>z08 hk▸xn1 m p,fun hk=>z07 hk▸xn1 m p⟩
 ·exact⟨fun hk=>z08 hk▸xn2 m p,fun hk=>z07 hk▸xn2 m p⟩
 ·exact⟨fun hk=>z08 hk▸xn3 m p,fun hk=>z07 hk▸xn3 m p⟩)
def qe9:Fact:=qj7 192 fun m i p=>.req (inR i 0 3) (.node (xT6 m p) (.leaf (.tuple [I64 (xU6 (axM m i) p),I64 0])) (.leaf (.tuple [I64 0,I64 1])))
theorem yt7:qe9.ok pP:=qj8 (fun m i p h=>by
 have h:=v8.1 h
 have hi:i=0∨i=1∨i=2∨i=3:=by omega
 rcases hi with rfl|rfl|rfl|rfl
 ·exact⟨fun hk=>z08 hk▸xq1 m p,fun hk=>z07 hk▸xq1 m p⟩
 ·exact⟨fun hk=>z08 hk▸xq2 m p,fun hk=>z07 hk▸xq2 m p⟩
 ·exact⟨fun hk=>z08 hk▸xq3 m p,fun hk=>z07 hk▸xq3 m p⟩
 ·exact⟨fun hk=>z08 hk▸xq4 m p,fun hk=>z07 hk▸xq4 m p⟩)
theorem xh4(m:Ma)(v:V3)(e:Int):SCall pP 63 [m.sv,V3.sv v,I64 e] (q50 m v e):=
 o9 mix [qd5] ⟨ys4,trivial⟩ 1000 (.go (.lit (.fork (.lit (.go (.lit (.fork (.lit (.go (.lit (.fork (.lit (.go (.lit (.fork (.lit (.go (.lit (.fork (.all) (.all))))) (.lit (.all)))))) (.lit (.all)))))) (.lit (.all)))))) (.lit (.all)))))
  (t:=let y0:Tree SV:=.leaf (.tuple [.agg [.int .i64 0,.int .i64 0,.int .i64 0,.int .i64 0],.int .i64 1]);.req (true) (.req true (.node (xz2 m v.1) (.req true (.req (true) (.req true (.node (xz2 m v.2.1) (.req true (.req (true) (.req true (.node (xz2 m v.2.2) (.req true (.req (true) (.req true (.node (xz2 m e) (.req true (.node (m.xy) (.req true (.req (true) (.req true (.req (true) (.req true (.req (true) (.leaf (.tuple [.agg [.int .i64 (i64.wrap (xC3 (axM m 0) v.1+xC3 (axM m 1) v.2.1)),.int .i64 (i64.wrap (xC3 (axM m 0) v.1-xC3 (axM m 1) v.2.1)),.int .i64 (xC3 (axM m 2) v.2.2),.int .i64 (xC3 (axM m 3) e)],.int .i64 0])))))))) (.leaf (.tuple [.agg [.int .i64 (xC3 (axM m 0) v.1),.int .i64 (xC3 (axM m 1) v.2.1),.int .i64 (xC3 (axM m 2) v.2.2),.int .i64 (xC3 (axM m 3) e)],.int .i64 0])))) y0)))) y0)))) y0)))) y0)))
  (by kernel_rfl) (by
   have ax0:axM m 0=m.x:=rfl
   have ax1:axM m 1=m.y:=rfl
   have ax2:axM m 2=m.z:=rfl
   have ax3:axM m 3=m.e:=rfl
   simp only[Tree.holds,sL,ne_eq,sLb,sLc,eq_self,sLd,sLe,sLf];simp only[ax0,ax1,ax2,ax3];(repeat' (first|apply And.intro|intro _));
   all_goals first
    |(rw[q51 (Bool.eq_false_iff.2 (by rw[ne_eq,q47];first|omega|grind))];rfl)
    |(have hk:=q47.1 (show q46 m v e=true by rw[q47];grind)
      have ho:=(Ma.ok_iff m).1 (xz3.1 hk.1).1
      have r1:=(xz6 ho.1 (xz3.1 hk.1).2).2
      have r2:=(xz6 ho.2.1 (xz3.1 hk.2.1).2).2
      rw[q52 (q47.2 hk)]
      have w1:=w64 (x:=xC3 m.x v.1+xC3 m.y v.2.1) (by omega) (by omega)
      have w2:=w64 (x:=xC3 m.x v.1-xC3 m.y v.2.1) (by omega) (by omega)
      unfold q53 zL7
      rename_i hxy
      simp only[hxy,w1,w2];rfl)) (by kernel_rfl) (by unfold q50;split<;>rfl)
def z96:Fact:=qk6 63 fun m v e=>.node (q46 m v e) (.leaf (.tuple [V4.sv (q53 m v e),I64 0])) (.leaf (.tuple [V4.sv z4,I64 1]))
theorem yn8:z96.ok pP:=qk7 (fun m v e=>⟨fun hk=>q52 hk▸xh4 m v e,fun hk=>q51 hk▸xh4 m v e⟩)
theorem xf2(m:Ma)(v:V3):SCall pP 214 [m.sv,V3.sv v] (.bool (qL2 m v)):=
 o9 mix [z93] ⟨yn4,trivial⟩ 1000 (.go (.lit (.fork (.ln 7 (.lit .all)) (.ln 7 (.fork .all (.go (.lit (.fork (.ln 7 (.lit .all)) (.ln 7 (.fork .all (.go (.lit (.fork (.ln 7 (.lit .all)) (.ln 7 (.fork .all (.go (.lit .all)))))))))))))))))
  (t:=.req (true) (.req true (.node (decide (v.1<m.x.min)) (.leaf (.bool false)) (.req true (.node (decide (v.1>m.x.max)) (.leaf (.bool false)) (.req true (.req (true) (.node (decide (v.2.1<m.y.min)) (.leaf (.bool false)) (.req true (.node (decide (v.2.1>m.y.max)) (.leaf (.bool false)) (.req true (.req (true) (.node (decide (v.2.2<m.z.min)) (.leaf (.bool false)) (.req true (.node (decide (v.2.2>m.z.max)) (.leaf (.bool false)) (.leaf (.bool m.ok)))))))))))))))))
  (by kernel_rfl) (by simp only[Tree.holds,sL,ne_eq,sLb,sLc,eq_self,sLd,sLe,sLf];(repeat' (first|apply And.intro|intro _));all_goals(refine qF4 ?_;rw[qL3];(try simp only[sL,ne_eq,sLb,sLc,eq_self,sLd,sLe,sLf]); first|omega|grind)) (by kernel_rfl) (by kernel_rfl)
def z81:Fact:=qj9 214 fun m v=>.leaf (.bool (qL2 m v))
theorem ym4:z81.ok pP:=qk8 (xf2)
theorem xk6(m:Ma)(p:V4)(h:(m.ok&&v7 p)=true):SCall pP 193 [m.sv,V4.sv p] (.tuple [V3.sv ((yP1 m p).1,(yP1 m p).2.1,(yP1 m p).2.2.1),I64 (yP1 m p).2.2.2,I64 0]):=
 o9 mix [qe9,z67,z93] ⟨yt7,yl0,yn4,trivial⟩ 1000 (let z0:Plan:=.go (.lit (.fork (.lit (.go (.lit (.fork (.lit (.go (.lit (.fork (.lit (.go (.lit (.fork (.lit (.go (.lit .all))) (.lit .all))))) (.lit .all))))) (.lit .all))))) (.lit .all)));let z1:Plan:=.ln 3 (.lit .all);.go (.lit (.fork (.ln 3 (.fork .all (.go (.lit (.fork (.ln 3 (.fork .all (.go (.lit (.fork (.ln 3 (.fork .all (.go (.lit (.fork (.ln 3 (.fork .all (.go (.lit (.fork z0 z0))))) z1))))) z1))))) z1))))) z1)))
  (t:=let y0:Tree SV:=.leaf (.tuple [.agg [.int .i64 0,.int .i64 0,.int .i64 0],.int .i64 0,.int .i64 1]);.req (true) (.node (decide (p.1≥-281474976710656)) (.node (!decide (p.1≤281474976710656)) y0 (.req true (.node (decide (p.2.1≥-281474976710656)) (.node (!decide (p.2.1≤281474976710656)) y0 (.req true (.node (decide (p.2.2.1≥-281474976710656)) (.node (!decide (p.2.2.1≤281474976710656)) y0 (.req true (.node (decide (p.2.2.2≥-281474976710656)) (.node (!decide (p.2.2.2≤281474976710656)) y0 (.node (m.xy) (.req true (.req (true) (.req (inR (i64.wrap (p.1+p.2.1)) (-4611686018427387904) 4611686018427387904) (.req true (.req (true) (.req (inR (i64.wrap (p.1-p.2.1)) (-4611686018427387904) 4611686018427387904) (.req true (.req (true) (.req true (.req (true) (.node (xT6 m (i64.wrap (p.1+p.2.1) / 2)) (.req true (.req (true) (.req true (.node (xT6 m (i64.wrap (p.1-p.2.1) / 2)) (.req true (.req (true) (.req true (.node (xT6 m p.2.2.1) (.req true (.req (true) (.req true (.node (xT6 m p.2.2.2) (.req true (.req (true) (.req true (.req (true) (.req true (.leaf (.tuple [.agg [.int .i64 (xU6 (axM m 0) (i64.wrap (p.1+p.2.1) / 2)),.int .i64 (xU6 (axM m 1) (i64.wrap (p.1-p.2.1) / 2)),.int .i64 (xU6 (axM m 2) p.2.2.1)],.int .i64 (xU6 (axM m 3) p.2.2.2),.int .i64 0]))))))) y0)))) y0)))) y0)))) y0))))))))))) (.req true (.req (true) (.node (xT6 m p.1) (.req true (.req (true) (.req true (.node (xT6 m p.2.1) (.req true (.req (true) (.req true (.node (xT6 m p.2.2.1) (.req true (.req (true) (.req true (.node (xT6 m p.2.2.2) (.req true (.req (true) (.req true (.req (true) (.req true (.leaf (.tuple [.agg [.int .i64 (xU6 (axM m 0) p.1),.int .i64 (xU6 (axM m 1) p.2.1),.int .i64 (xU6 (axM m 2) p.2.2.1)],.int .i64 (xU6 (axM m 3) p.2.2.2),.int .i64 0]))))))) y0)))) y0)))) y0)))) y0))))) y0))) y0))) y0))) y0))
  (by kernel_rfl) (by
   rw[Bool.and_eq_true,t8]at h
   have ho:=h.1
   have n1:=w64 (x:=p.1+p.2.1) (by omega) (by omega)
   have n2:=w64 (x:=p.1-p.2.1) (by omega) (by omega)
   have d1:=zX6 (a:=p.1+p.2.1) (b:=2) (M:=33554432) (by omega) (by omega) (by omega)
   have d2:=zX6 (a:=p.1-p.2.1) (b:=2) (M:=33554432) (by omega) (by omega) (by omega)
   have u:∀n:Int,-33554432≤n∧n≤33554432→xT6 m n=true:=fun n hn=>xT7.2 ⟨ho,by omega⟩
   have u1:=u _ d1
   have u2:=u _ d2
   have u3:=u p.1 (by omega)
   have u4:=u p.2.1 (by omega)
   have u5:=u p.2.2.1 (by omega)
   have u6:=u p.2.2.2 (by omega)
   have ax0:axM m 0=m.x:=rfl
   have ax1:axM m 1=m.y:=rfl
   have ax2:axM m 2=m.z:=rfl
   have ax3:axM m 3=m.e:=rfl
   have i1:inR (p.1+p.2.1) (-4611686018427387904) 4611686018427387904=true:=v8.2 (by omega)
   have i2:inR (p.1-p.2.1) (-4611686018427387904) 4611686018427387904=true:=v8.2 (by omega)
   have q0:∀n:Int,-16777216≤n∧n≤16777216→decide (n≥-281474976710656)=true∧decide (n≤281474976710656)=true∧decide (n < -281474976710656)=false∧decide (n>281474976710656)=false:=fun n hn=>⟨decide_eq_true (by omega),decide_eq_true (by omega),decide_eq_false (by omega),decide_eq_false (by omega)⟩
   obtain⟨q1,q2,q3,q4⟩:=q0 p.1 (by omega)
   obtain⟨q5,q6,q7,q8⟩:=q0 p.2.1 (by omega)
   obtain⟨q9,qa,qb,qc⟩:=q0 p.2.2.1 (by omega)
   obtain⟨qd,qe,qf,qg⟩:=q0 p.2.2.2 (by omega)
   cases hxy:m.xy
   all_goals simp only[Tree.holds,yP1,xT9,V3.sv,I64,hxy,ho,n1,n2,u1,u2,u3,u4,u5,u6,ax0,ax1,ax2,ax3,i1,i2,q1,q2,q3,q4,q5,q6,q7,q8,q9,qa,qb,qc,qd,qe,qf,qg,sL,ne_eq,sLb,sLc,eq_self,sLd,sLe,sLf]) (by kernel_rfl) (by kernel_rfl)
def qb7:Fact:=qk0 193 fun m p=>.req (m.ok&&v7 p) (.leaf (.tuple [V3.sv ((yP1 m p).1,(yP1 m p).2.1,(yP1 m p).2.2.1),I64 (yP1 m p).2.2.2,I64 0]))
theorem yq3:qb7.ok pP:=qk5 (fun m p h=>xk6 m p h)
def lst(v a b c:Int):Int:=if a*b / c<v then a*b / c else v
def qi9(f:FuncId)(h:Int→Int→Int→Int→Tree SV):Fact:=⟨f,fun args=>match args with
 |[.int .i64 a,.int .i64 b,.int .i64 c,.int .i64 d] =>some (h a b c d)
 |_=>none⟩
theorem qj0{P:Program}{f:FuncId}{h:Int→Int→Int→Int→Tree SV}(k:∀a b c d,(h a b c d).says (SCall P f [I64 a,I64 b,I64 c,I64 d])):(qi9 f h).ok P:=fun args t ht=>by
 simp only[qi9]at ht
 split at ht
 ·injection ht with ht;subst ht;exact k _ _ _ _
 ·cases ht
def okB(v a b c:Int):Bool:=yw6 a b c&&inR v 0 16777216
theorem yw2{v a b c:Int}:okB v a b c=true↔yw6 a b c=true∧0≤v∧v≤16777216:=by simp only[okB,Bool.and_eq_true,v8]
theorem xo5(n:Int)(hn:inR n (-4611686018427387904) 4611686018427387904=true):SCall pP 290 [I64 n] (I64 (sz n)):=
 o9 mix [] trivial 1000 (.all)
  (t:=.leaf (SV.int IntKind.i64 (if i64.wrap (0-n)>n then i64.wrap (0-n)else n)))
  (by kernel_rfl) (by
   rw[v8]at hn
   have e:i64.wrap (0-n)= -n:=by rw[w64 (by omega) (by omega)];omega
   simp only[Tree.holds,sL,ne_eq,sLb,sLc,eq_self,sLd,sLe,sLf];(repeat' (first|apply And.intro|intro _));all_goals((try simp only[e]);refine xF9 ?_;unfold sz;(repeat' split)<;>omega)) (by kernel_rfl) (by kernel_rfl)
theorem ys6:(fSz 290).ok pP:=qj5 fun n h=>xo5 n h
theorem y97(a b c v:Int)(h:okB v a b c=true):SCall pP 289 [I64 a,I64 b,I64 c,I64 v] (I64 (lst v a b c)):=
 o9 mix [fMd] ⟨yn6,trivial⟩ 1000 (.fork (.lit (.all)) (.lit (.all)))
  (t:=.req (yw6 a b c) (.node (decide (a*b / c<9223372036854775808))
 (.leaf (SV.int IntKind.i64 (if v<a*b / c then v else a*b / c)))
 (.leaf (SV.int IntKind.i64 v))))
  (by kernel_rfl) (by
   have o:=yw2.1 h
   have m:=yw7.1 o.1
   simp only[Tree.holds,sL,ne_eq,sLb,sLc,eq_self,sLd,sLe,sLf];(repeat' (first|apply And.intro|intro _));
   all_goals first
    |exact o.1
    |(refine xF9 ?_;unfold lst;(repeat' split)<;>omega)) (by kernel_rfl) (by kernel_rfl)
def z41:Fact:=qi9 289 fun a b c v=>.req (okB v a b c) (.leaf (I64 (lst v a b c)))
theorem yi4:z41.ok pP:=qj0 fun a b c v h=>y97 a b c v h
def stS(n v s k:Int):Int:=if k=0 then v else lst v s n (sz k)
def zg1(m:Ma)(c:V4):Int:=stS (dom c) (stS (dom c) (stS (dom c) (stS (dom c) 16777216 m.x.accel c.1) m.y.accel c.2.1) m.z.accel c.2.2.1) m.e.accel c.2.2.2
theorem qZ7{v a b c:Int}(h:okB v a b c=true):0≤lst v a b c∧lst v a b c≤v:=by
 have o:=yw2.1 h
 have m:=yw7.1 o.1
 have:0≤a*b / c:=Int.ediv_nonneg (Int.mul_nonneg m.1.1 m.2.1.1) (by omega)
 unfold lst;split<;>omega
theorem qZ8{v a b c:Int}(h:okB v a b c=true)(hc:c≤a*b)(hv:1≤v):1≤lst v a b c∧lst v a b c≤v:=by
 have o:=yw2.1 h
 have m:=yw7.1 o.1
 have:1≤a*b / c:=Int.le_ediv_of_mul_le (by omega) (by omega)
 unfold lst;split<;>omega
theorem zs3{v s n k:Int}(hs:1≤s∧s≤16777216)(hn:1≤n∧n≤16777216)(hv:1≤v∧v≤16777216)(hk:¬k=0)(hz:sz k≤n):okB v s n (sz k)=true∧sz k≤s*n:=by
 have:1≤sz k:=by unfold sz;split<;>omega
 have h2:1*n≤s*n:=Int.mul_le_mul_of_nonneg_right hs.1 (by omega)
 exact⟨yw2.2 ⟨yw7.2 (by omega),by omega⟩,by omega⟩
theorem xz4{n v s k:Int}(hs:1≤s∧s≤16777216)(hn:1≤n∧n≤16777216)(hv:1≤v∧v≤16777216)(hz:sz k≤n):1≤stS n v s k∧stS n v s k≤v:=by
 unfold stS
 split
 ·omega
 ·rename_i hk
  obtain⟨h1,h2⟩:=zs3 hs hn hv hk hz
  exact qZ8 h1 h2 hv.1
theorem qZ9{n v s k:Int}(h:¬k=0):lst v s n (sz k)=stS n v s k:=(if_neg h).symm
theorem xz5{n v s k:Int}(h:k=0):v=stS n v s k:=(if_pos h).symm
structure Four (M:Int) (m:Ma) (c:V4) (s:Ax→Int):Prop where
 h1:∀v,1≤v∧v≤M→1≤stS (dom c) v (s m.x) c.1∧stS (dom c) v (s m.x) c.1≤M
 h2:∀v,1≤v∧v≤M→1≤stS (dom c) v (s m.y) c.2.1∧stS (dom c) v (s m.y) c.2.1≤M
 h3:∀v,1≤v∧v≤M→1≤stS (dom c) v (s m.z) c.2.2.1∧stS (dom c) v (s m.z) c.2.2.1≤M
 h4:∀v,1≤v∧v≤M→1≤stS (dom c) v (s m.e) c.2.2.2∧stS (dom c) v (s m.e) c.2.2.2≤M
 k1:∀v,1≤v∧v≤M→¬c.1=0→okB v (s m.x) (dom c) (sz c.1)=true
 k2:∀v,1≤v∧v≤M→¬c.2.1=0→okB v (s m.y) (dom c) (sz c.2.1)=true
 k3:∀v,1≤v∧v≤M→¬c.2.2.1=0→okB v (s m.z) (dom c) (sz c.2.2.1)=true
 k4:∀v,1≤v∧v≤M→¬c.2.2.2=0→okB v (s m.e) (dom c) (sz c.2.2.2)=true
theorem qu4{M:Int}{m:Ma}{c:V4}{s:Ax→Int}(hM:M≤16777216)(hc:okC c=true)(hs:∀a:Ax,a.ok=true→1≤s a∧s a≤16777216)(hm:m.ok=true):Four M m c s:=by
 have o:=(Ma.ok_iff m).1 hm
 have d:=q81 hc
 rw[←zT8 hc]at d
 have n1:1≤dom c∧dom c≤16777216:=by omega
 refine⟨fun v hv=>?_,fun v hv=>?_,fun v hv=>?_,fun v hv=>?_,fun v hv k=>(zs3 (hs _ o.1) n1 (by omega) k (by omega)).1,fun v hv k=>(zs3 (hs _ o.2.1) n1 (by omega) k (by omega)).1,fun v hv k=>(zs3 (hs _ o.2.2.1) n1 (by omega) k (by omega)).1,fun v hv k=>(zs3 (hs _ o.2.2.2.1) n1 (by omega) k (by omega)).1⟩
 ·have:=xz4 (hs _ o.1) n1 (v:=v) (by omega) (k:=c.1) (by omega);omega
 ·have:=xz4 (hs _ o.2.1) n1 (v:=v) (by omega) (k:=c.2.1) (by omega);omega
 ·have:=xz4 (hs _ o.2.2.1) n1 (v:=v) (by omega) (k:=c.2.2.1) (by omega);omega
 ·have:=xz4 (hs _ o.2.2.2.1) n1 (v:=v) (by omega) (k:=c.2.2.2) (by omega);omega
theorem zs7(a:Ax)(h:a.ok=true):1≤a.speed∧a.speed≤16777216:=by have:=(Ax.ok_iff a).1 h;omega
theorem zs2(a:Ax)(h:a.ok=true):1≤a.accel∧a.accel≤16777216:=by have:=(Ax.ok_iff a).1 h;omega
theorem zs5(a:Ax)(h:a.ok=true):1≤a.jerk∧a.jerk≤1048576:=by have:=(Ax.ok_iff a).1 h;omega
def okL(m:Ma)(c:V4):Bool:=m.ok&&okC c
theorem yw4{m:Ma}{c:V4}:okL m c=true↔m.ok=true∧okC c=true:=by simp only[okL,Bool.and_eq_true]
def zg9(m:Ma)(c:V4):Int:=match okL m c with
 |true=>zg1 m c
 |false=>0
theorem zh2{m:Ma}{c:V4}(h:okL m c=true):zg9 m c=zg1 m c:=by unfold zg9;rw[h]
theorem zh0{m:Ma}{c:V4}(h:okL m c=false):zg9 m c=0:=by unfold zg9;rw[h]
def xB2(n v s k:Int)(K:Int→Tree SV):Tree SV:=.req true (.node (k != 0) (.req true (.req true (.req (inR k (-4611686018427387904) 4611686018427387904) (.req (okB v s n (sz k)) (K (lst v s n (sz k))))))) (K v))
theorem xB3{n v s k:Int}{K:Int→Tree SV}{L:SV→Prop}(hk:inR k (-4611686018427387904) 4611686018427387904=true)(hb:¬k=0→okB v s n (sz k)=true)(h:(K (stS n v s k)).holds L):(xB2 n v s k K).holds L:=by
 refine⟨rfl,fun c=>⟨rfl,rfl,hk,hb ?_,?_⟩,fun c=>?_⟩
 ·simpa using c
 ·rw[qZ9 (by simpa using c)];exact h
 ·rw[xz5 (n:=n) (v:=v) (s:=s) (k:=k) (by simpa using c)];exact h
def qu5(m:Ma)(c:V4)(s:Ax→Int)(v:Int)(K:Int→Tree SV):Tree SV:=xB2 (dom c) v (s m.x) c.1 fun v=>xB2 (dom c) v (s m.y) c.2.1 fun v=>xB2 (dom c) v (s m.z) c.2.2.1 fun v=>xB2 (dom c) v (s m.e) c.2.2.2 K
def fourV(m:Ma)(c:V4)(s:Ax→Int)(v:Int):Int:=stS (dom c) (stS (dom c) (stS (dom c) (stS (dom c) v (s m.x) c.1) (s m.y) c.2.1) (s m.z) c.2.2.1) (s m.e) c.2.2.2
theorem qu6{M:Int}{m:Ma}{c:V4}{s:Ax→Int}{K:Int→Tree SV}{L:SV→Prop}(f:Four M m c s)(hc:okC c=true){v:Int}(hv:1≤v∧v≤M)(h:(K (fourV m c s v)).holds L):(qu5 m c s v K).holds L:=by
 have b:=(yw3.1 hc).1
 have v1:=f.h1 v hv
 have v2:=f.h2 _ v1
 have v3:=f.h3 _ v2
 exact xB3 (v8.2 (by omega)) (f.k1 v hv) (xB3 (v8.2 (by omega)) (f.k2 _ v1) (xB3 (v8.2 (by omega)) (f.k3 _ v2) (xB3 (v8.2 (by omega)) (f.k4 _ v3) h)))
theorem qu7{M:Int}{m:Ma}{c:V4}{s:Ax→Int}(f:Four M m c s){v:Int}(hv:1≤v∧v≤M):1≤fourV m c s v∧fourV m c s v≤M:=f.h4 _ (f.h3 _ (f.h2 _ (f.h1 v hv)))
theorem y81(m:Ma)(c:V4):SCall pP 260 [m.sv,V4.sv c] (I64 (zg9 m c)):=
 o9 mix [z54,qa4,z93,z41,fSz 290] ⟨yj7,yo9,yn4,yi4,ys6,trivial⟩ 1000 (let z1:Plan:=.go (.lit (.fork (.go (.lit (.all))) (.go (.lit (.all)))));let z0:Plan:=.go (.lit (.fork z1 z1));.go (.lit (.fork (.lit (.all)) (.go (.lit (.fork (.all) (.go (.lit (.fork (.go (.lit (.fork z0 z0))) (.go (.lit (.fork z0 z0))))))))))))
  (t:=.req true (.node (!okC c) (.leaf (I64 0)) (.node (!m.ok) (.leaf (I64 0)) (qu5 m c Ax.accel 16777216 fun v=>.leaf (I64 v)))))
  (by kernel_rfl) (by
   cases hl:okL m c with
   |false=>
    have:=mt yw4.2 (by rw[hl];exact Bool.false_ne_true)
    simp only[Tree.holds,zh0 hl,sL,ne_eq,sLb,sLc,eq_self,sLd,sLe,sLf]
    (repeat' (first|apply And.intro|intro _))<;>first|rfl|(exfalso;simp_all)
   |true=>
    obtain⟨hm,hc⟩:=yw4.1 hl
    simp only[Tree.holds,zh2 hl,hm,hc,sL,ne_eq,sLb,sLc,eq_self,sLd,sLe,sLf]
    exact qu6 (M:=16777216) (qu4 (by omega) hc zs2 hm) hc (by omega) rfl) (by kernel_rfl) (by kernel_rfl)
def z28:Fact:=qk0 260 fun m c=>.leaf (I64 (zg9 m c))
theorem yg4:z28.ok pP:=qk5 (y81)
def xx6(v n l f:Int):Int:=if 0<l∧0<f then(if lst v f n l<1 then 1 else lst v f n l)else v
def xx7(m:Ma)(c:V4)(l f:Int):Int:=match okL m c with
 |true=>xx6 (fourV m c Ax.speed 1048576) (dom c) l f
 |false=>0
theorem xy0{m:Ma}{c:V4}{l f:Int}(h:okL m c=true):xx7 m c l f=xx6 (fourV m c Ax.speed 1048576) (dom c) l f:=by unfold xx7;rw[h]
theorem xx8{m:Ma}{c:V4}{l f:Int}(h:okL m c=false):xx7 m c l f=0:=by unfold xx7;rw[h]
theorem zT5{c:V4}(hc:okC c=true):1≤dom c∧dom c≤16777216:=⟨zT9 hc,(zU0 c).2⟩
theorem xy2{v n l f:Int}(hv:1≤v∧v≤1048576)(hn:1≤n∧n≤16777216)(hl:0<l∧l≤9223372036854775807)(hf:0<f∧f≤9223372036854775807):okB v f n l=true:=yw2.2 ⟨yw7.2 (by omega),by omega⟩
def jS(v A B x:Int):Int:=if sz x=0 then v else lst v A B (sz x)
def jd(a b:V4)(x y:Int):Int:=x*dom b-y*dom a
def qQ5(m:Ma)(a b:V4):Int:=match okL m a&&okC b with
 |true=>jS (jS (jS (jS 1048576 (m.x.jerk*dom a) (dom b) (jd a b a.1 b.1)) (m.y.jerk*dom a) (dom b) (jd a b a.2.1 b.2.1)) (m.z.jerk*dom a) (dom b) (jd a b a.2.2.1 b.2.2.1)) (m.e.jerk*dom a) (dom b) (jd a b a.2.2.2 b.2.2.2)
 |false=>0
theorem qQ6{m:Ma}{a b:V4}(h:(okL m a&&okC b)=false):qQ5 m a b=0:=by unfold qQ5;rw[h]
theorem qQ8{m:Ma}{a b:V4}(h:(okL m a&&okC b)=true):qQ5 m a b=jS (jS (jS (jS 1048576 (m.x.jerk*dom a) (dom b) (jd a b a.1 b.1)) (m.y.jerk*dom a) (dom b) (jd a b a.2.1 b.2.1)) (m.z.jerk*dom a) (dom b) (jd a b a.2.2.1 b.2.2.1)) (m.e.jerk*dom a) (dom b) (jd a b a.2.2.2 b.2.2.2):=by unfold qQ5;rw[h]
def jT(e:Int→Bool)(x A B v:Int)(K:Int→Tree SV):Tree SV:=.req true (.req true (.req (inR x (-4611686018427387904) 4611686018427387904) (.node (e (sz x)) (.req true (.req (okB v A B (sz x)) (K (lst v A B (sz x))))) (K v))))
theorem qP6{e:Int→Bool}(he:∀n,0≤n→(e n=true↔¬n=0)){x A B v:Int}{K:Int→Tree SV}{L:SV→Prop}(hx:inR x (-4611686018427387904) 4611686018427387904=true)(hb:¬sz x=0→okB v A B (sz x)=true)(h:(K (jS v A B x)).holds L):(jT e x A B v K).holds L:=by
 have z:=xG1 x
 refine⟨rfl,rfl,hx,fun c=>⟨rfl,hb ((he _ z).1 c),?_⟩,fun c=>?_⟩
 ·rw[show lst v A B (sz x)=jS v A B x from(if_neg ((he _ z).1 c)).symm];exact h
 ·have:sz x=0:=by
   have hn:=mt (he _ z).2 (by rw[c];exact Bool.false_ne_true)
   omega
  rw[show v=jS v A B x from(if_pos this).symm];exact h
theorem qP5{v A B x:Int}(hv:0≤v∧v≤1048576)(h:¬sz x=0→okB v A B (sz x)=true):0≤jS v A B x∧jS v A B x≤1048576:=by
 unfold jS
 split
 ·exact hv
 ·rename_i c
  have:=qZ7 (h c);omega
theorem qP7{a b:V4}{x y:Int}(hx: -16777216≤x∧x≤16777216)(hy: -16777216≤y∧y≤16777216):(-281474976710656≤x*dom b∧x*dom b≤281474976710656)∧(-281474976710656≤y*dom a∧y*dom a≤281474976710656):=by
 have h1:=q70 (A:=16777216) (B:=16777216) (by omega) hx (zU0 b)
 have h2:=q70 (A:=16777216) (B:=16777216) (by omega) hy (zU0 a)
 omega
theorem qP8{a b:V4}{x y:Int}(hx: -16777216≤x∧x≤16777216)(hy: -16777216≤y∧y≤16777216):i64.wrap (i64.wrap (x*dom b)-i64.wrap (y*dom a))=jd a b x y∧inR (jd a b x y) (-4611686018427387904) 4611686018427387904=true∧sz (jd a b x y)≤562949953421312:=by
 have r:=qP7 (a:=a) (b:=b) hx hy
 unfold jd
 rw[w64 (x:=x*dom b) (by omega) (by omega),w64 (x:=y*dom a) (by omega) (by omega),w64 (by omega) (by omega)]
 refine⟨rfl,v8.2 (by omega),?_⟩
 unfold sz;split<;>omega
theorem qP9{j n:Int}(hj:1≤j∧j≤1048576)(hn:1≤n∧n≤16777216):0≤j*n∧j*n≤17592186044416:=by
 have h1:0≤j*n:=Int.mul_nonneg (by omega) (by omega)
 have h2:j*n≤1048576*16777216:=Int.mul_le_mul hj.2 hn.2 (by omega) (by omega)
 omega
theorem zT6{n k:Int}(hn:1≤n∧n≤16777216)(hk:1≤k∧k≤16777216):0≤n*k∧n*k≤281474976710656:=by
 have h1:0≤n*k:=Int.mul_nonneg (by omega) (by omega)
 have h2:n*k≤16777216*16777216:=Int.mul_le_mul hn.2 hk.2 (by omega) (by omega)
 omega
theorem xm8(m:Ma)(c:V4)(l f:Int)(h:(yv9 l&&yv9 f)=true):SCall pP 259 [m.sv,V4.sv c,I64 l,I64 f] (I64 (xx7 m c l f)):=
 o9 mix [z54,qa4,z93,z41,fSz 290] ⟨yj7,yo9,yn4,yi4,ys6,trivial⟩ 1000 (let z1:Plan:=.go (.lit (.fork (.lit (.lit (.fork .all .all))) (.lit (.lit (.lit .all)))));let z0:Plan:=.go (.lit (.fork z1 z1));let z2:Plan:=.go (.lit (.fork z0 z0));.go (.lit (.fork (.lit .all) (.go (.lit (.fork .all (.go (.lit (.fork (.go (.lit (.fork z2 z2))) (.go (.lit (.fork z2 z2))))))))))))
  (t:=.req true (.node (!okC c) (.leaf (I64 0)) (.node (!m.ok) (.leaf (I64 0)) (qu5 m c Ax.speed 1048576 fun v=>.node (decide (l>0)) (.node (decide (f>0)) (.req (okB v f (dom c) l) (.leaf (I64 (if(if lst v f (dom c) l>1 then lst v f (dom c) l else 1)<v then(if lst v f (dom c) l>1 then lst v f (dom c) l else 1)else v)))) (.leaf (I64 v))) (.leaf (I64 v))))))
  (by kernel_rfl) (by
   rw[Bool.and_eq_true]at h
   have h1:=v8.1 h.1
   have h2:=v8.1 h.2
   cases hl:okL m c with
   |false=>
    have:=mt yw4.2 (by rw[hl];exact Bool.false_ne_true)
    simp only[Tree.holds,xx8 hl,sL,ne_eq,sLb,sLc,eq_self,sLd,sLe,sLf]
    (repeat' (first|apply And.intro|intro _))<;>first|rfl|(exfalso;simp_all)
   |true=>
    obtain⟨hm,hc⟩:=yw4.1 hl
    simp only[Tree.holds,xy0 hl,hm,hc,sL,ne_eq,sLb,sLc,eq_self,sLd,sLe,sLf]
    have F:=qu4 (M:=1048576) (m:=m) (c:=c) (s:=Ax.speed) (by omega) hc zs7 hm
    have fv:=qu7 F (v:=1048576) (by omega)
    refine qu6 (M:=1048576) F hc (by omega) ?_
    unfold xx6
    generalize fourV m c Ax.speed 1048576=v at fv ⊢
    have dn:=zT5 hc
    have ob:=fun(a:0<l) (b:0<f)=>xy2 (v:=v) (n:=dom c) (l:=l) (f:=f) (by omega) dn (by omega) (by omega)
    simp only[Tree.holds,sL,ne_eq,sLb,sLc,eq_self,sLd,sLe,sLf]
    refine⟨fun a=>⟨fun b=>⟨ob a b,?_⟩,fun b=>?_⟩,fun a=>?_⟩
    ·have ln:=qZ7 (ob a b)
     rw[if_pos (show 0<l∧0<f from⟨a,b⟩)]
     refine xF9 ?_;(repeat' split)<;>omega
    ·rw[if_neg (show ¬(0<l∧0<f) by omega)]
    ·rw[if_neg (show ¬(0<l∧0<f) by omega)]) (by kernel_rfl) (by kernel_rfl)
theorem xf5(m:Ma)(a b:V4):SCall pP 261 [m.sv,V4.sv a,V4.sv b] (I64 (qQ5 m a b)):=
 o9 mix [z54,qa4,z93,z41,fSz 290] ⟨yj7,yo9,yn4,yi4,ys6,trivial⟩ 1000 (let z2:Plan:=.lit (.all);let z1:Plan:=.go (.lit (.fork (.go z2) (.go z2)));let z0:Plan:=.go (.lit (.fork z1 z1));.go (.lit (.fork z2 (.go (.lit (.fork z2 (.go (.lit (.fork (.all) (.go (.lit (.fork (.go (.lit (.fork z0 z0))) (.go (.lit (.fork z0 z0)))))))))))))))
  (t:=.req true (.node (!okC a) (.leaf (I64 0)) (.req true (.node (!okC b) (.leaf (I64 0)) (.node (!m.ok) (.leaf (I64 0)) (jT (fun n=>decide (n>0)) (i64.wrap (i64.wrap (a.1*dom b)-i64.wrap (b.1*dom a))) (i64.wrap (m.x.jerk*dom a)) (dom b) 1048576 (fun v=>jT (fun n=>decide (n>0)) (i64.wrap (i64.wrap (a.2.1*dom b)-i64.wrap (b.2.1*dom a))) (i64.wrap (m.y.jerk*dom a)) (dom b) v (fun v=>jT (fun n=>decide (n>0)) (i64.wrap (i64.wrap (a.2.2.1*dom b)-i64.wrap (b.2.2.1*dom a))) (i64.wrap (m.z.jerk*dom a)) (dom b) v (fun v=>jT (fun n=>decide (n>0)) (i64.wrap (i64.wrap (a.2.2.2*dom b)-i64.wrap (b.2.2.2*dom a))) (i64.wrap (m.e.jerk*dom a)) (dom b) v (fun v=>.leaf (I64 v)))))))))))
  (by kernel_rfl) (by
   cases hl:okL m a&&okC b with
   |false=>
    have hn:¬((m.ok=true∧okC a=true)∧okC b=true):=fun k=>by
     have:(okL m a&&okC b)=true:=by rw[Bool.and_eq_true];exact⟨yw4.2 k.1,k.2⟩
     rw[hl]at this;cases this
    simp only[Tree.holds,qQ6 hl,sL,ne_eq,sLb,sLc,eq_self,sLd,sLe,sLf]
    (repeat' (first|apply And.intro|intro _))<;>first|rfl|(exfalso;simp_all)
   |true=>
    have h2:=hl
    rw[Bool.and_eq_true]at h2
    obtain⟨hm,ha⟩:=yw4.1 h2.1
    have hb:=h2.2
    have mo:=(Ma.ok_iff m).1 hm
    have ra:=(yw3.1 ha).1
    have rb:=(yw3.1 hb).1
    have da:=zT5 ha
    have db:=zT5 hb
    have j1:=zs5 _ mo.1
    have j2:=zs5 _ mo.2.1
    have j3:=zs5 _ mo.2.2.1
    have j4:=zs5 _ mo.2.2.2.1
    obtain⟨w1,i1,z1⟩:=qP8 (a:=a) (b:=b) (x:=a.1) (y:=b.1) (by omega) (by omega)
    obtain⟨w2,i2,z2⟩:=qP8 (a:=a) (b:=b) (x:=a.2.1) (y:=b.2.1) (by omega) (by omega)
    obtain⟨w3,i3,z3⟩:=qP8 (a:=a) (b:=b) (x:=a.2.2.1) (y:=b.2.2.1) (by omega) (by omega)
    obtain⟨w4,i4,z4'⟩:=qP8 (a:=a) (b:=b) (x:=a.2.2.2) (y:=b.2.2.2) (by omega) (by omega)
    have m1:=qP9 j1 da
    have m2:=qP9 j2 da
    have m3:=qP9 j3 da
    have m4:=qP9 j4 da
    have mm:=zT6 da db
    have ob:∀{v A B x:Int},0≤v∧v≤1048576→0≤A∧A≤17592186044416→0≤B∧B≤281474976710656→sz x≤562949953421312→¬sz x=0→okB v A B (sz x)=true:=fun {v A B x} hv hA hB hx h0=>yw2.2 ⟨yw7.2 (by have:=xG1 x;omega),by omega⟩
    rw[w1,w2,w3,w4]
    simp only[Tree.holds,qQ8 hl,hm,ha,hb,sL,ne_eq,sLb,sLc,eq_self,sLd,sLe,sLf]
    rw[w64 (x:=m.x.jerk*dom a) (by omega) (by omega),w64 (x:=m.y.jerk*dom a) (by omega) (by omega),w64 (x:=m.z.jerk*dom a) (by omega) (by omega),w64 (x:=m.e.jerk*dom a) (by omega) (by omega)]
    have v0:(0:Int)≤1048576∧(1048576:Int)≤1048576:=by omega
    have b1:=ob (x:=jd a b a.1 b.1) v0 (A:=m.x.jerk*dom a) (B:=dom b) m1 (by omega) z1
    have v1:=qP5 v0 b1
    have b2:=ob (x:=jd a b a.2.1 b.2.1) v1 (A:=m.y.jerk*dom a) (B:=dom b) m2 (by omega) z2
    have v2:=qP5 v1 b2
    have b3:=ob (x:=jd a b a.2.2.1 b.2.2.1) v2 (A:=m.z.jerk*dom a) (B:=dom b) m3 (by omega) z3
    have v3:=qP5 v2 b3
    have b4:=ob (x:=jd a b a.2.2.2 b.2.2.2) v3 (A:=m.e.jerk*dom a) (B:=dom b) m4 (by omega) z4'
    exact qP6 (fun n hn=>⟨fun k=>by have:=of_decide_eq_true k;omega,fun k=>decide_eq_true (by omega)⟩) i1 b1 (qP6 (fun n hn=>⟨fun k=>by have:=of_decide_eq_true k;omega,fun k=>decide_eq_true (by omega)⟩) i2 b2 (qP6 (fun n hn=>⟨fun k=>by have:=of_decide_eq_true k;omega,fun k=>decide_eq_true (by omega)⟩) i3 b3 (qP6 (fun n hn=>⟨fun k=>by have:=of_decide_eq_true k;omega,fun k=>decide_eq_true (by omega)⟩) i4 b4 rfl)))) (by kernel_rfl) (by kernel_rfl)
def qk3(f:FuncId)(h:Ma→V4→Int→Int→Tree SV):Fact:=⟨f,fun args=>match args with
 |[.agg [.int .i64 a0,.int .i64 a1,.int .i64 a2,.int .i64 a3,.int .i64 a4,.int .i64 a5,.int .i64 a6,.int .i64 b0,.int .i64 b1,.int .i64 b2,.int .i64 b3,.int .i64 b4,.int .i64 b5,.int .i64 b6,.int .i64 c0,.int .i64 c1,.int .i64 c2,.int .i64 c3,.int .i64 c4,.int .i64 c5,.int .i64 c6,.int .i64 d0,.int .i64 d1,.int .i64 d2,.int .i64 d3,.int .i64 d4,.int .i64 d5,.int .i64 d6,.bool xy,.int .i64 t],.agg [.int .i64 x,.int .i64 y,.int .i64 z,.int .i64 w],.int .i64 i,.int .i64 j] =>some (h ⟨⟨a0,a1,a2,a3,a4,a5,a6⟩,⟨b0,b1,b2,b3,b4,b5,b6⟩,⟨c0,c1,c2,c3,c4,c5,c6⟩,⟨d0,d1,d2,d3,d4,d5,d6⟩,xy,t⟩ (x,y,z,w) i j)
 |_=>none⟩
theorem qk4{P:Program}{f:FuncId}{h:Ma→V4→Int→Int→Tree SV}(k:∀m v i j,(h m v i j).says (SCall P f [m.sv,V4.sv v,I64 i,I64 j])):(qk3 f h).ok P:=fun args t ht=>by
 simp only[qk3]at ht
 split at ht
 ·injection ht with ht;subst ht;exact k ⟨⟨_,_,_,_,_,_,_⟩,⟨_,_,_,_,_,_,_⟩,⟨_,_,_,_,_,_,_⟩,⟨_,_,_,_,_,_,_⟩,_,_⟩ (_,_,_,_) _ _
 ·cases ht
def qk1(f:FuncId)(h:Ma→V4→V4→Tree SV):Fact:=⟨f,fun args=>match args with
 |[.agg [.int .i64 a0,.int .i64 a1,.int .i64 a2,.int .i64 a3,.int .i64 a4,.int .i64 a5,.int .i64 a6,.int .i64 b0,.int .i64 b1,.int .i64 b2,.int .i64 b3,.int .i64 b4,.int .i64 b5,.int .i64 b6,.int .i64 c0,.int .i64 c1,.int .i64 c2,.int .i64 c3,.int .i64 c4,.int .i64 c5,.int .i64 c6,.int .i64 d0,.int .i64 d1,.int .i64 d2,.int .i64 d3,.int .i64 d4,.int .i64 d5,.int .i64 d6,.bool xy,.int .i64 t],.agg [.int .i64 x,.int .i64 y,.int .i64 z,.int .i64 w],.agg [.int .i64 x2,.int .i64 y2,.int .i64 z2,.int .i64 w2]] =>some (h ⟨⟨a0,a1,a2,a3,a4,a5,a6⟩,⟨b0,b1,b2,b3,b4,b5,b6⟩,⟨c0,c1,c2,c3,c4,c5,c6⟩,⟨d0,d1,d2,d3,d4,d5,d6⟩,xy,t⟩ (x,y,z,w) (x2,y2,z2,w2))
 |_=>none⟩
theorem qk2{P:Program}{f:FuncId}{h:Ma→V4→V4→Tree SV}(k:∀m v u,(h m v u).says (SCall P f [m.sv,V4.sv v,V4.sv u])):(qk1 f h).ok P:=fun args t ht=>by
 simp only[qk1]at ht
 split at ht
 ·injection ht with ht;subst ht;exact k ⟨⟨_,_,_,_,_,_,_⟩,⟨_,_,_,_,_,_,_⟩,⟨_,_,_,_,_,_,_⟩,⟨_,_,_,_,_,_,_⟩,_,_⟩ (_,_,_,_) (_,_,_,_)
 ·cases ht
def qd1:Fact:=qk3 259 fun m c l f=>.req (yv9 l&&yv9 f) (.leaf (I64 (xx7 m c l f)))
theorem ys0:qd1.ok pP:=qk4 (fun m c l f h=>xm8 m c l f h)
def z84:Fact:=qk1 261 fun m a b=>.leaf (I64 (qQ5 m a b))
theorem ym7:z84.ok pP:=qk2 (xf5)
section
variable {m:Ma} {c:V4}
theorem zh1(h:okL m c=true):1≤zg9 m c∧zg9 m c≤16777216:=by
 obtain⟨hm,hc⟩:=yw4.1 h
 rw[zh2 h]
 exact qu7 (qu4 (M:=16777216) (by omega) hc zs2 hm) (v:=16777216) (by omega)
theorem xy3(h:okL m c=true):1≤fourV m c Ax.speed 1048576∧fourV m c Ax.speed 1048576≤1048576:=by
 obtain⟨hm,hc⟩:=yw4.1 h
 exact qu7 (qu4 (M:=1048576) (by omega) hc zs7 hm) (v:=1048576) (by omega)
theorem xy1(h:okL m c=true):xx7 m c 0 0=fourV m c Ax.speed 1048576:=by
 rw[xy0 h];unfold xx6;rw[if_neg (by omega)]
theorem xx9(h:okL m c=true){l f:Int}(hl:l≤9223372036854775807)(hf:f≤9223372036854775807):1≤xx7 m c l f∧xx7 m c l f≤xx7 m c 0 0∧xx7 m c 0 0≤1048576:=by
 have t:=xy3 h
 have hc:=(yw4.1 h).2
 rw[xy1 h]
 refine⟨?_,?_,t.2⟩
 all_goals
  rw[xy0 h];unfold xx6
  split
  ·rename_i k
   have b:=xy2 (v:=fourV m c Ax.speed 1048576) (n:=dom c) (l:=l) (f:=f) (by omega) (zT5 hc) (by omega) (by omega)
   have n:=qZ7 b
   split<;>omega
  ·omega
theorem qQ7(m:Ma)(a b:V4):0≤qQ5 m a b∧qQ5 m a b≤1048576:=by
 cases hl:okL m a&&okC b with
 |false=>rw[qQ6 hl];omega
 |true=>
  have h2:=hl
  rw[Bool.and_eq_true]at h2
  obtain⟨hm,ha⟩:=yw4.1 h2.1
  have hb:=h2.2
  have mo:=(Ma.ok_iff m).1 hm
  have ra:=(yw3.1 ha).1
  have rb:=(yw3.1 hb).1
  have da:=zT5 ha
  have db:=zT5 hb
  have j1:=zs5 _ mo.1
  have j2:=zs5 _ mo.2.1
  have j3:=zs5 _ mo.2.2.1
  have j4:=zs5 _ mo.2.2.2.1
  obtain⟨w1,i1,z1⟩:=qP8 (a:=a) (b:=b) (x:=a.1) (y:=b.1) (by omega) (by omega)
  obtain⟨w2,i2,z2⟩:=qP8 (a:=a) (b:=b) (x:=a.2.1) (y:=b.2.1) (by omega) (by omega)
  obtain⟨w3,i3,z3⟩:=qP8 (a:=a) (b:=b) (x:=a.2.2.1) (y:=b.2.2.1) (by omega) (by omega)
  obtain⟨w4,i4,z4'⟩:=qP8 (a:=a) (b:=b) (x:=a.2.2.2) (y:=b.2.2.2) (by omega) (by omega)
  have m1:=qP9 j1 da
  have m2:=qP9 j2 da
  have m3:=qP9 j3 da
  have m4:=qP9 j4 da
  have ob:∀{v A B x:Int},0≤v∧v≤1048576→0≤A∧A≤17592186044416→0≤B∧B≤281474976710656→sz x≤562949953421312→1≤B→¬sz x=0→okB v A B (sz x)=true:=fun {v A B x} hv hA hB hx _ h0=>yw2.2 ⟨yw7.2 (by have:=xG1 x;omega),by omega⟩
  rw[qQ8 hl]
  have v0:(0:Int)≤1048576∧(1048576:Int)≤1048576:=by omega
  have v1:=qP5 v0 (ob (A:=m.x.jerk*dom a) (B:=dom b) (x:=jd a b a.1 b.1) v0 m1 (by omega) z1 db.1)
  have v2:=qP5 v1 (ob (A:=m.y.jerk*dom a) (B:=dom b) (x:=jd a b a.2.1 b.2.1) v1 m2 (by omega) z2 db.1)
  have v3:=qP5 v2 (ob (A:=m.z.jerk*dom a) (B:=dom b) (x:=jd a b a.2.2.1 b.2.2.1) v2 m3 (by omega) z3 db.1)
  exact qP5 v3 (ob (A:=m.e.jerk*dom a) (B:=dom b) (x:=jd a b a.2.2.2 b.2.2.2) v3 m4 (by omega) z4' db.1)
theorem xy6{v M:Int}(hv:0≤v∧v≤M):0≤v*v∧v*v≤M*M:=⟨Int.mul_nonneg hv.1 hv.1,Int.mul_le_mul hv.2 hv.2 hv.1 (by omega)⟩
theorem xy5{v M:Int}(hv:1≤v∧v≤M):1≤v*v∧v*v≤M*M:=by
 have h1:1*1≤v*v:=Int.mul_le_mul hv.1 hv.1 (by omega) (by omega)
 exact⟨by omega,(xy6 (v:=v) (M:=M) (by omega)).2⟩
end
def qs0:List Int→Int→Int
 |[],d=>d
 |n::l,d=>if 0<n then n else qs0 l d
def qD2:List Int→Bool
 |[] =>false
 |n::_=>n==0
def n8(f:Fw):Int:=if f.moving=true∧0<f.active then f.active else qs0 f.lines (f.line+1)
def y29(f:Fw):Bool:=match f.moving with
 |true=>f.active==0
 |false=>qD2 f.lines
theorem y32{f:Fw}(h:f.moving=true):y29 f=(f.active==0):=by unfold y29;rw[h]
theorem y31{f:Fw}(h:f.moving=false):y29 f=qD2 f.lines:=by unfold y29;rw[h]
def xv2(f:Fw):Bool:=zz3 f.pos&& (decide (f.lines.length=f.queue.length)&& (decide (f.queue.length≤32)&& (inR f.line 0 1099511627776&& (inR f.active 0 1099511627776&&f.lines.all fun n=>inR n 0 1099511627776))))
theorem xv3{f:Fw}:xv2 f=true↔zz3 f.pos=true∧f.lines.length=f.queue.length∧f.queue.length≤32∧(0≤f.line∧f.line≤1099511627776)∧(0≤f.active∧f.active≤1099511627776)∧∀n∈f.lines,0≤n∧n≤1099511627776:=by
 simp only[xv2,Bool.and_eq_true,decide_eq_true_eq,v8,List.all_eq_true]
theorem qs3:∀ (l:List Int) (d:Int),(∀n∈l,0≤n∧n≤1099511627776)→0≤d∧d≤1099511627777→0≤qs0 l d∧qs0 l d≤1099511627777
 |[],d,_,h=>h
 |n::l,d,k,h=>by
  unfold qs0
  have:=k n List.mem_cons_self
  split
  ·omega
  ·exact qs3 l d (fun x hx=>k x (List.mem_cons_of_mem _ hx)) h
theorem yD7{f:Fw}(h:xv2 f=true):0≤n8 f∧n8 f≤1099511627777:=by
 obtain⟨_,_,_,h1,h2,h3⟩:=xv3.1 h
 unfold n8
 split
 ·omega
 ·exact qs3 _ _ h3 (by omega)
def qY2(f:Fw):V4:=if f.moving=true∧0<f.active then begin4 f else if f.homed=true∧y29 f=false then f.pos else f.ret
def qY1(f:Fw):Fw:={f with ret:=qY2 f,line:=n8 f-1,back:=f.back||f.homed,homed:=false,moving:=false,queue:=[],lines:=[],mo:=m0,active:=0,dwell:=0,waits:=0}
def xz9(b:Bk)(t:Int):Mo:=match okS b t with
 |true=>xz8 b t
 |false=>m0
theorem xA1{b:Bk}{t:Int}(h:okS b t=true):xz9 b t=xz8 b t:=by unfold xz9;rw[h]
theorem xA0{b:Bk}{t:Int}(h:okS b t=false):xz9 b t=m0:=by unfold xz9;rw[h]
def zE5(f:Fw):Bool:=!f.moving&& (!f.queue.isEmpty&& (!(f.mode==3)&&f.dwell==0))
theorem zE6{f:Fw}:zE5 f=true↔f.moving=false∧¬f.queue.length=0∧¬f.mode=3∧f.dwell=0:=by
 simp only[zE5,Bool.and_eq_true,Bool.not_eq_true',beq_iff_eq,beq_eq_false_iff_ne,ne_eq,List.isEmpty_eq_false_iff,List.length_eq_zero_iff]
def xz7(f:Fw):Fw:={f with mo:=xz9 (f.queue.getD 0 dBk) f.ma.ticks,moving:=true,active:=f.lines.getD 0 0,queue:=f.queue.drop 1,lines:=f.lines.drop 1}
def t7(f:Fw):Fw:=match zE5 f with
 |true=>xz7 f
 |false=>f
theorem zx2{f:Fw}(h:zE5 f=true):t7 f=xz7 f:=by unfold t7;rw[h]
theorem zx0{f:Fw}(h:zE5 f=false):t7 f=f:=by unfold t7;rw[h]
def yY6(g:Gu)(r:Int):Gu:=if g.fault=0 then g else g.rest r
def yZ3(g:Gu)(r:Int):Bool:=g.fault==0||g.resE r==0
theorem yZ4{g:Gu}{r:Int}:yZ3 g r=true↔g.fault=0∨g.resE r=0:=by simp only[yZ3,Bool.or_eq_true,beq_iff_eq]
def xQ2(f:Fw):Fw:={f with g0:=f.g0.touch,g1:=f.g1.touch}
def xD1(f:Fw):Fw:={f with g0:=f.g0.stop,g1:=f.g1.stop}
def xD0(f:Fw):Fw:={qY1 (xD1 f)with mode:=3}
def q92(m:Ma)(c:V4)(len feed:Int):Bk:=(c,zg9 m c,0,xx7 m c len feed*xx7 m c len feed,0)
def zF5(m:Ma)(q:List Bk)(i:Nat):Int:=if i=0 then 0 else qQ5 m (q.getD (i-1) dBk).1 (q.getD i dBk).1*qQ5 m (q.getD (i-1) dBk).1 (q.getD i dBk).1
def zG2(m:Ma)(q:List Bk):List Int:=(List.range q.length).map (zF5 m q)
def z02(f:Fw):Int:=if f.moving=true then f.mo.1.2.2.2.2 else if f.queue.length=0 then 0 else(f.queue.getD 0 dBk).2.2.1
def r9(f:Fw)(c:V4)(len:Int):List Bk:=f.queue++[q92 f.ma c len f.feed]
def zk4(f:Fw)(c:V4)(len:Int):Bool:=decide (z02 f≤crL (r9 f c len) 0)&&decide (gL (r9 f c len) (zG2 f.ma (r9 f c len)) (z02 f) 0=z02 f)
theorem zk5{f:Fw}{c:V4}{len:Int}:zk4 f c len=true↔z02 f≤crL (r9 f c len) 0∧gL (r9 f c len) (zG2 f.ma (r9 f c len)) (z02 f) 0=z02 f:=by simp only[zk4,Bool.and_eq_true,decide_eq_true_eq]
def f7(f:Fw)(c:V4)(len line:Int):Fw:={f with queue:=plB (r9 f c len) (gL (r9 f c len) (zG2 f.ma (r9 f c len)) (z02 f)),lines:=f.lines++[line]}
theorem yb1(f:Fw)(h:f.queue=[])(k:f.lines=[]):x9 (f4 f) f.cells:=by
 obtain⟨⟩:=f
 dsimp only at h k
 subst h k
 repeat(first|exact trivial|refine⟨.same _,?_⟩|refine⟨.nil _,?_⟩)
def qC1(h k:Int):Bool:=!(i64.wrap ((BitVec.ofInt 64 h &&&BitVec.ofInt 64 k).toNat:Int)==0)
theorem qC2{h k:Int}:qC1 h k=true↔¬i64.wrap ((BitVec.ofInt 64 h &&&BitVec.ofInt 64 k).toNat:Int)=0:=by simp only[qC1,Bool.not_eq_true',beq_eq_false_iff_ne,ne_eq]
def f6(f:Fw)(c:Gc.C):V3:=(if qC1 c.has 1=true then c.x else f.loc.1,if qC1 c.has 2=true then c.y else f.loc.2.1,if qC1 c.has 4=true then c.z else f.loc.2.2)
def xH1(f:Fw)(c:Gc.C):Int:=if qC1 c.has 8=true then c.e else f.e
def sqs(a b:V3):Int:=(b.1-a.1)*(b.1-a.1)+(b.2.1-a.2.1)*(b.2.1-a.2.1)+(b.2.2-a.2.2)*(b.2.2-a.2.2)
def qV4(f:Fw)(p:V3)(e:Int):Int:=if isq (sqs f.loc p)=0 then(if e-f.e<f.e-e then f.e-e else e-f.e)else isq (sqs f.loc p)
def b7(f:Fw)(c:Gc.C):Fw:=if qC1 c.has 16=true then {f with feed:=c.f} else f
def q64(f:Fw)(c:Gc.C):V4:=q53 f.ma (f6 f c) (xH1 f c)
def q60(f:Fw)(c:Gc.C):V4:=xE8 (q64 f c) (qy4 f)
def tlE(g:Fw)(u:V3)(e:Int)(p d:V4):Int:=match v7 p&&v7 d with
 |false=>2
 |true=>match nz4 d with
  |false=>0
  |true=>if 32≤g.queue.length then 18 else if zk4 g d (qV4 g u e)=true then 0 else 2
def tlF(g:Fw)(line:Int)(u:V3)(e:Int)(d:V4):Fw:=match nz4 d with
 |false=>{g with loc:=u,e:=e}
 |true=>{f7 g d (qV4 g u e) line with loc:=u,e:=e}
def tlO(g:Fw)(line:Int)(u:V3)(e:Int)(p d:V4):Fw:=if tlE g u e p d=0 then tlF g line u e d else g
def q61(f:Fw)(line:Int)(c:Gc.C):Int:=
 if line<1∨f.homed=false∨f.back=true∨¬f.mode=1 then 14
 else if qL2 f.ma (f6 f c)=false∨q46 f.ma (f6 f c) (xH1 f c)=false then 8
 else if f.e<xH1 f c∧f.r0<f.cold then 15
 else 0
def q58(f:Fw)(line:Int)(c:Gc.C):Int:=if q61 f line c=0 then tlE (b7 f c) (f6 f c) (xH1 f c) (q64 f c) (q60 f c)else q61 f line c
def q62(f:Fw)(line:Int)(c:Gc.C):Fw:=tlF (b7 f c) line (f6 f c) (xH1 f c) (q60 f c)
def q63(f:Fw)(line:Int)(c:Gc.C):Fw:=if q61 f line c=0 then tlO (b7 f c) line (f6 f c) (xH1 f c) (q64 f c) (q60 f c)else if q61 f line c=14 then f else b7 f c
def qH0(f:Fw):Int:=if xT6 f.ma f.pos.2.2.2=true then xU6 f.ma.e f.pos.2.2.2 else 0
def qG2(f:Fw)(line:Int):Bool:=(line==0&&f.homed)||f.back
def qH5(f:Fw)(line:Int):V4:=if line=0∧f.homed=true then f.pos else f.ret
def qF7(f:Fw)(line:Int):Fw:={f with ret:=qH5 f line,back:=false,pos:=(0,0,0,f.pos.2.2.2),homed:=true,loc:=(0,0,0),e:=qH0 f}
def qG4(f:Fw)(line:Int):V4:=(0,0,(qH5 f line).2.2.1,0)
def qG7(f:Fw)(line:Int):V4:=((qH5 f line).1,(qH5 f line).2.1,0,0)
def backOk(f:Fw)(c:V4):Bool:=!nz4 c||zk4 f c 0
def f5(f:Fw)(c:V4):Fw:=if nz4 c=true then f7 f c 0 0 else f
def qH7(f:Fw)(line:Int):Int:=
 if qG2 f line=false then 0
 else if backOk (qF7 f line) (qG4 f line)=false then 2
 else if backOk (f5 (qF7 f line) (qG4 f line)) (qG7 f line)=false then 2 else 0
def yP0(m:Ma)(p:V4):V3:=((yP1 m p).1,(yP1 m p).2.1,(yP1 m p).2.2.1)
def qH2(f:Fw)(line:Int):Fw:=
 if qG2 f line=false then qF7 f line
 else {f5 (f5 (qF7 f line) (qG4 f line)) (qG7 f line)with loc:=yP0 f.ma (qH5 f line)}
def resE(f:Fw):Int:=if ¬f.mode=3 then 14 else if yZ3 f.g0 f.r0=false∨yZ3 f.g1 f.r1=false then 16 else 0
def yY5(f:Fw):Fw:={f with g0:=yY6 f.g0 f.r0,g1:=yY6 f.g1 f.r1,mode:=1}
def qG0(f:Fw)(line:Int):Int:=if qJ4 f=false then 18 else if ¬f.mode=1 then 14 else qH7 f line
def orB(a b:Int):Int:=i64.wrap ((BitVec.ofInt 64 a |||BitVec.ofInt 64 b).toNat:Int)
def qW4(f:Fw)(line:Int):Fw:=if line=0 then f else {f with line:=line}
def doE(f:Fw)(line:Int)(c:Gc.C):Int:=
 if c.code=1112 then 0
 else if c.code=1999 then resE f
 else if f.mode=3 then 16
 else if c.code=1025 then(if f.mode=1 then 0 else 14)
 else if c.code=1024 then(if f.mode=2 then 0 else 14)
 else if ¬f.waits=0∨¬f.dwell=0 then 18
 else if c.code=0∨c.code=1 then q58 f line c
 else if c.code=4 then(if qJ4 f=true then 0 else 18)
 else if c.code=28 then qG0 f line
 else 0
def doF(f:Fw)(line:Int)(c:Gc.C):Fw:=
 if c.code=1112 then xD0 (qW4 f line)
 else if c.code=1999 then yY5 f
 else if c.code=1025 then {f with mode:=2}
 else if c.code=1024 then {f with mode:=1}
 else if c.code=0∨c.code=1 then q62 f line c
 else if c.code=4 then {f with dwell:=c.s}
 else if c.code=28 then qH2 f line
 else if c.code=1104 then {f with c0:=f.c0.aim c.s}
 else if c.code=1109 then {f with c0:=f.c0.aim c.s,waits:=orB f.waits 1}
 else if c.code=1140 then {f with c1:=f.c1.aim c.s}
 else if c.code=1190 then {f with c1:=f.c1.aim c.s,waits:=orB f.waits 2}
 else {f with fan:=c.s}
def zg2(f:Fw)(line:Int)(c:Gc.C):Int:=
 if v5 f=false∨c.valid=false∨(¬line=0∧¬line=f.line+1)∨1099511627776<line then 1 else doE f line c
def zg4(f:Fw)(line:Int)(c:Gc.C):Fw:=xQ2 (if c.code=1112 then doF f line c else qW4 (doF f line c) line)
def yV7(f:Fw)(r s:Int):Fw:={f with r0:=r,r1:=s,ticks:=if f.ticks+1<1099511627776 then f.ticks+1 else 1099511627776}
def qD4(f:Fw):Fw:={f with c0:=f.c0.step f.r0,c1:=f.c1.step f.r1,g0:=f.g0.step f.r0 (f.c0.step f.r0).target (f.c0.duty f.r0),g1:=f.g1.step f.r1 (f.c1.step f.r1).target (f.c1.duty f.r1)}
def zU7(f:Fw):Int:=f.g0.duty f.r0 (f.c0.step f.r0).target (f.c0.duty f.r0)
def zU8(f:Fw):Int:=f.g1.duty f.r1 (f.c1.step f.r1).target (f.c1.duty f.r1)
def q94(a b:Gu):Bool:=a.fault==0&&!(b.fault==0)
def qY9(f:Fw):Bool:=q94 f.g0 (qD4 f).g0||q94 f.g1 (qD4 f).g1
def qZ1(f:Fw):Fw:=if qY9 f=true then {qY1 (qD4 f)with mode:=3} else qD4 f
def x16(c:Co)(g:Gu)(r:Int):Bool:=decide (c.target-g.band≤r)
def x07(f:Fw):Fw:={f with waits:=if x16 f.c1 f.g1 f.r1=true then Gc.andNot (if x16 f.c0 f.g0 f.r0=true then Gc.andNot f.waits 1 else f.waits) 2 else(if x16 f.c0 f.g0 f.r0=true then Gc.andNot f.waits 1 else f.waits)}
def xB0(f:Fw):Fw:=if zZ8 (xI1 f.mo f.ma.ticks)=true then {f with pos:=r8 f.pos (xI4 f.mo f.ma.ticks),mo:=m0,moving:=false,active:=0} else {f with pos:=r8 f.pos (xI4 f.mo f.ma.ticks),mo:=xI1 f.mo f.ma.ticks}
def y44(f:Fw):Fw:=if 0<f.dwell then {f with dwell:=f.dwell-1} else if(t7 f).moving=true then xB0 (t7 f)else t7 f
def y45(f:Fw):V4:=if 0<f.dwell then z4 else if(t7 f).moving=true then xI4 (t7 f).mo (t7 f).ma.ticks else z4
def qI4(f:Fw)(r s:Int):Fw:=x07 (qZ1 (yV7 f r s))
def xH9(f:Fw)(r s:Int):Fw:=if v5 f=false then f else if(qI4 f r s).mode=3 then qI4 f r s else y44 (qI4 f r s)
def xI6(f:Fw)(r s:Int):V4:=if v5 f=false then z4 else if(qI4 f r s).mode=3 then z4 else y45 (qI4 f r s)
def xH7(f:Fw)(r s:Int):Int×Int:=if v5 f=false then(0,0)else if(qI4 f r s).mode=3 then(0,0)else(zU7 (yV7 f r s),zU8 (yV7 f r s))
theorem qD3{l:List Int}:qD2 l=true↔0<l.length∧l.getD 0 0=0:=by
 cases l with
 |nil=>simp[qD2]
 |cons n l=>simp[qD2]
def qW2(f:Fw):Bool:=decide (f.lines.length=f.queue.length)
theorem y30{f:Fw}:y29 f=true↔(f.moving=true∧f.active=0)∨(f.moving=false∧0<f.lines.length∧f.lines.getD 0 0=0):=by
 cases hm:f.moving
 ·rw[y31 hm,qD3];simp
 ·rw[y32 hm];simp
theorem qW3{f:Fw}:qW2 f=true↔f.lines.length=f.queue.length:=by simp only[qW2,decide_eq_true_eq]
def yy8:Plan:=.fork (.ln 6 (.fork .all .all)) (.ln 6 (.lit .all))
noncomputable def yy9(f:Fw):Tree StopX:=let y0:Tree StopX:=.leaf (.at (j9 pP 228 0) 43 (j8 43 [(0,.ptr 0 0),(27,.list (Ty.int IntKind.i64) f.lines),(28,I64 (↑f.lines.length:Int)),(29,I64 0)]) [some (.cells (Fw.cells f))]); .node (f.moving) (.node (decide (f.active>0)) (.leaf (.fin (.ret (I64 f.active) [some (.cells (Fw.cells f))]))) y0) y0
theorem op0(f:Fw):xt5 (Env.ofB pP (v6 []) (d7 []) (d9 []) (d8 []) (x7 []) (x7 []) (x7 []) (x7 [])) 1000 (j7 pP 228) 1 (x8 43 [0,27,28,29]) (u7 pP 228) yy8 (v9 pP 228 [.ptr 0 0]) [some (.cells f.cells)] =yy9 f:=by kernel_rfl
def yz1:Plan:=.fork (.fork (.all) (.all)) (.all)
noncomputable def yz2(f:Fw)(n i:Int):Tree StopX:= .node (decide (i<n)) (.req (decide (0≤i)&&decide (i< (↑f.lines.length:Int))) (.node (decide (f.lines.getD i.toNat 0>0)) (.leaf (.fin (.ret (I64 (f.lines.getD i.toNat 0)) [some (.cells (Fw.cells f))]))) (.leaf (.at (j9 pP 228 0) 43 (j8 43 [(0,.ptr 0 0),(27,.list (Ty.int IntKind.i64) f.lines),(28,I64 n),(29,I64 (i64.wrap (i+1)))]) [some (.cells (Fw.cells f))])))) (.leaf (.fin (.ret (I64 (i64.wrap (f.line+1))) [some (.cells (Fw.cells f))])))
theorem op1(f:Fw)(n i:Int):xt5 (Env.ofB pP (v6 []) (d7 []) (d9 []) (d8 []) (x7 []) (x7 []) (x7 []) (x7 [])) 1000 (j7 pP 228) 1 (x8 43 [0,27,28,29]) (j9 pP 228 0) yz1 (j8 43 [(0,.ptr 0 0),(27,LI f.lines),(28,I64 n),(29,I64 i)]) [some (.cells f.cells)] =yz2 f n i:=by kernel_rfl
theorem qs1(l:List Int)(d:Int){i:Nat}(hi:i<l.length):qs0 (l.drop i) d=if 0<l.getD i 0 then l.getD i 0 else qs0 (l.drop (i+1)) d:=by
 rw[List.drop_eq_getElem_cons hi,List.getD_eq_getElem?_getD,List.getElem?_eq_getElem hi]
 rfl
theorem qs2(l:List Int)(d:Int):qs0 (l.drop l.length) d=d:=by rw[List.drop_length];rfl
theorem yz0(f:Fw)(h:xv2 f=true):∀ (k i:Nat),i+k=f.lines.length→
  zd3 pP (j7 pP 228) [] 1 (.ret (I64 (qs0 (f.lines.drop i) (f.line+1))) [some (.cells f.cells)]) (j9 pP 228 0) (j8 43 [(0,.ptr 0 0),(27,LI f.lines),(28,I64 f.lines.length),(29,I64 i)]) [some (.cells f.cells)]
 |k,i,hi=>by
  have s:=xv3.1 h
  refine y70 (hB (l:=[]) (k:=[]) (j:=[]) (i:=[]) [] [] [] [] trivial o4 o4 o4) (n:=1000) (keep:=x8 43 [0,27,28,29]) (p:=yz1) (Nat.le_refl _) ?_
  erw [op1 f f.lines.length i]
  unfold yz2
  have t0:(i:Int).toNat=i:=by omega
  have w1:i64.wrap ((i:Int)+1)=((i+1:Nat):Int):=by rw[w64 (by omega) (by omega)];omega
  have w2:i64.wrap (f.line+1)=f.line+1:=w64 (by omega) (by omega)
  match k,hi with
  |0,hi=>
   have hi2:¬((i:Int)<f.lines.length):=by omega
   have hie:i=f.lines.length:=by omega
   simp only[t0,w1,w2,hi2,Tree.holds,decide_eq_true_eq,decide_eq_false_iff_not,false_implies,true_and,true_implies,not_false_eq_true]
   rw[hie,qs2]<;>rfl
  |k+1,hi=>
   have hi2:(i:Int)<f.lines.length:=by omega
   have ih:=yz0 f h k (i+1) (by omega)
   have e:=qs1 f.lines (f.line+1) (i:=i) (by omega)
   simp only[t0,w1,w2,hi2,Tree.holds,decide_eq_true_eq,decide_eq_false_iff_not,Bool.and_eq_true,not_true_eq_false,false_implies,true_and,and_true,true_implies]
   refine⟨by omega,fun a=>?_,fun a=>⟨o8 _ _,?_⟩⟩
   ·rw[e,if_pos a]<;>rfl
   ·rw[e,if_neg a];exact ih
theorem xj0(f:Fw)(h:xv2 f=true):zb3 pP 228 [] f (I64 (n8 f),f):=by
 have s:=xv3.1 h
 refine qo6 (cs:=f.cells) (by kernel_rfl) rfl rfl rfl (x9.refl _) (y70 (hB (l:=[]) (k:=[]) (j:=[]) (i:=[]) [] [] [] [] trivial o4 o4 o4) (n:=1000) (keep:=x8 43 [0,27,28,29]) (p:=yy8) (Nat.le_refl _) ?_)
 have q:=op0 f
 unfold v9 u7 at q
 erw [q]
 unfold yy9 n8
 have lp:=yz0 f h f.lines.length 0 (by omega)
 cases hm:f.moving
 ·simp only[hm,Tree.holds,Bool.false_eq_true,false_and,if_false,false_implies,true_implies,true_and]
  exact⟨o8 _ _,lp⟩
 ·simp only[hm,Tree.holds,decide_eq_true_eq,decide_eq_false_iff_not,true_and,true_implies,Bool.true_eq_false,false_implies,and_true]
  refine⟨fun a=>?_,fun a=>⟨o8 _ _,?_⟩⟩
  ·rw[if_pos (by omega)]<;>rfl
  ·rw[if_neg (by omega)];exact lp
def zt3:BFact:=zz1 228 fun f rest=>match rest with
 |[] =>some (.req (xv2 f) (.leaf (I64 (n8 f),f)))
 |_=>none
theorem yh6:zt3.ok pP:=zz2 fun f rest t ht=>by
 split at ht
 ·injection ht with ht;subst ht;exact fun h=>xj0 f h
 ·cases ht
theorem yb3{g y:Fw}(h:g=y)(q:g.queue=[])(l:g.lines=[]):x9 (f4 g) y.cells:=by subst h;exact yb1 g q l
def xg6:Plan:=let z0:Plan:=.fork (.ln 4 (.lit .all)) (.ln 4 (.lit .all));let z1:Plan:=.fork (.lit (.fork (.lit (.lit (.fork z0 z0))) (.fork (.ln 10 (.fork z0 z0)) (.ln 11 z0)))) (.ln 4 z0);.fork (.ln 6 (.fork z0 z1)) (.ln 7 z1)
noncomputable def xg7(f:Fw):Tree StopX:=let y2:=Fw.mk f.ma f.mode f.homed f.pos f.loc f.e f.feed f.queue f.lines f.mo f.moving f.active f.back (begin4 f) f.dwell f.waits f.c0 f.c1 f.g0 f.g1 f.fan f.line f.ticks f.cold f.r0 f.r1;let y3:=Fw.mk f.ma f.mode f.homed f.pos f.loc f.e f.feed f.queue f.lines f.mo f.moving f.active f.back f.pos f.dwell f.waits f.c0 f.c1 f.g0 f.g1 f.fan f.line f.ticks f.cold f.r0 f.r1;let y5:=(((0,0,0,0),0,0,0,0),0,0);let y0:Tree StopX:=.req (xv2 y3) (.node (y3.back) (.leaf (.fin (.ret (.tuple []) [some (.cells (f4 {y3 with homed:=false,queue:=[],lines:=[],mo:=y5,moving:=false,active:=0,back:=true,dwell:=0,waits:=0,line:=(i64.wrap (n8 y3-1))}))]))) (.leaf (.fin (.ret (.tuple []) [some (.cells (f4 {y3 with homed:=false,queue:=[],lines:=[],mo:=y5,moving:=false,active:=0,back:=y3.homed,dwell:=0,waits:=0,line:=(i64.wrap (n8 y3-1))}))]))));let y1:Tree StopX:=.req (xv2 f) (.node (f.back) (.leaf (.fin (.ret (.tuple []) [some (.cells (f4 {f with homed:=false,queue:=[],lines:=[],mo:=y5,moving:=false,active:=0,back:=true,dwell:=0,waits:=0,line:=(i64.wrap (n8 f-1))}))]))) (.leaf (.fin (.ret (.tuple []) [some (.cells (f4 {f with homed:=false,queue:=[],lines:=[],mo:=y5,moving:=false,active:=0,back:=f.homed,dwell:=0,waits:=0,line:=(i64.wrap (n8 f-1))}))]))));let y4:Tree StopX:=.node (f.homed) (.node (f.moving) (.node (!f.active==0) y0 y1) (.node (decide ((↑f.queue.length:Int)>0)) (.req (decide (0< (↑f.lines.length:Int))) (.node (!f.lines.getD 0 0==0) y0 y1)) y0)) y1; .node (f.moving) (.node (decide (f.active>0)) (.req (zz3 f.pos) (.req (xv2 y2) (.node (y2.back) (.leaf (.fin (.ret (.tuple []) [some (.cells (f4 {y2 with homed:=false,queue:=[],lines:=[],mo:=y5,moving:=false,active:=0,back:=true,dwell:=0,waits:=0,line:=(i64.wrap (n8 y2-1))}))]))) (.leaf (.fin (.ret (.tuple []) [some (.cells (f4 {y2 with homed:=false,queue:=[],lines:=[],mo:=y5,moving:=false,active:=0,back:=y2.homed,dwell:=0,waits:=0,line:=(i64.wrap (n8 y2-1))}))])))))) y4) y4
theorem xg5(f:Fw):xt5 (Env.ofB pP (v6 [z39]) (d7 []) (d9 [BFact.toP zt3]) (d8 [zt3]) (x7 []) (x7 []) (x7 []) (x7 [])) 1000 (j7 pP 164) 1 (x8 101 []) (u7 pP 164) xg6 (v9 pP 164 [.ptr 0 0]) [some (.cells f.cells)] =xg7 f:=by kernel_rfl
theorem xg4(f:Fw)(h:xv2 f=true):zb3 pP 164 [] f (.tuple [],qY1 f):=
 qo7 (hB (l:=[z39]) (k:=[]) (j:=[BFact.toP zt3]) (i:=[zt3]) ([] :List Nat) ([] :List Nat) ([] :List Nat) ([] :List Nat) (⟨yh9,trivial⟩) o4 (allQ.all (p:=PFact.ok pP) (l:=[BFact.toP zt3]) ⟨BFact.toP_ok yh6,trivial⟩) (allQ.all (p:=BFact.ok pP) (l:=[zt3]) ⟨yh6,trivial⟩)) 1000 xg6 (keep:=(x8 101 [])) (t:=xg7 f) (xg5 f) (by
  unfold xg7
  have sh:=xv3.1 h
  have rb:=y30 (f:=f)
  have ov:=yD7 h
  have w1:=w64 (x:=n8 f-1) (by omega) (by omega)
  have e3:qY1 f={qY1 f with line:=i64.wrap (n8 f-1)}:=by rw[w1];rfl
  cases hbk:f.back
  all_goals
  simp only[Tree.holds,hbk,sL,ne_eq,sLb,sLc,eq_self,sLd,sLe,sLf];(repeat' (first|apply And.intro|intro _));
  all_goals first
   |exact h
   |exact sh.1
   |omega
   |(have e:qY2 f=begin4 f:=if_pos (by grind)
     refine ends rfl (yb3 ?_ rfl rfl) rfl;rw[e3];unfold qY1;rw[e,hbk];rfl)
   |(have e:qY2 f=wsub4 f.pos (q02 f.mo):=by rw[show qY2 f=begin4 f from if_pos (by grind),zy9 (by assumption),x48 sh.1 (q06 f.mo)]
     refine ends rfl (yb3 ?_ rfl rfl) rfl;rw[e3];unfold qY1;rw[e,hbk];rfl)
   |(have e:qY2 f=f.pos:=by unfold qY2;rw[if_neg (by grind),if_pos (by grind)]
     refine ends rfl (yb3 ?_ rfl rfl) rfl;rw[e3];unfold qY1;rw[e,hbk];rfl)
   |(have e:qY2 f=f.ret:=by unfold qY2;rw[if_neg (by grind),if_neg (by grind)]
     refine ends rfl (yb3 ?_ rfl rfl) rfl;rw[e3];unfold qY1;rw[e,hbk];rfl)) (by kernel_rfl) (by kernel_rfl) (by kernel_rfl)
def zt0:BFact:=zz1 164 fun f rest=>match rest with
 |[] =>some (.req (xv2 f) (.leaf (.tuple [],qY1 f)))
 |_=>none
theorem yi2:zt0.ok pP:=zz2 fun f rest t ht=>by
 split at ht
 ·injection ht with ht;subst ht;exact fun h=>xg4 f h
 ·cases ht
def xn6:Plan:=.fork (.ln 21 (.lit .all)) (.ln 7 (.fork (.ln 13 (.lit .all)) (.ln 6 (.fork (.ln 6 (.lit .all)) (.ln 6 (.fork .all (.fork .all .all)))))))
noncomputable def xn7(f:Fw):Tree StopX:=let y0:Tree StopX:=.leaf (.fin (.ret (.bool false) [some (.cells (Fw.cells f))]));let y1:=(↑f.queue.length:Int);let y2:=(↑f.lines.length:Int);let y3:=List.drop 1 f.queue;let y4:=List.drop 1 f.lines; .node (f.moving) y0 (.node (y1==0) y0 (.node (f.mode==3) y0 (.node (f.dwell != 0) y0 (.req (decide (0<y1)) (.node (okS (f.queue.getD 0 dBk) f.ma.ticks) (.req (decide (0<y2)) (.req (decide (1≤y1)) (.req (qq5 y3.length) (.req (decide (1≤y2)) (.req (qq5 y4.length) (.leaf (.fin (.ret (.bool true) [some (.cells (Fw.cells {f with queue:=y3,lines:=y4,mo:=(xz8 (f.queue.getD 0 dBk) f.ma.ticks),moving:=true,active:=(f.lines.getD 0 0)}))])))))))) (.req (decide (0<y2)) (.req (decide (1≤y1)) (.req (qq5 y3.length) (.req (decide (1≤y2)) (.req (qq5 y4.length) (.leaf (.fin (.ret (.bool true) [some (.cells (Fw.cells {f with queue:=y3,lines:=y4,mo:=(((0,0,0,0),0,0,0,0),0,0),moving:=true,active:=(f.lines.getD 0 0)}))])))))))))))))
theorem xn5(f:Fw):xt5 (Env.ofB pP (v6 [qd3,z44,z45]) (d7 []) (d9 []) (d8 []) (x7 []) (x7 []) (x7 []) (x7 [])) 1000 (j7 pP 84) 1 (x8 91 []) (u7 pP 84) xn6 (v9 pP 84 [.ptr 0 0]) [some (.cells f.cells)] =xn7 f:=by kernel_rfl
theorem xn4(f:Fw)(h:xv2 f=true):zb3 pP 84 [] f (.bool (zE5 f),t7 f):=
 qo7 (hB (l:=[qd3,z44,z45]) (k:=[]) (j:=[]) (i:=[]) ([] :List Nat) ([] :List Nat) ([] :List Nat) ([] :List Nat) (⟨ys2,yi8,yi9,trivial⟩) o4 o4 o4) 1000 xn6 (keep:=(x8 91 [])) (t:=xn7 f) (xn5 f) (by
  unfold xn7
  have sh:=xv3.1 h
  have ci:=zE6 (f:=f)
  cases hc:zE5 f
  ·have hn:¬(f.moving=false∧¬f.queue.length=0∧¬f.mode=3∧f.dwell=0):=fun a=>by rw[ci.2 a]at hc;cases hc
   simp only[Tree.holds,sL,ne_eq,sLb,sLc,eq_self,sLd,sLe,sLf];(repeat' (first|apply And.intro|intro _));
   all_goals first
    |(exfalso;first|omega|grind)
    |(rw[zx0 hc];exact ends rfl (x9.refl _) rfl)
  ·have hy:=ci.1 hc
   rw[zx2 hc]
   simp only[Tree.holds,sL,ne_eq,sLb,sLc,eq_self,sLd,sLe,sLf];(repeat' (first|apply And.intro|intro _));
   all_goals first
    |omega
    |(rw[qq6];simp;omega)
    |(exfalso;first|omega|grind)
    |(unfold xz7;rw[xA1 (by assumption)];exact ends rfl (x9.refl _) rfl)
    |(unfold xz7;rw[xA0 (by assumption)];exact ends rfl (x9.refl _) rfl)) (by kernel_rfl) (by kernel_rfl) (by kernel_rfl)
def zt5:BFact:=zz1 84 fun f rest=>match rest with
 |[] =>some (.req (xv2 f) (.leaf (.bool (zE5 f),t7 f)))
 |_=>none
theorem yi5:zt5.ok pP:=zz2 fun f rest t ht=>by
 split at ht
 ·injection ht with ht;subst ht;exact fun h=>xn4 f h
 ·cases ht
def xo8:Plan:=let z1:Plan:=.go (.lit (.fork (.go (.lit (.all))) (.go (.lit (.all)))));let z0:Plan:=.go (.lit (.fork z1 z1));.go (.lit (.fork (.go (.lit (.fork z0 z0))) (.go (.lit (.fork z0 z0)))))
noncomputable def xo9(f:Fw)(c:Gc.C):Tree StopX:=let y0:=i64.wrap (↑(BitVec.ofInt 64 c.has &&&BitVec.ofInt 64 8).toNat:Int) != 0;let y1:Box:=.cells (Fw.cells f);let y2:=i64.wrap (↑(BitVec.ofInt 64 c.has &&&BitVec.ofInt 64 4).toNat:Int) != 0;let y3:=i64.wrap (↑(BitVec.ofInt 64 c.has &&&BitVec.ofInt 64 2).toNat:Int) != 0; .req (true) (.node (i64.wrap (↑(BitVec.ofInt 64 c.has &&&BitVec.ofInt 64 1).toNat:Int) != 0) (.req true (.node y3 (.req true (.node y2 (.req true (.node y0 (.leaf (.fin (.ret (.tuple [.agg [I64 c.x,I64 c.y,I64 c.z],I64 c.e]) [some y1]))) (.leaf (.fin (.ret (.tuple [.agg [I64 c.x,I64 c.y,I64 c.z],I64 f.e]) [some y1]))))) (.req true (.node y0 (.leaf (.fin (.ret (.tuple [.agg [I64 c.x,I64 c.y,I64 f.loc.2.2],I64 c.e]) [some y1]))) (.leaf (.fin (.ret (.tuple [.agg [I64 c.x,I64 c.y,I64 f.loc.2.2],I64 f.e]) [some y1]))))))) (.req true (.node y2 (.req true (.node y0 (.leaf (.fin (.ret (.tuple [.agg [I64 c.x,I64 f.loc.2.1,I64 c.z],I64 c.e]) [some y1]))) (.leaf (.fin (.ret (.tuple [.agg [I64 c.x,I64 f.loc.2.1,I64 c.z],I64 f.e]) [some y1]))))) (.req true (.node y0 (.leaf (.fin (.ret (.tuple [.agg [I64 c.x,I64 f.loc.2.1,I64 f.loc.2.2],I64 c.e]) [some y1]))) (.leaf (.fin (.ret (.tuple [.agg [I64 c.x,I64 f.loc.2.1,I64 f.loc.2.2],I64 f.e]) [some y1]))))))))) (.req true (.node y3 (.req true (.node y2 (.req true (.node y0 (.leaf (.fin (.ret (.tuple [.agg [I64 f.loc.1,I64 c.y,I64 c.z],I64 c.e]) [some y1]))) (.leaf (.fin (.ret (.tuple [.agg [I64 f.loc.1,I64 c.y,I64 c.z],I64 f.e]) [some y1]))))) (.req true (.node y0 (.leaf (.fin (.ret (.tuple [.agg [I64 f.loc.1,I64 c.y,I64 f.loc.2.2],I64 c.e]) [some y1]))) (.leaf (.fin (.ret (.tuple [.agg [I64 f.loc.1,I64 c.y,I64 f.loc.2.2],I64 f.e]) [some y1]))))))) (.req true (.node y2 (.req true (.node y0 (.leaf (.fin (.ret (.tuple [.agg [I64 f.loc.1,I64 f.loc.2.1,I64 c.z],I64 c.e]) [some y1]))) (.leaf (.fin (.ret (.tuple [.agg [I64 f.loc.1,I64 f.loc.2.1,I64 c.z],I64 f.e]) [some y1]))))) (.req true (.node y0 (.leaf (.fin (.ret (.tuple [.agg [I64 f.loc.1,I64 f.loc.2.1,I64 f.loc.2.2],I64 c.e]) [some y1]))) (.leaf (.fin (.ret (.tuple [.agg [I64 f.loc.1,I64 f.loc.2.1,I64 f.loc.2.2],I64 f.e]) [some y1]))))))))))
theorem xo7(f:Fw)(c:Gc.C):xt5 (Env.ofB pP (v6 []) (d7 []) (d9 []) (d8 []) (x7 []) (x7 []) (x7 []) (x7 [])) 1000 (j7 pP 213) 1 (x8 53 []) (u7 pP 213) xo8 (v9 pP 213 [.ptr 0 0,c.sv]) [some (.cells f.cells)] =xo9 f c:=by kernel_rfl
theorem xo6(f:Fw)(c:Gc.C):zb3 pP 213 [c.sv] f (.tuple [V3.sv (f6 f c),I64 (xH1 f c)],f):=
 qo7 (hB (l:=[]) (k:=[]) (j:=[]) (i:=[]) ([] :List Nat) ([] :List Nat) ([] :List Nat) ([] :List Nat) (trivial) o4 o4 o4) 1000 xo8 (keep:=(x8 53 [])) (t:=xo9 f c) (xo7 f c) (by
  unfold xo9
  simp only[Tree.holds,sL,ne_eq,sLb,sLc,eq_self,sLd,sLe,sLf];(repeat' (first|apply And.intro|intro _));
  all_goals first
   |rfl
   |(refine ends ?_ (x9.refl _) rfl;unfold f6 xH1;simp only[qC2, *,not_false_eq_true,not_true_eq_false,if_true,if_false];rfl)) (by kernel_rfl) (by kernel_rfl) (by kernel_rfl)
def yb6:List SV→Bool
 |[] =>true
 |x::l=>match x with
  |.nilS=>false
  |_=>yb6 l
theorem yb7:∀{cs ys:List SV},x9 cs ys→yb6 cs=true→cs=ys
 |[],[],_,_=>rfl
 |x::xs,y::ys,h,k=>by
  obtain⟨h1,h2⟩:=h
  unfold yb6 at k
  split at k
  ·cases k
  ·rename_i hx
   cases h1 with
   |same=>rw[yb7 h2 k]
   |nil t=>exact absurd rfl hx
def rdT(cs:List SV):Tree SV→Tree (Bool×SV×Box)
 |.leaf v=>.leaf (false,v,.cells cs)
 |.node b t f=>.node b (rdT cs t) (rdT cs f)
 |.req b t=>.req b (rdT cs t)
 |.fail n=>.fail n
def y33(f:FuncId)(h:Fw→List SV→Option (Tree SV)):BFact:=⟨f,fun args B=>match B with
 |.cells cs=>match yb6 cs with
  |true=>match zq3 cs with
   |some x=>match h x args with
    |some t=>some (rdT cs t)
    |none=>none
   |none=>none
  |false=>none
 |_=>none⟩
theorem yV3{P:Program}{f:FuncId}{args cs:List SV}{x:Fw}(he:cs=x.cells):∀t:Tree SV,t.says (fun v=>zb3 P f args x (v,x))→(rdT cs t).says (za1 P f args (.cells cs))
 |.leaf v,k=>by subst he;exact k
 |.node _ t u,k=>⟨fun hb=>yV3 he t (k.1 hb),fun hb=>yV3 he u (k.2 hb)⟩
 |.req _ t,k=>fun hb=>yV3 he t (k hb)
 |.fail _,_=>trivial
theorem y34{P:Program}{f:FuncId}{h:Fw→List SV→Option (Tree SV)}(k:∀x rest t,h x rest=some t→t.says fun v=>zb3 P f rest x (v,x)):(y33 f h).ok P:=fun args B t ht=>by
 simp only[y33]at ht
 split at ht
 ·split at ht
  ·rename_i hn
   split at ht
   ·rename_i hx
    split at ht
    ·rename_i t' ht'
     injection ht with ht;subst ht
     exact yV3 (yb7 (zq4 hx) hn) t' (k _ _ _ ht')
    ·cases ht
   ·cases ht
  ·cases ht
 ·cases ht
end Go.Proofs.YtnkaepnblikcdaaGreat
