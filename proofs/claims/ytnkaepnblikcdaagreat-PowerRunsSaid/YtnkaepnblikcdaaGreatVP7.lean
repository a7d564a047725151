/-
  Evaluator, contracts, plain law.
-/
import Derived.Test.YtnkaepnblikcdaaGreatVP6
import Derived.Test.YtnkaepnblikcdaaGreatVP5
import Derived.Test.YtnkaepnblikcdaaGreatVP3
import Derived.Laws.IdiomCopy
import Derived.Tactics
import Derived.Shelf.RegionOpenPlain
import Derived.Lib.Walk
import Derived.Lib.ConvBytes
import Derived.Laws.IdiomStrings
import Derived.Laws.AppendOwn
import Derived.WalkKit
import Derived.Shelf.SlSortCmp.WholeK
import Derived.Shelf.SlicesG.Cmp
import Derived.Ground.SlsfProg
import Derived.Ground.SlgcProg
set_option maxRecDepth 100000
set_option linter.unusedVariables false
set_option linter.defProp false
set_option linter.unusedSimpArgs false
open Go.IntKind (i64 u64 u8)
namespace Go.Proofs.YtnkaepnblikcdaaGreat
open Go.Sx
def Xa(f:FuncId):aB:=Gi f λs=>.aj (s.length<=100000) (.ai (J (qO s)))
def z64:aB:=Xa 300
def yv9:z64.ok pP:=KK λs h=>xD4 s (by have:=bG h;omega)
def z66:aB:=Xa 254
def yw0:z66.ok pP:=KK λs h=>xD5 s (by have:=bG h;omega)
def Dh(f:FuncId)(h:Rc->ak SV):aB:=⟨f,λargs=>match args with
 |[.agg [.int .i64 a,.int .i64 b,.int .i64 c,.int .i64 d,.int .i64 p0,.int .i64 p1,.int .i64 p2,.int .i64 p3,.int .i64 q0,.int .i64 q1,.int .i64 q2,.int .i64 q3]] =>some (h ⟨a,b,c,d,(p0,p1,p2,p3),(q0,q1,q2,q3)⟩)
 |_=>none⟩
variable{f:FuncId}
def KL{P:Program}{h:Rc->ak SV}(k:∀c,(h c).bw (SCall P f [c.sv])):(Dh f h).ok P:=λargs t ht=>by
 simp only[Dh]at ht
 split at ht<;>cases ht;exact k ⟨_,_,_,_,(_,_,_,_),(_,_,_,_)⟩
def qi6:aB:=Dh 296 λr=>.ai (.bool (fB r))
def yI3:qi6.ok pP:=KL xU1
def qi7:aB:=Dh 250 λr=>.ai (.bool (fB r))
def yI4:qi7.ok pP:=KL xU2
def K8(f:FuncId):aB:=⟨f,λargs=>match args with
 |[.int .i64 n,.int .i64 k] =>match k==6 with
  |true=>some (.aj (az n 0 281474976710655) (lT [.str (aK n 6),J 0]))
  |false=>match k==1 with
   |true=>some (.aj (az n 0 255) (lT [.str (aK n 1),J 0]))
   |false=>match k==4 with
    |true=>some (.aj (az n 0 4294967295) (lT [.str (aK n 4),J 0]))
    |false=>match k==2 with
     |true=>some (.aj (az n 0 65535) (lT [.str (aK n 2),J 0]))
     |false=>none
 |_=>none⟩
def Lo(f:FuncId):aB:=⟨f,λargs=>match args with
 |[.int .i64 n,.int .i64 k] =>match k==4 with
  |true=>some (.aj (az n (-2147483648) 2147483647) (lT [.str (aK n 4),J 0]))
  |false=>none
 |_=>none⟩
def La(f:FuncId):aB:=⟨f,λargs=>match args with
 |[.str s,.int .i64 a,.int .i64 k] =>match k==6 with
  |true=>some (.aj (0<=a&& (a+6<=(s.length:Int)&&s.length<=100000)) (lT [J (tk s a.toNat 6),J (a+6),J 0]))
  |false=>match k==1 with
   |true=>some (.aj (0<=a&& (a+1<=(s.length:Int)&&s.length<=100000)) (lT [J (tk s a.toNat 1),J (a+1),J 0]))
   |false=>match k==4 with
    |true=>some (.aj (0<=a&& (a+4<=(s.length:Int)&&s.length<=100000)) (lT [J (tk s a.toNat 4),J (a+4),J 0]))
    |false=>none
 |_=>none⟩
def Lb(f:FuncId):aB:=⟨f,λargs=>match args with
 |[.str s,.int .i64 a,.int .i64 k] =>match k==4 with
  |true=>some (.aj (0<=a&& (a+4<=(s.length:Int)&&s.length<=100000)) (lT [J (sg (tk s a.toNat 4)),J (a+4),J 0]))
  |false=>none
 |_=>none⟩
def qn9(h6:∀n,0<=n->n<281474976710656->SCall pP f [J n,J 6] (.tuple [.str (aK n 6),J 0]))(h1:∀n,0<=n->n<256->SCall pP f [J n,J 1] (.tuple [.str (aK n 1),J 0]))(h4:∀n,0<=n->n<4294967296->SCall pP f [J n,J 4] (.tuple [.str (aK n 4),J 0]))(h2:∀n,0<=n->n<65536->SCall pP f [J n,J 2] (.tuple [.str (aK n 2),J 0])):(K8 f).ok pP:=λargs t ht=>by
 simp only[K8]at ht
 split at ht
 .rename_i n k
  by_cases e6:k=6
  .subst e6
   simp at ht;subst ht;intro h;exact h6 _ (v5.1 h).1 (by have:=(v5.1 h).2;omega)
  .skip
   by_cases e1:k=1
   .subst e1
    simp at ht;subst ht;intro h;exact h1 _ (v5.1 h).1 (by have:=(v5.1 h).2;omega)
   .skip
    by_cases e4:k=4
    .subst e4
     simp at ht;subst ht;intro h;exact h4 _ (v5.1 h).1 (by have:=(v5.1 h).2;omega)
    .skip
     by_cases e2:k=2
     .subst e2
      simp at ht;subst ht;intro h;exact h2 _ (v5.1 h).1 (by have:=(v5.1 h).2;omega)
     .simp[show(k==6)=false from dM.2 e6,show(k==1)=false from dM.2 e1,show(k==4)=false from dM.2 e4,show(k==2)=false from dM.2 e2]at ht
 .cases ht
def qb2(h4:∀n,-2147483648<=n->n<2147483648->SCall pP f [J n,J 4] (.tuple [.str (aK n 4),J 0])):(Lo f).ok pP:=λargs t ht=>by
 simp only[Lo]at ht
 split at ht
 .rename_i n k
  by_cases e4:k=4
  .subst e4
   simp at ht;subst ht;intro h;exact h4 _ (v5.1 h).1 (by have:=(v5.1 h).2;omega)
  .simp[show(k==4)=false from dM.2 e4]at ht
 .cases ht
def qn6(h6:∀ (s:List UInt8) (a:Nat),a+6<=s.length->s.length<=100000->SCall pP f [.str s,J (a:Int),J 6] (.tuple [J (tk s a 6),J ((a+6:Nat):Int),J 0]))(h1:∀ (s:List UInt8) (a:Nat),a+1<=s.length->s.length<=100000->SCall pP f [.str s,J (a:Int),J 1] (.tuple [J (tk s a 1),J ((a+1:Nat):Int),J 0]))(h4:∀ (s:List UInt8) (a:Nat),a+4<=s.length->s.length<=100000->SCall pP f [.str s,J (a:Int),J 4] (.tuple [J (tk s a 4),J ((a+4:Nat):Int),J 0])):(La f).ok pP:=λargs t ht=>by
 simp only[La]at ht
 split at ht
 .rename_i s a k
  by_cases e6:k=6
  .subst e6
   simp at ht;subst ht;intro h;simp only[aH,aV]at h;obtain⟨m,rfl⟩:=ox h.1;have q:=h6 s m (by omega) h.2.2;exact q
  .skip
   by_cases e1:k=1
   .subst e1
    simp at ht;subst ht;intro h;simp only[aH,aV]at h;obtain⟨m,rfl⟩:=ox h.1;have q:=h1 s m (by omega) h.2.2;exact q
   .skip
    by_cases e4:k=4
    .subst e4
     simp at ht;subst ht;intro h;simp only[aH,aV]at h;obtain⟨m,rfl⟩:=ox h.1;have q:=h4 s m (by omega) h.2.2;exact q
    .simp[show(k==6)=false from dM.2 e6,show(k==1)=false from dM.2 e1,show(k==4)=false from dM.2 e4]at ht
 .cases ht
def qm6(h4:∀ (s:List UInt8) (a:Nat),a+4<=s.length->s.length<=100000->SCall pP f [.str s,J (a:Int),J 4] (.tuple [J (sg (tk s a 4)),J ((a+4:Nat):Int),J 0])):(Lb f).ok pP:=λargs t ht=>by
 simp only[Lb]at ht
 split at ht
 .rename_i s a k
  by_cases e4:k=4
  .subst e4
   simp at ht;subst ht;intro h;simp only[aH,aV]at h;obtain⟨m,rfl⟩:=ox h.1;have q:=h4 s m (by omega) h.2.2;exact q
  .simp[show(k==4)=false from dM.2 e4]at ht
 .cases ht
def fUi:aB:=K8 298
def yO1:fUi.ok pP:=qn9 x60 x57 x59 x58
def fIi:aB:=Lo 299
def yA6:fIi.ok pP:=qb2 x51
def ym:aB:=La 282
def J7:ym.ok pP:=qn6 x30 x28 x29
def yp:aB:=Lb 284
def J8:yp.ok pP:=qm6 x18
def Gl:aB:=K8 279
def J6:Gl.ok pP:=qn9 x64 x61 x63 x62
def qb3:aB:=Lo 280
def yA7:qb3.ok pP:=qb2 x52
def K9:aB:=La 321
def PJ:K9.ok pP:=qn6 x33 x31 x32
def qm7:aB:=Lb 322
def yN1:qm7.ok pP:=qm6 x19
def kQ(s:List UInt8)(n:Int):List UInt8:=s++List.replicate (n-s.length).toNat 0
def xR1(s:List UInt8)(n:Int)(h:(s.length:Int)<=n)(hn:n<=65536):SCall pP 253 [.str s,J n] (.tuple [.str (kQ s n),J 0]):=by
 refine s8 rfl rfl (by kernel_rfl) (o6 eH (n:=1000) (hint:=.unit) (keep:=x6 24 []) (p:=Zc) (boxes:=[]) rfl ?_);have e:=y62 s n;unfold v6 v7 at e;erw [e];have j:i64.wrap (n-(s.length:Int))=n-(s.length:Int):=aG (by omega) (by omega)
 have z:(List.map (λn=>UInt8.ofNat (Int.toNat n)) (List.replicate (n-(s.length:Int)).toNat (0:Int)))=List.replicate (n-(s.length:Int)).toNat 0:=by
  rw[List.map_replicate];rfl
 rw[j,z]
 refine o7 (λh=>absurd h (by omega)) λ_=>o7 (λh=>absurd h (by omega)) λ_=>o7 (λh=>absurd h (by omega)) λ_=>x0 ?_ (x0 (bn ?_) rfl)
 .simp;omega
 .rw[qs];omega
def lX(r:Rc):List UInt8:=aK r.seq 6++aK r.kind 1++aK r.line 6++aK r.done 4++(aK r.src.1 4++aK r.src.2.1 4++aK r.src.2.2.1 4++aK r.src.2.2.2 4)++(aK r.dst.1 4++aK r.dst.2.1 4++aK r.dst.2.2.1 4++aK r.dst.2.2.2 4)
def enc(r:Rc):List UInt8:=kQ (lX r++aK (qO (lX r)) 2) 58++aK r.seq 6
def sn(r:Rc):(lX r).length=49:=by simp only[lX,eX,mQ]
def zY3(r:Rc):(enc r).length=64:=by
 simp only[enc,kQ,eX,mQ,sn,qs];omega
def Rr:aB:=⟨253,λargs=>match args with
 |[.str s,.int .i64 n] =>some (.aj ((s.length:Int)<=n&&n<=65536) (lT [.str (kQ s n),J 0]))
 |_=>none⟩
def yG6:Rr.ok pP:=λargs t ht=>by
 simp only[Rr]at ht
 split at ht
 .cases ht
  intro h;simp only[aH,aV]at h;exact xR1 _ _ h.1 h.2
 .cases ht
def x45(n:Int)(h:az n 0 281474976710655=true):SCall pP 251 [J n,J 6] (.str (aK n 6)):=
 aY aL [Gl] ⟨J6,trivial⟩ 1000 (.all)
  (t:=.aj (az n 0 281474976710655) (.ai (SV.str (aK n 6))))
  (by kernel_rfl) (by exact x0 h rfl) (by kernel_rfl)
def x42(n:Int)(h:az n 0 255=true):SCall pP 251 [J n,J 1] (.str (aK n 1)):=
 aY aL [Gl] ⟨J6,trivial⟩ 1000 (.all)
  (t:=.aj (az n 0 255) (.ai (SV.str (aK n 1))))
  (by kernel_rfl) (by exact x0 h rfl) (by kernel_rfl)
def x44(n:Int)(h:az n 0 4294967295=true):SCall pP 251 [J n,J 4] (.str (aK n 4)):=
 aY aL [Gl] ⟨J6,trivial⟩ 1000 (.all)
  (t:=.aj (az n 0 4294967295) (.ai (SV.str (aK n 4))))
  (by kernel_rfl) (by exact x0 h rfl) (by kernel_rfl)
def x43(n:Int)(h:az n 0 65535=true):SCall pP 251 [J n,J 2] (.str (aK n 2)):=
 aY aL [Gl] ⟨J6,trivial⟩ 1000 (.all)
  (t:=.aj (az n 0 65535) (.ai (SV.str (aK n 2))))
  (by kernel_rfl) (by exact x0 h rfl) (by kernel_rfl)
def xS9(c:V4)(h:zL c=true):SCall pP 252 [V4.sv c] (.str (aK c.1 4++aK c.2.1 4++aK c.2.2.1 4++aK c.2.2.2 4)):=
 aY aL [qb3] ⟨yA7,trivial⟩ 1000 (.go (.ar (.go (.ar (.go (.ar (.go (.ar (.go pA)))))))))
  (t:=let y0:=(9223372036854775807:Int);rT (.aj (az c.1 (-2147483648) 2147483647) (.aj (((0+(aK c.1 4).length:Nat):Int)<=y0) (rT (.aj (az c.2.1 (-2147483648) 2147483647) (.aj ((((aK c.1 4).length+(aK c.2.1 4).length:Nat):Int)<=y0) (rT (.aj (az c.2.2.1 (-2147483648) 2147483647) (.aj ((((aK c.1 4++aK c.2.1 4).length+(aK c.2.2.1 4).length:Nat):Int)<=y0) (rT (.aj (az c.2.2.2 (-2147483648) 2147483647) (.aj ((((aK c.1 4++aK c.2.1 4++aK c.2.2.1 4).length+(aK c.2.2.2 4).length:Nat):Int)<=y0) (.ai (SV.str (aK c.1 4++aK c.2.1 4++aK c.2.2.1 4++aK c.2.2.2 4)))))))))))))))
  (by kernel_rfl) (by
   simp only[zL,aH]at h
   exact x0 rfl (x0 h.1 (x0 (bn (by simp[mQ])) (x0 rfl (x0 h.2.1 (x0 (bn (by simp[mQ])) (x0 rfl (x0 h.2.2.1 (x0 (bn (by simp[mQ])) (x0 rfl (x0 h.2.2.2 (x0 (bn (by simp[mQ])) rfl)))))))))))) (by kernel_rfl)
def Re:aB:=⟨251,λargs=>match args with
 |[.int .i64 n,.int .i64 k] =>match k==6 with|true=>some (.aj (az n 0 281474976710655) (.ai (.str (aK n 6))))|false=>match k==1 with|true=>some (.aj (az n 0 255) (.ai (.str (aK n 1))))|false=>match k==4 with|true=>some (.aj (az n 0 4294967295) (.ai (.str (aK n 4))))|false=>match k==2 with|true=>some (.aj (az n 0 65535) (.ai (.str (aK n 2))))|false=>none
 |_=>none⟩
def qh9:aB:=vA 252 λc=>.aj (zL c) (.ai (.str (aK c.1 4++aK c.2.1 4++aK c.2.2.1 4++aK c.2.2.2 4)))
def yH6:qh9.ok pP:=zB xS9
def yO3:Re.ok pP:=λargs t ht=>by
 simp only[Re]at ht
 split at ht
 .rename_i n k
  by_cases e6:k=6
  .subst e6;simp at ht;subst ht;exact x45 _
  .by_cases e1:k=1
   .subst e1;simp at ht;subst ht;exact x42 _
   .by_cases e4:k=4
    .subst e4;simp at ht;subst ht;exact x44 _
    .by_cases e2:k=2
     .subst e2;simp at ht;subst ht;exact x43 _
     .simp[show(k==6)=false from dM.2 e6,show(k==1)=false from dM.2 e1,show(k==4)=false from dM.2 e4,show(k==2)=false from dM.2 e2]at ht
 .cases ht
def yT(r:Rc):SV:=match fB r with
 |true=>.tuple [.str (enc r),J 0]
 |false=>.tuple [.str [],J 1]
def VZ(r:Rc):(yT r).data=true:=by unfold yT;split<;>rfl
def xE7(r:Rc):SCall pP 189 [r.sv] (yT r):=
 v9 aL [qi7,Re,qh9,z66,Rr] ⟨yI4,yO3,yH6,yw0,yG6,trivial⟩ 1000 (.ah (.all) (.all))
  (t:=let y0:=(9223372036854775807:Int);let y1:=((qO (lX r):Nat):Int);let y2:=aK r.src.1 4++aK r.src.2.1 4++aK r.src.2.2.1 4++aK r.src.2.2.2 4;.ag (!fB r) (lT [SV.str [],J 1]) (.aj (az r.seq 0 281474976710655) (.aj (az r.kind 0 255) (.aj ((((aK r.seq 6).length+(aK r.kind 1).length:Nat):Int)<=y0) (.aj (az r.line 0 281474976710655) (.aj ((((aK r.seq 6++aK r.kind 1).length+(aK r.line 6).length:Nat):Int)<=y0) (.aj (az r.done 0 4294967295) (.aj ((((aK r.seq 6++aK r.kind 1++aK r.line 6).length+(aK r.done 4).length:Nat):Int)<=y0) (.aj (zL r.src) (.aj ((((aK r.seq 6++aK r.kind 1++aK r.line 6++aK r.done 4).length+y2.length:Nat):Int)<=y0) (.aj (zL r.dst) (.aj ((((aK r.seq 6++aK r.kind 1++aK r.line 6++aK r.done 4++y2).length+(aK r.dst.1 4++aK r.dst.2.1 4++aK r.dst.2.2.1 4++aK r.dst.2.2.2 4).length:Nat):Int)<=y0) (.aj ((lX r).length<=100000) (.aj (az y1 0 65535) (.aj ((((lX r).length+(aK y1 2).length:Nat):Int)<=y0) (.aj ((↑(lX r++aK y1 2).length:Int)<=58&&true) (.aj (az r.seq 0 281474976710655) (.aj ((((kQ (lX r++aK y1 2) 58).length+(aK r.seq 6).length:Nat):Int)<=y0) (lT [SV.str (kQ (lX r++aK y1 2) 58++aK r.seq 6),J 0])))))))))))))))))))
  (by kernel_rfl) (by
   unfold yT
   refine d8 (λv=>by rw[v];rfl) λv=>?_
   rw[v];have q:=zt.1 v;have v':=v;simp only[fB,aH]at v';have c:=Wv (lX r);have l:=sn r;have e:2=(aK ((qO (lX r):Nat):Int) 2).length:=(mQ _ 2).symm;refine x0 (v5.2 ⟨by omega,by omega⟩) ?_;refine x0 (v5.2 ⟨by omega,by omega⟩) ?_;refine x0 (bn (by simp only[eX,mQ,sn,kQ,qs];omega)) ?_;refine x0 (v5.2 ⟨by omega,by omega⟩) ?_;refine x0 (bn (by simp only[eX,mQ,sn,kQ,qs];omega)) ?_;refine x0 (v5.2 ⟨by omega,by omega⟩) ?_;refine x0 (bn (by simp only[eX,mQ,sn,kQ,qs];omega)) ?_;refine x0 v'.2.2.2.2.1 ?_;refine x0 (bn (by simp only[eX,mQ,sn,kQ,qs];omega)) ?_;refine x0 v'.2.2.2.2.2 ?_;refine x0 (bn (by simp only[eX,mQ,sn,kQ,qs];omega)) ?_;refine x0 (bn (by simp only[eX,mQ,sn,kQ,qs];omega)) ?_;refine x0 (v5.2 ⟨by omega,by omega⟩) ?_;refine x0 (bn (by simp only[eX,mQ,sn,kQ,qs];omega)) ?_;refine x0 (by simp only[eX,mQ,sn,U2,aV];omega) ?_;refine x0 (v5.2 ⟨by omega,by omega⟩) ?_;refine x0 (bn (by simp only[eX,mQ,sn,kQ,qs];omega)) ?_
   exact rfl) (by kernel_rfl) (by exact VZ r)
def xP2(s:List UInt8)(a:Int)(h:(0<=a&& (a+6<=(s.length:Int)&&s.length<=100000))=true):SCall pP 292 [.str s,J a,J 6] (J (tk s a.toNat 6)):=
 aY aL [K9] ⟨PJ,trivial⟩ 1000 (.all)
  (t:=.aj (0<=a&& (a+6<=(↑s.length:Int)&&s.length<=100000)) (.ai (SV.int i64 (tk s a.toNat 6))))
  (by kernel_rfl) (by exact x0 h rfl) (by kernel_rfl)
def xP0(s:List UInt8)(a:Int)(h:(0<=a&& (a+1<=(s.length:Int)&&s.length<=100000))=true):SCall pP 292 [.str s,J a,J 1] (J (tk s a.toNat 1)):=
 aY aL [K9] ⟨PJ,trivial⟩ 1000 (.all)
  (t:=.aj (0<=a&& (a+1<=(↑s.length:Int)&&s.length<=100000)) (.ai (SV.int i64 (tk s a.toNat 1))))
  (by kernel_rfl) (by exact x0 h rfl) (by kernel_rfl)
def xP1(s:List UInt8)(a:Int)(h:(0<=a&& (a+4<=(s.length:Int)&&s.length<=100000))=true):SCall pP 292 [.str s,J a,J 4] (J (tk s a.toNat 4)):=
 aY aL [K9] ⟨PJ,trivial⟩ 1000 (.all)
  (t:=.aj (0<=a&& (a+4<=(↑s.length:Int)&&s.length<=100000)) (.ai (SV.int i64 (tk s a.toNat 4))))
  (by kernel_rfl) (by exact x0 h rfl) (by kernel_rfl)
def xH5(s:List UInt8)(a:Int)(h0:0<=a)(h1:a+16<=s.length)(h2:s.length<=100000):SCall pP 293 [.str s,J a] (.agg [J (sg (tk s a.toNat 4)),J (sg (tk s (a+4).toNat 4)),J (sg (tk s (a+8).toNat 4)),J (sg (tk s (a+12).toNat 4))]):=
 aY aL [qm7] ⟨yN1,trivial⟩ 1000 (.go (.ar (.go (.ar (.go (.ar (.go (.ar (.go pA)))))))))
  (t:=.aj (0<=i64.wrap (a+0)&& (i64.wrap (a+0)+4<=(↑s.length:Int)&&s.length<=100000)) (rT (.aj (0<=i64.wrap (a+4)&& (i64.wrap (a+4)+4<=(↑s.length:Int)&&s.length<=100000)) (rT (.aj (0<=i64.wrap (a+8)&& (i64.wrap (a+8)+4<=(↑s.length:Int)&&s.length<=100000)) (rT (.aj (0<=i64.wrap (a+12)&& (i64.wrap (a+12)+4<=(↑s.length:Int)&&s.length<=100000)) (rT (.ai (.agg [J (sg (tk s (i64.wrap (a+0)).toNat 4)),J (sg (tk s (i64.wrap (a+4)).toNat 4)),J (sg (tk s (i64.wrap (a+8)).toNat 4)),J (sg (tk s (i64.wrap (a+12)).toNat 4))]))))))))))
  (by kernel_rfl) (by
   rw[f8 (x:=a+0) (by omega) (by omega),f8 (x:=a+4) (by omega) (by omega),f8 (x:=a+8) (by omega) (by omega),f8 (x:=a+12) (by omega) (by omega),Int.add_zero]
   have q:∀x:Int,0<=x->x+4<=s.length->(0<=x&& (x+4<=(s.length:Int)&&s.length<=100000))=true:=λx h k=>by simp;omega
   exact x0 (q _ (by omega) (by omega)) (x0 rfl (x0 (q _ (by omega) (by omega)) (x0 rfl (x0 (q _ (by omega) (by omega)) (x0 rfl (x0 (q _ (by omega) (by omega)) (x0 rfl rfl)))))))) (by kernel_rfl)
def Rw:aB:=⟨292,λargs=>match args with
 |[.str s,.int .i64 a,.int .i64 k] =>match k==6 with|true=>some (.aj (0<=a&& (a+6<=(s.length:Int)&&s.length<=100000)) (.ai (J (tk s a.toNat 6))))|false=>match k==1 with|true=>some (.aj (0<=a&& (a+1<=(s.length:Int)&&s.length<=100000)) (.ai (J (tk s a.toNat 1))))|false=>match k==4 with|true=>some (.aj (0<=a&& (a+4<=(s.length:Int)&&s.length<=100000)) (.ai (J (tk s a.toNat 4))))|false=>none
 |_=>none⟩
def z93:aB:=⟨293,λargs=>match args with
 |[.str s,.int .i64 a] =>some (.aj (0<=a&& (a+16<=(s.length:Int)&&s.length<=100000)) (.ai (.agg [J (sg (tk s a.toNat 4)),J (sg (tk s (a+4).toNat 4)),J (sg (tk s (a+8).toNat 4)),J (sg (tk s (a+12).toNat 4))])))
 |_=>none⟩
def OQ:aB:=Dh 189 λr=>.ag (fB r) (lT [.str (enc r),J 0]) (lT [.str [],J 1])
def yy7:z93.ok pP:=λargs t ht=>by
 simp only[z93]at ht
 split at ht
 .cases ht
  intro h;simp only[aH,aV]at h;exact xH5 _ _ h.1 h.2.1 h.2.2
 .cases ht
def Xl:OQ.ok pP:=KL λr=>by
 have q:=xE7 r;unfold yT at q;exact⟨λv=>by rw[v]at q;exact q,λv=>by rw[v]at q;exact q⟩
def yE1:Rw.ok pP:=λargs t ht=>by
 simp only[Rw]at ht
 split at ht
 .rename_i s a k
  by_cases e6:k=6
  .subst e6;simp at ht;subst ht;intro h;exact xP2 _ _ (by simpa using h)
  .by_cases e1:k=1
   .subst e1;simp at ht;subst ht;intro h;exact xP0 _ _ (by simpa using h)
   .by_cases e4:k=4
    .subst e4;simp at ht;subst ht;intro h;exact xP1 _ _ (by simpa using h)
    .simp[show(k==6)=false from dM.2 e6,show(k==1)=false from dM.2 e1,show(k==4)=false from dM.2 e4]at ht
 .cases ht
def yK5:Rj.ok pP:=λargs t ht=>by
 simp only[Rj]at ht
 split at ht
 .cases ht
  intro h h2;obtain rfl:=z04 h;exact xX0 _ (by have:=bG h2;omega)
 .cases ht
def yK4:Rk.ok pP:=λargs t ht=>by
 simp only[Rk]at ht
 split at ht
 .cases ht
  intro h h2;obtain rfl:=z02 h;exact xW9 _ (by have:=bG h2;omega)
 .cases ht
def xX1(f:Fw)(h:De f.queue=true)(k:Dd f.lines=true):SCall pP 23 [f.sv,f.sv] (.bool true):=
 ic (hB (l:=[Rj,Rk]) (k:=[]) (j:=[]) (i:=[]) nN nN nN nN (⟨yK5,yK4,trivial⟩) v8 v8 v8) 1000 (let z0:ax:=.ah (.ln 5 (.ah (.ln 5 (.ah (.ln 5 (.ah (.ln 5 (.ah (.ln 5 (.ah (.ln 5 (.ah (.ln 5 (.ah (.ln 5 (.ah (.ln 5 (.ah (.ln 18 pA) (.ln 18 pA))) (.ln 24 pA))) (.ln 30 pA))) (.ln 36 pA))) (.ln 42 pA))) (.ln 48 pA))) (.ln 54 pA))) (.ln 60 pA))) (.ln 66 pA))) (.ln 72 pA);let z2:ax:=.ln 12 pA;let z1:ax:=.ah z2 z2;.ah (.ln 5 (.ah (.ln 5 (.ah (.ln 5 (.ah (.ln 5 (.ah (.ln 5 (.ah (.ln 5 (.ah (.ln 5 (.ah (.ln 5 (.ah (.ln 5 (.ah (.ln 5 (.ah (.ln 5 (.ah (.ln 5 (.ah (.ln 5 (.ah (.ln 5 (.ah (.ln 5 (.ah (.ln 5 (.ah (.ln 5 (.ah (.ln 5 (.ah (.ln 5 (.ah (.ar (.ah (.ln 10 pA) (.ln 10 pA))) z2)) (.ln 5 z1))) (.ln 11 z1))) (.ln 17 z1))) (.ln 23 z1))) (.ln 29 z1))) (.ln 35 z1))) (.ln 41 z1))) (.ln 47 z1))) (.ln 53 z1))) (.ln 59 z1))) (.ln 5 z0))) (.ln 11 z0))) (.ln 17 z0))) (.ln 23 z0))) (.ln 29 z0))) (.ln 35 z0))) (.ln 41 z0))) (.ln 47 z0))) (.ln 53 z0))
  (t:=let y1:=f.g0.low==f.g0.low&& (f.g0.bQ==f.g0.bQ&& (f.g0.watch==f.g0.watch&& (f.g0.cG==f.g0.cG&& (f.g0.bN==f.g0.bN&& (f.g0.base==f.g0.base&& (f.g0.count==f.g0.count&& (f.g0.idle==f.g0.idle&& (f.g0.quiet==f.g0.quiet&& (f.g0.fault==f.g0.fault&& (f.g0.dc==f.g0.dc&&true))))))))))&& (f.g1.low==f.g1.low&& (f.g1.bQ==f.g1.bQ&& (f.g1.watch==f.g1.watch&& (f.g1.cG==f.g1.cG&& (f.g1.bN==f.g1.bN&& (f.g1.base==f.g1.base&& (f.g1.count==f.g1.count&& (f.g1.idle==f.g1.idle&& (f.g1.quiet==f.g1.quiet&& (f.g1.fault==f.g1.fault&& (f.g1.dc==f.g1.dc&&true))))))))))&&true);let y3:=f.c0.target==f.c0.target&& (f.c0.kp==f.c0.kp&& (f.c0.ki==f.c0.ki&& (f.c0.scale==f.c0.scale&& (f.c0.sum==f.c0.sum&& (f.c0.dA==f.c0.dA&&true)))))&& (f.c1.target==f.c1.target&& (f.c1.kp==f.c1.kp&& (f.c1.ki==f.c1.ki&& (f.c1.scale==f.c1.scale&& (f.c1.sum==f.c1.sum&& (f.c1.dA==f.c1.dA&&true)))))&&true);let y4:ak SV:=.ai (.bool false);let y2:ak SV:=.ag (f.bL==f.bL) y4 y4;let y5:=f.ret.1==f.ret.1&& (f.ret.2.1==f.ret.2.1&& (f.ret.2.2.1==f.ret.2.2.1&& (f.ret.2.2.2==f.ret.2.2.2&&true)));let y0:ak SV:=.ag (f.back==f.back) (.ag y5 (.ag (f.bt==f.bt) (.ag (f.waits==f.waits) (.ag y3 (.ag y1 (.ag (f.fo==f.fo) (.ag (f.line==f.line) (.ag (f.aU==f.aU) (.ag (f.bc==f.bc) y4 y4) y4) y4) y4) y4) y4) y4) y4) y4) y4;.ag (f.ma.x.num==f.ma.x.num&& (f.ma.x.den==f.ma.x.den&& (f.ma.x.bP==f.ma.x.bP&& (f.ma.x.bV==f.ma.x.bV&& (f.ma.x.bB==f.ma.x.bB&& (f.ma.x.min==f.ma.x.min&& (f.ma.x.max==f.ma.x.max&&true))))))&& (f.ma.y.num==f.ma.y.num&& (f.ma.y.den==f.ma.y.den&& (f.ma.y.bP==f.ma.y.bP&& (f.ma.y.bV==f.ma.y.bV&& (f.ma.y.bB==f.ma.y.bB&& (f.ma.y.min==f.ma.y.min&& (f.ma.y.max==f.ma.y.max&&true))))))&& (f.ma.z.num==f.ma.z.num&& (f.ma.z.den==f.ma.z.den&& (f.ma.z.bP==f.ma.z.bP&& (f.ma.z.bV==f.ma.z.bV&& (f.ma.z.bB==f.ma.z.bB&& (f.ma.z.min==f.ma.z.min&& (f.ma.z.max==f.ma.z.max&&true))))))&& (f.ma.e.num==f.ma.e.num&& (f.ma.e.den==f.ma.e.den&& (f.ma.e.bP==f.ma.e.bP&& (f.ma.e.bV==f.ma.e.bV&& (f.ma.e.bB==f.ma.e.bB&& (f.ma.e.min==f.ma.e.min&& (f.ma.e.max==f.ma.e.max&&true))))))&&true)))&& (f.ma.xy==f.ma.xy&& (f.ma.aU==f.ma.aU&&true))) (.ag (f.mode==f.mode) (.ag (f.bf==f.bf) (.ag (f.pos.1==f.pos.1&& (f.pos.2.1==f.pos.2.1&& (f.pos.2.2.1==f.pos.2.2.1&& (f.pos.2.2.2==f.pos.2.2.2&&true)))) (.ag (f.loc.1==f.loc.1&& (f.loc.2.1==f.loc.2.1&& (f.loc.2.2==f.loc.2.2&&true))) (.ag (f.e==f.e) (.ag (f.bH==f.bH) (.ag (f.mo.1.1.1==f.mo.1.1.1&& (f.mo.1.1.2.1==f.mo.1.1.2.1&& (f.mo.1.1.2.2.1==f.mo.1.1.2.2.1&& (f.mo.1.1.2.2.2==f.mo.1.1.2.2.2&&true)))&& (f.mo.1.2.1==f.mo.1.2.1&& (f.mo.1.2.2.1==f.mo.1.2.2.1&& (f.mo.1.2.2.2.1==f.mo.1.2.2.2.1&& (f.mo.1.2.2.2.2==f.mo.1.2.2.2.2&&true))))&& (f.mo.2.1==f.mo.2.1&& (f.mo.2.2==f.mo.2.2&&true))) (.ag (f.aT==f.aT) (.ag (f.back==f.back) (.ag y5 (.ag (f.bt==f.bt) (.ag (f.waits==f.waits) (.ag y3 (.ag y1 (.ag (f.fo==f.fo) (.ag (f.line==f.line) (.ag (f.aU==f.aU) (.ag (f.bc==f.bc) (.ag (f.bL==f.bL) (.ag (f.r0==f.r0&& (f.r1==f.r1&&true)) (.aj (Jw f.queue f.queue) (.aj (De f.queue) (.aj (Jv f.lines f.lines) (.aj (Dd f.lines) (.ai (.bool true)))))) y4) y4) y2) y2) y2) y2) y2) y2) y2) y2) y2) y2) y0) y0) y0) y0) y0) y0) y0) y0) y0)
  (by kernel_rfl) (by repeat' first|refine XS (by simp) ?_|refine x0 (by simp[Jv,Jw]) ?_|refine x0 h ?_|refine x0 k ?_|exact rfl) (by kernel_rfl) (by kernel_rfl)
noncomputable def tF(x y:Fw):Bool:=@decide (x=y) (Classical.propDecidable _)
def E8(x:Fw):tF x x=true:=@decide_eq_true _ (Classical.propDecidable _) rfl
def zZ7{x y:Fw}(h:tF x y=true):x=y:=@of_decide_eq_true _ (Classical.propDecidable _) h
def eu(x:Fw):Bool:=De x.queue&&Dd x.lines
noncomputable def Dw:aB:=gU 23 λx rest=>match rest with
 |[.agg l] =>match yL l with
  |some y=>some (.aj (tF x y) (.aj (eu x) (.ai (.bool true))))
  |none=>none
 |_=>none
def x82{P:Program}{cs ds:List SV}{a:SV}{v:SV}(hn:j7 cs ds)(h:SCall P f [a,.agg ds] v):SCall P f [a,.agg cs] v:=by
 intro m w0 R0 I w vs hm bR;obtain⟨u,us,rfl,h0,u2,xz,rfl,⟨ws,h1,h2⟩,h3⟩:=bR;exact h m w0 R0 I w _ hm ⟨u,_,rfl,h0,u2,xz,rfl,⟨ws,h1,hn.nY h2⟩,h3⟩
def yK6:Dw.ok pP:=iz λx rest t ht=>by
 split at ht
 .split at ht
  .rename_i hy
   cases ht;intro h k;obtain rfl:=zZ7 h;have k:=(aH _ _).mp k;exact x82 (Cn hy) (xX1 _ k.1 k.2)
  .cases ht
 .cases ht
abbrev nO:=EJ×Int×Int
abbrev GU:Ty:=.pair SC (.pair (.int .i64) (.int .i64))
abbrev LE(l:List nO):SV:=.list GU l
def bo:nO:=(dOp,0,0)
def BY(n:Nat):Fl:=⟨List.replicate n (List.replicate 64 0),0,false,0⟩
def CI:aB:=K1 56 λf i j=>.aj (o4 f) (.ai (dP f i j).sv)
def z85:aB:=K1 58 λf i j=>.aj (o4 f) (.ai (dP f i j).sv)
def z87:aB:=ru 55 λf=>.aj (o4 f) (.ai (eG f).sv)
def CH:aB:=ru 57 λf=>.aj (o4 f) (.ai (eG f).sv)
def DI:aB:=qc9 59
def yx8:CI.ok pP:=qr4 λf i j h=>xG3 f i j h
def yx9:z85.ok pP:=qr4 λf i j h=>xG4 f i j h
def yy1:z87.ok pP:=tV λf h=>xG7 f h
def yy2:CH.ok pP:=tV λf h=>xG8 f h
def qA0:ax:=.all
def fe0(l:List nO)(m:Int):o8 (Env.of pP (j9 [])) 1000 (x9 pP 52) .unit (x6 28 [0,1,5]) (v7 pP 52) qA0 (v6 pP 52 [LE l,J m]) [] =(.ai (.at (x8 pP 52 0) 28 (x7 28 [(0,.list (((Ty.int i64).pair (Ty.bool.pair (((Ty.int i64).pair ((Ty.int i64).pair ((Ty.int i64).pair ((Ty.int i64).pair ((Ty.int i64).pair ((Ty.int i64).pair ((Ty.int i64).pair (Ty.int i64)))))))).pair ((Ty.int i64).pair ((Ty.int i64).pair (Ty.int i64)))))).pair ((Ty.int i64).pair (Ty.int i64))) l),(1,J m),(5,J 0)]) [])):=by kernel_rfl
def qA1:ax:=.ah (.ln 3 (.ah (.ah .all .all) .all)) (.ln 3 pA)
def fe1(l:List nO)(m i:Int):o8 (Env.of pP (j9 [])) 1000 (x9 pP 52) .unit (x6 28 [0,1,5]) (x8 pP 52 0) qA1 (x7 28 [(0,LE l),(1,J m),(5,J i)]) [] =(.ag (i< (↑l.length:Int)) (.ag (i<m) (.aj (0<=i&&i< (↑l.length:Int)) (.ag ((l.getD i.toNat GU.iH).1.2.2.2.1>40) (.ai (.done (.bool false))) (.ai (.at (x8 pP 52 0) 28 (x7 28 [(0,.list (((Ty.int i64).pair (Ty.bool.pair (((Ty.int i64).pair ((Ty.int i64).pair ((Ty.int i64).pair ((Ty.int i64).pair ((Ty.int i64).pair ((Ty.int i64).pair ((Ty.int i64).pair (Ty.int i64)))))))).pair ((Ty.int i64).pair ((Ty.int i64).pair (Ty.int i64)))))).pair ((Ty.int i64).pair (Ty.int i64))) l),(1,J m),(5,J (i64.wrap (i+1)))]) [])))) (.ai (.done (.bool ((↑l.length:Int)<=m))))) (.ai (.done (.bool ((↑l.length:Int)<=m))))):=by kernel_rfl
def qG1:ax:=.ah (.ln 17 pA) (.ln 5 (.ah (.ln 11 pA) (.ln 5 (.ah (.ln 5 pA) (.ln 5 (.ah .all .all))))))
def fs0(l:Fl):o8 (Env.of pP (j9 [])) 1000 (x9 pP 45) .unit (x6 52 [2,3,36,37]) (v7 pP 45) qG1 (v6 pP 45 [l.sv,l.sv]) [] =(.ag ((↑l.aC.length:Int) !=(↑l.aC.length:Int)) (.ai (.done (.bool false))) (.ag (l.bU != l.bU) (.ai (.done (.bool false))) (.ag (!l.dead==l.dead) (.ai (.done (.bool false))) (.ag (l.keep != l.keep) (.ai (.done (.bool false))) (.ai (.at (x8 pP 45 0) 52 (x7 52 [(2,.ptr 0 0),(3,.ptr 1 0),(36,J (↑l.aC.length:Int)),(37,J 0)]) [some (.cells [.list Ty.str l.aC,J l.bU,.bool l.dead,J l.keep]),some (.cells [.list Ty.str l.aC,J l.bU,.bool l.dead,J l.keep])])))))):=by kernel_rfl
def qG2:ax:=.ah (.ah (.all) (.all)) (.all)
def fs1(l:Fl)(i:Int):o8 (Env.of pP (j9 [])) 1000 (x9 pP 45) .unit (x6 52 [2,3,36,37]) (x8 pP 45 0) qG2 (x7 52 [(2,.ptr 0 0),(3,.ptr 1 0),(36,J l.aC.length),(37,J i)]) [some (.cells l.cells),some (.cells l.cells)] =(.ag (i< (↑l.aC.length:Int)) (.aj (0<=i&&i< (↑l.aC.length:Int)) (.aj (0<=i&&i< (↑l.aC.length:Int)) (.ag (!l.aC.getD i.toNat Ty.str.iH==l.aC.getD i.toNat Ty.str.iH) (.ai (.done (.bool false))) (.ai (.at (x8 pP 45 0) 52 (x7 52 [(2,.ptr 0 0),(3,.ptr 1 0),(36,J (↑l.aC.length:Int)),(37,J (i64.wrap (i+1)))]) [some (.cells [.list Ty.str l.aC,J l.bU,.bool l.dead,J l.keep]),some (.cells [.list Ty.str l.aC,J l.bU,.bool l.dead,J l.keep])]))))) (.ai (.done (.bool true)))):=by kernel_rfl
def xL8(f:Fw)(kd:Int)(nb:Bool)(c:Gc.C)(n r s:Int)(h:az f.line 0 1099511627776=true):SCall pP 59 [f.sv,.agg (GL kd nb c n r s)] (J (zS f nb)):=
 ic (hB (l:=[]) (k:=[]) (j:=[]) (i:=[]) nN nN nN nN (trivial) v8 v8 v8) 1000 (.ah (.all) (.all))
  (t:=.ag (nb)
 (.ai (SV.int i64 (i64.wrap (f.line+1))))
 (.ai (SV.int i64 0)))
   (by kernel_rfl) (by
    have h:=v5.1 h;have w:i64.wrap (f.line+1)=f.line+1:=aG (by omega) (by omega);rw[w]
    exact t8 (λa=>by subst a;rfl) (λa=>by subst a;rfl)) (by kernel_rfl) (by kernel_rfl)
def yC1:DI.ok pP:=iz λf rest t ht=>by
 split at ht
 .cases ht
  exact λh=>xL8 f _ _ ⟨_,_,_,_,_,_,_,_⟩ _ _ _ h
 .cases ht
def qE1:ax:=.ln 4 (.go (.ar (.go (.ar (.go (.ar (.go (.ar (.go (.ar (.go (.ar (.go pA)))))))))))))
def fn6(u:Unit):o8 (Env.of pP (j9 [])) 1000 (x9 pP 51) .str (x6 25 []) (v7 pP 51) qE1 (v6 pP 51 [J 6]) [] =(rT (rT (rT (rT (rT (rT (rT (rT (rT (rT (rT (rT (.ai (.done (.tuple [.agg [.list Ty.str ([List.map (λn=>UInt8.ofNat (Int.toNat n)) (List.replicate 64 0)] ++[List.map (λn=>UInt8.ofNat (Int.toNat n)) (List.replicate 64 0)] ++[List.map (λn=>UInt8.ofNat (Int.toNat n)) (List.replicate 64 0)] ++[List.map (λn=>UInt8.ofNat (Int.toNat n)) (List.replicate 64 0)] ++[List.map (λn=>UInt8.ofNat (Int.toNat n)) (List.replicate 64 0)] ++[List.map (λn=>UInt8.ofNat (Int.toNat n)) (List.replicate 64 0)]),J 0,.bool false,J 0],J 0]))))))))))))))):=by kernel_rfl
def qE0:ax:=.ln 4 (.go (.ar (.go (.ar (.go (.ar (.go (.ar (.go pA)))))))))
def fn4(u:Unit):o8 (Env.of pP (j9 [])) 1000 (x9 pP 51) .str (x6 25 []) (v7 pP 51) qE0 (v6 pP 51 [J 4]) [] =(rT (rT (rT (rT (rT (rT (rT (rT (.ai (.done (.tuple [.agg [.list Ty.str ([List.map (λn=>UInt8.ofNat (Int.toNat n)) (List.replicate 64 0)] ++[List.map (λn=>UInt8.ofNat (Int.toNat n)) (List.replicate 64 0)] ++[List.map (λn=>UInt8.ofNat (Int.toNat n)) (List.replicate 64 0)] ++[List.map (λn=>UInt8.ofNat (Int.toNat n)) (List.replicate 64 0)]),J 0,.bool false,J 0],J 0]))))))))))):=by kernel_rfl
def xi7(m:Ma)(q:List Bk)(i:Nat):(List.range i).map (pH m q)++[pH m q i] =(List.range (i+1)).map (pH m q):=by
 rw[List.range_succ,EO];rfl
def R8:mR pP [Gn] :=⟨yB5,trivial⟩
theorem Wz{f:Fw}(hl:f.queue.length<=100000):∀ (k i:Nat) (s:List Int),i+k=f.queue.length->1<=i->s=(List.range i).map (pH f.ma f.queue)->
  t9 pP (x9 pP 200) (LI (ij f.ma f.queue)) (x8 pP 200 0) (x7 38 [(1,.ptr 0 0),(3,.row 1),(4,J i)]) [some (.cells f.cells),some (.rows (.int .i64) s)]
 |k,i,s,hi,h1,hs=>by
  refine o6 (kW R8) (n:=1000) (hint:=.int .i64) (keep:=x6 38 [1,3,4]) (p:=Wy) rfl ?_;erw [cp1 f s i]
  have t0:(i:Int).toNat=i:=by omega
  have wm:i64.wrap ((i:Int)-1)=((i-1:Nat):Int):=by rw[aG (by omega) (by omega)];omega
  have tm:((i-1:Nat):Int).toNat=i-1:=by omega
  have w1:i64.wrap ((i:Int)+1)=((i+1:Nat):Int):=by rw[aG (by omega) (by omega)];omega
  have jr:=L3 f.ma (f.queue.getD (i-1) aM).1 (f.queue.getD i aM).1
  match k,hi with
  |k+1,hi=>
   have gD:(i:Int)<f.queue.length:=by omega
   have TU:(i:Int)>0:=by omega
   have hn:s.length=i:=by rw[hs];simp
   have ih:=Wz hl k (i+1) (s++[pH f.ma f.queue i]) (by omega) (by omega) (by rw[hs];exact xi7 _ _ _);rw[OE f.ma f.queue h1]at ih;simp only[t0,wm,tm,w1,C5 jr,gD,TU,ak.holds,aV,ez,aH,oQ,iG,dV,jI,ir];refine⟨⟨by omega,by omega⟩,by omega,by simp[hn];omega,o5 _ _,ih⟩
  |0,hi=>
   have gD:¬((i:Int)<f.queue.length):=by omega
   have e:i=f.queue.length:=by omega
   simp only[gD,ak.holds,aV,ez,iG,dV,ir,mG];rw[hs,e];rfl
def zL8{f:Fw}(hl:f.queue.length<=100000):
  t9 pP (x9 pP 200) (LI (ij f.ma f.queue)) (x8 pP 200 0) (x7 38 [(1,.ptr 0 0),(3,.cm),(4,J 0)]) [some (.cells f.cells)] :=by
 refine o6 (kW R8) (n:=1000) (hint:=.int .i64) (keep:=x6 38 [1,3,4]) (p:=Wx) rfl ?_;erw [zL6 f 0]
 have w1:i64.wrap ((0:Int)+1)=((1:Nat):Int):=by decide
 by_cases hq:f.queue.length=0
 .have gD:¬((0:Int)<f.queue.length):=by omega
  simp only[gD,ak.holds,aV,ez,iG,dV,ir,mG];unfold ij;rw[hq];rfl
 .have gD:(0:Int)<f.queue.length:=by omega
  have TU:¬((0:Int)>0):=by omega
  have lp:=Wz hl (f.queue.length-1) 1 [0] (by omega) (by omega) rfl;simp only[w1,gD,TU,ak.holds,aV,ez,aH,oQ,mG,iG,dV,jI,ir];exact⟨o5 _ _,lp⟩
def xB8(f:Fw)(h:jk f.queue.length=true):SCall pP 200 [f.sv] (LI (ij f.ma f.queue)):=by
 have hl:=xT.1 h;refine s8 rfl rfl (by kernel_rfl) (o6 (kW R8) (n:=1000) (hint:=.int .i64) (keep:=x6 38 [1,3,4]) (p:=WA) (boxes:=[]) rfl ?_);have q:=cp0 f;unfold v6 v7 at q;erw [q];exact⟨o5 _ _,zL8 hl⟩
def z49:aB:=fC 200 λf=>.aj (jk f.queue.length) (.ai (LI (ij f.ma f.queue)))
def yu4:z49.ok pP:=fE λf h=>xB8 f h
noncomputable def RC:List Item:=Ek (fU (Env.cq pP (j9 [Gm,Fs]) (d9 []) (f0 []) (b9 []) (j6 []) (j6 []) (j6 []) (j6 [10])) 1000 (x9 pP 114) 0 (x6 79 []) (v7 pP 114) .all (v6 pP 114 [aP.sv,V4.sv z4,J 0,J 0]) [])
def U5:ax:=.all
def bl0(f:Fw)(c:V4)(len line:Int):o8 (Env.cq pP (j9 [Gm,Fs]) (d9 []) (f0 []) (b9 []) (j6 []) (j6 []) (j6 []) (j6 [10])) 1000 (x9 pP 114) .unit (x6 79 [4,8,11]) (v7 pP 114) U5 (v6 pP 114 [f.sv,V4.sv c,J len,J line]) [] =(let y0:=(c,ku f.ma c,0,i64.wrap (dL f.ma c len f.bH*dL f.ma c len f.bH),0); .aj (dN len&&dN f.bH) (.aj (f.queue.length*64<=140737488355328) (.aj (f.lines.length*8<=140737488355328) (.aj ((f.queue.length+ [y0].length)*64<=140737488355328) (.aj ((f.lines.length+ [line].length)*8<=140737488355328) (.ai (.at RC 79 (x7 79 [(4,.ptr 0 0),(8,.ptr 1 0),(11,SV.row 2)]) [some (.cells [J f.ma.x.num,J f.ma.x.den,J f.ma.x.bP,J f.ma.x.bV,J f.ma.x.bB,J f.ma.x.min,J f.ma.x.max,J f.ma.y.num,J f.ma.y.den,J f.ma.y.bP,J f.ma.y.bV,J f.ma.y.bB,J f.ma.y.min,J f.ma.y.max,J f.ma.z.num,J f.ma.z.den,J f.ma.z.bP,J f.ma.z.bV,J f.ma.z.bB,J f.ma.z.min,J f.ma.z.max,J f.ma.e.num,J f.ma.e.den,J f.ma.e.bP,J f.ma.e.bV,J f.ma.e.bB,J f.ma.e.min,J f.ma.e.max,.bool f.ma.xy,J f.ma.aU,J f.mode,.bool f.bf,J f.pos.1,J f.pos.2.1,J f.pos.2.2.1,J f.pos.2.2.2,J f.loc.1,J f.loc.2.1,J f.loc.2.2,J f.e,J f.bH,SV.row 2,SV.row 3,J f.mo.1.1.1,J f.mo.1.1.2.1,J f.mo.1.1.2.2.1,J f.mo.1.1.2.2.2,J f.mo.1.2.1,J f.mo.1.2.2.1,J f.mo.1.2.2.2.1,J f.mo.1.2.2.2.2,J f.mo.2.1,J f.mo.2.2,.bool f.aT,J f.bL,.bool f.back,J f.ret.1,J f.ret.2.1,J f.ret.2.2.1,J f.ret.2.2.2,J f.bt,J f.waits,J f.c0.target,J f.c0.kp,J f.c0.ki,J f.c0.scale,J f.c0.sum,J f.c0.dA,J f.c1.target,J f.c1.kp,J f.c1.ki,J f.c1.scale,J f.c1.sum,J f.c1.dA,J f.g0.low,J f.g0.bQ,J f.g0.watch,J f.g0.cG,J f.g0.bN,J f.g0.base,J f.g0.count,J f.g0.idle,J f.g0.quiet,J f.g0.fault,.bool f.g0.dc,J f.g1.low,J f.g1.bQ,J f.g1.watch,J f.g1.cG,J f.g1.bN,J f.g1.base,J f.g1.count,J f.g1.idle,J f.g1.quiet,J f.g1.fault,.bool f.g1.dc,J f.fo,J f.line,J f.aU,J f.bc,J f.r0,J f.r1]),some (.cells (o9 aP)),some (.rows w9 (f.queue++[y0])),some (.rows (Ty.int i64) (f.lines++[line]))]))))))):=by kernel_rfl
def W5:ax:=let z0:ax:=.ah (.ah pA pA) pA;.ah z0 (.ah z0 z0)
def bl1(f:Fw):o8 (Env.of pP (j9 [z49,Ro])) 1000 (x9 pP 114) .unit (x6 79 [4,8,11]) RC W5 (x7 79 [(4,.ptr 0 0),(8,.ptr 1 0),(11,LB f.queue)]) [some (.cells f.cells),some (.cells (o9 aP)),none,none] =(let y0:ak Stop:=.ai (.done (.tuple [.agg (o9 aP),J 2]));let y1:=ij f.ma f.queue;let y2:=f.queue.getD 0 aM; .ag (f.aT) (.aj (jk f.queue.length) (.aj (kP f.queue y1 f.mo.1.2.2.2.2) (.ag (f.mo.1.2.2.2.2<=fp f.queue 0) (.ag (gL f.queue y1 f.mo.1.2.2.2.2 0=f.mo.1.2.2.2.2) (.ai (.done (.tuple [.agg (Fw.cells {f with queue:=(jo f.queue (gL f.queue y1 f.mo.1.2.2.2.2))}),J 0]))) y0) y0))) (.ag ((↑f.queue.length:Int)>1) (.aj (0< (↑f.queue.length:Int)) (.aj (jk f.queue.length) (.aj (kP f.queue y1 y2.2.2.1) (.ag (y2.2.2.1<=fp f.queue 0) (.ag (gL f.queue y1 y2.2.2.1 0=y2.2.2.1) (.ai (.done (.tuple [.agg (Fw.cells {f with queue:=(jo f.queue (gL f.queue y1 y2.2.2.1))}),J 0]))) y0) y0)))) (.aj (jk f.queue.length) (.aj (kP f.queue y1 0) (.ag (0<=fp f.queue 0) (.ag (gL f.queue y1 0 0=0) (.ai (.done (.tuple [.agg (Fw.cells {f with queue:=(jo f.queue (gL f.queue y1 0))}),J 0]))) y0) y0))))):=by kernel_rfl
end Go.Proofs.YtnkaepnblikcdaaGreat
namespace Go.Sx
open Go.RowKit
theorem Gd{β:Type}:∀ (d:Nat) (t:Tb β) (i:Nat) (v:Option β),(∃t',∀ (α:Type) (k:Tb β->ak α),e9 d t i v k=k t')\/∃n,∀ (α:Type) (k:Tb β->ak α),e9 d t i v k=.aA n
 |0,t,i,v=>.inr ⟨3,λ_ _=>rfl⟩
 |d+1,.e,0,v=>.inl ⟨_,λ_ _=>rfl⟩
 |d+1,.n l u r,0,v=>.inl ⟨_,λ_ _=>rfl⟩
 |d+1,.e,j+1,v=>by
  by_cases hj:j % 2=0
  .have e:∀ (α:Type) (k:Tb β->ak α),e9 (d+1) .e (j+1) v k=e9 d .e (j / 2) v λl=>k (.n l none .e):=λα k=>by
    change Tb.pick j (λi=>e9 d .e i v λl=>k (.n l none .e)) (λi=>e9 d .e i v λr=>k (.n .e none r))=_
    rw[Tb.fG hj]
   rcases Gd d .e (j / 2) v with⟨t',h⟩|⟨n,h⟩
   .exact .inl ⟨_,λα k=>by rw[e,h]⟩
   .exact .inr ⟨n,λα k=>by rw[e,h]⟩
  .have e:∀ (α:Type) (k:Tb β->ak α),e9 (d+1) .e (j+1) v k=e9 d .e (j / 2) v λr=>k (.n .e none r):=λα k=>by
    change Tb.pick j (λi=>e9 d .e i v λl=>k (.n l none .e)) (λi=>e9 d .e i v λr=>k (.n .e none r))=_
    rw[Tb.fF hj]
   rcases Gd d .e (j / 2) v with⟨t',h⟩|⟨n,h⟩
   .exact .inl ⟨_,λα k=>by rw[e,h]⟩
   .exact .inr ⟨n,λα k=>by rw[e,h]⟩
 |d+1,.n l u r,j+1,v=>by
  by_cases hj:j % 2=0
  .have e:∀ (α:Type) (k:Tb β->ak α),e9 (d+1) (.n l u r) (j+1) v k=e9 d l (j / 2) v λl=>k (.n l u r):=λα k=>by
    change Tb.pick j (λi=>e9 d l i v λl=>k (.n l u r)) (λi=>e9 d r i v λr=>k (.n l u r))=_
    rw[Tb.fG hj]
   rcases Gd d l (j / 2) v with⟨t',h⟩|⟨n,h⟩
   .exact .inl ⟨_,λα k=>by rw[e,h]⟩
   .exact .inr ⟨n,λα k=>by rw[e,h]⟩
  .have e:∀ (α:Type) (k:Tb β->ak α),e9 (d+1) (.n l u r) (j+1) v k=e9 d r (j / 2) v λr=>k (.n l u r):=λα k=>by
    change Tb.pick j (λi=>e9 d l i v λl=>k (.n l u r)) (λi=>e9 d r i v λr=>k (.n l u r))=_
    rw[Tb.fF hj]
   rcases Gd d r (j / 2) v with⟨t',h⟩|⟨n,h⟩
   .exact .inl ⟨_,λα k=>by rw[e,h]⟩
   .exact .inr ⟨n,λα k=>by rw[e,h]⟩
section
variable {α:Type} {Φ:α->Prop}
def x94{β:Type}{d:Nat}{t:Tb β}{i:Nat}{v:Option β}{k:Tb β->ak α}(h:∀t',AQ t i v t'->(k t').bw Φ):(e9 d t i v k).bw Φ:=by
 rcases Gd d t i v with⟨t',h1⟩|⟨n,h1⟩
 .rw[h1]
  obtain⟨t2,g1,g2⟩:=xP (L:=λx=>x=t') d t i v .ai (by rw[h1];exact rfl);obtain rfl:t2=t':=g2;exact h _ g1
 .rw[h1];trivial
def Mem.aui{m:Mem}{id:Nat}{b:Option aR}{k:Mem->ak α}(h:∀m',mT m id b m'->(k m').bw Φ):(m.set id b k).bw Φ:=
 x94 λtb htb=>h _ ⟨htb,rfl⟩
end
def yo0{w:World}{g o:Nat}{arr:Array Value}{e:TypeId}{fr:Nat×Nat}(hg:w.heap[g]? =some (.cells arr e fr))(hu:vJ arr fr)(hl:o<arr.size):w.frozen? ⟨g,o,none⟩=false:=by
 have:=hu o hl;simp only[World.frozen?,hg]
 by_cases h2:fr.1<=o
 .have h3:¬o<fr.2:=λh3=>this ⟨h2,h3⟩
  simp[h3]
 .simp[h2]
inductive Wk (nz:Bool) (boxes:List (Option aR)) (fz:List Nat):SV->SV->Prop where
 |same (x:SV):Wk nz boxes fz x x
 |di (x:SV):Wk nz boxes fz x .di
 |nil (h:nz=true):Wk nz boxes fz .cm (.row boxes.length)
 |qn {id:Nat} {t:Ty} {l:List t.T} (aI:id∈fz) (hb:boxes[id]? =some (some (.rows t l))):Wk nz boxes fz (.row id) (.list t l)
def tq(nz:Bool)(boxes:List (Option aR))(fz:List Nat):List SV->List SV->Prop
 |[],[] =>True
 |x::xs,y::ys=>Wk nz boxes fz x y/\tq nz boxes fz xs ys
 |_,_=>False
def H8(nz:Bool)(boxes:List (Option aR))(fz:List Nat):List (Nat×SV)->List (Nat×SV)->Prop
 |[],[] =>True
 |x::xs,y::ys=>x.1=y.1/\Wk nz boxes fz x.2 y.2/\H8 nz boxes fz xs ys
 |_,_=>False
inductive EG (nz:Bool) (boxes:List (Option aR)) (fz:List Nat):aR->aR->Prop where
 |same (B:aR):EG nz boxes fz B B
 |cells {cs ds:List SV} (h:tq nz boxes fz cs ds):EG nz boxes fz (.cells cs) (.cells ds)
def oB(nz:Bool)(boxes:List (Option aR))(fz:List Nat):Nat->List (Option aR)->List (Option aR)->Prop
 |_,[],[] =>nz=false
 |_,[],some (.rows _ [])::[] =>True
 |i,_::bs,none::bs'=>oB nz boxes fz (i+1) bs bs'
 |i,some B::bs,some B'::bs'=>i∉fz/\EG nz boxes fz B B'/\oB nz boxes fz (i+1) bs bs'
 |_,_,_=>False
section
variable {nz:Bool} {boxes:List (Option aR)} {fz:List Nat}
theorem tq.length:∀{l l':List SV},tq nz boxes fz l l'->l'.length=l.length
 |[],[],_=>rfl
 |x::xs,y::ys,h=>by simp[tq.length h.2]
theorem tq.get:∀{l l':List SV},tq nz boxes fz l l'->∀{i:Nat} {y:SV},l'[i]? =some y->∃x,l[i]? =some x/\Wk nz boxes fz x y
 |[],[],_,i,y,h=>by simp at h
 |x::xs,z::ys,h,0,y,hy=>by
  simp at hy;subst hy;exact⟨x,rfl,h.1⟩
 |x::xs,z::ys,h,i+1,y,hy=>by
  simpa using tq.get h.2 (i:=i) (y:=y) (by simpa using hy)
theorem H8.lookup:∀{ks GQ:List (Nat×SV)},H8 nz boxes fz ks GQ->∀i,Wk nz boxes fz ((ks.lookup i).getD .di) ((GQ.lookup i).getD .di)
 |[],[],_,i=>.same _
 |x::xs,y::ys,h,i=>by
  obtain⟨h1,h2,h3⟩:=h;obtain⟨a,x⟩:=x;obtain⟨b,y⟩:=y;dsimp only at h1 h2;subst h1;simp only[List.lookup]
  cases(i==a)with
  |true=>exact h2
  |false=>exact H8.lookup h3 i
def MR{n:Nat}{ks GQ:List (Nat×SV)}(h:H8 nz boxes fz ks GQ):tq nz boxes fz (x7 n ks) (x7 n GQ):=by
 unfold x7
 induction List.range n with
 |nil=>trivial
 |cons i l ih=>exact⟨h.lookup i,ih⟩
theorem oB.len:∀{i:Nat} {bs bs':List (Option aR)},oB nz boxes fz i bs bs'->bs.length<=bs'.length
 |_,[],[],_=>bA _
 |_,[],some (.rows _ [])::[],_=>by simp
 |i,_::bs,none::bs',h=>by simpa using oB.len (i:=i+1) (bs:=bs) (bs':=bs') h
 |i,some B::bs,some B'::bs',h=>by simpa using oB.len (i:=i+1) h.2.2
theorem oB.D9(hz:nz=true):∀{i:Nat} {bs bs':List (Option aR)},oB nz boxes fz i bs bs'->bs.length<bs'.length
 |_,[],[],h=>by rw[show nz=false from h]at hz;cases hz
 |_,[],some (.rows _ [])::[],_=>by simp
 |i,_::bs,none::bs',h=>by simpa using oB.D9 hz (i:=i+1) (bs:=bs) (bs':=bs') h
 |i,some B::bs,some B'::bs',h=>by simpa using oB.D9 hz (i:=i+1) h.2.2
theorem oB.get:∀{i:Nat} {bs bs':List (Option aR)},oB nz boxes fz i bs bs'->∀{j:Nat} {B':aR},(bs'[j]?).join=some B'->(∃B,(bs[j]?).join=some B/\i+j∉fz/\EG nz boxes fz B B')\/(j=bs.length/\∃t,B'=.rows t [])
 |_,[],[],_,j,B',h=>by simp at h
 |_,[],some (.rows t [])::[],_,0,B',h=>by
  simp at h;subst h;exact .inr ⟨rfl,t,rfl⟩
 |_,[],some (.rows t [])::[],_,j+1,B',h=>by simp at h
 |i,_::bs,none::bs',h,0,B',hj=>by simp at hj
 |i,x::bs,none::bs',h,j+1,B',hj=>by
  have:=oB.get (i:=i+1) (bs:=bs) (bs':=bs') h (j:=j) (B':=B') (by simpa using hj)
  simpa[AA,yB 1 j]using this
 |i,some B::bs,some C::bs',h,0,B',hj=>by
  simp at hj;subst hj;exact .inl ⟨B,rfl,by simpa using h.1,h.2.1⟩
 |i,some B::bs,some C::bs',h,j+1,B',hj=>by
  have:=oB.get (i:=i+1) h.2.2 (j:=j) (B':=B') (by simpa using hj)
  simpa[AA,yB 1 j]using this
def dG.Kz{ds:List Deferred}{slots iw:List SV}{kf:List (Option aR)}{fr aD:Fr}{m m':Mem}(hc:lS slots boxes fr m)(tf:lS iw kf aD m')(hs:tq nz boxes fz slots iw)(hb:oB nz boxes fz 0 boxes kf){w0:World}{R0:eo}{I:bu}{w:World}{a:Act}(h:dG ds w0 R0 I w fr m a):
  dG ds w0 R0 (cL I boxes.length (0,0,0)) w aD m' a/\∀b,RO w0 R0 I w m b->RO w0 R0 (cL I boxes.length (0,0,0)) w m' b:=by
 obtain⟨h1,h2,h3⟩:=h;have bD:=hb.len;have hn:m.next=boxes.length:=hc.next;have gW:m'.next=kf.length:=tf.next
 -- where each box comes from
 have hg:∀id B',m'.get id=some B'->(∃B,m.get id=some B/\id≠boxes.length/\id∉fz/\EG nz boxes fz B B')\/(id=boxes.length/\∃t,B'=.rows t []):=λid B' hB=>by
  rw[tf.box]at hB;rcases hb.get hB with⟨B,k1,k2,k3⟩|k
  .refine .inl ⟨B,by rw[hc.box];exact k1,λe=>?_,by simpa using k2,k3⟩
   subst e;simp at k1
  .exact .inr k
 have bC:∀{B B':aR} {r:Nat×Nat×Nat},EG nz boxes fz B B'->(fJ r B'↔fJ r B):=λhw=>by
  cases hw with
  |same=>exact Iff.rfl
  |cells=>exact Iff.rfl
 have dZ:∀b,RO w0 R0 I w m b->RO w0 R0 (cL I boxes.length (0,0,0)) w m' b:=λb lu=>by
  rcases lu with lu|⟨k1,k2,k3,k4⟩
  .exact .inl lu
  .refine .inr ⟨k1,k2,λid B' hB bj=>?_,k4⟩
   rcases hg id B' hB with⟨B,g1,g2,g3,g4⟩|⟨rfl,t,rfl⟩
   .rw[r8 _ _ g2]at bj ⊢
    exact k3 id B g1 ((bC g4).1 bj)
   .rw[s9]at bj;exact absurd bj (gZ _)
 have e:Ext (RO w0 R0 I w m) I m.next w (RO w0 R0 (cL I boxes.length (0,0,0)) w m') (cL I boxes.length (0,0,0)) m'.next w:=⟨by omega,λid aI=>r8 _ _ (by omega),λb lu=>⟨dZ b lu,rfl⟩⟩
 have hval:∀ (x y:SV) (v:Value),Wk nz boxes fz x y->aJ (RO w0 R0 I w m) I m.next w x v->aJ (RO w0 R0 (cL I boxes.length (0,0,0)) w m') (cL I boxes.length (0,0,0)) m'.next w y v:=by
  intro x y v hw hr
  cases hw with
  |same=>exact aJ.mono e _ _ hr
  |di=>trivial
  |nil hz=>
   rw[show v=_ from hr];have hx:=hb.D9 hz;exact⟨by omega,none,by rw[s9],λh0=>by rw[s9]at h0;exact absurd h0 (gZ _)⟩
  |qn aI HG=>
   rename_i id t l;obtain⟨_,a,hu,ha⟩:=hr
   have uA:m.get id=some (.rows t l):=by rw[hc.box,HG];rfl
   obtain⟨b1,b2,hp⟩:=h1.box id _ uA;refine⟨a,(I id).2.2,by rw[hu,b1],b2,λh0=>?_⟩;have h0:0< (I id).2.2:=qS h0 b2;obtain⟨arr,el,fr,k1,k2,k3,k4⟩:=hp h0;refine⟨(I id).1,0,ha h0,.inr ⟨h1.lo id _ uA h0,h1.hi id _ uA h0,λbY B' hB bj dD=>?_,h1.aI.2 id _ uA h0⟩,λi hi=>?_⟩
   .rcases hg bY B' hB with⟨B,g1,g2,g3,g4⟩|⟨rfl,t,rfl⟩
    .rw[r8 _ _ g2]at bj dD
     have:=h1.inj bY id B _ g1 uA ((bC g4).1 bj) h0 dD;subst this;exact g3 aI
    .rw[s9]at bj;exact absurd bj (gZ _)
   .obtain⟨cs,c1,c2,c3⟩:=k4 i hi
    refine⟨cs,c1,λj hj=>?_,p7.mono e.keep _ _ _ c3⟩;rw[rR w _ _ arr el fr k1,gY];exact c2 j hj
 have ayT:∀ (xs ys:List SV) (vs:List Value),tq nz boxes fz xs ys->j8 (RO w0 R0 I w m) I m.next w xs vs->j8 (RO w0 R0 (cL I boxes.length (0,0,0)) w m') (cL I boxes.length (0,0,0)) m'.next w ys vs:=by
  intro xs
  induction xs with
  |nil=>
   intro ys vs hw hr
   cases ys with
   |nil=>exact hr
   |cons _ _=>cases hw
  |cons x xs ih=>
   intro ys vs hw hr
   cases ys with
   |nil=>cases hw
   |cons y ys=>
    obtain⟨u,us,rfl,r1,r2⟩:=hr;exact⟨u,us,rfl,hval x y u hw.1 r1,ih ys us hw.2 r2⟩
 refine⟨⟨⟨h1.below,λid B' hB=>?_,λid B' hB bj=>?_,λid B' hB bj=>?_,λid bY B' C' hB hC fZ iP dD=>?_,λid B' hB=>?_,h1.aI.1,λid B' hB bj=>?_⟩,⟨?_,λt=>?_⟩,h3⟩,dZ⟩
 .rw[gW]
  rw[tf.box]at hB;rcases jv id kf.length with k|k
  .exact k
  .rw[qU k]at hB;cases hB
 .rcases hg id B' hB with⟨B,g1,g2,g3,g4⟩|⟨rfl,t,rfl⟩
  .rw[r8 _ _ g2]at bj ⊢;exact h1.lo id B g1 ((bC g4).1 bj)
  .rw[s9]at bj;exact absurd bj (gZ _)
 .rcases hg id B' hB with⟨B,g1,g2,g3,g4⟩|⟨rfl,t,rfl⟩
  .rw[r8 _ _ g2]at bj ⊢;exact h1.hi id B g1 ((bC g4).1 bj)
  .rw[s9]at bj;exact absurd bj (gZ _)
 .rcases hg id B' hB with⟨B,g1,g2,g3,g4⟩|⟨rfl,t,rfl⟩
  .rcases hg bY C' hC with⟨C,Nq,Ug,g3',g4'⟩|⟨rfl,t',rfl⟩
   .rw[r8 _ _ g2]at fZ dD;rw[r8 _ _ Ug]at iP dD
    exact h1.inj id bY B C g1 Nq ((bC g4).1 fZ) ((bC g4').1 iP) dD
   .rw[s9]at iP;exact absurd iP (gZ _)
  .rw[s9]at fZ;exact absurd fZ (gZ _)
 .rcases hg id B' hB with⟨B,g1,g2,g3,g4⟩|⟨rfl,t,rfl⟩
  .rw[r8 _ _ g2]
   cases g4 with
   |same=>exact fN.mono e _ (λ_=>rfl) (h1.box id _ g1)
   |cells hw=>
    obtain⟨arr,el,cH,k1,k2,k3⟩:=h1.box id _ g1;exact⟨arr,el,cH,k1,k2,ayT _ _ _ hw k3⟩
  .rw[s9]
   exact⟨rfl,bA _,λh0=>absurd h0 (gZ _)⟩
 .rcases hg id B' hB with⟨B,g1,g2,g3,g4⟩|⟨rfl,t,rfl⟩
  .rw[r8 _ _ g2]at bj ⊢;exact h1.aI.2 id B g1 ((bC g4).1 bj)
  .rw[s9]at bj;exact absurd bj (gZ _)
 .rw[tf.size,hs.length,<-hc.size];exact h2.1
 .rw[tf.get t,cK]
  cases hx:iw[t]? with
  |none=>
   have ht:iw.length<=t:=by simpa using hx
   have:a.tmps.getD t Go.undef=Go.undef:=by
    rw[jx,aiC (by rw[<-h2.1,hc.size,<-hs.length];exact ht)];rfl
   rw[this];exact rfl
  |some y=>
   obtain⟨x,hx1,hw⟩:=hs.get hx;refine hval x y _ hw ?_;have:=h2.2 t;rw[hc.get t,cK,hx1]at this;exact this
end
def Kh{P:Program}(nz:Bool){fn:Func}{v:SV}{items:List Item}{slots iw:List SV}{boxes kf:List (Option aR)}(fz:List Nat)(hs:tq nz boxes fz slots iw)(hb:oB nz boxes fz 0 boxes kf)(h:t9 P fn v items iw kf):t9 P fn v items slots boxes:=by
 intro fr m hc w0 R0 I w a hS b cs;obtain⟨aD,m',tf⟩:=lS.of (slots:=iw) (boxes:=kf);obtain⟨h1,h2⟩:=dG.Kz hc tf hs hb hS;obtain⟨I',w',a',todo,u,q1,q2,q3,q4,q5,q6⟩:=h aD m' tf w0 R0 _ w a h1 b cs;exact⟨I',w',a',todo,u,q1,q2,λb lu=>q3 b (h2 b lu),q4,q5,q6⟩
end Go.Sx
namespace Go.Proofs.YtnkaepnblikcdaaGreat
open Go.Sx
def wV(f:Fw)(c:V4)(len line:Int):SV:=if dt f c len=true then .tuple [(p8 f c len line).sv,J 0]else .tuple [.agg (o9 aP),J 2]
variable{f:Fw}{c:V4}{line:Int}
def W3{len:Int}(h:dt f c len=true):wV f c len line=.tuple [(p8 f c len line).sv,J 0] :=ay h
def OL{len:Int}(h:¬dt f c len=true):wV f c len line=.tuple [.agg (o9 aP),J 2] :=au h
def OM(f:Fw)(c:V4)(len line:Int):(wV f c len line).data=true:=by unfold wV;split<;>rfl
def qG3:mR pP [z49,Ro] :=⟨yu4,yH1,trivial⟩
def zA1{len:Int}(h:dm f c len=true):t9 pP (x9 pP 114) (wV f c len line) RC (x7 79 [(4,.ptr 0 0),(8,.ptr 1 0),(11,LB (t6 f c len))]) [some (.cells ({f with queue:=t6 f c len,lines:=f.lines++[line]}:Fw).cells),some (.cells (o9 aP)),none,none] :=by
 have p:=qv.1 h;have pl:=N5 h;have ql:=rf f c len;refine o6 (kW qG3) (n:=1000) (hint:=.unit) (keep:=x6 79 [4,8,11]) (p:=W5) (OM _ _ _ _) ?_;erw [bl1 {f with queue:=t6 f c len,lines:=f.lines++[line]}];have f2:jk (t6 f c len).length=true:=xT.2 (by omega)
 have key:∀e,e=m9 f->kP (t6 f c len) (ij f.ma (t6 f c len)) e=true/\((e<=fp (t6 f c len) 0->(gL (t6 f c len) (ij f.ma (t6 f c len)) e 0=e->SV.tuple [.agg (Fw.cells {f with queue:=jo (t6 f c len) (gL (t6 f c len) (ij f.ma (t6 f c len)) e),lines:=f.lines++[line]}),.int .i64 0] =wV f c len line)/\(¬gL (t6 f c len) (ij f.ma (t6 f c len)) e 0=e->SV.tuple [.agg (o9 aP),.int .i64 2] =wV f c len line))/\(¬e<=fp (t6 f c len) 0->SV.tuple [.agg (o9 aP),.int .i64 2] =wV f c len line)):=λe he=>by
  subst he;refine⟨pl,λa=>⟨λb=>?_,λb=>?_⟩,λa=>?_⟩;.rw[W3 (uV.2 ⟨a,b⟩)];rfl
  .rw[OL (λo=>b (uV.1 o).2)];rfl
  .rw[OL (λo=>a (uV.1 o).1)];rfl
 have fin:∀e,e=m9 f->∀T:Prop,T->T:=λ_ _ _ t=>t
 by_cases hm:f.aT=true
 .have kk:=key f.mo.1.2.2.2.2 (by unfold m9;rw[ay hm])
  refine⟨λ_=>⟨f2,kk.1,λa=>⟨λb=>(kk.2.1 (bG a)).1 (bG b),λb=>(kk.2.1 (bG a)).2 (cO b)⟩,λa=>kk.2.2 (cO a)⟩,λk=>absurd hm (by rw[show f.aT=false from k];exact fS)⟩
 .refine⟨λk=>absurd k hm,λ_=>⟨λl=>?_,λl=>?_⟩⟩
  .have l:((t6 f c len).length:Int)>1:=bG l
   have g0:(t6 f c len).getD 0 aM=f.queue.getD 0 aM:=by
    unfold t6;rw[cK,yE (by omega),<-cK]
   have kk:=key ((t6 f c len).getD 0 aM).2.2.1 (by unfold m9;rw[au hm,au (by omega),g0]);refine⟨bn (by show(0:Int)< (t6 f c len).length;omega),f2,kk.1,λa=>⟨λb=>(kk.2.1 (bG a)).1 (bG b),λb=>(kk.2.1 (bG a)).2 (cO b)⟩,λa=>kk.2.2 (cO a)⟩
  .have l:¬((t6 f c len).length:Int)>1:=cO l
   have kk:=key 0 (by unfold m9;rw[au hm,ay (by omega)]);exact⟨f2,kk.1,λa=>⟨λb=>(kk.2.1 (bG a)).1 (bG b),λb=>(kk.2.1 (bG a)).2 (cO b)⟩,λa=>kk.2.2 (cO a)⟩
def kBl:cV pP (Env.cq pP (j9 [Gm,Fs]) (d9 []) (f0 []) (b9 []) (j6 []) (j6 []) (j6 []) (j6 [10])):=
 hB (l:=[Gm,Fs]) (k:=[]) (j:=[]) (i:=[]) [] [] [] [10] ⟨yL4,yr6,trivial⟩ v8 v8 v8
def xB6(f:Fw)(c:V4)(len line:Int)(h:dm f c len=true):SCall pP 114 [f.sv,V4.sv c,J len,J line] (wV f c len line):=by
 have p:=qv.1 h;have sr:=MO p.1 (l:=len) (f:=f.bH) (pJ.1 p.2.1).2 (pJ.1 p.2.2.1).2;have w:=C5 (v:=dL f.ma c len f.bH) (by omega);refine s8 rfl (OM _ _ _ _) (by kernel_rfl) (o6 kBl (n:=1000) (hint:=.unit) (keep:=x6 79 [4,8,11]) (p:=U5) (boxes:=[]) (OM _ _ _ _) ?_);have q:=bl0 f c len line;unfold v6 v7 at q;erw [q];rw[w];simp only[ak.holds,aH,aV];refine⟨⟨p.2.1,p.2.2.1⟩,by omega,by omega,by simp;omega,by simp;omega,o5 _ _,?_⟩
 refine Kh false [2,3] (iw:=x7 79 [(4,.ptr 0 0),(8,.ptr 1 0),(11,LB (t6 f c len))]) (kf:=[some (.cells ({f with queue:=t6 f c len,lines:=f.lines++[line]}:Fw).cells),some (.cells (o9 aP)),none,none])
  (MR ⟨rfl,.same _,rfl,.same _,rfl,.qn (by simp) rfl,trivial⟩) ⟨by simp,.cells ?_,by simp,.same _,rfl⟩ (zA1 h)
 repeat(first|exact trivial|refine⟨.same _,?_⟩|refine⟨.qn (by simp) rfl,?_⟩)
def Jp:aB:=gU 114 λf rest=>match rest with
 |[.agg [.int .i64 a,.int .i64 b,.int .i64 c,.int .i64 d],.int .i64 len,.int .i64 line] =>some (.aj (dm f (a,b,c,d) len) (.ag (dt f (a,b,c,d) len) (lT [(p8 f (a,b,c,d) len line).sv,J 0]) (lT [.agg (o9 aP),J 2])))
 |_=>none
def O5:Jp.ok pP:=iz λf rest t ht=>by
 split at ht
 .rename_i a b c d len line
  cases ht;intro h;have k:=xB6 f (a,b,c,d) len line h;refine⟨λo=>?_,λo=>?_⟩;.rw[W3 o]at k;exact k
  .rw[OL (by rw[o];exact fS)]at k;exact k
 .cases ht
def xW(f g:Fw)(c:Gc.C):V4:=bI (mg f.ma (t7 f c) (r9 f c)) (ej g)
def GO(f:Fw)(c:Gc.C):Int:=Bs f.loc (t7 f c) (i64.wrap (r9 f c-f.e))
def JG(f g:Fw)(line:Int)(c:Gc.C):ak SV:=
 .aj (dU g&&fh g) (.ag (!((xW f g c).1==0&& ((xW f g c).2.1==0&& ((xW f g c).2.2.1==0&& ((xW f g c).2.2.2==0&&true)))))
  (.ag ((f.queue.length:Int)>=32) (lT [.agg (o9 aP),J 18])
    (.aj (lN f.loc) (.aj (lN (t7 f c)) (.aj (Ag (i64.wrap (r9 f c-f.e))) (.aj (dm g (xW f g c) (GO f c)) (.ag (dt g (xW f g c) (GO f c))
      (lT [.agg (Fw.cells {p8 g (xW f g c) (GO f c) line with loc:=t7 f c,e:=r9 f c}),J 0]) (lT [.agg (o9 aP),J 2])))))))
  (lT [.agg (Fw.cells {g with loc:=t7 f c,e:=r9 f c}),J 0]))
def XV(f:Fw)(line:Int)(c:Gc.C):ak SV:=
 .ag (!u7 (mg f.ma (t7 f c) (r9 f c))) (lT [.agg (o9 aP),J 2])
  (.aj (dU f&&fh f) (.ag (!u7 (bI (mg f.ma (t7 f c) (r9 f c)) (ej f))) (lT [.agg (o9 aP),J 2])
    (.ag (i64.wrap ((BitVec.ofInt 64 c.has &&&BitVec.ofInt 64 16).toNat:Int) != 0) (JG f {f with bH:=c.f} line c) (JG f f line c))))
section
variable {f g:Fw} {line:Int} {c:Gc.C}
def XT(v:VF f)(hc:c.valid=true)(ki:gC f.ma (t7 f c)=true)(km:iL f.ma (t7 f c) (r9 f c)=true)(hg:b7 f c=g)(e:gG f line c=lH g (t7 f c) (r9 f c) (oF f c) (mb f c))(n1:u7 (oF f c)=true)(n2:u7 (mb f c)=true):
  (JG f g line c).holds λx=>x=mz (gG f line c) (ni f line c):=by
 have mq:(dU g&&fh g)=true:=by
  rw[<-hg,show dU (b7 f c)=dU f by unfold b7;split<;>rfl,show fh (b7 f c)=fh f by unfold b7;split<;>rfl,v.jq,v.nu];rfl
 have gg:ej g=ej f:=by rw[<-hg];unfold b7;split<;>rfl
 have w:xW f g c=mb f c:=by unfold xW;rw[gg];exact uj (Pg km) (iq v.goal)
 have gl:g.loc=f.loc/\g.e=f.e/\g.queue=f.queue:=by rw[<-hg];unfold b7;split<;>exact⟨rfl,rfl,rfl⟩
 have nn:=v.gK;have me:=(dK.1 (tL.1 km).2.2.2).2;have dw:i64.wrap (r9 f c-f.e)=r9 f c-f.e:=aG (by omega) (by omega)
 have l:GO f c=jm g (t7 f c) (r9 f c):=by unfold GO;rw[q63,gl.1,gl.2.1,dw]
 have nd:(u7 (oF f c)&&u7 (mb f c))=true:=by rw[n1,n2];rfl
 have mF:ni f line c=xA g line (t7 f c) (r9 f c) (mb f c):=by unfold ni;rw[hg]
 unfold JG;rw[w,l,dw,nzT];refine x0 mq (t8 (λz=>o7 (λq=>?_) λq=>?_) λz=>?_);.exact iU (e.trans (SI nd z (by rw[gl.2.2];omega))) (by decide)
 .have q:¬32<=g.queue.length:=by rw[gl.2.2];omega
  have p:=Pe v hc ki km n2 z;rw[hg]at p;have lp:=LX.1 p.1;refine x0 (by rw[<-gl.1];exact lp.1) (x0 lp.2.1 (x0 (v5.2 (by omega)) (x0 p.2 (t8 (λo=>?_) λo=>?_))));.exact kU (e.trans (jt0 nd z q o)) (by rw[mF,SF z])
  .exact iU (e.trans (SH nd z q (by rw[o];exact fS))) (by decide)
 .exact kU (e.trans (js9 nd z)) (by rw[mF,SG z])
def XU(v:VF f)(hc:c.valid=true)(ki:gC f.ma (t7 f c)=true)(km:iL f.ma (t7 f c) (r9 f c)=true)(e:gG f line c=lH (b7 f c) (t7 f c) (r9 f c) (oF f c) (mb f c)):
  (XV f line c).holds λx=>x=mz (gG f line c) (ni f line c):=by
 have mq:(dU f&&fh f)=true:=by rw[v.jq,v.nu];rfl
 have w:bI (mg f.ma (t7 f c) (r9 f c)) (ej f)=mb f c:=uj (Pg km) (iq v.goal);unfold XV;rw[w]
 refine d8 (λa=>?_) λa=>x0 mq (d8 (λb=>?_) λb=>?_)
 .exact iU (e.trans (GW (by show(u7 (oF f c)&&_)=false;rw[show u7 (oF f c)=false from a];rfl))) (by decide)
 .exact iU (e.trans (GW (by rw[b,wD]))) (by decide)
 .refine dI (λq=>?_) λq=>?_
  .have hf:b7 f c={f with bH:=c.f}:=qA5 (DT.2 q)
   rw[hf]at e;exact XT v hc ki km hf e a b
  .have hf:b7 f c=f:=qA4 (λk=>DT.1 k q)
   rw[hf]at e;exact XT v hc ki km hf e a b
end
def xO6(f:Fw)(line:Int)(c:Gc.C)(h:u9 f=true)(hc:c.valid=true)(hl:0<=line):SCall pP 221 [f.sv,J line,c.sv] (mz (gG f line c) (ni f line c)):=
 ic (hB (l:=[Rg,qe2,qb5,vB,xL,W7,Ry,Jp]) (k:=[]) (j:=[]) (i:=[]) nN nN nN nN (⟨yM9,yD5,yA9,FM,zo,yy9,yC0,O5,trivial⟩) v8 v8 v8) 1000 (let z1:ax:=.ah (.ah .all (.ah pA pA)) .all;let z0:ax:=.ah (.ln 6 pA) (.ln 6 (.ah .all (.ah z1 z1)));let z2:ax:=.ar (.ar pA);.ah (.ln 10 pA) (.ln 3 (.ah (.ln 6 pA) (.ar (.ar (.ah (.ln 3 pA) (.ln 3 (.ah .all (.ah (.ah z2 (.ln 3 (.ah (.ln 6 (.ah .all z0)) (.ln 7 z0)))) (.ah z2 z2))))))))))
  (t:=let y4:=((t7 f c).1,(t7 f c).2);let y1:=mg f.ma y4 (r9 f c);let y5:=bI y1 (ej f);let y6:ak SV:=lT [.agg (o9 aP),J 14];let y7:={f with bH:=c.f};let y3:=bI y1 (ej y7);let y8:ak SV:=lT [.agg (o9 aP),J 2];let y9:ak SV:=lT [.agg (o9 aP),J 8];let dg:=i64.wrap (r9 f c-f.e);let y2:=Bs f.loc y4 dg;let y0:ak SV:=.ag (!u7 y1) y8 (.aj (dU f&&fh f) (.ag (!u7 y5) y8 (.ag (i64.wrap (↑(BitVec.ofInt 64 c.has &&&BitVec.ofInt 64 16).toNat:Int) != 0) (.aj (dU y7&&fh y7) (.ag (!(y3.1==0&& (y3.2.1==0&& (y3.2.2.1==0&& (y3.2.2.2==0&&true))))) (.ag ((↑f.queue.length:Int)>=32) (lT [.agg (o9 aP),J 18]) (.aj (lN f.loc) (.aj (lN y4) (.aj (Ag dg) (.aj (dm y7 y3 y2) (.ag (dt y7 y3 y2) (lT [.agg (Fw.cells { (p8 y7 y3 y2 line)with loc:=(t7 f c),e:=(r9 f c)}),J 0]) y8)))))) (lT [.agg (Fw.cells {f with loc:=(t7 f c),e:=(r9 f c),bH:=c.f}),J 0]))) (.aj (dU f&&fh f) (.ag (!(y5.1==0&& (y5.2.1==0&& (y5.2.2.1==0&& (y5.2.2.2==0&&true))))) (.ag ((↑f.queue.length:Int)>=32) (lT [.agg (o9 aP),J 18]) (.aj (lN f.loc) (.aj (lN y4) (.aj (Ag dg) (.aj (dm f y5 y2) (.ag (dt f y5 y2) (lT [.agg (Fw.cells { (p8 f y5 y2 line)with loc:=(t7 f c),e:=(r9 f c)}),J 0]) y8)))))) (lT [.agg (Fw.cells {f with loc:=(t7 f c),e:=(r9 f c)}),J 0]))))));.ag (line==0) y6 (.ag (!f.bf) y6 (.ag (f.back) y6 (.ag (f.mode != 1) y6 (.ag (iL f.ma y4 (r9 f c)) (.ag (!gC f.ma y4) y9 (.ag (r9 f c>f.e) (rT (.ag (f.r0<f.bc) (lT [.agg (o9 aP),J 15]) y0)) y0)) (.ag (!gC f.ma y4) y9 y9))))))
  (by kernel_rfl) (by
   have v:=d7 h
   have Ny:(line<1\/f.bf=false\/f.back=true\/¬f.mode=1)->SV.tuple [SV.agg (o9 aP),SV.int i64 14] =mz (gG f line c) (ni f line c):=λk=>iU (Pf (c:=c) k).1 (by decide)
   refine iK (λa=>Ny (.inl (by omega))) λa=>d8 (λb=>Ny (.inr (.inl b))) λb=>t8 (λd=>Ny (.inr (.inr (.inl d)))) λd=>dI (λe=>Ny (.inr (.inr (.inr e)))) λe=>?_
   have k:¬(line<1\/f.bf=false\/f.back=true\/¬f.mode=1):=by
    intro k;rcases k with k|k|k|k
    .omega
    .rw[b]at k;cases k
    .rw[d]at k;cases k
    .exact k e
   refine t8 (λkm=>d8 (λki=>iU (tI (c:=c) k (.inl ki)).1 (by decide)) λki=>?_) λkm=>?_
   .have k2:¬(gC f.ma (t7 f c)=false\/iL f.ma (t7 f c) (r9 f c)=false):=by
     intro n;rcases n with n|n
     .rw[show gC f.ma (t7 f c)=true from ki]at n;cases n
     .rw[show iL f.ma (t7 f c) (r9 f c)=true from km]at n;cases n
    refine o7 (λt=>x0 rfl (o7 (λr=>iU (JH (c:=c) k k2 ⟨by omega,r⟩).1 (by decide)) λr=>?_)) λt=>?_
    .exact XU v hc ki km (JI (c:=c) k k2 (λn=>r n.2)).1
    .exact XU v hc ki km (JI (c:=c) k k2 (λn=>t n.1)).1
   .first
     |exact iU (tI (c:=c) k (.inr km)).1 (by decide)
     |exact d8 (λ_=>iU (tI (c:=c) k (.inr km)).1 (by decide)) (λ_=>iU (tI (c:=c) k (.inr km)).1 (by decide))) (by kernel_rfl) (by exact FY _ _)
def x24(f:Fw):SCall pP 75 [f.sv] ((mH f).sv):=
 ic (hB (l:=[qn4]) (k:=[]) (j:=[]) (i:=[]) nN nN nN nN (⟨yN8,trivial⟩) v8 v8 v8) 1000 (.go (.ar (.go (.ar (.go pA)))))
  (t:=rT (rT (rT (rT (.ai (SV.agg (Fw.cells {f with g0:=f.g0.kV,g1:=f.g1.kV})))))))
  (by kernel_rfl) (by repeat' (first|exact rfl|refine x0 rfl ?_)) (by kernel_rfl) (by kernel_rfl)
def qn2:aB:=fC 75 λf=>.ai (mH f).sv
def yN6:qn2.ok pP:=fE (λf=>x24 f)
def x00(f:Fw)(h:f4 f=true):SCall pP 76 [f.sv] ((ui f).sv):=
 ic (hB (l:=[qm1,Rx]) (k:=[]) (j:=[]) (i:=[]) nN nN nN nN (⟨yM1,YT,trivial⟩) v8 v8 v8) 1000 (.go (.ar (.go (.ar (.go pA)))))
  (t:=rT (rT (rT (rT (.aj (f4 ({f with g0:=f.g0.stop,g1:=f.g1.stop})) (.ai (SV.agg (Fw.cells { (ek ({f with g0:=f.g0.stop,g1:=f.g1.stop}))with mode:=3}))))))))
  (by kernel_rfl) (by repeat' (first|exact rfl|refine x0 rfl ?_|refine x0 h ?_)) (by kernel_rfl) (by kernel_rfl)
def ql9:aB:=fC 76 λf=>.aj (f4 f) (.ai (ui f).sv)
def yL9:ql9.ok pP:=fE (λf h=>x00 f h)
def xn0(m:¬f.mode=3):cD f=14:=ay m
def xn1(m:f.mode=3)(g:¬f.g0.fault=0)(e:¬f.g0.cD f.r0=0):cD f=16:=by
 unfold cD;rw[au (λk=>k m),ay (.inl (by rw[eB,dz,Bd];omega))]
def xn2(m:f.mode=3)(g:¬f.g1.fault=0)(e:¬f.g1.cD f.r1=0):cD f=16:=by
 unfold cD;rw[au (λk=>k m),ay (.inr (by rw[eB,dz,Bd];omega))]
def Kq(m:f.mode=3)(a:f.g0.fault=0\/f.g0.cD f.r0=0)(b:f.g1.fault=0\/f.g1.cD f.r1=0):cD f=0:=by
 unfold cD;rw[au (λk=>k m),Bd.2 a,Bd.2 b];rfl
def xn8(a:¬f.g0.fault=0)(b:¬f.g1.fault=0):jQ f={f with mode:=1,g0:=f.g0.rest f.r0,g1:=f.g1.rest f.r1}:=by unfold jQ mA;rw[au a,au b]
def xn7(a:¬f.g0.fault=0)(b:f.g1.fault=0):jQ f={f with mode:=1,g0:=f.g0.rest f.r0}:=by unfold jQ mA;rw[au a,ay b]
def xn6(a:f.g0.fault=0)(b:¬f.g1.fault=0):jQ f={f with mode:=1,g1:=f.g1.rest f.r1}:=by unfold jQ mA;rw[ay a,au b]
def xn5(a:f.g0.fault=0)(b:f.g1.fault=0):jQ f={f with mode:=1}:=by unfold jQ mA;rw[ay a,ay b]
def xU9(f:Fw):SCall pP 159 [f.sv] (mz (cD f) (jQ f)):=
 ic (hB (l:=[qj5]) (k:=[]) (j:=[]) (i:=[]) nN nN nN nN (⟨yJ3,trivial⟩) v8 v8 v8) 1000 (let z1:ax:=.go pA;let z0:ax:=.go (.ar (.ah z1 (.ah (.ar z1) (.ah (.all) z1))));.ah (.all) (.go (.ar (.ah z0 (.ah (.ar z0) (.ah (.all) z0))))))
  (t:=let y0:=Gu.mk 0 0 0 0 0 0 0 0 0 0 false;let y1:ak SV:=lT [.agg (o9 aP),J 16];let y2:=decide (f.g1.cD f.r1=0);.ag (f.mode != 3) (lT [.agg (o9 aP),J 14]) (rT (.ag (f.g0.fault==0) (rT (.ag (f.g1.fault==0) (lT [.agg (Fw.cells {f with mode:=1}),J 0]) (rT (rT (.ag y2 (rT (lT [.agg (Fw.cells {f with mode:=1,g1:=(f.g1.rest f.r1)}),J 0])) (.ag (f.g1.cD f.r1 != 0) y1 (rT (lT [.agg (Fw.cells {f with mode:=1,g1:=y0}),J 0])))))))) (rT (rT (.ag (f.g0.cD f.r0=0) (rT (rT (.ag (f.g1.fault==0) (lT [.agg (Fw.cells {f with mode:=1,g0:=(f.g0.rest f.r0)}),J 0]) (rT (rT (.ag y2 (rT (lT [.agg (Fw.cells {f with mode:=1,g0:=(f.g0.rest f.r0),g1:=(f.g1.rest f.r1)}),J 0])) (.ag (f.g1.cD f.r1 != 0) y1 (rT (lT [.agg (Fw.cells {f with mode:=1,g0:=(f.g0.rest f.r0),g1:=y0}),J 0]))))))))) (.ag (f.g0.cD f.r0 != 0) y1 (rT (rT (.ag (f.g1.fault==0) (lT [.agg (Fw.cells {f with mode:=1,g0:=y0}),J 0]) (rT (rT (.ag y2 (rT (lT [.agg (Fw.cells {f with mode:=1,g0:=y0,g1:=(f.g1.rest f.r1)}),J 0])) (.ag (f.g1.cD f.r1 != 0) y1 (rT (lT [.agg (Fw.cells {f with mode:=1,g0:=y0,g1:=y0}),J 0]))))))))))))))))
  (by kernel_rfl) (by
   repeat' first
    |refine x0 rfl ?_
    |refine iK (λ_=>?_) (λ_=>?_)
    |refine dI (λ_=>?_) (λ_=>?_)
    |refine o7 (λ_=>?_) (λ_=>?_)
   all_goals first
    |(exfalso;omega)
    |exact iU (xn0 (by assumption)) (by decide)
    |exact iU (xn1 (by omega) (by omega) (by assumption)) (by decide)
    |exact iU (xn2 (by omega) (by omega) (by assumption)) (by decide)
    |exact kU (Kq (by omega) (by omega) (by omega)) (xn8 (by omega) (by omega))
    |exact kU (Kq (by omega) (by omega) (by omega)) (xn7 (by omega) (by omega))
    |exact kU (Kq (by omega) (by omega) (by omega)) (xn6 (by omega) (by omega))
    |exact kU (Kq (by omega) (by omega) (by omega)) (xn5 (by omega) (by omega))) (by kernel_rfl) (by exact FY _ _)
def qj3:aB:=fC 159 λf=>.ag (cD f=0) (lT [(jQ f).sv,J 0]) (lT [.agg (o9 aP),J (cD f)])
def yJ1:qj3.ok pP:=fE (λf=>FX (xU9 f))
def m7(d:V4):V4:=(0,0,d.2.2.1,0)
def gB(d:V4):V4:=(d.1,d.2.1,0,0)
def pK(f:Fw)(d:V4):Bool:=(!bO (m7 d)||dm f (m7 d) 0)&& (!(gX f (m7 d)&&bO (gB d))||dm (n8 f (m7 d)) (gB d) 0)
variable{d:V4}
def Km:pK f d=true↔(bO (m7 d)=true->dm f (m7 d) 0=true)/\(gX f (m7 d)=true->bO (gB d)=true->dm (n8 f (m7 d)) (gB d) 0=true):=by
 unfold pK
 cases bO (m7 d)<;>cases bO (gB d)<;>cases gX f (m7 d)<;>simp
def gI(f:Fw)(d:V4):Bool:=gX f (m7 d)&&gX (n8 f (m7 d)) (gB d)
def gA(f:Fw)(d:V4):Fw:=n8 (n8 f (m7 d)) (gB d)
def nj(f:Fw)(d:V4):SV:=if gI f d=true then .tuple [(gA f d).sv,J 0]else .tuple [.agg (o9 aP),J 2]
def xr9(f:Fw)(d:V4):(nj f d).data=true:=by unfold nj;split<;>rfl
def xs0(z:bO (m7 d)=true)(o:dt f (m7 d) 0=false):SV.tuple [.agg (o9 aP),.int .i64 2] =nj f d:=by
 have e:gI f d=false:=by unfold gI;rw[nP z,o];rfl
 unfold nj;rw[e];rfl
def ZT(z:bO (m7 d)=true)(o:dt f (m7 d) 0=true)(y:bO (gB d)=true)(q:dt (p8 f (m7 d) 0 0) (gB d) 0=true):SV.tuple [.agg (p8 (p8 f (m7 d) 0 0) (gB d) 0 0).cells,.int .i64 0] =nj f d:=by
 have e:gI f d=true:=by unfold gI;rw[nP z,o,ja z,nP y,q];rfl
 have r:gA f d=p8 (p8 f (m7 d) 0 0) (gB d) 0 0:=by unfold gA;rw[ja z,ja y]
 unfold nj;rw[e,r];rfl
def ZS(z:bO (m7 d)=true)(o:dt f (m7 d) 0=true)(y:bO (gB d)=true)(q:dt (p8 f (m7 d) 0 0) (gB d) 0=false):SV.tuple [.agg (o9 aP),.int .i64 2] =nj f d:=by
 have e:gI f d=false:=by unfold gI;rw[nP z,o,ja z,nP y,q];rfl
 unfold nj;rw[e];rfl
def xr6(z:bO (m7 d)=true)(o:dt f (m7 d) 0=true)(y:bO (gB d)=false):SV.tuple [.agg (p8 f (m7 d) 0 0).cells,.int .i64 0] =nj f d:=by
 have e:gI f d=true:=by unfold gI;rw[nP z,o,uU y];rfl
 have r:gA f d=p8 f (m7 d) 0 0:=by unfold gA;rw[ja z,jy y]
 unfold nj;rw[e,r];rfl
def ZV(z:bO (m7 d)=false)(y:bO (gB d)=true)(q:dt f (gB d) 0=true):SV.tuple [.agg (p8 f (gB d) 0 0).cells,.int .i64 0] =nj f d:=by
 have e:gI f d=true:=by unfold gI;rw[uU z,jy z,nP y,q];rfl
 have r:gA f d=p8 f (gB d) 0 0:=by unfold gA;rw[jy z,ja y]
 unfold nj;rw[e,r];rfl
def ZU(z:bO (m7 d)=false)(y:bO (gB d)=true)(q:dt f (gB d) 0=false):SV.tuple [.agg (o9 aP),.int .i64 2] =nj f d:=by
 have e:gI f d=false:=by unfold gI;rw[uU z,jy z,nP y,q];rfl
 unfold nj;rw[e];rfl
def xr3(z:bO (m7 d)=false)(y:bO (gB d)=false):SV.tuple [.agg f.cells,.int .i64 0] =nj f d:=by
 have e:gI f d=true:=by unfold gI;rw[uU z,jy z,uU y];rfl
 have r:gA f d=f:=by unfold gA;rw[jy z,jy y]
 unfold nj;rw[e,r];rfl
def L8:bO (m7 d)=true↔¬d.2.2.1=0:=by unfold bO m7;simp
def sU:bO (gB d)=true↔¬d.1=0\/¬d.2.1=0:=by unfold bO gB;simp
def xV6(f:Fw)(p:V4)(h:pK f (bI p f.pos)=true):SCall pP 115 [f.sv,V4.sv p] (nj f (bI p f.pos)):=
 ic (hB (l:=[Jp,xL]) (k:=[]) (j:=[]) (i:=[]) nN nN nN nN (⟨O5,zo,trivial⟩) v8 v8 v8) 1000 (.ah (.ah (.ar (.ah (.ln 4 (.ah .all .all)) (.ln 3 (.ah (.ah .all .all) .all)))) pA) (.ah (.ln 4 (.ah .all .all)) (.ln 3 (.ah (.ah .all .all) .all))))
  (t:=let y3:=bI p f.pos;let y0:=(y3.1,y3.2.1,0,0);let y4:=p8 f (0,0,y3.2.2.1,0) 0 0;let y5:ak SV:=lT [.agg (o9 aP),J 2];let y1:ak SV:=rT (rT (.aj (dm y4 y0 0) (.ag (dt y4 y0 0) (lT [.agg (Fw.cells (p8 y4 y0 0 0)),J 0]) y5)));let y2:ak SV:=rT (rT (.aj (dm f y0 0) (.ag (dt f y0 0) (lT [.agg (Fw.cells (p8 f y0 0 0)),J 0]) y5)));rT (.ag (y3.2.2.1 != 0) (rT (.aj (dm f (0,0,y3.2.2.1,0) 0) (.ag (dt f (0,0,y3.2.2.1,0) 0) (rT (.ag (y3.1 != 0) y1 (rT (.ag (y3.2.1 != 0) y1 (lT [.agg (Fw.cells y4),J 0]))))) y5))) (rT (.ag (y3.1 != 0) y2 (rT (.ag (y3.2.1 != 0) y2 (lT [.agg (Fw.cells f),J 0])))))))
  (by kernel_rfl) (by
   obtain⟨h1,h2⟩:=Km.1 h;generalize bI p f.pos=d at h1 h2 ⊢;refine x0 rfl (dI (λa=>?_) (λa=>?_))
   .have z:=L8.2 a
    refine x0 rfl (x0 (h1 z) (t8 (λo=>?_) (λo=>xs0 z o)));have h2:=h2 ((nP z).trans o);rw[ja z]at h2;refine x0 rfl (dI (λb=>?_) (λb=>x0 rfl (dI (λc=>?_) (λc=>?_))))
    .have y:=sU.2 (.inl b)
     exact x0 rfl (x0 rfl (x0 (h2 y) (t8 (λq=>ZT z o y q) (λq=>ZS z o y q))))
    .have y:=sU.2 (.inr c)
     exact x0 rfl (x0 rfl (x0 (h2 y) (t8 (λq=>ZT z o y q) (λq=>ZS z o y q))))
    .exact xr6 z o (eB.2 λy=>by have:=sU.1 y;omega)
   .have z:bO (m7 d)=false:=eB.2 λy=>L8.1 y a
    have h2:=h2 (uU z);rw[jy z]at h2;refine x0 rfl (dI (λb=>?_) (λb=>x0 rfl (dI (λc=>?_) (λc=>?_))))
    .have y:=sU.2 (.inl b)
     exact x0 rfl (x0 rfl (x0 (h2 y) (t8 (λq=>ZV z y q) (λq=>ZU z y q))))
    .have y:=sU.2 (.inr c)
     exact x0 rfl (x0 rfl (x0 (h2 y) (t8 (λq=>ZV z y q) (λq=>ZU z y q))))
    .exact xr3 z (eB.2 λy=>by have:=sU.1 y;omega)) (by kernel_rfl) (by exact xr9 _ _)
def Rl:aB:=gU 115 λf rest=>match rest with
 |[.agg [.int .i64 a,.int .i64 b,.int .i64 c,.int .i64 d]] =>some (.aj (pK f (bI (a,b,c,d) f.pos)) (.ag (gI f (bI (a,b,c,d) f.pos)) (lT [(gA f (bI (a,b,c,d) f.pos)).sv,J 0]) (lT [.agg (o9 aP),J 2])))
 |_=>none
def YF:Rl.ok pP:=iz λf rest t ht=>by
 split at ht
 .rename_i a b c d
  cases ht;intro h;have k:=xV6 f (a,b,c,d) h;unfold nj at k;refine⟨λo=>?_,λo=>?_⟩;.rw[ay o]at k;exact k
  .rw[au (by rw[o];exact fS)]at k;exact k
 .cases ht
section
variable {f g:Fw} {line:Int} {r:V4}
def qQ2(v:VF f)(hr:oK f line=r):m7 (bI r (0,0,0,f.pos.2.2.2))=gj f line/\gB (bI r (0,0,0,f.pos.2.2.2))=kB f line:=by
 have nr:=zN (line:=line) v;rw[hr]at nr
 have b:kL (0,0,0,f.pos.2.2.2)=true:=by
  have:=fO.1 v.pos;exact wE.2 (by dsimp only;omega)
 rw[uj (iq nr) b];unfold gj kB m7 gB iC;rw[hr];dsimp only;exact⟨by rw[aip],by rw[aip,aip]⟩
def RM(v:VF f)(hi:eF f=true)(hm:f.mode=1)(hb:qH f line=true)(hr:oK f line=r)(hg:dX f line=g):
  (ak.aj (f.ma.ok&&u7 r) (.aj (pK g (bI r (0,0,0,f.pos.2.2.2))) (.ag (gI g (bI r (0,0,0,f.pos.2.2.2))) (.ai (SV.tuple [.agg (Fw.cells {gA g (bI r (0,0,0,f.pos.2.2.2))with loc:=((dh f.ma r).1,(dh f.ma r).2.1,(dh f.ma r).2.2.1)}),J 0])) (.ai (SV.tuple [.agg (o9 aP),J 2]))))).holds λx=>x=mz (gm f line) (nv f line):=by
 obtain⟨eC,eD⟩:=qQ2 v hr;have nr:=zN (line:=line) v;rw[hr]at nr
 have n1:¬eF f=false:=by rw[hi];decide
 have n2:¬¬f.mode=1:=λk=>k hm
 have n3:¬qH f line=false:=by rw[hb];decide
 have pre:pK g (bI r (0,0,0,f.pos.2.2.2))=true:=by
  rw[Km,eC,eD,<-hg];exact⟨λz=>Gs v hi (Lz v) z,λo z=>RL v hi o z⟩
 have ok:gI g (bI r (0,0,0,f.pos.2.2.2))=(gX (dX f line) (gj f line)&&gX (n8 (dX f line) (gj f line)) (kB f line)):=by unfold gI;rw[eC,eD,hg]
 have hA:gm f line=vD f line:=by unfold gm;rw[au n1,au n2]
 refine x0 (by rw[v.ma,nr];rfl) (x0 pre (t8 (λo=>?_) λo=>?_))
 .rw[ok,aH]at o
  refine kU ?_ ?_;.rw[hA];unfold vD;rw[au n3,o.1,o.2];rfl
  .unfold nv gA;rw[au n3,eC,eD,hg,hr];rfl
 .rw[ok]at o
  refine iU ?_ (by decide);rw[hA];unfold vD;rw[au n3]
  cases h1:gX (dX f line) (gj f line);.rfl
  .rw[h1,tA]at o
   rw[o];rfl
end
def xJ6(f:Fw)(line:Int)(h:u9 f=true):SCall pP 222 [f.sv,J line] (mz (gm f line) (nv f line)):=
 ic (hB (l:=[Lp,K7,Rn,Rl]) (k:=[]) (j:=[]) (i:=[]) nN nN nN nN (⟨PZ,PH,YJ,YF,trivial⟩) v8 v8 v8) 1000 (let z0:ax:=.ah pA pA;let z1:ax:=.ah .all z0;.ah .all (.ah .all (.ah (.ar (.ar (.ah (.ah (.ar z0) (.ar z0)) (.ah z1 z1)))) (.ln 3 (.ah z1 z1)))))
  (t:=let y1:=(0,0,0,f.pos.2.2.2);let y4:={f with bf:=true,pos:=y1,loc:=(0,0,0),e:=0,back:=false,ret:=f.pos};let y5:={f with bf:=true,pos:=y1,loc:=(0,0,0),e:=0,back:=false};let y6:ak SV:=lT [.agg (o9 aP),J 2];let y7:=dh f.ma f.pos;let y8:=dh f.ma f.ret;let y9:=bI f.pos y1;let dg:=bI f.ret y1;let fA:=dY (cA f.ma 3) f.pos.2.2.2;let y2:={f with bf:=true,pos:=y1,loc:=(0,0,0),e:=fA,back:=false,ret:=f.pos};let y3:={f with bf:=true,pos:=y1,loc:=(0,0,0),e:=fA,back:=false};let y0:ak SV:=rT (rT (rT (.ag (e7 f.ma f.pos.2.2.2) (.ag (!f.back) (lT [.agg (Fw.cells {f with bf:=true,pos:=y1,loc:=(0,0,0),e:=fA}),J 0]) (.aj (f.ma.ok&&u7 f.ret) (.aj (pK y3 dg) (.ag (gI y3 dg) (lT [.agg (Fw.cells { (gA y3 dg)with loc:=(y8.1,y8.2.1,y8.2.2.1)}),J 0]) y6)))) (.ag (!f.back) (lT [.agg (Fw.cells {f with bf:=true,pos:=y1,loc:=(0,0,0),e:=0}),J 0]) (.aj (f.ma.ok&&u7 f.ret) (.aj (pK y5 dg) (.ag (gI y5 dg) (lT [.agg (Fw.cells { (gA y5 dg)with loc:=(y8.1,y8.2.1,y8.2.2.1)}),J 0]) y6)))))));.ag (!eF f) (lT [.agg (o9 aP),J 18]) (.ag (f.mode != 1) (lT [.agg (o9 aP),J 14]) (.ag (line==0) (.ag (f.bf) (rT (rT (rT (.ag (e7 f.ma f.pos.2.2.2) (.aj (f.ma.ok&&u7 f.pos) (.aj (pK y2 y9) (.ag (gI y2 y9) (lT [.agg (Fw.cells { (gA y2 y9)with loc:=(y7.1,y7.2.1,y7.2.2.1)}),J 0]) y6))) (.aj (f.ma.ok&&u7 f.pos) (.aj (pK y4 y9) (.ag (gI y4 y9) (lT [.agg (Fw.cells { (gA y4 y9)with loc:=(y7.1,y7.2.1,y7.2.2.1)}),J 0]) y6))))))) y0) y0)))
  (by kernel_rfl) (by
   have v:=d7 h
   refine d8 (λi=>iU (ay i) (by decide)) λhi=>dI (λm=>iU (by unfold gm;rw[au (by rw[hi];decide),ay m]) (by decide)) λhm=>?_
   have eE:∀b,e7 f.ma f.pos.2.2.2=b->qG f=(if b=true then dY f.ma.e f.pos.2.2.2 else 0):=λb hb=>by unfold qG;rw[hb]
   have xE:¬(line=0/\f.bf=true)->oK f line=f.ret:=λn=>au n
   have Bg:line=0/\f.bf=true->oK f line=f.pos:=λn=>ay n
   have fin:∀e,qG f=e->¬(line=0/\f.bf=true)->f.back=false->SV.tuple [.agg (Fw.cells {f with bf:=true,pos:=(0,0,0,f.pos.2.2.2),loc:=(0,0,0),e:=e}),J 0] =mz (gm f line) (nv f line):=λe he n b=>by
    have hb:qH f line=false:=by
     rw[eB,dz,xO];rintro (k|k);.exact n k
     .rw[b]at k;cases k
    refine kU (qQ4 hi hm hb).1 ?_;rw[show nv f line=dX f line from ay hb,tZ (xE n) he,<-b]
   have vl:(line=0/\f.bf=true)\/f.back=true->qH f line=true:=xO.2
   have ret:∀e,qG f=e->¬(line=0/\f.bf=true)->(ak.ag (!f.back) (.ai (SV.tuple [.agg (Fw.cells {f with bf:=true,pos:=(0,0,0,f.pos.2.2.2),loc:=(0,0,0),e:=e}),J 0])) (.aj (f.ma.ok&&u7 f.ret) (.aj (pK {f with bf:=true,pos:=(0,0,0,f.pos.2.2.2),loc:=(0,0,0),e:=e,back:=false} (bI f.ret (0,0,0,f.pos.2.2.2))) (.ag (gI {f with bf:=true,pos:=(0,0,0,f.pos.2.2.2),loc:=(0,0,0),e:=e,back:=false} (bI f.ret (0,0,0,f.pos.2.2.2))) (.ai (SV.tuple [.agg (Fw.cells {gA {f with bf:=true,pos:=(0,0,0,f.pos.2.2.2),loc:=(0,0,0),e:=e,back:=false} (bI f.ret (0,0,0,f.pos.2.2.2))with loc:=((dh f.ma f.ret).1,(dh f.ma f.ret).2.1,(dh f.ma f.ret).2.2.1)}),J 0])) (.ai (SV.tuple [.agg (o9 aP),J 2])))))).holds λx=>x=mz (gm f line) (nv f line):=λe he n=>
    d8 (λb=>fin e he n b) λb=>RM v hi hm (vl (.inr b)) (xE n) (tZ (xE n) he)
   refine iK (λl=>t8 (λo=>?_) λo=>?_) λl=>?_
   .have y:line=0/\f.bf=true:=⟨l,o⟩
    refine x0 rfl (x0 rfl (x0 rfl (t8 (λu=>?_) λu=>?_)));.exact RM v hi hm (vl (.inl y)) (Bg y) (tZ (Bg y) (eE _ u))
    .exact RM v hi hm (vl (.inl y)) (Bg y) (tZ (Bg y) (eE _ u))
   .have n:¬(line=0/\f.bf=true):=λn=>by rw[o]at n;cases n.2
    exact x0 rfl (x0 rfl (x0 rfl (t8 (λu=>ret _ (eE _ u) n) λu=>ret _ (eE _ u) n)))
   .have n:¬(line=0/\f.bf=true):=λn=>l n.1
    exact x0 rfl (x0 rfl (x0 rfl (t8 (λu=>ret _ (eE _ u) n) λu=>ret _ (eE _ u) n)))) (by kernel_rfl) (by exact FY _ _)
def vc(f:Fw)(line:Int)(c:Gc.C):Bool:=u9 f&& (c.valid&&0<=line)
def OB{c:Gc.C}:vc f line c=true↔u9 f=true/\c.valid=true/\0<=line:=by simp only[vc,aH,aV]
def qe4:aB:=gU 221 λf rest=>match rest with
 |[.int .i64 line,.agg [.int .i64 a0,.int .i64 a1,.int .i64 a2,.int .i64 a3,.int .i64 a4,.int .i64 a5,.int .i64 a6,.int .i64 a7]] =>some (.aj (vc f line ⟨a0,a1,a2,a3,a4,a5,a6,a7⟩) (.ag (gG f line ⟨a0,a1,a2,a3,a4,a5,a6,a7⟩=0) (lT [(ni f line ⟨a0,a1,a2,a3,a4,a5,a6,a7⟩).sv,J 0]) (lT [.agg (o9 aP),J (gG f line ⟨a0,a1,a2,a3,a4,a5,a6,a7⟩)])))
 |_=>none
def qa5:aB:=gU 222 λf rest=>match rest with
 |[.int .i64 line] =>some (.aj (u9 f) (.ag (gm f line=0) (lT [(nv f line).sv,J 0]) (lT [.agg (o9 aP),J (gm f line)])))
 |_=>none
def yD7:qe4.ok pP:=iz λf rest t ht=>by
 split at ht
 .cases ht
  intro h;obtain⟨h1,h2,h3⟩:=OB.1 h;exact FX (xO6 f _ ⟨_,_,_,_,_,_,_,_⟩ h1 h2 h3)
 .cases ht
def yA0:qa5.ok pP:=iz λf rest t ht=>by
 split at ht
 .cases ht
  exact λh=>FX (xJ6 f _ h)
 .cases ht
section
variable {f:Fw} {line:Int} {c:Gc.C}
def y57(k:c.code=0\/c.code=1):cN f line c=ni f line c:=by rw[rk (by omega),ay k]
def y55(k:c.code=4):cN f line c={f with bt:=c.s}:=by rw[rk (by omega),au (by omega),ay k]
def y56(k:c.code=28):cN f line c=nv f line:=by rw[rk (by omega),au (by omega),au (by omega),ay k]
def y46(k:c.code=1104):cN f line c={f with c0:=f.c0.fM c.s}:=by rw[rk (by omega),au (by omega),au (by omega),au (by omega),ay k]
def y48(k:c.code=1109):cN f line c={f with c0:=f.c0.fM c.s,waits:=rC f.waits 1}:=by rw[rk (by omega),au (by omega),au (by omega),au (by omega),au (by omega),ay k]
def y49(k:c.code=1140):cN f line c={f with c1:=f.c1.fM c.s}:=by rw[rk (by omega),au (by omega),au (by omega),au (by omega),au (by omega),au (by omega),ay k]
def y50(k:c.code=1190):cN f line c={f with c1:=f.c1.fM c.s,waits:=rC f.waits 2}:=by rw[rk (by omega),au (by omega),au (by omega),au (by omega),au (by omega),au (by omega),au (by omega),ay k]
def jz0(h:c.valid=true)(k:c.code=1107):c.s=0:=by
 have h5:=Sw h;unfold Gc.okW at h5;rw[O7]at h5
 have hb:c.has=0:=by
  unfold Gc.C.valid Gc.C.pre at h;simp only[aH]at h;have q:=h.1.2.2
  have a:Gc.rU c.code=true:=by rw[k];decide
  have m:Gc.fk c.code=0:=by rw[k];decide
  rw[a,m]at q
  simpa using q
 have b0:Gc.bit c.has 5=0:=by rw[hb];decide
 rw[ay b0]at h5;exact cI.1 h5
def y47(h:c.valid=true)(k:c.code=1107):cN f line c={f with fo:=0}:=by rw[Ow (.inr k),jz0 h k]
def y54(k:c.code=4)(m:¬f.mode=3)(w:f.waits=0/\f.bt=0)(i:eF f=false):dR f line c=18:=by rw[IR k m w];exact au (by rw[i];exact fS)
def y53(k:c.code=4)(m:¬f.mode=3)(w:f.waits=0/\f.bt=0)(i:eF f=true):dR f line c=0:=by rw[IR k m w];exact ay i
end
def xR9(f:Fw)(line:Int)(c:Gc.C)(h:vc f line c=true)(m:¬f.mode=3)(w:f.waits=0/\f.bt=0)(a:¬c.code=1112/\¬c.code=1999/\¬c.code=1024/\¬c.code=1025):SCall pP 161 [f.sv,J line,c.sv] (mz (dR f line c) (cN f line c)):=
 ic (hB (l:=[qe4,qa5,Lp,z33]) (k:=[]) (j:=[]) (i:=[]) nN nN nN nN (⟨yD7,yA0,PZ,ys0,trivial⟩) v8 v8 v8) 1000 (let z1:ax:=.ah (.ar pA) pA;let z2:ax:=.ah (.all) (.all);let z0:ax:=.ah z2 (.ah z2 (.ah z2 (.ah z1 (.ah z1 (.ah z1 (.ah z1 (.ah (.all) z2)))))));.ah z0 z0)
  (t:=let y1:ak SV:=.aj (vc f line c) (.ag (gG f line c=0) (lT [.agg (Fw.cells (ni f line c)),J 0]) (lT [.agg (o9 aP),J (gG f line c)]));let y2:ak SV:=lT [.agg (o9 aP),J 1];let y0:ak SV:=.ag (c.code==4) (.ag (!eF f) (lT [.agg (o9 aP),J 18]) (lT [.agg (Fw.cells {f with bt:=c.s}),J 0])) (.ag (c.code==28) (.aj (u9 f) (.ag (gm f line=0) (lT [.agg (Fw.cells (nv f line)),J 0]) (lT [.agg (o9 aP),J (gm f line)]))) (.ag (c.code==1104) (rT (.ag (mS f.c0 c.s) (rT (lT [.agg (Fw.cells {f with c0:=(f.c0.fM c.s)}),J 0])) y2)) (.ag (c.code==1109) (rT (.ag (mS f.c0 c.s) (rT (lT [.agg (Fw.cells {f with waits:=(i64.wrap (↑(BitVec.ofInt 64 f.waits |||BitVec.ofInt 64 1).toNat:Int)),c0:=(f.c0.fM c.s)}),J 0])) y2)) (.ag (c.code==1140) (rT (.ag (mS f.c1 c.s) (rT (lT [.agg (Fw.cells {f with c1:=(f.c1.fM c.s)}),J 0])) y2)) (.ag (c.code==1190) (rT (.ag (mS f.c1 c.s) (rT (lT [.agg (Fw.cells {f with waits:=(i64.wrap (↑(BitVec.ofInt 64 f.waits |||BitVec.ofInt 64 2).toNat:Int)),c1:=(f.c1.fM c.s)}),J 0])) y2)) (.ag (c.code==1106) (lT [.agg (Fw.cells {f with fo:=c.s}),J 0]) (.ag (c.code==1107) (lT [.agg (Fw.cells {f with fo:=0}),J 0]) (lT [.agg (Fw.cells f),J 0]))))))));.ag (c.code==0) (.ag (c.code==0) y1 y0) (.ag (c.code==1) y1 y0))
  (by kernel_rfl) (by
   obtain⟨hv,hc,hl⟩:=OB.1 h;have v:=d7 hv;have s:¬c.code=4->0<=c.s/\c.s<=400000:=Sy hc
   repeat' first
    |refine iK (λ_=>?_) (λ_=>?_)
    |refine o7 (λ_=>?_) (λ_=>?_)
    |refine x0 rfl ?_
    |refine x0 h ?_
    |refine x0 hv ?_
    |refine d8 (λ_=>?_) (λ_=>?_)
    |refine t8 (λ_=>?_) (λ_=>?_)
   all_goals first
    |(exfalso;omega)
    |(exfalso;have:=OA hc;omega)
    |exact kU ((IP (by omega) m w).trans (by assumption)) (y57 (by omega))
    |exact iU (IP (by omega) m w) (by assumption)
    |exact kU ((IQ (by omega) m w).trans (by assumption)) (y56 (by omega))
    |exact iU (IQ (by omega) m w) (by assumption)
    |exact iU (y54 (by omega) m w (by assumption)) (by decide)
    |exact kU (y53 (by omega) m w (by assumption)) (y55 (by omega))
    |exact kU (yW (by omega) a m w) (y46 (by omega))
    |exact kU (yW (by omega) a m w) (y48 (by omega))
    |exact kU (yW (by omega) a m w) (y49 (by omega))
    |exact kU (yW (by omega) a m w) (y50 (by omega))
    |exact kU (yW (by omega) a m w) (Ow (by omega))
    |exact kU (yW (by omega) a m w) (y47 hc (by omega))
    |exact absurd (wG.2 ⟨v.c0,s (by omega)⟩) (by rw[EW];assumption)
    |exact absurd (wG.2 ⟨v.c1,s (by omega)⟩) (by rw[EW];assumption)) (by kernel_rfl) (by exact FY _ _)
def Ka(f:Fw)(line:Int)(c:Gc.C):Bool:=vc f line c&& ((¬f.mode=3)&& (f.waits=0&& (f.bt=0&& ((¬c.code=1112)&& ((¬c.code=1999)&& ((¬c.code=1024)&&(¬c.code=1025)))))))
def qh2:aB:=gU 161 λf rest=>match rest with
 |[.int .i64 line,.agg [.int .i64 a0,.int .i64 a1,.int .i64 a2,.int .i64 a3,.int .i64 a4,.int .i64 a5,.int .i64 a6,.int .i64 a7]] =>some (.aj (Ka f line ⟨a0,a1,a2,a3,a4,a5,a6,a7⟩) (.ag (dR f line ⟨a0,a1,a2,a3,a4,a5,a6,a7⟩=0) (lT [(cN f line ⟨a0,a1,a2,a3,a4,a5,a6,a7⟩).sv,J 0]) (lT [.agg (o9 aP),J (dR f line ⟨a0,a1,a2,a3,a4,a5,a6,a7⟩)])))
 |_=>none
def Y4{c:Gc.C}:Ka f line c=true↔vc f line c=true/\¬f.mode=3/\f.waits=0/\f.bt=0/\¬c.code=1112/\¬c.code=1999/\¬c.code=1024/\¬c.code=1025:=by simp only[Ka,aH,aV]
def yG9:qh2.ok pP:=iz λf rest t ht=>by
 split at ht
 .cases ht
  intro h;obtain⟨h1,h2,h3,h4,h5⟩:=Y4.1 h;exact FX (xR9 f _ ⟨_,_,_,_,_,_,_,_⟩ h1 h2 ⟨h3,h4⟩ h5)
 .cases ht
section
variable {f:Fw} {line:Int} {c:Gc.C}
def y58(k:c.code=1999):cN f line c=jQ f:=by unfold cN;rw[au (by omega),ay k]
def y52(k:c.code=1025)(m:¬f.mode=3):dR f line c=(if f.mode=1 then 0 else 14)/\cN f line c={f with mode:=2}:=by
 unfold dR cN;exact⟨by rw[au (by omega),au (by omega),au m,ay k],by rw[au (by omega),au (by omega),ay k]⟩
def y51(k:c.code=1024)(m:¬f.mode=3):dR f line c=(if f.mode=2 then 0 else 14)/\cN f line c={f with mode:=1}:=by
 unfold dR cN;exact⟨by rw[au (by omega),au (by omega),au m,au (by omega),ay k],by rw[au (by omega),au (by omega),au (by omega),ay k]⟩
end
def xB9(f:Fw)(line:Int)(c:Gc.C)(h:vc f line c=true)(a:¬c.code=1112):SCall pP 77 [f.sv,J line,c.sv] (mz (dR f line c) (cN f line c)):=
 ic (hB (l:=[qj3,qh2]) (k:=[]) (j:=[]) (i:=[]) nN nN nN nN (⟨yJ1,yG9,trivial⟩) v8 v8 v8) 1000 (.ah (.ah .all .all) (.ah .all (.ah (.ah .all .all) (.ah (.ah .all .all) (.ah (.ln 3 pA) (.ln 3 (.ah .all (.ah .all .all))))))))
  (t:=.ag (c.code==1999) (.ag (cD f=0) (lT [.agg (Fw.cells (jQ f)),J 0]) (lT [.agg (o9 aP),J (cD f)])) (.ag (f.mode==3) (lT [.agg (o9 aP),J 16]) (.ag (c.code==1025) (.ag (f.mode != 1) (lT [.agg (o9 aP),J 14]) (lT [.agg (Fw.cells {f with mode:=2}),J 0])) (.ag (c.code==1024) (.ag (f.mode != 2) (lT [.agg (o9 aP),J 14]) (lT [.agg (Fw.cells {f with mode:=1}),J 0])) (.ag (f.waits != 0) (lT [.agg (o9 aP),J 18]) (.ag (f.bt != 0) (lT [.agg (o9 aP),J 18]) (.aj (Ka f line c) (.ag (dR f line c=0) (lT [.agg (Fw.cells (cN f line c)),J 0]) (lT [.agg (o9 aP),J (dR f line c)])))))))))
  (by kernel_rfl) (by
   refine iK (λk=>o7 (λe=>kU ((E9 k).trans e) (y58 k)) λe=>iU (E9 k) e) λk=>iK (λm=>iU (Oi a k m) (by decide)) λm=>iK (λp=>?_) λp=>iK (λq=>?_) λq=>?_
   .have d:=y52 (line:=line) p m
    exact dI (λn=>iU (d.1.trans (au n)) (by decide)) λn=>kU (d.1.trans (ay n)) d.2
   .have d:=y51 (line:=line) q m
    exact dI (λn=>iU (d.1.trans (au n)) (by decide)) λn=>kU (d.1.trans (ay n)) d.2
   .have aa:¬c.code=1112/\¬c.code=1999/\¬c.code=1024/\¬c.code=1025:=⟨a,k,q,p⟩
    refine dI (λw=>iU (IN aa m (.inl w)) (by decide)) λw=>dI (λd=>iU (IN aa m (.inr d)) (by decide)) λd=>x0 (Y4.2 ⟨h,m,w,d,aa⟩) (o7 (λe=>kU e rfl) λe=>iU rfl e)) (by kernel_rfl) (by exact FY _ _)
def Fh(f:Fw)(line:Int)(c:Gc.C):Bool:=vc f line c&&(¬c.code=1112)
def z50:aB:=gU 77 λf rest=>match rest with
 |[.int .i64 line,.agg [.int .i64 a0,.int .i64 a1,.int .i64 a2,.int .i64 a3,.int .i64 a4,.int .i64 a5,.int .i64 a6,.int .i64 a7]] =>some (.aj (Fh f line ⟨a0,a1,a2,a3,a4,a5,a6,a7⟩) (.ag (dR f line ⟨a0,a1,a2,a3,a4,a5,a6,a7⟩=0) (lT [(cN f line ⟨a0,a1,a2,a3,a4,a5,a6,a7⟩).sv,J 0]) (lT [.agg (o9 aP),J (dR f line ⟨a0,a1,a2,a3,a4,a5,a6,a7⟩)])))
 |_=>none
def WJ{c:Gc.C}:Fh f line c=true↔vc f line c=true/\¬c.code=1112:=by simp only[Fh,aH,aV]
def yu5:z50.ok pP:=iz λf rest t ht=>by
 split at ht
 .cases ht
  intro h;obtain⟨h1,h2⟩:=WJ.1 h;exact FX (xB9 f _ ⟨_,_,_,_,_,_,_,_⟩ h1 h2)
 .cases ht
section
variable {f g:Fw} {line:Int} {c:Gc.C}
def Oh(h:line=0\/c.code=1112):sj g line c=mH g:=ay h
def zY8(h:¬line=0)(k:¬c.code=1112):sj g line c=mH {g with line:=line}:=by unfold sj;rw[au (by omega)];rfl
def IC(v:u9 f=true)(hc:c.valid=true)(hl:line=0\/line=f.line+1)(hm:line<=1099511627776)(e:dR f line c=0)(h:sj (cN f line c) line c=g):SV.tuple [.agg g.cells,.int .i64 0] =ri f line c:=by
 rw[N8 v hc hl hm,Wf e rfl,h];rfl
def zh3(v:u9 f=true)(hc:c.valid=true)(hl:line=0\/line=f.line+1)(hm:line<=1099511627776)(e:¬dR f line c=0):SV.tuple [.agg (o9 aP),.int .i64 (dR f line c)] =ri f line c:=by
 rw[N8 v hc hl hm];exact yX rfl e
def zh8(h:¬line=0)(k:c.code=1112):sj (cN f line c) line c=mH (ui {f with line:=line}):=by rw[Oh (.inr k),IU k,q76 h]
def zh7(h:line=0)(k:c.code=1112):sj (cN f line c) line c=mH (ui f):=by rw[Oh (.inr k),IU k,q74 h]
end
def xz6(f:Fw)(line:Int)(c:Gc.C)(hh:dN c.has=true):SCall pP 25 [f.sv,J line,c.sv] (ri f line c):=
 ic (hB (l:=[Bi,qa2,z50,ql9,qn2]) (k:=[]) (j:=[]) (i:=[]) nN nN nN nN (⟨CU,yz7,yu5,yL9,yN6,trivial⟩) v8 v8 v8) 1000 (let z1:ax:=.ah .all .all;let z0:ax:=.ah .all (.ah z1 (.ah (.ar z1) (.ah .all z1)));.ah (.ln 11 pA) (.ln 3 (.ah (.ln 7 pA) (.ar (.ar (.ah (.ln 7 (.ah (.ar (.ar pA)) (.ar (.ar z0)))) (.ln 10 z0)))))))
  (t:=let y2:ak SV:=lT [.agg (o9 aP),J 1];let y3:=(((0,0,aP.mo.1.1.2.2),0,0,aP.mo.1.2.2.2),aP.mo.2);let y1:=mH ({aP with ma:=(Ma.mk aP.ma.x aP.ma.y aP.ma.z aP.ma.e false 0),mode:=0,bf:=false,pos:=(0,0,aP.pos.2.2),loc:=(0,aP.loc.2),e:=0,bH:=0,queue:=[],lines:=[],mo:=y3,aT:=false,bL:=0,back:=false,ret:=(0,0,aP.ret.2.2),bt:=0,waits:=0,fo:=0,line:=0,aU:=0,bc:=0,r0:=0,r1:=0});let y0:ak SV:=.ag (line>1099511627776) y2 (.ag (c.code==1112) (.ag (line != 0) (.aj (f4 ({f with line:=line})) (lT [.agg (Fw.cells (mH (ui ({f with line:=line})))),J 0])) (.aj (f4 f) (lT [.agg (Fw.cells (mH (ui f))),J 0]))) (.aj (Fh f line c) (.ag (dR f line c=0) (.ag (line != 0) (lT [.agg (Fw.cells (mH ({ (cN f line c)with line:=line}))),J 0]) (lT [.agg (Fw.cells (mH (cN f line c))),J 0])) (.ag (dR f line c != 0) (lT [.agg (o9 aP),J (dR f line c)]) (.ag (line != 0) (lT [.agg (Fw.cells (mH ({aP with ma:=(Ma.mk aP.ma.x aP.ma.y aP.ma.z aP.ma.e false 0),mode:=0,bf:=false,pos:=(0,0,aP.pos.2.2),loc:=(0,aP.loc.2),e:=0,bH:=0,queue:=[],lines:=[],mo:=y3,aT:=false,bL:=0,back:=false,ret:=(0,0,aP.ret.2.2),bt:=0,waits:=0,fo:=0,line:=line,aU:=0,bc:=0,r0:=0,r1:=0}))),J 0]) (lT [.agg [J 0,J 0,J 0,J 0,J 0,J 0,J 0,J 0,J 0,J 0,J 0,J 0,J 0,J 0,J 0,J 0,J 0,J 0,J 0,J 0,J 0,J 0,J 0,J 0,J 0,J 0,J 0,J 0,.bool false,J 0,J 0,.bool false,J 0,J 0,J 0,J 0,J 0,J 0,J 0,J 0,J 0,.list w9 y1.queue,.list (Ty.int i64) y1.lines,J 0,J 0,J 0,J 0,J 0,J 0,J 0,J 0,J 0,J 0,.bool false,J 0,.bool false,J 0,J 0,J 0,J 0,J 0,J 0,J 0,J 0,J 0,J 0,J 0,J 0,J 0,J 0,J 0,J 0,J 0,J 0,J 0,J 0,J 0,J 0,J 0,J 0,J 0,J 0,J 0,J 0,.bool false,J 0,J 0,J 0,J 0,J 0,J 0,J 0,J 0,J 0,J 0,.bool false,J 0,J 0,J 0,J 0,J 0,J 0],J 0]))))));.ag (!u9 f) y2 (.ag (!c.vw) y2 (.ag (line != 0) (.ag (line != i64.wrap (f.line+1)) y2 y0) y0)))
  (by kernel_rfl) (by
   rw[<-Gc.atQ (pJ.1 hh).1 (pJ.1 hh).2]
   refine d8 (λv=>wJ (.inl v)) λv=>d8 (λhc=>wJ (.inr (.inl hc))) λhc=>?_
   have vf:=d7 v;have n:=vf.gK;have w:i64.wrap (f.line+1)=f.line+1:=aG (by omega) (by omega);rw[w]
   have cp:0<=line->¬c.code=1112->Fh f line c=true:=λl k=>WJ.2 ⟨OB.2 ⟨v,hc,l⟩,k⟩
   repeat' first
    |refine iK (λ_=>?_) (λ_=>?_)
    |refine dI (λ_=>?_) (λ_=>?_)
    |refine o7 (λ_=>?_) (λ_=>?_)
    |refine x0 (cp (by omega) (by assumption)) ?_
    |refine x0 vf.shape ?_
    |refine x0 (ja5 vf.shape (by omega)) ?_
   all_goals first
    |(exfalso;omega)
    |exact wJ (.inr (.inr (.inl ⟨by assumption,by assumption⟩)))
    |exact wJ (.inr (.inr (.inr (by omega))))
    |exact IC v hc (by omega) (by omega) (Ol (by assumption)) (zh8 (by assumption) (by assumption))
    |exact IC v hc (by omega) (by omega) (Ol (by assumption)) (zh7 (by assumption) (by assumption))
    |exact IC v hc (by omega) (by omega) (by assumption) (zY8 (by assumption) (by assumption))
    |exact IC v hc (by omega) (by omega) (by assumption) (Oh (by omega))
    |exact zh3 v hc (by omega) (by omega) (by assumption)) (by kernel_rfl) (by exact Oa)
def z31:aB:=gU 25 λf rest=>match rest with
 |[.int .i64 line,.agg [.int .i64 a0,.int .i64 a1,.int .i64 a2,.int .i64 a3,.int .i64 a4,.int .i64 a5,.int .i64 a6,.int .i64 a7]] =>some (.aj (dN a1) (.ag (eZ f line ⟨a0,a1,a2,a3,a4,a5,a6,a7⟩=0) (lT [(jc f line ⟨a0,a1,a2,a3,a4,a5,a6,a7⟩).sv,J 0]) (lT [aP.sv,J (eZ f line ⟨a0,a1,a2,a3,a4,a5,a6,a7⟩)])))
 |_=>none
def yr8:z31.ok pP:=iz λf rest t ht=>by
 split at ht<;>cases ht;exact λh=>VQ (xz6 f _ ⟨_,_,_,_,_,_,_,_⟩ h)
variable{n:Int}
def jG7(h:(Lit.int .i64 n).wf=true): -9223372036854775808<=n/\n<=9223372036854775807:=by
 have h:((-9223372036854775808:Int)<=n&&n<=(9223372036854775807:Int))=true:=h
 simpa using h
def MS{x:Fw}(h:u9 x=true):eu x=true:=by
 have v:=d7 h;have l:=v.len;have k:=v.lens;unfold eu De Dd;rw[aH,aV,aV];omega
def Y3(l:Fl):Bool:=(l.aC.all λp=>decide ((p.length:Int)<=100))&&(l.aC.length:Int)<=20
def y94{l:Fl}:Y3 l=true↔(∀i,i<l.aC.length->((l.aC.getD i []).length:Int)<=100)/\(l.aC.length:Int)<=20:=by
 simp only[Y3,aH,nM,aV];refine and_congr ⟨λh i hi=>?_,λh x hx=>?_⟩ Iff.rfl;.rw[cK,cc hi];exact h _ (Cb hi)
 .obtain⟨i,hi,rfl⟩:=NE hx
  have:=h i hi;rw[cK,cc hi]at this;exact this
def HR(x:nO):Int:=opN x.1
def xS(l:List nO)(m:Int):Bool:=(l.all λx=>decide (HR x<=40))&&(l.length:Int)<=m
def LU{l:List nO}{m:Int}:xS l m=true↔(∀i,i<l.length->HR (l.getD i bo)<=40)/\(l.length:Int)<=m:=by
 simp only[xS,aH,nM,aV];refine and_congr ⟨λh i hi=>?_,λh x hx=>?_⟩ Iff.rfl;.rw[cK,cc hi];exact h _ (Cb hi)
 .obtain⟨i,hi,rfl⟩:=NE hx
  have:=h i hi;rw[cK,cc hi]at this;exact this
theorem qA2(l:List nO)(m:Int)(hl:l.length<=9223372036854775807):∀ (k i:Nat),i+k=l.length->(∀t,t<i->HR (l.getD t bo)<=40)->
  t9 pP (x9 pP 52) (.bool (xS l m)) (x8 pP 52 0) (x7 28 [(0,LE l),(1,J m),(5,J i)]) []
 |k,i,hi,hb=>by
  refine o6 Ed (n:=1000) (hint:=.unit) (keep:=x6 28 [0,1,5]) (p:=qA1) rfl ?_;erw [fe1 l m i]
  have t0:(i:Int).toNat=i:=by omega
  have fin:(¬(i:Int)<l.length\/¬(i:Int)<m)->SV.bool ((l.length:Int)<=m)=.bool (xS l m):=λh=>by
   refine rQ SV.bool (uQ.2 ?_);rw[LU,aV];refine⟨λa=>⟨λt ht=>hb t (by omega),a⟩,λa=>a.2⟩
  rw[t0]
  match k,hi with
  |0,hi=>exact o7 (λa=>absurd a (by omega)) λa=>fin (.inl a)
  |k+1,hi=>
   have w1:i64.wrap ((i:Int)+1)=((i+1:Nat):Int):=by rw[aG (by omega) (by omega)];omega
   rw[w1]
   refine o7 (λa=>o7 (λb=>x0 (by simp;omega) (o7 (λc=>?_) (λc=>?_))) λb=>fin (.inr b)) λa=>fin (.inl a)
   .show SV.bool false=_
    refine rQ SV.bool (Eq.symm (eB.2 λh=>?_));have:=(LU.1 h).1 i (by omega);have c:HR (l.getD i bo)>40:=c;omega
   .refine⟨o5 _ _,qA2 l m hl k (i+1) (by omega) λt ht=>?_⟩
    rcases jv t i with q|q
    .exact hb t q
    .obtain rfl:t=i:=by omega
     have c:¬HR (l.getD t bo)>40:=c;omega
def xF5(l:List nO)(m:Int)(hl:l.length<=9223372036854775807):SCall pP 52 [LE l,J m] (.bool (xS l m)):=by
 refine s8 rfl rfl (by kernel_rfl) (o6 Ed (n:=1000) (hint:=.unit) (keep:=x6 28 [0,1,5]) (p:=qA0) (boxes:=[]) rfl ?_);have q:=fe0 l m;unfold v6 v7 at q;erw [q];exact⟨o5 _ _,qA2 l m hl l.length 0 (by omega) λt ht=>absurd ht (tu _)⟩
def LY(l:List nO):Bool:=Nat.ble l.length 9223372036854775807
def q61{l:List nO}:LY l=true↔l.length<=9223372036854775807:=by unfold LY;rw[UQ]
def z76:aB:=⟨52,λargs=>match args with
 |[.list (.pair (.pair (.int .i64) (.pair .bool (.pair (.pair (.int .i64) (.pair (.int .i64) (.pair (.int .i64) (.pair (.int .i64) (.pair (.int .i64) (.pair (.int .i64) (.pair (.int .i64) (.int .i64)))))))) (.pair (.int .i64) (.pair (.int .i64) (.int .i64)))))) (.pair (.int .i64) (.int .i64))) l,.int .i64 m] =>some (.aj (LY l) (.ai (.bool (xS l m))))
 |_=>none⟩
def yx0:z76.ok pP:=λargs t ht=>by
 simp only[z76]at ht
 split at ht
 .cases ht
  exact λh=>xF5 _ _ (q61.1 h)
 .cases ht
theorem qG8(l:Fl)(hl:l.aC.length<=1000):∀ (k i:Nat),i+k=l.aC.length->
  t9 pP (x9 pP 45) (.bool true) (x8 pP 45 0) (x7 52 [(2,.ptr 0 0),(3,.ptr 1 0),(36,J l.aC.length),(37,J i)]) [some (.cells l.cells),some (.cells l.cells)]
 |k,i,hi=>by
  refine o6 Ed (n:=1000) (hint:=.unit) (keep:=x6 52 [2,3,36,37]) (p:=qG2) rfl ?_;erw [fs1 l i]
  have t0:(i:Int).toNat=i:=by omega
  rw[t0]
  match k,hi with
  |0,hi=>exact o7 (λa=>absurd a (by omega)) λa=>rfl
  |k+1,hi=>
   have w1:i64.wrap ((i:Int)+1)=((i+1:Nat):Int):=by rw[aG (by omega) (by omega)];omega
   rw[w1]
   have an:∀{a b:Bool},a=true->b=true->(a&&b)=true:=λha hb=>by rw[ha,hb];rfl
   have bd:(0<=(i:Int)&&(i:Int)<l.aC.length)=true:=an (bn (by omega)) (bn (by omega))
   exact o7 (λ_=>x0 bd (x0 bd (d8 (λq=>absurd q (by simp)) λ_=>⟨o5 _ _,qG8 l hl k (i+1) (by omega)⟩))) λa=>absurd (by omega) a
def xX2(l:Fl)(h:o4 l=true):SCall pP 45 [l.sv,l.sv] (.bool true):=by
 have h:=bG h;refine s8 rfl rfl (by kernel_rfl) (o6 Ed (n:=1000) (hint:=.unit) (keep:=x6 52 [2,3,36,37]) (p:=qG1) (boxes:=[]) rfl ?_);have q:=fs0 l;unfold v6 v7 at q;erw [q]
 exact dI (λq=>absurd rfl q) λ_=>dI (λq=>absurd rfl q) λ_=>d8 (λq=>absurd q (by simp)) λ_=>dI (λq=>absurd rfl q) λ_=>⟨o5 _ _,qG8 l h l.aC.length 0 (by omega)⟩
noncomputable def Ct(x y:Fl):Bool:=@decide (x=y) (Classical.propDecidable _)
def Og(x:Fl):Ct x x=true:=@decide_eq_true _ (Classical.propDecidable _) rfl
def zZ4{x y:Fl}(h:Ct x y=true):x=y:=@of_decide_eq_true _ (Classical.propDecidable _) h
noncomputable def Bj:aB:=⟨45,λargs=>match args with
 |[.agg [.list .str p,.int .i64 a,.bool d,.int .i64 k],.agg [.list .str p',.int .i64 a',.bool d',.int .i64 k']] =>some (.aj (Ct ⟨p,a,d,k⟩ ⟨p',a',d',k'⟩) (.aj (o4 ⟨p,a,d,k⟩) (.ai (.bool true))))
 |_=>none⟩
def yK7:Bj.ok pP:=λargs t ht=>by
 simp only[Bj]at ht
 split at ht
 .cases ht
  intro h k;have e:=zZ4 h;injection e with e1 e2 e3 e4;subst e1;subst e2;subst e3;subst e4;exact xX2 _ k
 .cases ht
theorem xB3(f:Fw):SCall pP 30 [f.sv] (tC f):=
 ic (hB (l:=[Bi,ql8]) (k:=[]) (j:=[]) (i:=[]) nN nN nN nN (⟨CU,yL8,trivial⟩) v8 v8 v8) 1000 (.ah (.ln 15 pA) (.ar (.ar (.ah (.ln 12 pA) (.ln 4 (.ah (.ln 7 pA) (.ln 3 (.ah (.ln 3 pA) (.ln 3 (.ah .all (.ah .all .all)))))))))))
  (t:=let y0:ak SV:=lT [.agg (Fw.cells f),.bool false];let y1:=(↑f.queue.length:Int);let y2:=(↑f.lines.length:Int);.ag (!u9 f) y0 (.ag (f.aT) y0 (.ag (y1==0) y0 (.ag (f.mode==3) y0 (.ag (f.bt != 0) y0 (.aj (0<y1) (.ag (pX (f.queue.getD 0 aM) f.ma.aU) (.aj (0<y2) (.aj (1<=y1) (.aj (1<=y2) (lT [.agg (Fw.cells {f with queue:=(List.drop 1 f.queue),lines:=(List.drop 1 f.lines),mo:=(rF (f.queue.getD 0 aM) f.ma.aU),aT:=true,bL:=(f.lines.getD 0 0)}),.bool true])))) (.aj (0<y2) (.aj (1<=y1) (.aj (1<=y2) (lT [.agg (Fw.cells {f with queue:=(List.drop 1 f.queue),lines:=(List.drop 1 f.lines),mo:=(((0,0,0,0),0,0,0,0),0,0),aT:=true,bL:=(f.lines.getD 0 0)}),.bool true])))))))))))
  (by kernel_rfl) (by
   cases v:u9 f with
   |false=>
    refine d8 (λ_=>U9 v) λk=>(by cases k)
   |true=>
    have vf:=d7 v;have ci:=CG (f:=f)
    refine d8 (λk=>(by cases k)) λ_=>?_
    cases hc:mY f
    .have hn:¬(f.aT=false/\¬f.queue.length=0/\¬f.mode=3/\f.bt=0):=λa=>by rw[ci.2 a]at hc;cases hc
     simp only[ak.holds,sM];(repeat' (first|apply aX|intro _));
     all_goals first
      |(exfalso;first|omega|grind)
      |exact U8 v hc
    .have hy:=ci.1 hc
     have sm:=S1 v hc
     have e:SV.tuple [.agg (oT f).cells,.bool true] =tC f:=by rw[<-U7 v hc,NQ hc]
     have sm1:=sm.1;unfold oT at e;rw[S2 sm.1]at e;have lq:=vf.lens;simp only[ak.holds,sM];(repeat' (first|apply aX|intro _));
     all_goals first
      |(exfalso;first|omega|grind)
      |omega
      |exact e) (by kernel_rfl) (by rfl)
def OT:aB:=fC 30 λf=>.ai (tC f)
def Xs:OT.ok pP:=fE (λf=>xB3 f)
def LD(f:Fw):SV:=.tuple [(ji f).sv,.agg [J (AT f),J (AS f)],.bool (rA f)]
def LC{b:Bool}(h:rA f=b):SV.tuple [.agg (ji f).cells,.agg [.int .i64 (AT f),.int .i64 (AS f)],.bool b] =LD f:=by unfold LD;rw[h];rfl
def ya5(a:f.g0.fault=0)(b:¬(f.g0.step f.r0 (f.c0.step f.r0).target (f.c0.cM f.r0)).fault=0):rA f=true:=CQ.2 (.inl ⟨a,b⟩)
def ya6(a:f.g1.fault=0)(b:¬(f.g1.step f.r1 (f.c1.step f.r1).target (f.c1.cM f.r1)).fault=0):rA f=true:=CQ.2 (.inr ⟨a,b⟩)
def ya2(a:¬f.g0.fault=0\/(f.g0.step f.r0 (f.c0.step f.r0).target (f.c0.cM f.r0)).fault=0)(b:f.g1.fault=0):rA f=((f.g1.step f.r1 (f.c1.step f.r1).target (f.c1.cM f.r1)).fault != 0):=by
 rw[uQ,CQ,px];omega
def ya3(a:¬f.g0.fault=0\/(f.g0.step f.r0 (f.c0.step f.r0).target (f.c0.cM f.r0)).fault=0)(b:¬f.g1.fault=0\/(f.g1.step f.r1 (f.c1.step f.r1).target (f.c1.cM f.r1)).fault=0):rA f=false:=by
 rw[eB,dz,CQ];omega
def xJ1(f:Fw):SCall pP 80 [f.sv] (LD f):=
 ic (hB (l:=[Xb,W6]) (k:=[]) (j:=[]) (i:=[]) nN nN nN nN (⟨yv6,yz3,trivial⟩) v8 v8 v8) 1000 (.go (.ln 8 (.ah (.ln 5 (.go (.ar (.ah (.ln 8 (.go pA)) (.ln 6 (.ah (.ln 5 (.go pA)) (.ln 5 (.go pA)))))))) (.ln 5 (.go (.ln 8 (.ah (.ln 5 (.go pA)) (.ln 5 (.go pA)))))))))
  (t:=let y2:=f.g0.cM f.r0 (f.c0.step f.r0).target (f.c0.cM f.r0);let y3:=f.g1.cM f.r1 (f.c1.step f.r1).target (f.c1.cM f.r1);let y4:=f.g0.step f.r0 (f.c0.step f.r0).target (f.c0.cM f.r0);let y5:=f.g1.step f.r1 (f.c1.step f.r1).target (f.c1.cM f.r1);let y1:=Fw.cells {f with c0:=(f.c0.step f.r0),c1:=(f.c1.step f.r1),g0:=y4,g1:=y5};let y0:ak SV:=.ag (f.g1.fault==0) (rT (rT (rT (lT [.agg y1,.agg [J y2,J y3],.bool (y5.fault != 0)])))) (rT (rT (rT (lT [.agg y1,.agg [J y2,J y3],.bool false]))));rT (rT (rT (rT (rT (.ag (f.g0.fault==0) (rT (rT (rT (rT (rT (rT (rT (.ag (y4.fault != 0) (rT (rT (rT (lT [.agg y1,.agg [J y2,J y3],.bool true])))) (.aj true y0))))))))) (rT (rT (rT (rT (rT (rT (rT (.aj true y0))))))))))))))
  (by kernel_rfl) (by
   repeat' first
    |refine x0 rfl ?_
    |refine iK (λ_=>?_) (λ_=>?_)
    |refine dI (λ_=>?_) (λ_=>?_)
    |refine t8 (λ_=>?_) (λ_=>?_)
   all_goals first
    |exact LC (ya5 (by assumption) (by assumption))
    |exact LC (ya6 (by assumption) (by assumption))
    |exact LC (ya2 (by first|exact .inl (by assumption)|exact .inr (by assumption)) (by assumption))
    |exact LC (ya3 (by first|exact .inl (by assumption)|exact .inr (by assumption)) (by first|exact .inl (by assumption)|exact .inr (by assumption)))) (by kernel_rfl) (by rfl)
def qa4:aB:=fC 80 λf=>.ai (LD f)
def yz9:qa4.ok pP:=fE (λf=>xJ1 f)
def Bx(f:Fw):Bool:=(f.c0.ok&&f.g0.ok)&& (f.c1.ok&&f.g1.ok)
def jF3:Bx f=true↔(f.c0.ok=true/\f.g0.ok=true)/\f.c1.ok=true/\f.g1.ok=true:=by simp only[Bx,aH]
def jF6{c:Co}{g:Gu}(hc:c.ok=true)(hg:g.ok=true):i64.wrap (c.target-g.bN)=c.target-g.bN:=by
 have a:=(Co.bz _).1 hc;have b:=(Gu.bz _).1 hg;exact aG (by omega) (by omega)
def Mz{g:Fw}(h:f=g):SV.agg f.cells=g.sv:=by subst h;rfl
def x50(f:Fw)(h:Bx f=true):SCall pP 82 [f.sv] ((iW f).sv):=
 ic (hB (l:=[]) (k:=[]) (j:=[]) (i:=[]) nN nN nN nN (trivial) v8 v8 v8) 1000 (.go (.ar (.ah (.go (.ar (.ah (.go pA) (.go pA)))) (.go (.ar (.ah (.go pA) (.go pA)))))))
  (t:=let y0:=i64.wrap (↑(BitVec.ofInt 64 f.waits &&& ~~~BitVec.ofInt 64 1).toNat:Int);let y1:=decide (f.r1>=i64.wrap (f.c1.target-f.g1.bN));rT (rT (rT (.ag (f.r0>=i64.wrap (f.c0.target-f.g0.bN)) (rT (rT (rT (.ag y1 (.ai (.agg (Fw.cells {f with waits:=(i64.wrap (↑(BitVec.ofInt 64 y0 &&& ~~~BitVec.ofInt 64 2).toNat:Int))}))) (.ai (.agg (Fw.cells {f with waits:=y0}))))))) (rT (rT (rT (.ag y1 (.ai (.agg (Fw.cells {f with waits:=(i64.wrap (↑(BitVec.ofInt 64 f.waits &&& ~~~BitVec.ofInt 64 2).toNat:Int))}))) (.ai (.agg (Fw.cells f)))))))))))
  (by kernel_rfl) (by
   obtain⟨⟨k1,k2⟩,k3,k4⟩:=jF3.1 h;rw[jF6 k1 k2,jF6 k3 k4]
   repeat' (first|refine x0 rfl ?_|refine o7 (λ_=>?_) (λ_=>?_))
   all_goals first
    |exact Mz (Bz (by assumption) (by assumption)).symm
    |exact Mz (BA (by assumption) (by assumption)).symm
    |exact Mz (BB (by assumption) (by assumption)).symm
    |exact Mz (BC (by assumption) (by assumption)).symm) (by kernel_rfl) (by rfl)
def qo9:aB:=fC 82 λf=>.aj (Bx f) (.ai (iW f).sv)
def yP3:qo9.ok pP:=fE (λf h=>x50 f h)
def xT0(a b:V4):SCall pP 106 [V4.sv a,V4.sv b,J 1] (V4.sv (eQ a b)):=
 aY aL [] trivial 1000 (.go (.ar (.go (.ar (.go (.ar (.go (.ar (.go pA)))))))))
  (t:=rT (rT (rT (rT (rT (rT (rT (rT (rT (rT (rT (rT (.ai (.agg [J (i64.wrap (a.1+i64.wrap (1*b.1))),J (i64.wrap (a.2.1+i64.wrap (1*b.2.1))),J (i64.wrap (a.2.2.1+i64.wrap (1*b.2.2.1))),J (i64.wrap (a.2.2.2+i64.wrap (1*b.2.2.2)))]))))))))))))))
  (by kernel_rfl) (by
   have w1:∀x y:Int,i64.wrap (x+i64.wrap (1*y))=i64.wrap (x+y):=λx y=>by
    rw[IntKind.wrap_i64,IntKind.wrap_i64,IntKind.wrap_i64];omega
   rw[w1,w1,w1,w1]
   refine x0 rfl (x0 rfl (x0 rfl (x0 rfl (x0 rfl (x0 rfl (x0 rfl (x0 rfl (x0 rfl (x0 rfl (x0 rfl (x0 rfl rfl)))))))))))) (by kernel_rfl)
def xS5(a b:V4):SCall pP 106 [V4.sv a,V4.sv b,J (-1)] (V4.sv (bI a b)):=
 aY aL [] trivial 1000 (.go (.ar (.go (.ar (.go (.ar (.go (.ar (.go pA)))))))))
  (t:=rT (rT (rT (rT (rT (rT (rT (rT (rT (rT (rT (rT (.ai (.agg [J (i64.wrap (a.1+i64.wrap (-1*b.1))),J (i64.wrap (a.2.1+i64.wrap (-1*b.2.1))),J (i64.wrap (a.2.2.1+i64.wrap (-1*b.2.2.1))),J (i64.wrap (a.2.2.2+i64.wrap (-1*b.2.2.2)))]))))))))))))))
  (by kernel_rfl) (by
   have w1:∀x y:Int,i64.wrap (x+i64.wrap (-1*y))=i64.wrap (x-y):=λx y=>by
    rw[IntKind.wrap_i64,IntKind.wrap_i64,IntKind.wrap_i64];omega
   rw[w1,w1,w1,w1]
   refine x0 rfl (x0 rfl (x0 rfl (x0 rfl (x0 rfl (x0 rfl (x0 rfl (x0 rfl (x0 rfl (x0 rfl (x0 rfl (x0 rfl rfl)))))))))))) (by kernel_rfl)
def xT2(c:V4):SCall pP 105 [V4.sv c] (.bool (u7 c)):=
 aY aL [] trivial 1000 (let z0:ax:=.ar (.ar pA);.go (.ar (.ah z0 (.ar (.ar (.ah .all (.go (.ar (.ah z0 (.ar (.ar (.ah .all (.go (.ar (.ah z0 (.ar (.ar (.ah .all (.go (.ar (.ah z0 (.ar (.ar (.ah .all (.go pA)))))))))))))))))))))))))
  (t:=let y0:ak SV:=.ai (.bool false);rT (.ag (c.1 < -16777216) y0 (.ag (c.1>16777216) y0 (rT (.ag (c.2.1 < -16777216) y0 (.ag (c.2.1>16777216) y0 (rT (.ag (c.2.2.1 < -16777216) y0 (.ag (c.2.2.1>16777216) y0 (rT (.ag (c.2.2.2 < -16777216) y0 (.ag (c.2.2.2>16777216) y0 (.ai (.bool true))))))))))))))
  (by kernel_rfl) (by
   have q:∀b:Bool,(b=true↔u7 c=true)->SV.bool b=SV.bool (u7 c):=λb h=>by rw[uQ.2 h]
   have nf:=@fO c;refine x0 rfl (o7 (λa=>q _ ?_) λa=>o7 (λa2=>q _ ?_) λa2=>x0 rfl (o7 (λb=>q _ ?_) λb=>o7 (λb2=>q _ ?_) λb2=>x0 rfl (o7 (λd=>q _ ?_) λd=>o7 (λd2=>q _ ?_) λd2=>x0 rfl (o7 (λe=>q _ ?_) λe=>o7 (λe2=>q _ ?_) λe2=>q _ ?_))))
   all_goals(rw[nf];simp only[eY,vW,true_iff];omega)) (by kernel_rfl)
def xb3:ax:=.ah (.ln 3 (.ah .all .all)) (.ln 3 pA)
def po0(f:Fw):o8 (Env.of pP (j9 [])) 1000 (x9 pP 203) .unit (x6 28 [1,15,16,17]) (v7 pP 203) xb3 (v6 pP 203 [f.sv]) [] =(.ag (f.aT) (.ag (f.bL>0) (.ai (.done (J f.bL))) (.ai (.at (x8 pP 203 0) 28 (x7 28 [(1,.ptr 0 0),(15,.list (Ty.int i64) f.lines),(16,J (↑f.lines.length:Int)),(17,J 0)]) [some (.cells (Fw.cells f))]))) (.ai (.at (x8 pP 203 0) 28 (x7 28 [(1,.ptr 0 0),(15,.list (Ty.int i64) f.lines),(16,J (↑f.lines.length:Int)),(17,J 0)]) [some (.cells (Fw.cells f))]))):=by kernel_rfl
def xb4:ax:=.ah (.ah (.all) (.all)) (.all)
def po1(f:Fw)(i:Int):o8 (Env.of pP (j9 [])) 1000 (x9 pP 203) .unit (x6 28 [1,15,16,17]) (x8 pP 203 0) xb4 (x7 28 [(1,.ptr 0 0),(15,LI f.lines),(16,J f.lines.length),(17,J i)]) [some (.cells f.cells)] =(.ag (i< (↑f.lines.length:Int)) (.aj (0<=i&&i< (↑f.lines.length:Int)) (.ag (f.lines.getD i.toNat 0>0) (.ai (.done (J (f.lines.getD i.toNat 0)))) (.ai (.at (x8 pP 203 0) 28 (x7 28 [(1,.ptr 0 0),(15,.list (Ty.int i64) f.lines),(16,J (↑f.lines.length:Int)),(17,J (i64.wrap (i+1)))]) [some (.cells (Fw.cells f))])))) (.ai (.done (J (i64.wrap (f.line+1)))))):=by kernel_rfl
def xT1(f:Fw)(h:f.lines.length=f.queue.length):SCall pP 204 [f.sv] (.bool (mw f)):=
 aY aL [] trivial 1000 (.ah .all (.ah (.ln 4 pA) (.ln 4 pA)))
  (t:=.ag (f.aT)
 (.ai (SV.bool (f.bL==0)))
 (.ag ((↑f.queue.length:Int)>0)
  (.aj (0< (↑f.lines.length:Int)) (.ai (SV.bool (f.lines.getD 0 0==0))))
  (.ai (SV.bool false))))
   (by kernel_rfl) (by
    unfold mw
    refine t8 (λm=>by rw[m];rfl) λm=>o7 (λk=>?_) λk=>?_
    .rw[m]
     refine x0 (bn (by omega)) ?_
     cases hl:f.lines with
     |nil=>rw[hl]at h;simp at h;omega
     |cons n l=>rfl
    .rw[m]
     have:f.lines=[] :=pz (by omega)
     rw[this];rfl) (by kernel_rfl)
abbrev eL:SV:=.list Ty.unit []
def WE:ax:=.ah (.ah (.all) (.all)) (.ah (.all) (.all))
noncomputable def CA(f:Fw):ak Stop:= .ag (f.queue.isEmpty) (.ag (f.lines.isEmpty) (.ai (.done (.agg [J f.ma.x.num,J f.ma.x.den,J f.ma.x.bP,J f.ma.x.bV,J f.ma.x.bB,J f.ma.x.min,J f.ma.x.max,J f.ma.y.num,J f.ma.y.den,J f.ma.y.bP,J f.ma.y.bV,J f.ma.y.bB,J f.ma.y.min,J f.ma.y.max,J f.ma.z.num,J f.ma.z.den,J f.ma.z.bP,J f.ma.z.bV,J f.ma.z.bB,J f.ma.z.min,J f.ma.z.max,J f.ma.e.num,J f.ma.e.den,J f.ma.e.bP,J f.ma.e.bV,J f.ma.e.bB,J f.ma.e.min,J f.ma.e.max,.bool f.ma.xy,J f.ma.aU,J f.mode,.bool f.bf,J f.pos.1,J f.pos.2.1,J f.pos.2.2.1,J f.pos.2.2.2,J f.loc.1,J f.loc.2.1,J f.loc.2.2,J f.e,J f.bH,eL,eL,J f.mo.1.1.1,J f.mo.1.1.2.1,J f.mo.1.1.2.2.1,J f.mo.1.1.2.2.2,J f.mo.1.2.1,J f.mo.1.2.2.1,J f.mo.1.2.2.2.1,J f.mo.1.2.2.2.2,J f.mo.2.1,J f.mo.2.2,.bool f.aT,J f.bL,.bool f.back,J f.ret.1,J f.ret.2.1,J f.ret.2.2.1,J f.ret.2.2.2,J f.bt,J f.waits,J f.c0.target,J f.c0.kp,J f.c0.ki,J f.c0.scale,J f.c0.sum,J f.c0.dA,J f.c1.target,J f.c1.kp,J f.c1.ki,J f.c1.scale,J f.c1.sum,J f.c1.dA,J f.g0.low,J f.g0.bQ,J f.g0.watch,J f.g0.cG,J f.g0.bN,J f.g0.base,J f.g0.count,J f.g0.idle,J f.g0.quiet,J f.g0.fault,.bool f.g0.dc,J f.g1.low,J f.g1.bQ,J f.g1.watch,J f.g1.cG,J f.g1.bN,J f.g1.base,J f.g1.count,J f.g1.idle,J f.g1.quiet,J f.g1.fault,.bool f.g1.dc,J f.fo,J f.line,J f.aU,J f.bc,J f.r0,J f.r1]))) (.aj ((0+f.lines.length)*8<=140737488355328) (.ai (.done (.agg [J f.ma.x.num,J f.ma.x.den,J f.ma.x.bP,J f.ma.x.bV,J f.ma.x.bB,J f.ma.x.min,J f.ma.x.max,J f.ma.y.num,J f.ma.y.den,J f.ma.y.bP,J f.ma.y.bV,J f.ma.y.bB,J f.ma.y.min,J f.ma.y.max,J f.ma.z.num,J f.ma.z.den,J f.ma.z.bP,J f.ma.z.bV,J f.ma.z.bB,J f.ma.z.min,J f.ma.z.max,J f.ma.e.num,J f.ma.e.den,J f.ma.e.bP,J f.ma.e.bV,J f.ma.e.bB,J f.ma.e.min,J f.ma.e.max,.bool f.ma.xy,J f.ma.aU,J f.mode,.bool f.bf,J f.pos.1,J f.pos.2.1,J f.pos.2.2.1,J f.pos.2.2.2,J f.loc.1,J f.loc.2.1,J f.loc.2.2,J f.e,J f.bH,eL,.list (Ty.int i64) f.lines,J f.mo.1.1.1,J f.mo.1.1.2.1,J f.mo.1.1.2.2.1,J f.mo.1.1.2.2.2,J f.mo.1.2.1,J f.mo.1.2.2.1,J f.mo.1.2.2.2.1,J f.mo.1.2.2.2.2,J f.mo.2.1,J f.mo.2.2,.bool f.aT,J f.bL,.bool f.back,J f.ret.1,J f.ret.2.1,J f.ret.2.2.1,J f.ret.2.2.2,J f.bt,J f.waits,J f.c0.target,J f.c0.kp,J f.c0.ki,J f.c0.scale,J f.c0.sum,J f.c0.dA,J f.c1.target,J f.c1.kp,J f.c1.ki,J f.c1.scale,J f.c1.sum,J f.c1.dA,J f.g0.low,J f.g0.bQ,J f.g0.watch,J f.g0.cG,J f.g0.bN,J f.g0.base,J f.g0.count,J f.g0.idle,J f.g0.quiet,J f.g0.fault,.bool f.g0.dc,J f.g1.low,J f.g1.bQ,J f.g1.watch,J f.g1.cG,J f.g1.bN,J f.g1.base,J f.g1.count,J f.g1.idle,J f.g1.quiet,J f.g1.fault,.bool f.g1.dc,J f.fo,J f.line,J f.aU,J f.bc,J f.r0,J f.r1]))))) (.aj ((0+f.queue.length)*64<=140737488355328) (.ag (f.lines.isEmpty) (.ai (.done (.agg [J f.ma.x.num,J f.ma.x.den,J f.ma.x.bP,J f.ma.x.bV,J f.ma.x.bB,J f.ma.x.min,J f.ma.x.max,J f.ma.y.num,J f.ma.y.den,J f.ma.y.bP,J f.ma.y.bV,J f.ma.y.bB,J f.ma.y.min,J f.ma.y.max,J f.ma.z.num,J f.ma.z.den,J f.ma.z.bP,J f.ma.z.bV,J f.ma.z.bB,J f.ma.z.min,J f.ma.z.max,J f.ma.e.num,J f.ma.e.den,J f.ma.e.bP,J f.ma.e.bV,J f.ma.e.bB,J f.ma.e.min,J f.ma.e.max,.bool f.ma.xy,J f.ma.aU,J f.mode,.bool f.bf,J f.pos.1,J f.pos.2.1,J f.pos.2.2.1,J f.pos.2.2.2,J f.loc.1,J f.loc.2.1,J f.loc.2.2,J f.e,J f.bH,.list w9 f.queue,eL,J f.mo.1.1.1,J f.mo.1.1.2.1,J f.mo.1.1.2.2.1,J f.mo.1.1.2.2.2,J f.mo.1.2.1,J f.mo.1.2.2.1,J f.mo.1.2.2.2.1,J f.mo.1.2.2.2.2,J f.mo.2.1,J f.mo.2.2,.bool f.aT,J f.bL,.bool f.back,J f.ret.1,J f.ret.2.1,J f.ret.2.2.1,J f.ret.2.2.2,J f.bt,J f.waits,J f.c0.target,J f.c0.kp,J f.c0.ki,J f.c0.scale,J f.c0.sum,J f.c0.dA,J f.c1.target,J f.c1.kp,J f.c1.ki,J f.c1.scale,J f.c1.sum,J f.c1.dA,J f.g0.low,J f.g0.bQ,J f.g0.watch,J f.g0.cG,J f.g0.bN,J f.g0.base,J f.g0.count,J f.g0.idle,J f.g0.quiet,J f.g0.fault,.bool f.g0.dc,J f.g1.low,J f.g1.bQ,J f.g1.watch,J f.g1.cG,J f.g1.bN,J f.g1.base,J f.g1.count,J f.g1.idle,J f.g1.quiet,J f.g1.fault,.bool f.g1.dc,J f.fo,J f.line,J f.aU,J f.bc,J f.r0,J f.r1]))) (.aj ((0+f.lines.length)*8<=140737488355328) (.ai (.done (.agg [J f.ma.x.num,J f.ma.x.den,J f.ma.x.bP,J f.ma.x.bV,J f.ma.x.bB,J f.ma.x.min,J f.ma.x.max,J f.ma.y.num,J f.ma.y.den,J f.ma.y.bP,J f.ma.y.bV,J f.ma.y.bB,J f.ma.y.min,J f.ma.y.max,J f.ma.z.num,J f.ma.z.den,J f.ma.z.bP,J f.ma.z.bV,J f.ma.z.bB,J f.ma.z.min,J f.ma.z.max,J f.ma.e.num,J f.ma.e.den,J f.ma.e.bP,J f.ma.e.bV,J f.ma.e.bB,J f.ma.e.min,J f.ma.e.max,.bool f.ma.xy,J f.ma.aU,J f.mode,.bool f.bf,J f.pos.1,J f.pos.2.1,J f.pos.2.2.1,J f.pos.2.2.2,J f.loc.1,J f.loc.2.1,J f.loc.2.2,J f.e,J f.bH,.list w9 f.queue,.list (Ty.int i64) f.lines,J f.mo.1.1.1,J f.mo.1.1.2.1,J f.mo.1.1.2.2.1,J f.mo.1.1.2.2.2,J f.mo.1.2.1,J f.mo.1.2.2.1,J f.mo.1.2.2.2.1,J f.mo.1.2.2.2.2,J f.mo.2.1,J f.mo.2.2,.bool f.aT,J f.bL,.bool f.back,J f.ret.1,J f.ret.2.1,J f.ret.2.2.1,J f.ret.2.2.2,J f.bt,J f.waits,J f.c0.target,J f.c0.kp,J f.c0.ki,J f.c0.scale,J f.c0.sum,J f.c0.dA,J f.c1.target,J f.c1.kp,J f.c1.ki,J f.c1.scale,J f.c1.sum,J f.c1.dA,J f.g0.low,J f.g0.bQ,J f.g0.watch,J f.g0.cG,J f.g0.bN,J f.g0.base,J f.g0.count,J f.g0.idle,J f.g0.quiet,J f.g0.fault,.bool f.g0.dc,J f.g1.low,J f.g1.bQ,J f.g1.watch,J f.g1.cG,J f.g1.bN,J f.g1.base,J f.g1.count,J f.g1.idle,J f.g1.quiet,J f.g1.fault,.bool f.g1.dc,J f.fo,J f.line,J f.aU,J f.bc,J f.r0,J f.r1]))))))
def cln(f:Fw):o8 (Env.of pP (j9 [])) 1000 (x9 pP 104) .unit (x6 14 []) (v7 pP 104) WE (v6 pP 104 [f.sv]) [] =CA f:=by kernel_rfl
inductive tz:SV->SV->Prop where
 |same (x:SV):tz x x
 |Nu (t:Ty):tz eL (.list t [])
def IG:List SV->List SV->Prop
 |[],[] =>True
 |x::xs,y::ys=>tz x y/\IG xs ys
 |_,_=>False
def tz.nY{R:Nat->Prop}{I:bu}{n:Nat}{w:World}{x y:SV}{v:Value}(h:tz x y)(hr:aJ R I n w x v):aJ R I n w y v:=by
 cases h with
 |same=>exact hr
 |Nu t=>
  obtain⟨A,cap,h1,h2,_⟩:=hr;exact⟨A,cap,h1,h2,λh=>absurd h (gZ _)⟩
theorem IG.nY{R:Nat->Prop}{I:bu}{n:Nat}{w:World}:∀{xs ys:List SV} {vs:List Value},IG xs ys->j8 R I n w xs vs->j8 R I n w ys vs
 |[],[],_,_,hr=>hr
 |x::xs,y::ys,_,h,hr=>by
  obtain⟨u,us,rfl,h1,h2⟩:=hr;exact⟨u,us,rfl,h.1.nY h1,h.2.nY h2⟩
def CB(f:Fw)(q l:SV):List SV:=f.cells.take 41++(q::l::f.cells.drop 43)
def zI1(f:Fw){q l:SV}(hq:tz q (LB f.queue))(hl:tz l (LI f.lines)):IG (CB f q l) f.cells:=by
 obtain⟨⟩:=f;dsimp only at hq hl
 repeat(first|exact trivial|refine⟨.same _,?_⟩|refine⟨hq,?_⟩|refine⟨hl,?_⟩)
def xC4(f:Fw)(h:eu f=true):SCall pP 104 [f.sv] f.sv:=by
 have h1:f.queue.length<=1000:=bG ((aH _ _).mp h).1;have h2:f.lines.length<=1000:=bG ((aH _ _).mp h).2
 have key:∀q l:SV,(CB f q l).length=102->f7 (CB f q l)=true->tz q (LB f.queue)->tz l (LI f.lines)->(CA f).holds (λo=>match o with
   |.done v'=>v'=.agg (CB f q l)
   |.at gV size iw kf=>iw.length=size/\t9 pP (x9 pP 104) (.agg (CB f q l)) gV iw kf)->SCall pP 104 [f.sv] f.sv:=λq l _ hd hq hl ht=>by
  refine C4 (v:=.agg (CB f q l)) (s8 rfl hd (by kernel_rfl) (o6 eH (n:=1000) (hint:=.unit) (keep:=x6 14 []) (p:=WE) (boxes:=[]) hd ?_)) λR I n w u hu=>?_
  .have e:=cln f
   unfold v6 v7 at e;erw [e];exact ht
  .obtain⟨ws,hu1,hu2⟩:=hu
   exact⟨ws,hu1,(zI1 f hq hl).nY hu2⟩
 by_cases a:f.queue=[]
 .have ea:tz eL (LB f.queue):=by rw[a];exact .Nu _
  by_cases b:f.lines=[]
  .have eb:tz eL (LI f.lines):=by rw[b];exact .Nu _
   refine key eL eL rfl rfl ea eb ?_;unfold CA
   exact t8 (λ_=>t8 (λ_=>rfl) λk=>absurd k (by rw[b];simp)) λk=>absurd k (by rw[a];simp)
  .refine key eL (LI f.lines) rfl rfl ea (.same _) ?_
   unfold CA
   exact t8 (λ_=>t8 (λk=>absurd (wz.1 k) b) λ_=>x0 (bn (by omega)) rfl) λk=>absurd k (by rw[a];simp)
 .by_cases b:f.lines=[]
  .have eb:tz eL (LI f.lines):=by rw[b];exact .Nu _
   refine key (LB f.queue) eL rfl rfl (.same _) eb ?_;unfold CA
   exact t8 (λk=>absurd (wz.1 k) a) λ_=>x0 (bn (by omega)) (t8 (λ_=>rfl) λk=>absurd k (by rw[b];simp))
  .refine key (LB f.queue) (LI f.lines) rfl rfl (.same _) (.same _) ?_
   unfold CA
   exact t8 (λk=>absurd (wz.1 k) a) λ_=>x0 (bn (by omega)) (t8 (λk=>absurd (wz.1 k) b) λ_=>x0 (bn (by omega)) rfl)
theorem xb5(f:Fw)(hl:f.lines.length<=1000)(hn:0<=f.line/\f.line<=1099511627776):∀ (k i:Nat) (v:Int),i+k=f.lines.length->v=oM (f.lines.drop i) (f.line+1)->
  t9 pP (x9 pP 203) (J v) (x8 pP 203 0) (x7 28 [(1,.ptr 0 0),(15,LI f.lines),(16,J f.lines.length),(17,J i)]) [some (.cells f.cells)]
 |k,i,v,hi,hv=>by
  refine o6 eH (n:=1000) (hint:=.unit) (keep:=x6 28 [1,15,16,17]) (p:=xb4) rfl ?_;erw [po1 f i]
  have t0:(i:Int).toNat=i:=by omega
  have w1:i64.wrap ((i:Int)+1)=((i+1:Nat):Int):=by rw[aG (by omega) (by omega)];omega
  have w2:i64.wrap (f.line+1)=f.line+1:=aG (by omega) (by omega);rw[t0,w1,w2]
  match k,hi with
  |0,hi=>
   rw[AD (by omega)]at hv;subst hv
   exact o7 (λa=>absurd a (by omega)) λ_=>rfl
  |k+1,hi=>
   rw[uY (d:=(0:Int)) (by omega:i<f.lines.length)]at hv;unfold oM at hv
   refine o7 (λ_=>x0 (by simp;omega) (o7 (λc=>?_) λc=>?_)) λa=>absurd (by omega) a
   .rw[ay c]at hv;subst hv;rfl
   .rw[au c]at hv
    exact⟨o5 _ _,xb5 f hl hn k (i+1) v (by omega) hv⟩
def xS6(f:Fw)(h:f4 f=true):SCall pP 203 [f.sv] (J (f9 f)):=by
 obtain⟨s1,s2,s3,s4,s5,s6⟩:=oh.1 h;refine s8 rfl rfl (by kernel_rfl) (o6 eH (n:=1000) (hint:=.unit) (keep:=x6 28 [1,15,16,17]) (p:=xb3) (boxes:=[]) rfl ?_);have e:=po0 f;unfold v6 v7 at e;erw [e]
 have go:∀v,f9 f=v->v=oM f.lines (f.line+1)->t9 pP (x9 pP 203) (J (f9 f)) (x8 pP 203 0) (x7 28 [(1,.ptr 0 0),(15,LI f.lines),(16,J f.lines.length),(17,J (0:Nat))]) [some (.cells f.cells)] :=λv h1 h2=>by
  rw[h1];exact xb5 f (by omega) s4 f.lines.length 0 v (by omega) (by rw[NG];exact h2)
 refine t8 (λm=>o7 (λa=>?_) λa=>⟨o5 _ _,?_⟩) λm=>⟨o5 _ _,?_⟩
 .have:f9 f=f.bL:=ay ⟨m,a⟩
  rw[this];rfl
 .exact go _ rfl (au (λk=>a k.2))
 .exact go _ rfl (au (λk=>by rw[m]at k;cases k.1))
def z55:aB:=fC 104 λf=>.aj (eu f) (.ai f.sv)
def O3:z55.ok pP:=fE λf h=>xC4 f h
def Ru:aB:=fC 203 λf=>.aj (f4 f) (.ai (J (f9 f)))
def YO:Ru.ok pP:=fE λf h=>xS6 f h
def Rt:aB:=fC 204 λf=>.aj (D0 f) (.ai (.bool (mw f)))
def YN:Rt.ok pP:=fE λf h=>xT1 f (LW.1 h)
def qg5:aB:=vA 105 λc=>.ai (.bool (u7 c))
def yG2:qg5.ok pP:=zB xT2
def BZ:aB:=⟨106,λargs=>match args with
 |[.agg [.int .i64 a0,.int .i64 a1,.int .i64 a2,.int .i64 a3],.agg [.int .i64 b0,.int .i64 b1,.int .i64 b2,.int .i64 b3],.int .i64 s] =>match s==1 with
  |true=>some (.ai (V4.sv (eQ (a0,a1,a2,a3) (b0,b1,b2,b3))))
  |false=>match s== -1 with
   |true=>some (.ai (V4.sv (bI (a0,a1,a2,a3) (b0,b1,b2,b3))))
   |false=>none
 |_=>none⟩
def FJ:BZ.ok pP:=λargs t ht=>by
 simp only[BZ]at ht
 split at ht
 .split at ht
  .rename_i hs
   have hs:=cI.1 hs;subst hs;cases ht;exact xT0 (_,_,_,_) (_,_,_,_)
  .split at ht
   .rename_i hs
    have hs:=cI.1 hs;subst hs;cases ht;exact xS5 (_,_,_,_) (_,_,_,_)
   .cases ht
 .cases ht
def ep(s:List UInt8):Rc:=⟨tk s 6 1,tk s 0 6,tk s 7 6,tk s 13 4,(sg (tk s 17 4),sg (tk s 21 4),sg (tk s 25 4),sg (tk s 29 4)),(sg (tk s 33 4),sg (tk s 37 4),sg (tk s 41 4),sg (tk s 45 4))⟩
def kz:Rc:=⟨0,0,0,0,(0,0,0,0),(0,0,0,0)⟩
def va(s:List UInt8):Bool:=fB (ep s)&&s==enc (ep s)
def yY(s:List UInt8):SV:=match decide (s.length<64)with
 |true=>.tuple [kz.sv,J 6]
 |false=>match va s with
  |true=>.tuple [(ep s).sv,J 0]
  |false=>.tuple [kz.sv,J 19]
def Wp(s:List UInt8):(yY s).data=true:=by unfold yY;split<;>(try split)<;>rfl
def xD7(s:List UInt8)(h:s.length<=100000):SCall pP 263 [.str s] (yY s):=
 v9 aL [Rw,z93,OQ] ⟨yE1,yy7,Xl,trivial⟩ 1000 (.ah .all (.ah (.ln 4 (.ah .all .all)) (.ln 4 pA)))
  (t:=let y0:=Rc.mk (tk s 6 1) (tk s 0 6) (tk s 7 6) (tk s 13 4) (sg (tk s 17 4),sg (tk s 21 4),sg (tk s 25 4),sg (tk s 29 4)) (sg (tk s 33 4),sg (tk s 37 4),sg (tk s 41 4),sg (tk s 45 4));let y1:ak SV:=lT [.agg [J 0,J 0,J 0,J 0,J 0,J 0,J 0,J 0,J 0,J 0,J 0,J 0],J 19];let y2:=(↑s.length:Int);let y3:=s.length<=100000;.ag (y2<64) (lT [.agg [J 0,J 0,J 0,J 0,J 0,J 0,J 0,J 0,J 0,J 0,J 0,J 0],J 6]) (.aj (6<=y2&&decide y3) (.aj (7<=y2&&decide y3) (.aj (13<=y2&&decide y3) (.aj (17<=y2&&decide y3) (.aj (33<=y2&&decide y3) (.aj (49<=y2&&decide y3) (.ag (fB y0) (.ag (!s==enc y0) y1 (lT [.agg [J (tk s 6 1),J (tk s 0 6),J (tk s 7 6),J (tk s 13 4),J (sg (tk s 17 4)),J (sg (tk s 21 4)),J (sg (tk s 25 4)),J (sg (tk s 29 4)),J (sg (tk s 33 4)),J (sg (tk s 37 4)),J (sg (tk s 41 4)),J (sg (tk s 45 4))],J 0])) y1))))))))
  (by kernel_rfl) (by
   have qq:∀x:Int,x<=49->64<=s.length->(x<=(s.length:Int)&&s.length<=100000)=true:=λx a b=>by simp;omega
   unfold yY;refine o7 (λa=>?_) (λa=>?_);.rw[bn (show s.length<64 by omega)];rfl
   .rw[iX (show ¬s.length<64 by omega)]
    have b:64<=s.length:=by omega
    have e:va s=(fB (ep s)&&s==enc (ep s)):=rfl;refine x0 (qq _ (by decide) b) (x0 (qq _ (by decide) b) (x0 (qq _ (by decide) b) (x0 (qq _ (by decide) b) (x0 (qq _ (by decide) b) (x0 (qq _ (by decide) b) (t8 (λv=>?_) λv=>?_))))))
    .have v:fB (ep s)=true:=v
     refine d8 (λw=>?_) λw=>?_
     .have w:(s==enc (ep s))=false:=w
      rw[e,v,w];rfl
     .have w:(s==enc (ep s))=true:=w
      rw[e,v,w];rfl
    .have v:fB (ep s)=false:=v
     rw[e,v];rfl) (by kernel_rfl) (by exact Wp s)
variable{s:List UInt8}
def zP9:va s=true↔fB (ep s)=true/\s=enc (ep s):=by
 simp only[va,aH,cI]
def nk(n:Int)(i:Nat)(s:List UInt8):Option Rc:=match va s&& (ep s).seq.tmod n==(i:Int)with
 |true=>some (ep s)
 |false=>none
def xm{i:Nat}{r:Rc}:nk n i s=some r↔va s=true/\(ep s).seq.tmod n=(i:Int)/\ep s=r:=by
 unfold nk
 split;.rename_i h;rw[aH,cI]at h;simp[h]
 .rename_i h
  rw[aiw]at h;simp only[reduceCtorEq,vW,not_and];intro h1 h2;rcases h with h|h
  .rw[h1]at h;cases h
  .rw[h2]at h;simp at h
def oI(n:Int):Nat->List (List UInt8)->List Rc
 |_,[] =>[]
 |i,s::l=>match nk n i s with
  |some r=>r::oI n (i+1) l
  |none=>oI n (i+1) l
def F0{i:Nat}{l:List (List UInt8)}:oI n i (s::l)=match nk n i s with
  |some r=>r::oI n (i+1) l
  |none=>oI n (i+1) l:=rfl
theorem Pj{n:Int}{r:Rc}:∀{l:List (List UInt8)} {i:Nat},r∈oI n i l↔∃j,j<l.length/\nk n (i+j) (l.getD j [])=some r
 |[],i=>by simp[oI]
 |s::l,i=>by
  have ih:=@Pj n r l (i+1)
  have key:(∃j,j< (s::l).length/\nk n (i+j) ((s::l).getD j [])=some r)↔nk n i s=some r\/∃j,j<l.length/\nk n (i+1+j) (l.getD j [])=some r:=by
   constructor
   .rintro ⟨j,hj,h⟩
    cases j with
    |zero=>exact .inl h
    |succ j=>exact .inr ⟨j,by simpa using hj,by rw[show i+1+j=i+(j+1) by omega];simpa using h⟩
   .rintro (h|⟨j,hj,h⟩)
    .exact⟨0,by simp,h⟩
    .exact⟨j+1,by simpa using hj,by rw[show i+(j+1)=i+1+j by omega];simpa using h⟩
  rw[key,<-ih,F0]
  split;.rename_i r' h;rw[h,qT];simp[eq_comm]
  .rename_i h;rw[h];simp
def pF:List Rc->Prop
 |[] =>True
 |r::l=>(∀x∈l,x.seq≠r.seq)/\pF l
theorem Qo:∀{l:List (List UInt8)} {i:Nat},pF (oI n i l)
 |[],i=>trivial
 |s::l,i=>by
  unfold oI
  split
  .rename_i r h
   refine⟨λx hx e=>?_,Qo⟩;obtain⟨j,_,hj⟩:=Pj.1 hx;obtain⟨_,h1,rfl⟩:=xm.1 hj;obtain⟨_,h2,rfl⟩:=xm.1 h;rw[e]at h1;omega
  .exact Qo
def lJ(r:Rc):List Rc->List Rc
 |[] =>[r]
 |x::l=>match decide (r.seq<x.seq)with
  |true=>r::x::l
  |false=>x::lJ r l
def pZ(l:List Rc):List Rc:=l.foldl (λaN r=>lJ r aN) []
def qu:List Rc->Prop
 |[] =>True
 |r::l=>(∀x∈l,r.seq<=x.seq)/\qu l
theorem Lv(r:Rc):∀l:List Rc,(lJ r l).Perm (r::l)
 |[] =>.refl _
 |x::l=>by
  unfold lJ
  split;.exact .refl _
  .exact((Lv r l).cons x).trans (List.Perm.swap r x l)
theorem RI(r:Rc):∀l:List Rc,qu l->qu (lJ r l)
 |[],_=>⟨λx hx=>(by cases hx),trivial⟩
 |x::l,h=>by
  unfold lJ
  split
  .rename_i hd
   have hd:=bG hd;refine⟨λy hy=>?_,h⟩;rcases qT.1 hy with rfl|hy
   .omega
   .have:=h.1 y hy;omega
  .rename_i hd
   have hd:=cO hd;refine⟨λy hy=>?_,RI r l h.2⟩;rcases qT.1 ((Lv r l).mem_iff.1 hy)with rfl|hy
   .omega
   .exact h.1 y hy
def MP(l:List Rc):(pZ l).Perm l:=by
 have:∀ (l aN:List Rc),(l.foldl (λaN r=>lJ r aN) aN).Perm (l.reverse++aN):=by
  intro l
  induction l with
  |nil=>intro aN;exact .refl _
  |cons x l ih=>
   intro aN;rw[List.foldl_cons,List.reverse_cons,Cc];exact(ih (lJ x aN)).trans ((Lv x aN).append_left l.reverse)
 have h:=this l [];rw[wA]at h;exact h.trans (List.reverse_perm l)
def jb8(l:List Rc):qu (pZ l):=by
 have:∀ (l aN:List Rc),qu aN->qu (l.foldl (λaN r=>lJ r aN) aN):=by
  intro l
  induction l with
  |nil=>intro aN h;exact h
  |cons x l ih=>intro aN h;exact ih _ (RI x aN h)
 exact this l [] trivial
theorem Om:∀{l:List Rc},pF l↔(l.map (·.seq)).Nodup
 |[] =>by simp[pF]
 |r::l=>by
  simp only[pF,List.map_cons,aii,Om (l:=l),EM,not_exists,not_and]
def zS3{a b:List Rc}(h:a.Perm b)(d:pF a):pF b:=Om.2 ((h.map _).nodup_iff.1 (Om.1 d))
theorem jc4:∀{a b:List Rc},a.Perm b->qu a->qu b->pF a->a=b
 |[],b,h,_,_,_=>(List.Perm.nil_eq h)
 |x::a,[],h,_,_,_=>absurd h.symm (by simp)
 |x::a,y::b,h,ha,hb,d=>by
  have hx:x∈y::b:=h.mem_iff.1 mO;have hy:y∈x::a:=h.mem_iff.2 mO
  have e:x=y:=by
   rcases qT.1 hx with e|hx
   .exact e
   .rcases qT.1 hy with e|hy
    .exact e.symm
    .have h1:=ha.1 y hy
     have h2:=hb.1 x hx;exact absurd (by omega) (d.1 y hy)
  subst e;rw[jc4 h.cons_inv ha.2 hb.2 d.2]
def jb9{l l':List Rc}(d:pF l)(p:l'.Perm l)(h:qu l'):l'=pZ l:=
 jc4 (p.trans (MP l).symm) h (jb8 l) (zS3 p.symm d)
theorem RH{r:Rc}:∀{a b:List Rc},qu (a++b)->(∀x∈a,x.seq<=r.seq)->(∀x∈b,r.seq<x.seq)->lJ r (a++b)=a++r::b
 |[],[],_,_,_=>rfl
 |[],y::b,_,_,h=>by
  show lJ r (y::b)=_;unfold lJ;rw[bn (h y mO)];rfl
 |x::a,b,h,h1,h2=>by
  show lJ r (x::(a++b))=_;unfold lJ;have:=h1 x mO;rw[iX (by omega)];show x::lJ r (a++b)=_;rw[RH h.2 (λy hy=>h1 y (rX _ hy)) h2];rfl
def zx(f:Fl)(i:Int)(data:List UInt8):Int:=match ny f i&&data.length=64 with
 |false=>1
 |true=>match f.dead||f.bU==1 with
  |true=>17
  |false=>0
def xx(f:Fl)(i:Int)(data:List UInt8):Fl:=match ny f i&&data.length=64&&!f.dead with
 |false=>f
 |true=>match f.bU==1 with
  |true=>⟨f.aC.set i.toNat (data.take f.keep.toNat++(f.aC.getD i.toNat []).drop f.keep.toNat),0,true,0⟩
  |false=>⟨f.aC.set i.toNat data,if f.bU-1>0 then f.bU-1 else 0,f.dead,f.keep⟩
def dl(f:Fl):List Rc:=match eU f&&!f.dead with
 |true=>pZ (oI f.aC.length 0 f.aC)
 |false=>[]
def jV(f:Fl):Option Rc:=(dl f).getLast?
def qI(f:Fl):Int:=match jV f with
 |some r=>r.seq
 |none=>0
def yt(f:Fl)(r:Rc):Int:=match fB r&&eU f with
 |false=>1
 |true=>match f.dead with
  |true=>17
  |false=>match r.seq==qI f+1 with
   |false=>11
   |true=>zx f (r.seq.tmod f.aC.length) (enc r)
def ko(f:Fl)(r:Rc):Fl:=match fB r&&eU f&&!f.dead&&r.seq==qI f+1 with
 |true=>xx f (r.seq.tmod f.aC.length) (enc r)
 |false=>f
def JE(f:Fl)(r:Rc):Rc:={r with seq:=qI f+1}
def ib(f:Fl)(r:Rc):Int:=yt f (JE f r)
def b8(f:Fl)(r:Rc):Fl:=ko f (JE f r)
end Go.Proofs.YtnkaepnblikcdaaGreat
namespace Go.Sx
open Go.RowKit
def x80 {P : Program} {f : FuncId} {fn : Func} {args : List SV} {v : SV} (hd : f7 args = true) (hv : v.data = true) (hf : P.funcs[f]? = some fn) (hb : fn.body.isSome = true) (hn : (fn.name == "runtime.NumGoroutine") = false)
  (h:∀ (R:Nat->Prop) (w:World) (vs:List Value),(∀b,R b->b<w.heap.size)->ET w->j8 R (λ_=>(0,0,0)) 0 w args vs->
    Calls P f vs.toArray w λe w'=>∃u,e=.returned u/\Below w.heap.size w w'/\aJ (λb=>R b\/(w.heap.size<=b/\b<w'.heap.size)) (λ_=>(0,0,0)) 0 w' v u):SCall P f args v:=by
 intro m w0 R0 I w vs hm bR;obtain⟨body,hb⟩:=aBF.1 hb;rw[nS hf hb hn];obtain⟨o1,o2⟩:=xh hm I;have M3:=j8.data (R':=RO w0 R0 I w m) (I':=λ_=>(0,0,0)) (n':=0) (λb hb=>hb) args vs hd bR
 refine Calls.mono (h (RO w0 R0 I w m) w vs (λb hb=>hm.mB hb) hm.Np M3) λe w' ⟨u,he,g1,g3⟩=>⟨u,he,?_⟩
 have g:aQ w (RS w0 R0 I w m) I w' ⟨0,.e⟩:=⟨⟨g1,hm.Np⟩,λid B h=>(by cases h),λid B h=>(by cases h),λid B h=>(by cases h),λid bY B B' h=>(by cases h),λid B h=>(by cases h),λb hb=>⟨qS (hm.mB hb) g1.size,g1.block b (hm.mB hb)⟩,λid B h=>(by cases h)⟩;have cR:=Hand.start hm g;obtain⟨k1,k2⟩:=cR.finish hm g;refine⟨I,k1,k2,aJ.data (λb hb=>?_) v u hv g3⟩;rcases hb with hb|hb
 .exact cR.ro b (.inr (.inl ⟨hb,hm.mB hb⟩))
 .exact cR.ro b (.inr (.inr ⟨hb.1,hb.2,(λid B h=>by cases h),λhr=>by have:=hm.mB hr;omega⟩))
end Go.Sx
namespace Go.Proofs.YtnkaepnblikcdaaGreat
open Go.Sx Go.RowKit Go.Lib
def SO:Tryz.t5.bytes=1:=by kernel_rfl
def P4(w:World)(s:List UInt8)(k:Nat):Array Value:=
 ⟨s.map λb=>Value.int .u8 b.toNat⟩++(Builtin.zeroCells #[Value.int .u8 0] k++Builtin.zeroCells #[Value.int .u8 0] (grownCap (bytesWorld w 5 ⟨⟨s⟩⟩) (s.length+k) s.length 5-(s.length+k)))
def FP(w:World)(s:List UInt8)(k:Nat):World:=((bytesWorld w 5 ⟨⟨s⟩⟩).alloc (.cells (P4 w s k) 5)).drew
def jK5(k:Nat):Builtin.zeroCells #[Value.int .u8 0] k=⟨List.replicate k (.int .u8 0)⟩:=by
 unfold Builtin.zeroCells;apply Array.ext;.simp
 .intro i h1 h2
  simp[Nat.mod_one]
def y69(w:World)(s:List UInt8):(loadCellsFrom ⟨w.heap.size,0,none⟩ 0 s.length #[]).run pP (bytesWorld w 5 ⟨⟨s⟩⟩).drew=.ok ⟨s.map λb=>Value.int .u8 b.toNat⟩ (bytesWorld w 5 ⟨⟨s⟩⟩).drew:=by
 have h:=ab7 (P:=pP) (bytesWorld w 5 ⟨⟨s⟩⟩).drew ⟨w.heap.size,0,none⟩ (s.map λb=>Value.int .u8 b.toNat) (λj v hj=>by
  have rI:j<s.length:=by
   have:=(iZ.1 hj).1
   simpa using this
  have h1:(bytesWorld w 5 ⟨⟨s⟩⟩).drew.cell? ((⟨w.heap.size,0,none⟩:Addr).add j)=(bytesWorld w 5 ⟨⟨s⟩⟩).cell? ⟨w.heap.size,j,none⟩:=by rw[tB,gY];rfl
  rw[h1,bytesWorld_cell w 5 ⟨⟨s⟩⟩ j rI];rw[AB,cc rI]at hj;simp only[ah5,uK]at hj;rw[<-hj]
  simp[cK,cc rI])
 rw[mP]at h;exact h
def y67(w:World)(s:List UInt8)(k:Nat)(cap:Nat):(convert 154 9 (.slice (some ⟨(bytesWorld w 5 ⟨⟨s⟩⟩).heap.size,0,none⟩) (s.length+k) cap)).run pP (FP w s k)=.ok (.string ⟨⟨s++List.replicate k 0⟩⟩) (FP w s k):=by
 have h:=run_convert_bytes_back (P:=pP) (FP w s k) 154 9 5 ⟨(bytesWorld w 5 ⟨⟨s⟩⟩).heap.size,0,none⟩ cap (s++List.replicate k 0) Tryz.underlying154 Tryz.underlying5 Tryz.underlying9 (λj hj=>by
  rw[tB,gY];show((bytesWorld w 5 ⟨⟨s⟩⟩).alloc (.cells (P4 w s k) 5)).cell? _=_;rw[World.cell?_alloc_mark];unfold P4;rw[jK5,jK5]
  by_cases h:j<s.length
  .rw[aiD (by simpa using h),aBL h,<-Cg]
   simp[cc h]
  .rw[eX,qs]at hj
   rw[aBS (by simpa using h),aiD (by simp;omega),aBK (by omega),<-Cg]
   simp[List.getElem?_replicate];omega)
 rw[eX,qs]at h;exact h
def y66(w:World)(s:List UInt8)(k:Nat):Below w.heap.size w (FP w s k):=by
 refine⟨rfl,rfl,rfl,?_,λj hj=>?_⟩
 .show w.heap.size<=((bytesWorld w 5 ⟨⟨s⟩⟩).heap.push _).size
  rw[Array.size_push,bytesWorld_size];omega
 .show((bytesWorld w 5 ⟨⟨s⟩⟩).heap.push _)[j]? =_
  rw[Array.getElem?_push,au (by rw[bytesWorld_size];omega)];exact bytesWorld_at_old w 5 _ j hj
set_option maxHeartbeats 4000000 in
def y70(s:List UInt8)(k:Nat)(w:World)(h0:0<s.length)(hk:0<k)(hn:s.length+k<=65536):
  Calls pP 301 #[.string ⟨⟨s⟩⟩,.int .i64 ((s.length+k:Nat):Int)] w λe w'=>e=.returned (.tuple #[.string ⟨⟨s++List.replicate k 0⟩⟩,.int .i64 0])/\w'=FP w s k:=by
 obtain⟨n,TG⟩:∃n,n=s.length+k:=⟨_,rfl⟩;rw[<-TG]
 have h1:s.length<n:=by omega
 have h2:n<=65536:=by omega
 have Hg:(n:Int)-(s.length:Int)=(k:Int):=by omega
 have hN:Hid (n=s.length+k):=TG;have ye:Hid (s.length+k<=65536):=hn;clear TG hn;have hC2:Hid (s.length<=grownCap w s.length 0 5):=grownCap_ge _ _ _ _;have hL:=y69 w s;have hV:=y67 w s k
 have hq:Hid (¬(281474976710656<Builtin.nextslicecap (s.length+k) s.length)):=by
  have:Builtin.nextslicecap (s.length+k) s.length*1<=281474976710656:=growslice_fits (by omega) (by have:=ye.out;omega);show ¬_;omega
 go_enter Tryz.func301,Tryz.ntmps301
 go_wp2
 rw[aBN w 9 154 5 ⟨⟨s⟩⟩ Tryz.underlying9 Tryz.underlying154 Tryz.underlying5];simp only[Result.andThen];rw[Oper.upon_value]
 go_wp2
 .rename_i h1 h2;exfalso;rw[SO]at h1;have:=ye.out;omega
 .rename_i h1 h2;exfalso;rw[SO]at h1;have:=ye.out;omega
 .rename_i h1 h2 h3 h4;exfalso;rw[SO]at h1;have:=hq.out;omega
 .erw [hV]
  simp only[Result.andThen];rw[Oper.upon_value]
  go_wp2
  go_ret2
  exact⟨rfl,rfl⟩
def xR0(s:List UInt8)(n:Int)(h0:0<s.length)(h:(s.length:Int)<n)(hn:n<=65536):SCall pP 301 [.str s,J n] (.tuple [.str (kQ s n),J 0]):=by
 refine x80 (fn:=Tryz.f301) rfl rfl Tryz.func301 (by kernel_rfl) (by kernel_rfl) λR w vs hR hg bR=>?_
 obtain⟨u,us,rfl,h1,u2,xz,rfl,h2,h3⟩:=bR;rw[show xz=[]from h3,show u=_ from h1,show u2=_ from h2];obtain⟨k,hk⟩:∃k:Nat,n=((s.length+k:Nat):Int):=⟨(n-s.length).toNat,by omega⟩;subst hk
 refine(y70 s k w h0 (by omega) (by omega)).mono λe w' ⟨he,hw⟩=>⟨_,he,by rw[hw];exact y66 w s k,?_⟩
 refine⟨_,rfl,_,_,rfl,?_,_,_,rfl,rfl,rfl⟩;show Value.string _=Value.string _
 have:(((s.length+k:Nat):Int)-(s.length:Int)).toNat=k:=by omega
 simp only[kQ,this]
def Rs:aB:=⟨301,λargs=>match args with
 |[.str s,.int .i64 n] =>some (.aj (0<s.length&& ((s.length:Int)<n&&n<=65536)) (lT [.str (kQ s n),J 0]))
 |_=>none⟩
def yG5:Rs.ok pP:=λargs t ht=>by
 simp only[Rs]at ht
 split at ht
 .cases ht
  intro h;simp only[aH,aV]at h;exact xR0 _ _ h.1 h.2.1 h.2.2
 .cases ht
open Go.Sx
def jI2:ax:=let z0:ax:=.ah (.ln 3 pA) (.ln 3 (.ah .all (.ah .all (.ah .all .all))));.ah z0 z0
def wrp(f:Fl)(i:Int)(d:List UInt8):o8 (Env.cq pP (j9 [Lq]) (d9 []) (f0 []) (b9 []) (j6 []) (j6 [130]) (j6 []) (j6 [])) 1000 (x9 pP 267) .str (x6 65 []) (v7 pP 267) jI2 (v6 pP 267 [f.sv,J i,.str d]) [] =(.ag (f.aC.isEmpty) (.aj (o4 f) (.ag (!ny f i) (.ai (.done (.tuple [.agg [.list Ty.str [],J f.bU,.bool f.dead,J f.keep],J 1]))) (.ag ((↑d.length:Int) != 64) (.ai (.done (.tuple [.agg [.list Ty.str [],J f.bU,.bool f.dead,J f.keep],J 1]))) (.ag (f.dead) (.ai (.done (.tuple [.agg [.list Ty.str [],J f.bU,.bool f.dead,J f.keep],J 17]))) (.aj (0<=i&&i< (↑f.aC.length:Int)) (.ag (f.bU==1) (.aj (0<=f.keep&&f.keep<=(↑d.length:Int)) (.aj ((List.map (λb=>(↑b.toNat:Int)) (List.take f.keep.toNat d)).length<=(List.map (λb=>(↑b.toNat:Int)) (f.aC.getD i.toNat ([] :List UInt8))).length&&!(List.map (λb=>(↑b.toNat:Int)) (f.aC.getD i.toNat ([] :List UInt8))).isEmpty) (.aj (0<=i&&i<0) (.aA 6)))) (.aj ((List.map (λb=>(↑b.toNat:Int)) d).length<=(List.map (λb=>(↑b.toNat:Int)) (f.aC.getD i.toNat ([] :List UInt8))).length&&!(List.map (λb=>(↑b.toNat:Int)) (f.aC.getD i.toNat ([] :List UInt8))).isEmpty) (.aj (0<=i&&i<0) (.aA 6))))))))) (.aj ((0+f.aC.length)*16<=140737488355328) (.aj (o4 f) (.ag (!ny f i) (.ai (.done (.tuple [.agg [.list Ty.str f.aC,J f.bU,.bool f.dead,J f.keep],J 1]))) (.ag ((↑d.length:Int) != 64) (.ai (.done (.tuple [.agg [.list Ty.str f.aC,J f.bU,.bool f.dead,J f.keep],J 1]))) (.ag (f.dead) (.ai (.done (.tuple [.agg [.list Ty.str f.aC,J f.bU,.bool f.dead,J f.keep],J 17]))) (.aj (0<=i&&i< (↑f.aC.length:Int)) (.ag (f.bU==1) (.aj (0<=f.keep&&f.keep<=(↑d.length:Int)) (.aj ((List.map (λb=>(↑b.toNat:Int)) (List.take f.keep.toNat d)).length<=(List.map (λb=>(↑b.toNat:Int)) (f.aC.getD i.toNat ([] :List UInt8))).length&&!(List.map (λb=>(↑b.toNat:Int)) (f.aC.getD i.toNat ([] :List UInt8))).isEmpty) (.aj (0<=i&&i< (↑f.aC.length:Int)) (.aj (i.toNat<f.aC.length) (.ai (.done (.tuple [.agg [.list Ty.str (f.aC.set i.toNat (List.map (λn=>UInt8.ofNat (Int.toNat n)) (List.map (λb=>(↑b.toNat:Int)) (List.take f.keep.toNat d)++List.drop (List.map (λb=>(↑b.toNat:Int)) (List.take f.keep.toNat d)).length (List.map (λb=>(↑b.toNat:Int)) (f.aC.getD i.toNat ([] :List UInt8)))))),J 0,.bool true,J 0],J 17]))))))) (.aj ((List.map (λb=>(↑b.toNat:Int)) d).length<=(List.map (λb=>(↑b.toNat:Int)) (f.aC.getD i.toNat ([] :List UInt8))).length&&!(List.map (λb=>(↑b.toNat:Int)) (f.aC.getD i.toNat ([] :List UInt8))).isEmpty) (.aj (0<=i&&i< (↑f.aC.length:Int)) (.aj (i.toNat<f.aC.length) (.ai (.done (.tuple [.agg [.list Ty.str (f.aC.set i.toNat (List.map (λn=>UInt8.ofNat (Int.toNat n)) (List.map (λb=>(↑b.toNat:Int)) d++List.drop (List.map (λb=>(↑b.toNat:Int)) d).length (List.map (λb=>(↑b.toNat:Int)) (f.aC.getD i.toNat ([] :List UInt8)))))),J (if i64.wrap (f.bU-1)>0 then i64.wrap (f.bU-1)else 0),.bool f.dead,J f.keep],J 0])))))))))))))):=by kernel_rfl
def jI3:ax:=let z0:ax:=.ah (.ln 12 pA) (.ar (.ar (.ah (.ln 9 pA) (.ln 5 (.ah (.ln 3 pA) (.ln 3 (.ah .all (.ah .all (.ah .all .all)))))))));.ah z0 z0
def wrr(f:Fl)(i:Int)(d:List UInt8):o8 (Env.cq pP (j9 [z80]) (d9 []) (f0 []) (b9 []) (j6 []) (j6 [131]) (j6 []) (j6 [])) 1000 (x9 pP 190) .str (x6 69 []) (v7 pP 190) jI3 (v6 pP 190 [f.sv,J i,.str d]) [] =(.ag (f.aC.isEmpty) (.aj (o4 f) (.ag (!eU f) (.ai (.done (.tuple [.agg [.list Ty.str [],J f.bU,.bool f.dead,J f.keep],J 1]))) (.ag (i<0) (.ai (.done (.tuple [.agg [.list Ty.str [],J f.bU,.bool f.dead,J f.keep],J 1]))) (.ag (i>=(↑f.aC.length:Int)) (.ai (.done (.tuple [.agg [.list Ty.str [],J f.bU,.bool f.dead,J f.keep],J 1]))) (.ag ((↑d.length:Int) != 64) (.ai (.done (.tuple [.agg [.list Ty.str [],J f.bU,.bool f.dead,J f.keep],J 1]))) (.ag (f.dead) (.ai (.done (.tuple [.agg [.list Ty.str [],J f.bU,.bool f.dead,J f.keep],J 17]))) (.ag (f.bU==1) (.aj (0<=f.keep&&f.keep<=(↑d.length:Int)) (.aj (0<=i&&i< (↑f.aC.length:Int)) (.aj (0<=f.keep&&f.keep<=((List.length (f.aC.getD i.toNat ([] :List UInt8)):Nat):Int)) (.aj ((((List.take f.keep.toNat d).length+(List.drop f.keep.toNat (f.aC.getD i.toNat ([] :List UInt8))).length:Nat):Int)<=(9223372036854775807:Int)) (.aj (0<=i&&i<0) (.aA 6)))))) (.aj (0<=i&&i<0) (.aA 6))))))))) (.aj ((0+f.aC.length)*16<=140737488355328) (.aj (o4 f) (.ag (!eU f) (.ai (.done (.tuple [.agg [.list Ty.str f.aC,J f.bU,.bool f.dead,J f.keep],J 1]))) (.ag (i<0) (.ai (.done (.tuple [.agg [.list Ty.str f.aC,J f.bU,.bool f.dead,J f.keep],J 1]))) (.ag (i>=(↑f.aC.length:Int)) (.ai (.done (.tuple [.agg [.list Ty.str f.aC,J f.bU,.bool f.dead,J f.keep],J 1]))) (.ag ((↑d.length:Int) != 64) (.ai (.done (.tuple [.agg [.list Ty.str f.aC,J f.bU,.bool f.dead,J f.keep],J 1]))) (.ag (f.dead) (.ai (.done (.tuple [.agg [.list Ty.str f.aC,J f.bU,.bool f.dead,J f.keep],J 17]))) (.ag (f.bU==1) (.aj (0<=f.keep&&f.keep<=(↑d.length:Int)) (.aj (0<=i&&i< (↑f.aC.length:Int)) (.aj (0<=f.keep&&f.keep<=((List.length (f.aC.getD i.toNat ([] :List UInt8)):Nat):Int)) (.aj ((((List.take f.keep.toNat d).length+(List.drop f.keep.toNat (f.aC.getD i.toNat ([] :List UInt8))).length:Nat):Int)<=(9223372036854775807:Int)) (.aj (0<=i&&i< (↑f.aC.length:Int)) (.aj (i.toNat<f.aC.length) (.ai (.done (.tuple [.agg [.list Ty.str (f.aC.set i.toNat (List.take f.keep.toNat d++List.drop f.keep.toNat (f.aC.getD i.toNat ([] :List UInt8)))),J 0,.bool true,J 0],J 17]))))))))) (.aj (0<=i&&i< (↑f.aC.length:Int)) (.aj (i.toNat<f.aC.length) (.ai (.done (.tuple [.agg [.list Ty.str (f.aC.set i.toNat d),J (if i64.wrap (f.bU-1)>0 then i64.wrap (f.bU-1)else 0),.bool f.dead,J f.keep],J 0])))))))))))))):=by kernel_rfl
open Go.Sx
def yU(r:Rc):List UInt8:=aK r.seq 6++aK r.kind 1++aK r.line 6++aK r.done 4++aK r.src.fst 4++aK r.src.snd.fst 4++aK r.src.snd.snd.fst 4++aK r.src.snd.snd.snd 4++aK r.dst.fst 4++aK r.dst.snd.fst 4++aK r.dst.snd.snd.fst 4++aK r.dst.snd.snd.snd 4
def zX6(r:Rc):yU r=lX r:=by simp only[yU,lX,Cc]
def xE6(r:Rc):SCall pP 266 [r.sv] (yT r):=
 v9 aL [qi6,fUi,fIi,z64,Rs] ⟨yI3,yO1,yA6,yv9,yG5,trivial⟩ 1000 (.ah (.all) (.go (.ar (.go (.ar (.go (.ar (.go (.ar (.go (.ar (.go (.ar (.go (.ar (.go (.ar (.go (.ar (.go (.ar (.go (.ar (.go (.ar (.go pA))))))))))))))))))))))))))
  (t:=let y0:=(9223372036854775807:Int);let y1:=yU r++aK ((qO (yU r):Nat):Int) 2;.ag (!fB r) (lT [SV.str [],J 1]) (.aj (az r.seq 0 281474976710655) (.aj (((0+(aK r.seq 6).length:Nat):Int)<=y0) (.aj (az r.kind 0 255) (.aj ((((aK r.seq 6).length+(aK r.kind 1).length:Nat):Int)<=y0) (.aj (az r.line 0 281474976710655) (.aj ((((aK r.seq 6++aK r.kind 1).length+(aK r.line 6).length:Nat):Int)<=y0) (.aj (az r.done 0 4294967295) (.aj ((((aK r.seq 6++aK r.kind 1++aK r.line 6).length+(aK r.done 4).length:Nat):Int)<=y0) (rT (rT (.aj (az r.src.1 (-2147483648) 2147483647) (.aj ((((aK r.seq 6++aK r.kind 1++aK r.line 6++aK r.done 4).length+(aK r.src.1 4).length:Nat):Int)<=y0) (rT (.aj (az r.src.2.1 (-2147483648) 2147483647) (.aj ((((aK r.seq 6++aK r.kind 1++aK r.line 6++aK r.done 4++aK r.src.1 4).length+(aK r.src.2.1 4).length:Nat):Int)<=y0) (rT (.aj (az r.src.2.2.1 (-2147483648) 2147483647) (.aj ((((aK r.seq 6++aK r.kind 1++aK r.line 6++aK r.done 4++aK r.src.1 4++aK r.src.2.1 4).length+(aK r.src.2.2.1 4).length:Nat):Int)<=y0) (rT (.aj (az r.src.2.2.2 (-2147483648) 2147483647) (.aj ((((aK r.seq 6++aK r.kind 1++aK r.line 6++aK r.done 4++aK r.src.1 4++aK r.src.2.1 4++aK r.src.2.2.1 4).length+(aK r.src.2.2.2 4).length:Nat):Int)<=y0) (rT (rT (.aj (az r.dst.1 (-2147483648) 2147483647) (.aj ((((aK r.seq 6++aK r.kind 1++aK r.line 6++aK r.done 4++aK r.src.1 4++aK r.src.2.1 4++aK r.src.2.2.1 4++aK r.src.2.2.2 4).length+(aK r.dst.1 4).length:Nat):Int)<=y0) (rT (.aj (az r.dst.2.1 (-2147483648) 2147483647) (.aj ((((aK r.seq 6++aK r.kind 1++aK r.line 6++aK r.done 4++aK r.src.1 4++aK r.src.2.1 4++aK r.src.2.2.1 4++aK r.src.2.2.2 4++aK r.dst.1 4).length+(aK r.dst.2.1 4).length:Nat):Int)<=y0) (rT (.aj (az r.dst.2.2.1 (-2147483648) 2147483647) (.aj ((((aK r.seq 6++aK r.kind 1++aK r.line 6++aK r.done 4++aK r.src.1 4++aK r.src.2.1 4++aK r.src.2.2.1 4++aK r.src.2.2.2 4++aK r.dst.1 4++aK r.dst.2.1 4).length+(aK r.dst.2.2.1 4).length:Nat):Int)<=y0) (rT (.aj (az r.dst.2.2.2 (-2147483648) 2147483647) (.aj ((((aK r.seq 6++aK r.kind 1++aK r.line 6++aK r.done 4++aK r.src.1 4++aK r.src.2.1 4++aK r.src.2.2.1 4++aK r.src.2.2.2 4++aK r.dst.1 4++aK r.dst.2.1 4++aK r.dst.2.2.1 4).length+(aK r.dst.2.2.2 4).length:Nat):Int)<=y0) (.aj ((yU r).length<=100000) (.aj (az ((qO (yU r):Nat):Int) 0 65535) (.aj ((((yU r).length+(aK ((qO (yU r):Nat):Int) 2).length:Nat):Int)<=y0) (.aj (0<y1.length&& ((↑y1.length:Int)<58&&true)) (.aj (az r.seq 0 281474976710655) (.aj ((((kQ y1 58).length+(aK r.seq 6).length:Nat):Int)<=y0) (lT [SV.str (kQ y1 58++aK r.seq 6),J 0]))))))))))))))))))))))))))))))))))))))))))
  (by kernel_rfl) (by
   unfold yT
   refine d8 (λv=>by rw[v];rfl) λv=>?_
   rw[v];have q:=zt.1 v;have c:=Wv (lX r);have l:=sn r;rw[zX6]
   have R:∀{x lo hi:Int},lo<=x->x<=hi->az x lo hi=true:=λa b=>v5.2 ⟨a,b⟩
   have D:∀{x:Nat},x<=100000->decide (((x:Nat):Int)<=(9223372036854775807:Int))=true:=λh=>bn (by omega)
   have hl:∀n w,(aK n w).length=w:=mQ
   have p58:(kQ (lX r++aK ((qO (lX r):Nat):Int) 2) 58).length=58:=by
    simp only[kQ,eX,hl,l,qs];omega
   refine x0 (R (by omega) (by omega)) ?_;refine x0 (D (by simp only[eX,hl,rY];omega)) ?_;refine x0 (R (by omega) (by omega)) ?_;refine x0 (D (by simp only[eX,hl,rY];omega)) ?_;refine x0 (R (by omega) (by omega)) ?_;refine x0 (D (by simp only[eX,hl,rY];omega)) ?_;refine x0 (R (by omega) (by omega)) ?_;refine x0 (D (by simp only[eX,hl,rY];omega)) ?_;refine x0 rfl ?_;refine x0 rfl ?_;refine x0 (R (by omega) (by omega)) ?_;refine x0 (D (by simp only[eX,hl,rY];omega)) ?_;refine x0 rfl ?_;refine x0 (R (by omega) (by omega)) ?_;refine x0 (D (by simp only[eX,hl,rY];omega)) ?_;refine x0 rfl ?_;refine x0 (R (by omega) (by omega)) ?_;refine x0 (D (by simp only[eX,hl,rY];omega)) ?_;refine x0 rfl ?_;refine x0 (R (by omega) (by omega)) ?_;refine x0 (D (by simp only[eX,hl,rY];omega)) ?_;refine x0 rfl ?_;refine x0 rfl ?_;refine x0 (R (by omega) (by omega)) ?_;refine x0 (D (by simp only[eX,hl,rY];omega)) ?_;refine x0 rfl ?_;refine x0 (R (by omega) (by omega)) ?_;refine x0 (D (by simp only[eX,hl,rY];omega)) ?_;refine x0 rfl ?_;refine x0 (R (by omega) (by omega)) ?_;refine x0 (D (by simp only[eX,hl,rY];omega)) ?_;refine x0 rfl ?_;refine x0 (R (by omega) (by omega)) ?_;refine x0 (D (by simp only[eX,hl,rY];omega)) ?_;refine x0 (bn (by rw[l];omega)) ?_;refine x0 (R (by omega) (by omega)) ?_;refine x0 (D (by rw[l,hl];omega)) ?_
   refine x0 (by
    have e:(lX r++aK ((qO (lX r):Nat):Int) 2).length=51:=by rw[eX,hl,l]
    rw[e];rfl) ?_
   refine x0 (R (by omega) (by omega)) ?_;refine x0 (D (by rw[p58,hl];omega)) ?_
   rfl) (by kernel_rfl) (by exact VZ r)
open Go.Sx
def XB:ax:=.ar (.all)
def yq2(s:List UInt8)(a:Int):fU (Env.cq pP (j9 [ym,yp]) (d9 []) (f0 []) (b9 []) (j6 []) (j6 []) (j6 []) (j6 [])) 1000 (x9 pP 283) 1 (x6 34 []) (v7 pP 283) XB (v6 pP 283 [.ptr 0 0]) [some (.cells [.str s,J a,J 6,.fn 282 [] []])] =(.aj (0<=a&& (a+6<=(↑s.length:Int)&&s.length<=100000)) (.ai (.fin (.ret (J (tk s a.toNat 6)) [some (.cells [SV.str s,J (a+6),J 6,SV.fn 282 [] []])])))):=by kernel_rfl
def zt7(s:List UInt8)(a:Int)(h0:0<=a)(h1:a+6<=(s.length:Int))(h2:s.length<=100000):lW pP 283 [] (.cells [.str s,J a,J 6,.fn 282 [] []]) (false,J (tk s a.toNat 6),.cells [.str s,J (a+6),J 6,.fn 282 [] []]):=by
 refine AK (r:=.ret (J (tk s a.toNat 6)) [some (.cells [.str s,J (a+6),J 6,.fn 282 [] []])]) (by kernel_rfl) (nV (hB (l:=[ym,yp]) (k:=[]) (j:=[]) (i:=[]) nN nN nN nN (⟨J7,J8,trivial⟩) v8 v8 v8) (n:=1000) (keep:=(x6 34 [])) (p:=XB) (bA _) ?_) rfl rfl rfl rfl rfl;erw [yq2 s a];exact⟨by simp only[aH,aV];exact⟨h0,h1,h2⟩,rfl⟩
def XD:ax:=.ar (.all)
def yp8(s:List UInt8)(a:Int):fU (Env.cq pP (j9 [ym,yp]) (d9 []) (f0 []) (b9 []) (j6 []) (j6 []) (j6 []) (j6 [])) 1000 (x9 pP 283) 1 (x6 34 []) (v7 pP 283) XD (v6 pP 283 [.ptr 0 0]) [some (.cells [.str s,J a,J 1,.fn 282 [] []])] =(.aj (0<=a&& (a+1<=(↑s.length:Int)&&s.length<=100000)) (.ai (.fin (.ret (J (tk s a.toNat 1)) [some (.cells [SV.str s,J (a+1),J 1,SV.fn 282 [] []])])))):=by kernel_rfl
def zt5(s:List UInt8)(a:Int)(h0:0<=a)(h1:a+1<=(s.length:Int))(h2:s.length<=100000):lW pP 283 [] (.cells [.str s,J a,J 1,.fn 282 [] []]) (false,J (tk s a.toNat 1),.cells [.str s,J (a+1),J 1,.fn 282 [] []]):=by
 refine AK (r:=.ret (J (tk s a.toNat 1)) [some (.cells [.str s,J (a+1),J 1,.fn 282 [] []])]) (by kernel_rfl) (nV (hB (l:=[ym,yp]) (k:=[]) (j:=[]) (i:=[]) nN nN nN nN (⟨J7,J8,trivial⟩) v8 v8 v8) (n:=1000) (keep:=(x6 34 [])) (p:=XD) (bA _) ?_) rfl rfl rfl rfl rfl;erw [yp8 s a];exact⟨by simp only[aH,aV];exact⟨h0,h1,h2⟩,rfl⟩
def XC:ax:=.ar (.all)
def yq0(s:List UInt8)(a:Int):fU (Env.cq pP (j9 [ym,yp]) (d9 []) (f0 []) (b9 []) (j6 []) (j6 []) (j6 []) (j6 [])) 1000 (x9 pP 283) 1 (x6 34 []) (v7 pP 283) XC (v6 pP 283 [.ptr 0 0]) [some (.cells [.str s,J a,J 4,.fn 282 [] []])] =(.aj (0<=a&& (a+4<=(↑s.length:Int)&&s.length<=100000)) (.ai (.fin (.ret (J (tk s a.toNat 4)) [some (.cells [SV.str s,J (a+4),J 4,SV.fn 282 [] []])])))):=by kernel_rfl
def zt6(s:List UInt8)(a:Int)(h0:0<=a)(h1:a+4<=(s.length:Int))(h2:s.length<=100000):lW pP 283 [] (.cells [.str s,J a,J 4,.fn 282 [] []]) (false,J (tk s a.toNat 4),.cells [.str s,J (a+4),J 4,.fn 282 [] []]):=by
 refine AK (r:=.ret (J (tk s a.toNat 4)) [some (.cells [.str s,J (a+4),J 4,.fn 282 [] []])]) (by kernel_rfl) (nV (hB (l:=[ym,yp]) (k:=[]) (j:=[]) (i:=[]) nN nN nN nN (⟨J7,J8,trivial⟩) v8 v8 v8) (n:=1000) (keep:=(x6 34 [])) (p:=XC) (bA _) ?_) rfl rfl rfl rfl rfl;erw [yq0 s a];exact⟨by simp only[aH,aV];exact⟨h0,h1,h2⟩,rfl⟩
def XE:ax:=.ar (.all)
def yp6(s:List UInt8)(a:Int):fU (Env.cq pP (j9 [ym,yp]) (d9 []) (f0 []) (b9 []) (j6 []) (j6 []) (j6 []) (j6 [])) 1000 (x9 pP 283) 1 (x6 34 []) (v7 pP 283) XE (v6 pP 283 [.ptr 0 0]) [some (.cells [.str s,J a,J 4,.fn 284 [] []])] =(.aj (0<=a&& (a+4<=(↑s.length:Int)&&s.length<=100000)) (.ai (.fin (.ret (J (sg (tk s a.toNat 4))) [some (.cells [SV.str s,J (a+4),J 4,SV.fn 284 [] []])])))):=by kernel_rfl
def zt4(s:List UInt8)(a:Int)(h0:0<=a)(h1:a+4<=(s.length:Int))(h2:s.length<=100000):lW pP 283 [] (.cells [.str s,J a,J 4,.fn 284 [] []]) (false,J (sg (tk s a.toNat 4)),.cells [.str s,J (a+4),J 4,.fn 284 [] []]):=by
 refine AK (r:=.ret (J (sg (tk s a.toNat 4))) [some (.cells [.str s,J (a+4),J 4,.fn 284 [] []])]) (by kernel_rfl) (nV (hB (l:=[ym,yp]) (k:=[]) (j:=[]) (i:=[]) nN nN nN nN (⟨J7,J8,trivial⟩) v8 v8 v8) (n:=1000) (keep:=(x6 34 [])) (p:=XE) (bA _) ?_) rfl rfl rfl rfl rfl;erw [yp6 s a];exact⟨by simp only[aH,aV];exact⟨h0,h1,h2⟩,rfl⟩
def Cl:bF:=⟨283,λargs B=>match args with
 |[] =>match B with
  |.cells [.str s,.int .i64 a,.int .i64 w,.fn g [] []] =>match Nat.beq g 282 with
   |true=>match w==6 with
    |true=>some (.aj (0<=a&& (a+6<=(s.length:Int)&&s.length<=100000)) (.ai (false,J (tk s a.toNat 6),.cells [.str s,J (a+6),J 6,.fn 282 [] []])))
    |false=>match w==1 with
     |true=>some (.aj (0<=a&& (a+1<=(s.length:Int)&&s.length<=100000)) (.ai (false,J (tk s a.toNat 1),.cells [.str s,J (a+1),J 1,.fn 282 [] []])))
     |false=>match w==4 with
      |true=>some (.aj (0<=a&& (a+4<=(s.length:Int)&&s.length<=100000)) (.ai (false,J (tk s a.toNat 4),.cells [.str s,J (a+4),J 4,.fn 282 [] []])))
      |false=>none
   |false=>match Nat.beq g 284 with
    |true=>match w==4 with
     |true=>some (.aj (0<=a&& (a+4<=(s.length:Int)&&s.length<=100000)) (.ai (false,J (sg (tk s a.toNat 4)),.cells [.str s,J (a+4),J 4,.fn 284 [] []])))
     |false=>none
    |false=>none
  |_=>none
 |_=>none⟩
def YQ:Cl.ok pP:=λargs B t ht=>by
 simp only[Cl]at ht
 split at ht
 .split at ht
  .rename_i s a w g
   have sp:∀{x:Int} {k:Nat},(0<=a&& (a+x<=(s.length:Int)&&s.length<=100000))=true->0<=a/\a+x<=(s.length:Int)/\s.length<=100000:=λh=>by simpa using h
   split at ht
   .rename_i hg
    have hg:=gQ hg;subst hg
    split at ht
    .rename_i hw
     have hw:=cI.1 hw;subst hw;cases ht;intro h;obtain⟨h0,h1,h2⟩:=sp (k:=0) h;exact zt7 s a h0 h1 h2
    .split at ht
     .rename_i hw
      have hw:=cI.1 hw;subst hw;cases ht;intro h;obtain⟨h0,h1,h2⟩:=sp (k:=0) h;exact zt5 s a h0 h1 h2
     .split at ht
      .rename_i hw
       have hw:=cI.1 hw;subst hw;cases ht;intro h;obtain⟨h0,h1,h2⟩:=sp (k:=0) h;exact zt6 s a h0 h1 h2
      .cases ht
   .split at ht
    .rename_i hg
     have hg:=gQ hg;subst hg
     split at ht
     .rename_i hw
      have hw:=cI.1 hw;subst hw;cases ht;intro h;obtain⟨h0,h1,h2⟩:=sp (k:=0) h;exact zt4 s a h0 h1 h2
     .cases ht
    .cases ht
  .cases ht
 .cases ht
def z72:aB:=Dh 266 λr=>.ag (fB r) (lT [.str (enc r),J 0]) (lT [.str [],J 1])
def Xm:z72.ok pP:=KL λr=>by
 have q:=xE6 r;unfold yT at q;exact⟨λv=>by rw[v]at q;exact q,λv=>by rw[v]at q;exact q⟩
open Go.Sx
def xD6(s:List UInt8)(h:s.length<=100000):SCall pP 255 [.str s] (yY s):=
 ic (hB (l:=[z72]) (k:=[]) (j:=[bF.toP Cl]) (i:=[Cl]) nN nN nN nN (⟨Xm,trivial⟩) v8 (gx.all (p:=kq.ok pP) (l:=[bF.toP Cl]) ⟨bF.toP_ok YQ,trivial⟩) (gx.all (p:=bF.ok pP) (l:=[Cl]) ⟨YQ,trivial⟩)) 1000 (.ah .all (.go (.ar (.go (.ar (.go (.ar (.go (.ar (.go (.ar (.go (.ar (.go (.ar (.go (.ar (.go (.ar (.go (.ar (.go (.ar (.go (.ar (.go (.ar (.ah (.ln 4 (.ah .all .all)) (.ln 4 pA)))))))))))))))))))))))))))))
  (t:=let y0:=s.length<=100000;let y1:=(↑s.length:Int);let y2:=Rc.mk (tk s 6 1) (tk s 0 6) (tk s 7 6) (tk s 13 4) (sg (tk s 17 4),sg (tk s 21 4),sg (tk s 25 4),sg (tk s 29 4)) (sg (tk s 33 4),sg (tk s 37 4),sg (tk s 41 4),sg (tk s 45 4));let y3:ak SV:=lT [.agg [J 0,J 0,J 0,J 0,J 0,J 0,J 0,J 0,J 0,J 0,J 0,J 0],J 19];.ag (y1<64) (lT [.agg [J 0,J 0,J 0,J 0,J 0,J 0,J 0,J 0,J 0,J 0,J 0,J 0],J 6]) (.aj (6<=y1&&decide y0) (.aj (7<=y1&&decide y0) (.aj (13<=y1&&decide y0) (.aj (17<=y1&&decide y0) (rT (.aj (21<=y1&&decide y0) (.aj (21<=y1&&decide y0) (rT (.aj (25<=y1&&decide y0) (.aj (25<=y1&&decide y0) (rT (.aj (29<=y1&&decide y0) (.aj (29<=y1&&decide y0) (rT (.aj (33<=y1&&decide y0) (.aj (33<=y1&&decide y0) (rT (rT (.aj (37<=y1&&decide y0) (.aj (37<=y1&&decide y0) (rT (.aj (41<=y1&&decide y0) (.aj (41<=y1&&decide y0) (rT (.aj (45<=y1&&decide y0) (.aj (45<=y1&&decide y0) (rT (.aj (49<=y1&&decide y0) (.aj (49<=y1&&decide y0) (rT (.ag (fB y2) (.ag (!enc y2==s) y3 (lT [.agg [J (tk s 6 1),J (tk s 0 6),J (tk s 7 6),J (tk s 13 4),J (sg (tk s 17 4)),J (sg (tk s 21 4)),J (sg (tk s 25 4)),J (sg (tk s 29 4)),J (sg (tk s 33 4)),J (sg (tk s 37 4)),J (sg (tk s 41 4)),J (sg (tk s 45 4))],J 0])) y3))))))))))))))))))))))))))))))))
  (by kernel_rfl) (by
   have qq:∀x:Int,x<=49->64<=s.length->(x<=(s.length:Int)&&s.length<=100000)=true:=λx a b=>by simp;omega
   unfold yY;refine o7 (λa=>?_) (λa=>?_);.rw[bn (show s.length<64 by omega)];rfl
   .rw[iX (show ¬s.length<64 by omega)]
    have b:64<=s.length:=by omega
    have e:va s=(fB (ep s)&&s==enc (ep s)):=rfl;refine x0 (qq _ (by decide) b) ?_;refine x0 (qq _ (by decide) b) ?_;refine x0 (qq _ (by decide) b) ?_;refine x0 (qq _ (by decide) b) ?_;refine x0 rfl ?_;refine x0 (qq _ (by decide) b) ?_;refine x0 (qq _ (by decide) b) ?_;refine x0 rfl ?_;refine x0 (qq _ (by decide) b) ?_;refine x0 (qq _ (by decide) b) ?_;refine x0 rfl ?_;refine x0 (qq _ (by decide) b) ?_;refine x0 (qq _ (by decide) b) ?_;refine x0 rfl ?_;refine x0 (qq _ (by decide) b) ?_;refine x0 (qq _ (by decide) b) ?_;refine x0 rfl ?_;refine x0 rfl ?_;refine x0 (qq _ (by decide) b) ?_;refine x0 (qq _ (by decide) b) ?_;refine x0 rfl ?_;refine x0 (qq _ (by decide) b) ?_;refine x0 (qq _ (by decide) b) ?_;refine x0 rfl ?_;refine x0 (qq _ (by decide) b) ?_;refine x0 (qq _ (by decide) b) ?_;refine x0 rfl ?_;refine x0 (qq _ (by decide) b) ?_;refine x0 (qq _ (by decide) b) ?_;refine x0 rfl ?_
    refine t8 (λv=>?_) λv=>?_
    .have v:fB (ep s)=true:=v
     refine d8 (λw=>?_) λw=>?_
     .have w:(enc (ep s)==s)=false:=w
      have w:(s==enc (ep s))=false:=by
       rw[dM]at w ⊢;exact λh=>w h.symm
      rw[e,v,w];rfl
     .have w:(enc (ep s)==s)=true:=w
      have w:(s==enc (ep s))=true:=by
       rw[cI]at w ⊢;exact w.symm
      rw[e,v,w];rfl
    .have v:fB (ep s)=false:=v
     rw[e,v];rfl) (by kernel_rfl) (by exact Wp s)
open Go.Sx
def pM(f:Fl)(i:Int)(d:List UInt8):SV:=.tuple [(xx f i d).sv,J (zx f i d)]
variable{f:Fl}{i:Int}{d:List UInt8}
def vN(h:ny f i=false\/¬d.length=64):pM f i d=.tuple [f.sv,J 1] :=by
 have e:(ny f i&&d.length=64)=false:=by rcases h with h|h<;>simp[h]
 unfold pM xx zx;rw[e];rfl
def jH6(h:ny f i=true)(hd:d.length=64)(hf:f.dead=true):pM f i d=.tuple [f.sv,J 17] :=by
 unfold pM xx zx;rw[h,hd,hf];rfl
def jH8(h:ny f i=true)(hd:d.length=64)(hf:f.dead=false)(hu:f.bU=1):pM f i d=.tuple [.agg [.list .str (f.aC.set i.toNat (d.take f.keep.toNat++(f.aC.getD i.toNat []).drop f.keep.toNat)),J 0,.bool true,J 0],J 17] :=by
 have e:(f.bU==1)=true:=by simpa using hu
 unfold pM xx zx;rw[h,hd,hf,e];rfl
def jH7(h:ny f i=true)(hd:d.length=64)(hf:f.dead=false)(hu:¬f.bU=1):pM f i d=.tuple [.agg [.list .str (f.aC.set i.toNat d),J (if f.bU-1>0 then f.bU-1 else 0),.bool f.dead,J f.keep],J 0] :=by
 have e:(f.bU==1)=false:=by simpa using hu
 unfold pM xx zx;rw[h,hd,hf,e];rfl
def jw4(x:List UInt8):(x.map λb=>(b.toNat:Int)).map (λn=>UInt8.ofNat (Int.toNat n))=x:=by
 rw[US];exact(EN λb _=>by simp).trans (List.map_id x)
def RU:ny f i=true↔eU f=true/\0<=i/\i<=(f.aC.length:Int)-1:=by simp only[ny,aH,v5]
def Kd(h:ny f i=true):(f.aC.getD i.toNat []).length=64/\0<=i/\i< (f.aC.length:Int)/\i.toNat<f.aC.length/\(0<=f.keep/\f.keep<=64)/\0<=f.bU/\f.bU<=1048576:=by
 obtain⟨h1,h2,h3⟩:=RU.1 h;have fb:=GB.1 h1
 have hi:i.toNat<f.aC.length:=by omega
 refine⟨?_,h2,by omega,hi,fb.2.2.2.2,fb.2.2.2.1⟩;rw[cK,cc hi];exact fb.1 _ (Cb hi)
def MU(f:Fl)(i:Int)(d:List UInt8):(pM f i d).data=true:=rfl
def kWr:cV pP (Env.cq pP (j9 [Lq]) (d9 []) (f0 []) (b9 []) (j6 []) (j6 [130]) (j6 []) (j6 [])):=hB (l:=[Lq]) (k:=[]) (j:=[]) (i:=[]) [] [130] [] [] ⟨yz8,trivial⟩ v8 v8 v8
def q28:cV pP (Env.cq pP (j9 [z80]) (d9 []) (f0 []) (b9 []) (j6 []) (j6 [131]) (j6 []) (j6 [])):=hB (l:=[z80]) (k:=[]) (j:=[]) (i:=[]) [] [131] [] [] ⟨CJ,trivial⟩ v8 v8 v8
def D1:((d.length:Int)=64)↔d.length=64:=by omega
def XI(e:f.aC.isEmpty=true):ny f i=false:=by
 have e:=wz.1 e;rw[eB];intro h;have:=(Kd h).2.1;have:=(Kd h).2.2.1;rw[e]at this;simp at this;omega
def IM(e:f.aC.isEmpty=true):f.sv=.agg [.list .str [],J f.bU,.bool f.dead,J f.keep] :=by
 have e:=wz.1 e;show SV.agg f.cells=_;unfold Fl.cells;rw[e];rfl
def x55(f:Fl)(i:Int)(d:List UInt8)(h:o4 f=true):SCall pP 267 [f.sv,J i,.str d] (pM f i d):=by
 have hl:f.aC.length<=1000:=bG h;refine s8 rfl (MU f i d) (by kernel_rfl) (o6 kWr (n:=1000) (hint:=.str) (keep:=x6 65 []) (p:=jI2) (boxes:=[]) (MU f i d) ?_);have q:=wrp f i d;unfold v6 v7 at q;erw [q]
 refine t8 (λe=>x0 h (d8 (λb=>?_) λb=>?_)) λe=>x0 (bn (by omega)) (x0 h (d8 (λb=>?_) λb=>dI (λk=>?_) λk=>t8 (λdd=>?_) λdd=>x0 ?_ (iK (λu=>x0 ?_ (x0 ?_ (x0 ?_ (x0 ?_ ?_)))) λu=>x0 ?_ (x0 ?_ (x0 ?_ ?_)))))
 .exact((vN (.inl b)).trans (by rw[IM e];try rfl)).symm
 .rw[XI e]at b;cases b
 .exact(vN (.inl b)).symm
 .exact(vN (.inr λk'=>k (D1.2 k'))).symm
 .exact(jH6 b (D1.1 k) dd).symm
 all_goals
  obtain⟨p1,p2,p3,p4,p5,p6⟩:=Kd b;have k:=D1.1 k
 .simp;omega
 .simp[k];omega
 .rw[mP,mP,ou,p1]
  cases hp:f.aC.getD i.toNat ([] :List UInt8)with
  |nil=>rw[hp]at p1;simp at p1
  |cons x l=>simp;omega
 .simp;omega
 .exact bn p4
 .rw[<-List.map_drop,<-EO,jw4,mP,ou,k,show min f.keep.toNat 64=f.keep.toNat by omega]
  exact(jH8 b k dd u).symm
 .rw[mP,mP,p1,k]
  cases hp:f.aC.getD i.toNat ([] :List UInt8)with
  |nil=>rw[hp]at p1;simp at p1
  |cons x l=>simp
 .simp;omega
 .exact bn p4
 .rw[<-List.map_drop,<-EO,jw4,mP,k,AD (aib p1),wA,aG (by omega) (by omega)]
  exact(jH7 b k dd u).symm
def x56(f:Fl)(i:Int)(d:List UInt8)(h:o4 f=true)(hd:d.length<=100000):SCall pP 190 [f.sv,J i,.str d] (pM f i d):=by
 have hl:f.aC.length<=1000:=bG h;refine s8 rfl (MU f i d) (by kernel_rfl) (o6 q28 (n:=1000) (hint:=.str) (keep:=x6 69 []) (p:=jI3) (boxes:=[]) (MU f i d) ?_);have q:=wrr f i d;unfold v6 v7 at q;erw [q]
 have nb:∀{x:Bool},eU f=x->(x=false\/i<0\/i>=(f.aC.length:Int))->ny f i=false:=λhx hy=>by
  rw[eB];intro hh;obtain⟨h1,h2,h3⟩:=RU.1 hh;rw[h1]at hx;subst hx;rcases hy with hy|hy|hy
  .cases hy
  .omega
  .omega
 have yb:eU f=true->¬i<0->¬i>=(f.aC.length:Int)->ny f i=true:=λh1 h2 h3=>RU.2 ⟨h1,by omega,by omega⟩
 refine t8 (λe=>x0 h (d8 (λb=>?_) λb=>o7 (λb1=>?_) λb1=>o7 (λb2=>?_) λb2=>?_)) λe=>x0 (bn (by omega)) (x0 h (d8 (λb=>?_) λb=>o7 (λb1=>?_) λb1=>o7 (λb2=>?_) λb2=>dI (λk=>?_) λk=>t8 (λdd=>?_) λdd=>(iK (λu=>x0 ?_ (x0 ?_ (x0 ?_ (x0 ?_ (x0 ?_ (x0 ?_ ?_)))))) λu=>x0 ?_ (x0 ?_ ?_))))
 .exact((vN (.inl (nb b (.inl rfl)))).trans (by rw[IM e];try rfl)).symm
 .exact((vN (.inl (nb b (.inr (.inl b1))))).trans (by rw[IM e];try rfl)).symm
 .exact((vN (.inl (nb b (.inr (.inr b2))))).trans (by rw[IM e];try rfl)).symm
 .have:=XI (i:=i) e
  rw[yb b b1 b2]at this;cases this
 .exact(vN (.inl (nb b (.inl rfl)))).symm
 .exact(vN (.inl (nb b (.inr (.inl b1))))).symm
 .exact(vN (.inl (nb b (.inr (.inr b2))))).symm
 .exact(vN (.inr λk'=>k (D1.2 k'))).symm
 .exact(jH6 (yb b b1 b2) (D1.1 k) dd).symm
 all_goals
  have hb:=yb b b1 b2;obtain⟨p1,p2,p3,p4,p5,p6⟩:=Kd hb;have k:=D1.1 k
 .simp[k];omega
 .simp;omega
 .rw[p1];simp;omega
 .refine bn ?_
  rw[ou,wv,p1,k];omega
 .simp;omega
 .exact bn p4
 .exact(jH8 hb k dd u).symm
 .simp;omega
 .exact bn p4
 .rw[aG (by omega) (by omega)]
  exact(jH7 hb k dd u).symm
def K0(f:FuncId)(h:Fl->Int->List UInt8->ak SV):aB:=⟨f,λargs=>match args with
 |[.agg [.list .str p,.int .i64 a,.bool d,.int .i64 k],.int .i64 i,.str s] =>some (h ⟨p,a,d,k⟩ i s)
 |_=>none⟩
variable{P:Program}
def qr6{f:FuncId}{h:Fl->Int->List UInt8->ak SV}(k:∀c i s,(h c i s).bw (SCall P f [c.sv,J i,.str s])):(K0 f h).ok P:=λargs t ht=>by
 simp only[K0]at ht
 split at ht<;>cases ht;exact k ⟨_,_,_,_⟩ _ _
def fWr:aB:=K0 267 λf i s=>.aj (o4 f) (.ai (pM f i s))
def yQ1:fWr.ok pP:=qr6 λf i s h=>x55 f i s h
def qp4:aB:=K0 190 λf i s=>.aj (o4 f) (.aj (s.length<=100000) (.ai (pM f i s)))
def yQ2:qp4.ok pP:=qr6 λf i s h hd=>x56 f i s h (bG hd)
def Ou(s:List UInt8):ak SV:=.aj (s.length<=100000) (.ag (s.length<64) (lT [kz.sv,J 6]) (.ag (va s) (lT [(ep s).sv,J 0]) (lT [kz.sv,J 19])))
variable{s:List UInt8}
def Wq{g:FuncId}(k:s.length<=100000->SCall P g [.str s] (yY s)):(Ou s).bw (SCall P g [.str s]):=λh=>by
 have q:=k (bG h);unfold yY at q;exact⟨λa=>by rw[a]at q;exact q,λa=>⟨λb=>by rw[a,b]at q;exact q,λb=>by rw[a,b]at q;exact q⟩⟩
def z67:aB:=Gi 255 Ou
def yw1:z67.ok pP:=KK λs=>Wq (xD6 s)
def Jk:aB:=Gi 263 Ou
def yw2:Jk.ok pP:=KK λs=>Wq (xD7 s)
open Go.Sx
abbrev dQ:Ty:=.pair (.int .i64) (.pair (.int .i64) (.pair (.int .i64) (.pair (.int .i64) (.pair (.pair (.int .i64) (.pair (.int .i64) (.pair (.int .i64) (.int .i64)))) (.pair (.int .i64) (.pair (.int .i64) (.pair (.int .i64) (.int .i64))))))))
abbrev RT:=Int×Int×Int×Int×V4×V4
def Rc.t(r:Rc):RT:=(r.kind,r.seq,r.line,r.done,r.src,r.dst)
def nl(x:RT):Rc:=⟨x.1,x.2.1,x.2.2.1,x.2.2.2.1,x.2.2.2.2.1,x.2.2.2.2.2⟩
def xj4(r:Rc):nl r.t=r:=rfl
def jl5(x:RT):(nl x).t=x:=rfl
def xk0(l:List Rc):(l.map Rc.t).map nl=l:=by rw[US];exact(EN λx _=>xj4 x).trans (List.map_id l)
def jl6(l:List RT):(l.map nl).map Rc.t=l:=by rw[US];exact(EN λx _=>jl5 x).trans (List.map_id l)
abbrev LR(l:List Rc):SV:=.list dQ (l.map Rc.t)
def Cx:List Rc->Bool
 |[] =>true
 |r::l=>(l.all λx=>!(x.seq==r.seq))&&Cx l
theorem On:∀{l:List Rc},Cx l=true↔pF l
 |[] =>by simp[Cx,pF]
 |r::l=>by simp[Cx,pF,On (l:=l)]
open Go.Sx
def xi2:ax:=.ah (.ar (.ar pA)) (.ar (.ar (.ah .all .all)))
def ra0(f:Fl):o8 (Env.of pP (j9 [z80])) 1000 (x9 pP 196) dQ (x6 88 [1,3,4,7]) (v7 pP 196) xi2 (v6 pP 196 [f.sv]) [] =(.aj (o4 f) (.ag (!eU f) (.ai (.done (.list dQ []))) (.ag (f.dead) (.ai (.done (.list dQ []))) (.ai (.at (x8 pP 196 0) 88 (x7 88 [(1,.ptr 0 0),(3,SV.cm),(4,J 0),(7,SV.undef)]) [some (.cells f.cells)]))))):=by kernel_rfl
def xi3:ax:=.ah (.ah (.ln 9 pA) (.ah (.ln 9 (.ah .all .all)) (.ln 9 pA))) .all
def ra1(f:Fl)(l:List RT)(i:Int):o8 (Env.of pP (j9 [Jk])) 1000 (x9 pP 196) dQ (x6 88 [1,3,4,7]) (x8 pP 196 0) xi3 (x7 88 [(1,.ptr 0 0),(3,.row 1),(4,J i)]) [some (.cells f.cells),some (.rows dQ l)] =(.ag (i< (↑f.aC.length:Int)) (.aj (0<=i&&i< (↑f.aC.length:Int)) (.aj (List.length (f.aC.getD i.toNat ([] :List UInt8))<=100000) (.ag (List.length (f.aC.getD i.toNat ([] :List UInt8))<64) (.ai (.at (x8 pP 196 0) 88 (x7 88 [(1,.ptr 0 0),(3,SV.row 1),(4,J (i64.wrap (i+1)))]) [some (.cells f.cells),some (.rows dQ l)])) (.ag (va (f.aC.getD i.toNat ([] :List UInt8))) (.aj (!(↑f.aC.length:Int)==0) (.ag ((ep (f.aC.getD i.toNat ([] :List UInt8))).seq.tmod (↑f.aC.length:Int) != i) (.ai (.at (x8 pP 196 0) 88 (x7 88 [(1,.ptr 0 0),(3,SV.row 1),(4,J (i64.wrap (i+1)))]) [some (.cells f.cells),some (.rows dQ l)])) (.aj ((l.length+ [(ep (f.aC.getD i.toNat ([] :List UInt8))).t].length)*96<=140737488355328) (.ai (.at (x8 pP 196 1) 88 (x7 88 [(1,.ptr 0 0),(3,SV.row 1),(4,J i),(7,J (i64.wrap ((↑(l++[(ep (f.aC.getD i.toNat ([] :List UInt8))).t]).length:Int)-1)))]) [some (.cells f.cells),some (.rows dQ (l++[(ep (f.aC.getD i.toNat ([] :List UInt8))).t]))]))))) (.ai (.at (x8 pP 196 0) 88 (x7 88 [(1,.ptr 0 0),(3,SV.row 1),(4,J (i64.wrap (i+1)))]) [some (.cells f.cells),some (.rows dQ l)])))))) (.ai (.done (.list dQ l)))):=by kernel_rfl
def Z9:ax:=.ah (.ln 12 (.ah .all .all)) (.ln 12 pA)
def ra2(f:Fl)(l:List RT)(i k:Int):o8 (Env.of pP (j9 [])) 1000 (x9 pP 196) dQ (x6 88 [1,3,4,7]) (x8 pP 196 1) Z9 (x7 88 [(1,.ptr 0 0),(3,.row 1),(4,J i),(7,J k)]) [some (.cells f.cells),some (.rows dQ l)] =(.ag (k>0) (.aj (0<=k&&k< (↑l.length:Int)) (.aj (k.toNat<l.length) (.aj (0<=i64.wrap (k-1)&&i64.wrap (k-1)< (↑l.length:Int)) (.aj ((i64.wrap (k-1)).toNat<l.length) (.ag ((l.getD k.toNat kz.t).2.1< (l.getD (i64.wrap (k-1)).toNat kz.t).2.1) (.aj (0<=k&&k< (↑l.length:Int)) (.aj (k.toNat<l.length) (.aj (0<=i64.wrap (k-1)&&i64.wrap (k-1)< (↑l.length:Int)) (.aj ((i64.wrap (k-1)).toNat<l.length) (.aj (0<=k&&k< (↑l.length:Int)) (.aj (k.toNat<l.length) (.aj (0<=i64.wrap (k-1)&&i64.wrap (k-1)< (↑(l.set k.toNat (l.getD (i64.wrap (k-1)).toNat kz.t)).length:Int)) (.aj ((i64.wrap (k-1)).toNat< (l.set k.toNat (l.getD (i64.wrap (k-1)).toNat kz.t)).length) (.ai (.at (x8 pP 196 1) 88 (x7 88 [(1,.ptr 0 0),(3,SV.row 1),(4,J i),(7,J (i64.wrap (k-1)))]) [some (.cells f.cells),some (.rows dQ ((l.set k.toNat (l.getD (i64.wrap (k-1)).toNat kz.t)).set (i64.wrap (k-1)).toNat (l.getD k.toNat kz.t)))])))))))))) (.ai (.at (x8 pP 196 0) 88 (x7 88 [(1,.ptr 0 0),(3,SV.row 1),(4,J (i64.wrap (i+1))),(7,J k)]) [some (.cells f.cells),some (.rows dQ l)]))))))) (.ai (.at (x8 pP 196 0) 88 (x7 88 [(1,.ptr 0 0),(3,SV.row 1),(4,J (i64.wrap (i+1))),(7,J k)]) [some (.cells f.cells),some (.rows dQ l)]))):=by kernel_rfl
open Go.Sx
def q23:cV pP (Env.of pP (j9 [Jk])):=kW (l:=[Jk]) ⟨yw2,trivial⟩
def q25:cV pP (Env.of pP (j9 [z80])):=kW (l:=[z80]) ⟨CJ,trivial⟩
abbrev Ga(i:Int):List SV:=x7 88 [(1,.ptr 0 0),(3,.row 1),(4,J i)]
abbrev Ay(f:Fl)(l:List Rc):List (Option aR):=[some (.cells f.cells),some (.rows dQ (l.map Rc.t))]
def Pk{l:List Rc}{i:Nat}(h:i<l.length):(l.map Rc.t).getD i kz.t=(l.getD i kz).t:=by
 rw[cK,AB,cK,cc h];rfl
theorem QT{α:Type}:∀ (A:List α) (x y:α) (B:List α),(A++x::B).set A.length y=A++y::B
 |[],_,_,_=>rfl
 |a::A,x,y,B=>rQ (a::·) (QT A x y B)
def qE8{v:SV}{l:List Rc}{k:Int}(h:t9 pP (x9 pP 196) v (x8 pP 196 0) (Ga i) (Ay f l)):t9 pP (x9 pP 196) v (x8 pP 196 0) (x7 88 [(1,.ptr 0 0),(3,.row 1),(4,J i),(7,J k)]) (Ay f l):=by
 have e:x7 88 [(1,.ptr 0 0),(3,.row 1),(4,J i),(7,.di)] =Ga i:=rfl;rw[<-e]at h;exact Kh false [] (iw:=x7 88 [(1,.ptr 0 0),(3,.row 1),(4,J i),(7,.di)]) (kf:=Ay f l) (MR ⟨rfl,.same _,rfl,.same _,rfl,.same _,rfl,.di _,trivial⟩) ⟨by simp,.same _,by simp,.same _,rfl⟩ h
theorem Z8(f:Fl)(v:SV)(hv:v.data=true)(r:Rc)(i:Int)(hi:0<=i/\i<=1000):∀ (n:Nat) (A B:List Rc),A.length=n->n<=1000->qu (A++B)->(∀x∈B,r.seq<x.seq)->
  t9 pP (x9 pP 196) v (x8 pP 196 0) (Ga (i+1)) (Ay f (lJ r (A++B)))->
  t9 pP (x9 pP 196) v (x8 pP 196 1) (x7 88 [(1,.ptr 0 0),(3,.row 1),(4,J i),(7,J n)]) (Ay f (A++r::B))
 |n,A,B,hn,hl,ha,hb,h=>by
  have w1:i64.wrap (i+1)=i+1:=aG (by omega) (by omega);refine o6 eH (n:=1000) (hint:=dQ) (keep:=x6 88 [1,3,4,7]) (p:=Z9) hv ?_;erw [ra2 f ((A++r::B).map Rc.t) i n];rw[w1]
  match n,hn with
  |0,hn=>
   have:A=[] :=Ca.1 hn;subst this
   refine o7 (λk=>absurd k (by omega)) λ_=>⟨o5 _ _,qE8 ?_⟩
   have e:lJ r ([] ++B)=[] ++r::B:=RH (a:=[]) (b:=B) ha (λx hx=>by cases hx) hb;rw[e]at h;exact h
  |m+1,hn=>
   obtain⟨A',x,rfl⟩:∃A' x,A=A'++[x] :=⟨A.dropLast,A.getLast (by intro e;rw[e]at hn;cases hn),(aio _).symm⟩
   have hA:A'.length=m:=by simpa using hn
   have w2:i64.wrap (((m+1:Nat):Int)-1)=(m:Int):=by rw[aG (by omega) (by omega)];omega
   have t1:(((m+1:Nat):Int)).toNat=m+1:=by omega
   have t2:((m:Int)).toNat=m:=by omega
   have len:(A'++[x] ++r::B).length=m+1+1+B.length:=by simp[hA];omega
   have g1:(A'++[x] ++r::B).getD (m+1) kz=r:=by
    rw[cK,uN (by simp;omega)];simp[hA]
   have g2:(A'++[x] ++r::B).getD m kz=x:=by
    rw[Cc,cK,uN (by omega)];simp[hA]
   have G:∀j,j< (A'++[x] ++r::B).length->((A'++[x] ++r::B).map Rc.t).getD j kz.t=((A'++[x] ++r::B).getD j kz).t:=λj hj=>Pk hj
   have L:((A'++[x] ++r::B).map Rc.t).length=m+1+1+B.length:=by rw[mP,len]
   rw[w2,t1,t2,G _ (by omega),G _ (by omega),g1,g2]
   have auh:(((A'++[x] ++r::B).map Rc.t).set (m+1) x.t).set m r.t=(A'++r::(x::B)).map Rc.t:=by
    rw[<-List.map_set,<-List.map_set]
    congr 1
    have e1:=QT (A'++[x]) r x B;rw[show(A'++[x]).length=m+1 by simp[hA]]at e1;have e2:=QT A' x r (x::B);rw[hA]at e2;rw[e1,show A'++[x] ++x::B=A'++x::x::B by simp,e2]
   have q:∀b:Nat,b<m+1+1+B.length->(0<=((b:Nat):Int)&&((b:Nat):Int)< (((A'++[x] ++r::B).map Rc.t).length:Int))=true:=λb hb=>by rw[L];simp;omega
   have q2:∀b:Nat,b<m+1+1+B.length->decide (b< ((A'++[x] ++r::B).map Rc.t).length)=true:=λb hb=>bn (by rw[L];exact hb)
   refine o7 (λ_=>x0 (q _ (by omega)) (x0 (q2 _ (by omega)) (x0 (q _ (by omega)) (x0 (q2 _ (by omega)) (o7 (λc=>?_) λc=>?_))))) λk=>absurd (by omega) k
   .refine x0 (q _ (by omega)) (x0 (q2 _ (by omega)) (x0 (q _ (by omega)) (x0 (q2 _ (by omega)) (x0 (q _ (by omega)) (x0 (q2 _ (by omega)) (x0 ?_ (x0 ?_ ⟨o5 _ _,?_⟩)))))))
    .rw[Ig];exact q _ (by omega)
    .rw[Ig];exact q2 _ (by omega)
    .rw[auh]
     refine Z8 f v hv r i hi m A' (x::B) hA (by omega) (by simpa using ha) (λy hy=>?_) (by simpa using h);rcases qT.1 hy with rfl|hy
     .exact c
     .exact hb y hy
   .refine⟨o5 _ _,qE8 ?_⟩
    have le:∀y∈A'++[x],y.seq<=r.seq:=λy hy=>by
     have c':¬r.seq<x.seq:=c
     have Uy:∀ (a b:List Rc),qu (a++b)->∀y∈a,∀z∈b,y.seq<=z.seq:=by
      intro a b
      induction a with
      |nil=>intro _ y hy;cases hy
      |cons w a ih=>
       intro h y hy z hz;rcases qT.1 hy with rfl|hy
       .exact h.1 z (aBJ _ hz)
       .exact ih h.2 y hy z hz
     rcases wu.1 hy with hy|hy
     .have:=Uy A' ([x] ++B) (by simpa using ha) y hy x (by simp)
      omega
     .rcases qT.1 hy with rfl|hy
      .omega
      .cases hy
    rw[RH ha le hb]at h;exact h
def yM(n:Int)(aN:List Rc)(i:Nat)(l:List (List UInt8)):List Rc:=(oI n i l).foldl (λaN r=>lJ r aN) aN
def zn5{n:Int}{aN:List Rc}{i:Nat}{l:List (List UInt8)}(h:nk n i s=none):yM n aN i (s::l)=yM n aN (i+1) l:=by
 unfold yM;rw[F0,h]
variable{r:Rc}
def zn6{n:Int}{aN:List Rc}{i:Nat}{l:List (List UInt8)}(h:nk n i s=some r):yM n aN i (s::l)=yM n (lJ r aN) (i+1) l:=by
 unfold yM;rw[F0,h];rfl
theorem Qs(f:Fl)(hl:f.aC.length<=1000)(hp:∀p∈f.aC,p.length=64):∀ (k i:Nat) (aN L:List Rc),i+k=f.aC.length->qu aN->aN.length<=i->L=yM f.aC.length aN i (f.aC.drop i)->
  t9 pP (x9 pP 196) (LR L) (x8 pP 196 0) (Ga i) (Ay f aN)
 |k,i,aN,L,hi,ha,hn,hL=>by
  have w1:i64.wrap ((i:Int)+1)=(i:Int)+1:=aG (by omega) (by omega)
  have t0:(i:Int).toNat=i:=by omega
  refine o6 q23 (n:=1000) (hint:=dQ) (keep:=x6 88 [1,3,4,7]) (p:=xi3) rfl ?_;erw [ra1 f (aN.map Rc.t) i];rw[w1,t0]
  match k,hi with
  |0,hi=>
   refine o7 (λa=>absurd a (by omega)) λ_=>?_
   have z:f.aC.drop i=[] :=AD (by omega);rw[z]at hL;have hL:L=aN:=hL;subst hL;rfl
  |k+1,hi=>
   have BO:i<f.aC.length:=by omega
   have GJ:(f.aC.getD i ([] :List UInt8)).length=64:=by
    rw[cK,cc BO];exact hp _ (Cb BO)
   rw[uY (d:=([] :List UInt8)) BO]at hL
   have nx:((i:Int)+1)=((i+1:Nat):Int):=by omega
   have skip:nk f.aC.length i (f.aC.getD i ([] :List UInt8))=none->t9 pP (x9 pP 196) (LR L) (x8 pP 196 0) (Ga ((i:Int)+1)) (Ay f aN):=λe=>by
    rw[zn5 e]at hL;rw[nx];exact Qs f hl hp k (i+1) aN L (by omega) ha (by omega) hL
   have nz:(!(((f.aC.length:Nat):Int)==0))=true:=by
    rw[iJ,dM];omega
   refine o7 (λ_=>x0 (by simp;omega) (x0 (bn (by rw[GJ];omega)) (o7 (λc=>absurd c (by rw[GJ];omega)) λ_=>t8 (λb=>x0 nz (dI (λc=>?_) λc=>x0 (bn ?_) ?_)) λb=>?_))) λa=>absurd (by omega) a
   .refine⟨o5 _ _,skip ?_⟩
    cases e:nk f.aC.length i (f.aC.getD i ([] :List UInt8))with
    |none=>rfl
    |some r=>exact absurd (xm.1 e).2.1 c
   .rw[mP]
    show(aN.length+1)*96<=_;omega
   .have e:nk f.aC.length i (f.aC.getD i ([] :List UInt8))=some (ep (f.aC.getD i ([] :List UInt8))):=xm.2 ⟨b,c,rfl⟩
    rw[zn6 e]at hL
    have el:(aN.map Rc.t)++[(ep (f.aC.getD i ([] :List UInt8))).t] =(aN++ep (f.aC.getD i ([] :List UInt8))::[]).map Rc.t:=by rw[EO];rfl
    have len:(((aN.map Rc.t++[(ep (f.aC.getD i ([] :List UInt8))).t]).length:Nat):Int)-1=(aN.length:Int):=by
     rw[eX,mP];show(((aN.length+1:Nat)):Int)-1=_;omega
    rw[len,aG (by omega) (by omega),el];refine⟨o5 _ _,?_⟩;refine Z8 f (LR L) rfl (ep (f.aC.getD i ([] :List UInt8))) i (by omega) aN.length aN [] rfl (by omega) (by rw[wA];exact ha) (λx hx=>by cases hx) ?_;rw[wA,nx];refine Qs f hl hp k (i+1) (lJ (ep (f.aC.getD i ([] :List UInt8))) aN) L (by omega) (RI _ _ ha) ?_ hL;rw[(Lv _ aN).length_eq,tv];omega
   .refine⟨o5 _ _,skip ?_⟩
    cases e:nk f.aC.length i (f.aC.getD i ([] :List UInt8))with
    |none=>rfl
    |some r=>have:=(xm.1 e).1;rw[this]at b;cases b
def xA2(f:Fl)(h:o4 f=true):SCall pP 196 [f.sv] (LR (dl f)):=by
 have hl:f.aC.length<=1000:=bG h;refine s8 rfl rfl (by kernel_rfl) (o6 q25 (n:=1000) (hint:=dQ) (keep:=x6 88 [1,3,4,7]) (p:=xi2) (boxes:=[]) rfl ?_);have q:=ra0 f;unfold v6 v7 at q;erw [q];refine x0 h (d8 (λb=>?_) λb=>t8 (λd=>?_) λd=>⟨o5 _ _,?_⟩)
 .have:dl f=[] :=by unfold dl;rw[b];rfl
  rw[this];rfl
 .have:dl f=[] :=by unfold dl;rw[b,d];rfl
  rw[this];rfl
 .have e:dl f=yM f.aC.length [] 0 (f.aC.drop 0):=by unfold dl;rw[b,d];rfl
  have r:=Qs f hl (GB.1 b).1 f.aC.length 0 [] (dl f) (by omega) trivial (bA _) e;exact Kh true [] (iw:=x7 88 [(1,.ptr 0 0),(3,.row 1),(4,J 0),(7,.di)]) (kf:=Ay f []) (MR ⟨rfl,.same _,rfl,.nil rfl,rfl,.same _,rfl,.di _,trivial⟩) ⟨by simp,.same _,trivial⟩ r
def z35:aB:=ru 196 λf=>.aj (o4 f) (.ai (LR (dl f)))
def ys2:z35.ok pP:=tV λf h=>xA2 f h
open Go.Sx
def bW(f:Fl):Rc:=(jV f).getD kz
def zT(f:Fl):SV:=.tuple [(bW f).sv,.bool (jV f).isSome]
def tj(f:Fl)(r:Rc):SV:=.tuple [(ko f r).sv,J (yt f r)]
def L0(f:Fl):qI f=(bW f).seq:=by unfold qI bW;cases jV f<;>rfl
def Gk(g:FuncId)(h:Fl->Rc->ak SV):aB:=⟨g,λargs=>match args with
 |[.agg [.list .str p,.int .i64 a,.bool d,.int .i64 k],.agg [.int .i64 r0,.int .i64 r1,.int .i64 r2,.int .i64 r3,.int .i64 p0,.int .i64 p1,.int .i64 p2,.int .i64 p3,.int .i64 q0,.int .i64 q1,.int .i64 q2,.int .i64 q3]] =>some (h ⟨p,a,d,k⟩ ⟨r0,r1,r2,r3,(p0,p1,p2,p3),(q0,q1,q2,q3)⟩)
 |_=>none⟩
def Q9{g:FuncId}{h:Fl->Rc->ak SV}(k:∀c r,(h c r).bw (SCall P g [c.sv,r.sv])):(Gk g h).ok P:=λargs t ht=>by
 simp only[Gk]at ht
 split at ht<;>cases ht;exact k ⟨_,_,_,_⟩ ⟨_,_,_,_,(_,_,_,_),(_,_,_,_)⟩
def DJ:aB:=ru 103 λf=>.aj (o4 f) (.ai (zT f))
def Lj:aB:=ru 110 λf=>.aj (o4 f) (.ai (zT f))
def Ns:aB:=Gk 202 λf r=>.aj (o4 f) (.ai (tj f r))
def z37:aB:=Gk 101 λf r=>.aj (o4 f) (.ai (tj f r))
theorem Z4{n:Int}:∀{l:List (List UInt8)} {i:Nat},(oI n i l).length<=l.length
 |[],i=>bA _
 |s::l,i=>by
  have:=@Z4 n l (i+1);rw[F0]
  split<;>simp<;>omega
def Vt(f:Fl):(dl f).length<=f.aC.length:=by
 unfold dl
 split;.rw[(MP _).length_eq];exact Z4
 .simp
def NZ(h:r∈dl f):fB r=true:=by
 unfold dl at h
 split at h
 .obtain⟨j,_,hj⟩:=Pj.1 ((MP _).mem_iff.1 h)
  obtain⟨h1,_,rfl⟩:=xm.1 hj;exact(zP9.1 h1).1
 .cases h
def zU(f:Fl):0<=(bW f).seq/\(bW f).seq<=1099511627776:=by
 unfold bW
 cases h:jV f with
 |none=>exact⟨Cf _,by decide⟩
 |some r=>
  have:=zt.1 (NZ (aik h));exact⟨by show 0<=r.seq;omega,this.2.1.2⟩
def q45(h:dl f=[]):zT f=.tuple [kz.sv,.bool false] :=by
 unfold zT bW jV;rw[h];rfl
def q46{A:List Rc}{x:Rc}(h:dl f=A++[x]):zT f=.tuple [x.sv,.bool true] :=by
 unfold zT bW jV;rw[h,List.getLast?_concat];rfl
def Iy(h:fB r=false\/eU f=false):tj f r=.tuple [f.sv,J 1] :=by
 have e:(fB r&&eU f)=false:=by rcases h with h|h<;>simp[h]
 unfold tj ko yt;rw[e];rfl
def Vr(h:fB r=true)(k:eU f=true)(d:f.dead=true):tj f r=.tuple [f.sv,J 17] :=by
 unfold tj ko yt;rw[h,k,d];rfl
def Vp(h:fB r=true)(k:eU f=true)(d:f.dead=false)(s:¬r.seq=qI f+1):tj f r=.tuple [f.sv,J 11] :=by
 have e:(r.seq==qI f+1)=false:=by simpa using s
 unfold tj ko yt;rw[h,k,d,e];rfl
def Vq(h:fB r=true)(k:eU f=true)(d:f.dead=false)(s:r.seq=qI f+1):tj f r=pM f (r.seq.tmod f.aC.length) (enc r):=by
 have e:(r.seq==qI f+1)=true:=by simpa using s
 unfold tj ko yt pM;rw[h,k,d,e];rfl
def xL1(f:Fl)(h:o4 f=true):SCall pP 110 [f.sv] (zT f):=
 aY aL [z35] ⟨ys2,trivial⟩ 1000 (.ah (.all) (.all))
  (t:=let y1:=(↑(List.map Rc.t (dl f)).length:Int);let y0:=(List.map Rc.t (dl f)).getD (i64.wrap (y1-1)).toNat kz.t;.aj (o4 f) (.ag (y1==0) (lT [.agg [J 0,J 0,J 0,J 0,J 0,J 0,J 0,J 0,J 0,J 0,J 0,J 0],.bool false]) (.aj (0<=i64.wrap (y1-1)&&i64.wrap (y1-1)<y1) (lT [.agg [J y0.1,J y0.2.1,J y0.2.2.1,J y0.2.2.2.1,J y0.2.2.2.2.1.1,J y0.2.2.2.2.1.2.1,J y0.2.2.2.2.1.2.2.1,J y0.2.2.2.2.1.2.2.2,J y0.2.2.2.2.2.1,J y0.2.2.2.2.2.2.1,J y0.2.2.2.2.2.2.2.1,J y0.2.2.2.2.2.2.2.2],.bool true]))))
  (by kernel_rfl) (by
   refine x0 h (iK (λe=>?_) λe=>?_)
   .have e:dl f=[] :=by
     rw[mP]at e;exact pz (by omega)
    rw[q45 e];rfl
   .have hl:f.aC.length<=1000:=bG h
    have len:=Vt f;rw[mP]at e ⊢;have w:i64.wrap (((dl f).length:Int)-1)=((dl f).length:Int)-1:=aG (by omega) (by omega);rw[w];obtain⟨A,x,hA⟩:∃A x,dl f=A++[x] :=⟨(dl f).dropLast,(dl f).getLast (by intro k;rw[k]at e;exact e rfl),(aio _).symm⟩
    have g:((dl f).map Rc.t).getD (((dl f).length:Int)-1).toNat kz.t=x.t:=by
     rw[Pk (by omega),hA]
     have:((((A++[x]).length:Nat):Int)-1).toNat=A.length:=by simp
     rw[this,cK,uN (bA _)];simp
    rw[g,q46 hA]
    exact x0 (by simp;omega) rfl) (by kernel_rfl)
def PV:Lj.ok pP:=tV λf h=>xL1 f h
def xA5(f:Fl)(r:Rc)(h:o4 f=true):SCall pP 101 [f.sv,r.sv] (tj f r):=
 aY aL [OQ,z80,Lj,qp4] ⟨Xl,CJ,PV,yQ2,trivial⟩ 1000 (.ah (.ln 4 (.ah .all (.ah .all (.ah .all .all)))) (.ln 4 pA))
  (t:=let y0:=xx f (r.seq.tmod (↑f.aC.length:Int)) (enc r);.ag (fB r) (.aj (o4 f) (.ag (!eU f) (lT [.agg f.cells,J 1]) (.ag (f.dead) (lT [.agg f.cells,J 17]) (.aj (o4 f) (.ag (r.seq != i64.wrap ((bW f).seq+1)) (lT [.agg f.cells,J 11]) (.aj (!(↑f.aC.length:Int)==0) (.aj (o4 f) (.aj ((enc r).length<=100000) (lT [.agg [.list Ty.str y0.aC,J y0.bU,.bool y0.dead,J y0.keep],J (zx f (r.seq.tmod (↑f.aC.length:Int)) (enc r))]))))))))) (lT [.agg f.cells,J 1]))
  (by kernel_rfl) (by
   have w:i64.wrap ((bW f).seq+1)=qI f+1:=by rw[L0,aG (by have:=zU f;omega) (by have:=zU f;omega)]
   rw[w]
   refine t8 (λa=>x0 h (d8 (λb=>(Iy (.inr b)).symm) λb=>t8 (λd=>(Vr a b d).symm) λd=>x0 h (dI (λs=>(Vp a b d s).symm) λs=>x0 ?_ (x0 h (x0 (by rw[zY3];rfl) ?_))))) λa=>(Iy (.inl a)).symm
   .have:=(GB.1 b).2.1
    rw[iJ,dM];omega
   .rw[Vq a b d s];rfl) (by kernel_rfl)
def Xx:z37.ok pP:=Q9 λf r h=>xA5 f r h
open Go.Sx
def Z5(f:Fl)(r:Rc):SV:=.tuple [(b8 f r).sv,.bool (ib f r==0)]
def Le:aB:=Gk 121 λf r=>.aj (o4 f) (.ai (Z5 f r))
def xU8(f:Fl)(r:Rc)(h:o4 f=true):SCall pP 121 [f.sv,r.sv] (Z5 f r):=
 aY aL [Lj,z37] ⟨PV,Xx,trivial⟩ 1000 (.ah (.all) (.all))
  (t:=let y0:=Rc.mk r.kind (i64.wrap ((bW f).seq+1)) r.line r.done r.src r.dst;let y1:=Rc.mk r.kind 1 r.line r.done r.src r.dst;.aj (o4 f) (.ag ((jV f).isSome) (.aj (o4 f) (lT [.agg [.list Ty.str (ko f y0).aC,J (ko f y0).bU,.bool (ko f y0).dead,J (ko f y0).keep],.bool (yt f y0==0)])) (.aj (o4 f) (lT [.agg [.list Ty.str (ko f y1).aC,J (ko f y1).bU,.bool (ko f y1).dead,J (ko f y1).keep],.bool (yt f y1==0)]))))
  (by kernel_rfl) (by
   have w:i64.wrap ((bW f).seq+1)=qI f+1:=by rw[L0,aG (by have:=zU f;omega) (by have:=zU f;omega)]
   have e0:(jV f).isSome=false->Rc.mk r.kind 1 r.line r.done r.src r.dst=JE f r:=λk=>by
    have:jV f=none:=by cases q:jV f with
     |none=>rfl
     |some x=>rw[q]at k;cases k
    unfold JE qI;rw[this];rfl
   refine x0 h (t8 (λk=>x0 h ?_) λk=>x0 h ?_);.rw[w];rfl
   .rw[e0 k];rfl) (by kernel_rfl)
def Qr:ax:=.ah (.all) (.all)
def rcX(f:Fl)(r:Rc):fU (Env.cq pP (j9 [DJ,Ns]) (d9 []) (f0 []) (b9 []) (j6 []) (j6 []) (j6 []) (j6 [])) 1000 (x9 pP 119) 1 (x6 37 []) (v7 pP 119) Qr (v6 pP 119 [.ptr 0 0,r.sv]) [some (.cells f.cells)] =(.aj (o4 f) (.aj (o4 f) (.ag (yt f (Rc.mk r.kind (i64.wrap ((bW f).seq+1)) r.line r.done r.src r.dst) != 0) (.ai (.fin (.cE (SV.dO (Value.iface 200 (Value.agg (Array.mk [])))) [some (.cells [.list Ty.str (ko f (Rc.mk r.kind (i64.wrap ((bW f).seq+1)) r.line r.done r.src r.dst)).aC,J (ko f (Rc.mk r.kind (i64.wrap ((bW f).seq+1)) r.line r.done r.src r.dst)).bU,.bool (ko f (Rc.mk r.kind (i64.wrap ((bW f).seq+1)) r.line r.done r.src r.dst)).dead,J (ko f (Rc.mk r.kind (i64.wrap ((bW f).seq+1)) r.line r.done r.src r.dst)).keep])]))) (.ai (.fin (.ret (.tuple []) [some (.cells [.list Ty.str (ko f (Rc.mk r.kind (i64.wrap ((bW f).seq+1)) r.line r.done r.src r.dst)).aC,J (ko f (Rc.mk r.kind (i64.wrap ((bW f).seq+1)) r.line r.done r.src r.dst)).bU,.bool (ko f (Rc.mk r.kind (i64.wrap ((bW f).seq+1)) r.line r.done r.src r.dst)).dead,J (ko f (Rc.mk r.kind (i64.wrap ((bW f).seq+1)) r.line r.done r.src r.dst)).keep])])))))):=by kernel_rfl
abbrev Q6:SV:=.dO (.iface 200 (.agg (Array.mk [])))
def yJ:bF:=⟨119,λargs B=>match args with
 |[.agg [.int .i64 r0,.int .i64 r1,.int .i64 r2,.int .i64 r3,.int .i64 p0,.int .i64 p1,.int .i64 p2,.int .i64 p3,.int .i64 q0,.int .i64 q1,.int .i64 q2,.int .i64 q3]] =>match B with
  |.cells [.list .str p,.int .i64 a,.bool d,.int .i64 k] =>some (.aj (o4 ⟨p,a,d,k⟩) (.ag (ib ⟨p,a,d,k⟩ ⟨r0,r1,r2,r3,(p0,p1,p2,p3),(q0,q1,q2,q3)⟩==0)
    (.ai (false,.tuple [],.cells (b8 ⟨p,a,d,k⟩ ⟨r0,r1,r2,r3,(p0,p1,p2,p3),(q0,q1,q2,q3)⟩).cells))
    (.ai (true,Q6,.cells (b8 ⟨p,a,d,k⟩ ⟨r0,r1,r2,r3,(p0,p1,p2,p3),(q0,q1,q2,q3)⟩).cells))))
  |_=>none
 |_=>none⟩
def PN:Le.ok pP:=Q9 λf r h=>xU8 f r h
end Go.Proofs.YtnkaepnblikcdaaGreat
namespace Go.Sx
open Go.RowKit
theorem F6{β:Type}{Φ:β->Prop}:∀ (t:ak β),(∀x,t.holds (λy=>y=x)->Φ x)->t.bw Φ
 |.ai a,h=>h a rfl
 |.ag b t f,h=>⟨λhb=>F6 t λx hx=>h x ⟨λ_=>hx,λiQ=>by rw[hb]at iQ;cases iQ⟩,λhb=>F6 f λx hx=>h x ⟨λiQ=>(by rw[hb]at iQ;cases iQ),λ_=>hx⟩⟩
 |.aj b t,h=>λhb=>F6 t λx hx=>h x ⟨hb,hx⟩
 |.aA _,_=>trivial
noncomputable def goS(E:Env)(n:Nat)(f:FuncId)(args:List SV)(m:Mem):ak Ex:=
 match E.fn f with
 |some fn=>match fn.body with
  | some body => match fn.name == "runtime.NumGoroutine" with
    |false=>Fr.make fn.ntmps args λfr=>exec E n [.code body] .all fr m λo=>match o with
     |.ret _ fr m=>results E fn m fr λv=>.ai (.ok v m)
     |.cE v _ m=>.ai (.cE v m)
     |.stop _ _ _=>.aA 200
    |true=>.aA 143
  |none=>.aA 144
 |none=>.aA 145
noncomputable def No(E:Env)(n:Nat)(f:FuncId):kq:=⟨f,λargs m=>some (goS E n f args m)⟩
variable{P:Program}
def R3{E:Env}(hK:cV P E)(n:Nat)(f:FuncId):(No E n f).ok P:=by
 intro args m t ht;cases ht
 refine F6 _ λx h=>?_
 unfold goS at h
 split at h
 .rename_i fn jG
  have hf:=hK.e.fn f fn jG
  split at h
  .rename_i body hb
   split at h
   .rename_i hn
    obtain⟨fr,h1,h2,h3,h4⟩:=qz h;obtain⟨out,h5,h6⟩:=su hK.e hK.s hK.aL n _ _ _ _ _ _ h1
    cases out with
    |stop it aD m'=>cases h5
    |ret p' aD mc=>
     dsimp only at h5;obtain⟨v',h7,h8⟩:=qE hK.e h5;have h7:Ex.ok v' mc=x:=h7;subst h7;intro w0 R0 I w vs hm bR;show kN P _ ((Go.callFunc f vs.toArray).run P w);rw[nS hf hb hn];exact ve hf hb h6 h8 hm (pV h2 h3 h4 bR)
    |cE v' aD mc=>
     have h5:Ex.cE v' mc=x:=h5;subst h5;intro w0 R0 I w vs hm bR;show IE P _ ((Go.callFunc f vs.toArray).run P w);rw[nS hf hb hn];have cn:=pV h2 h3 h4 bR;intro cs
     let b:Frame:={ (default:Frame)with fn:=f,kind:=.normal}
     have tc:Frame.enter P f vs.toArray .normal=b.at {tmps:=vs.toArray++Array.replicate (fn.ntmps-vs.toArray.size) Go.undef,defers:=[]} [.code body] :=by
      simp[Frame.enter,Frame.at,hf,hb,b]
     obtain⟨I',w',a',todo,u,g1,g2,g3,g4⟩:=h6 w0 R0 I w {tmps:=vs.toArray++Array.replicate (fn.ntmps-vs.toArray.size) Go.undef,defers:=[]} ⟨hm,cn,rfl⟩ b cs;exact⟨.panicked [{v:=u,recovered:=false}],w',_,⟨u,rfl,I',g1.1,g2,g3⟩,by rw[tc];exact g4,rfl,rfl,g1.2.2,_,hf⟩
   .exact h.elim
  .exact h.elim
 .exact h.elim
def qX8(d:Tmp)(c:Call):Bool:=match c.callee with
 |.value g=>match g with
  |.tmp t=>Nat.beq t d&&c.args.toList.isEmpty
  |_=>false
 |_=>false
def Sd(ops:List Oper):Option (Tmp×FuncId×List Operand):=match ops with
 |[o1,o2] =>match o1.guard,o2.guard,o2.dst with
  |none,none,none=>match o1.dst with
   |some d=>match o1.op with
    |.makeFunc (.func g) first cap=>match o2.op with
     |.defer c=>match first.toList.isEmpty&&qX8 d c with
      |true=>some (d,g,cap.toList)
      |false=>none
     |_=>none
    |_=>none
   |none=>none
  |_,_,_=>none
 |_=>none
def q51{ops:List Oper}{x:Tmp×FuncId×List Operand}(h:Sd ops=some x):∃o1 o2 cap c,ops=[o1,o2] /\o1.op=.makeFunc (.func x.2.1) #[] cap/\o1.guard=none/\o1.dst=some x.1/\o2.op=.defer c/\c.callee=.value (.tmp x.1)/\c.args=#[] /\o2.guard=none/\o2.dst=none/\cap.toList=x.2.2:=by
 unfold Sd at h
 split at h
 .rename_i o1 o2
  split at h
  .rename_i g1 g2 g3
   split at h
   .rename_i d hd
    split at h
    .rename_i g first cap fR
     split at h
     .rename_i c hc
      split at h
      .rename_i hb
       cases h;rw[aH]at hb
       have e1:first=#[] :=by
        have:=hb.1;apply oy
        simpa using this
       subst e1;have h2:=hb.2;unfold qX8 at h2
       split at h2
       .rename_i g' lk
        split at h2
        .rename_i t
         rw[aH]at h2;have e2:=gQ h2.1;subst e2;refine⟨o1,o2,cap,c,rfl,fR,g1,hd,hc,lk,?_,g2,g3,rfl⟩;apply oy
         simpa using h2.2
        .cases h2
       .cases h2
      .cases h
     .cases h
    .cases h
   .cases h
  .cases h
 .cases h
def Qp(ops:List Oper):Option Tmp:=match ops with
 |o::_=>match o.guard with
  |none=>match o.op with
   |.call c=>match c.callee with
    |.builtin .recover=>o.dst
    |_=>none
   |_=>none
  |some _=>none
 |[] =>none
def xl2{ops:List Oper}{d:Tmp}(h:Qp ops=some d):∃o rest,ops=o::rest/\o.guard=none/\o.dst=some d/\∀ev w,(Go.execOp ev o).run P w=.ok .recover w:=by
 unfold Qp at h
 split at h
 .rename_i o rest
  split at h
  .rename_i hg
   split at h
   .rename_i c fR
    split at h
    .rename_i hc
     refine⟨o,rest,rfl,hg,h,λev w=>?_⟩;obtain⟨dst,op,ty,pos,after,guard⟩:=o;dsimp only at fR;subst fR;simp[Go.execOp,resolve,invoke,builtin,hc]
    .cases h
   .cases h
  .cases h
 .cases h
section
variable {α:Type}
noncomputable def F1(Ec Eb:Env)(n:Nat)(g:FuncId)(aw:List SV)(hand:SV)(m:Mem)(k:Mem->ak α):ak α:=
 match Eb.fn g with
 |some fg=>match fg.body with
  | some cg => match fg.name == "runtime.NumGoroutine" with
    |false=>Fr.make fg.ntmps aw λfr=>exec Ec n [.code cg] .all fr m λo=>match o with
     |.stop items fr m=>match items with
      |.code c::kg=>match c with
       |.region _ ops false=>match Qp ops.toList with
        |some d=>nW fr (some d) hand λfr=>exec Eb n (.inRegion ops (List.range' 1 (ops.size-1))::kg) .all fr m λo=>match o with
         |.ret _ fr m=>results Eb fg m fr λ_=>k m
         |_=>.aA 204
        |none=>.aA 203
       |_=>.aA 203
      |_=>.aA 203
     |_=>.aA 203
    |true=>.aA 143
  |none=>.aA 144
 |none=>.aA 145
noncomputable def Wo(Ea Eb Ec:Env)(n:Nat)(f:FuncId)(args:List SV)(m:Mem):ak (SV×Mem):=
 match Eb.fn f with
 |some fn=>match fn.body with
  | some body => match fn.name == "runtime.NumGoroutine" with
    |false=>Fr.make fn.ntmps args λfr=>exec Ea n [.code body] .all fr m λo=>match o with
     |.stop items aW m=>match items with
      |.code c::k=>match c with
       |.region _ ops false=>match Sd ops.toList with
        |some x=>nW aW (some x.1) .di λfr=>exec Eb n k .all fr m λo=>match o with
         |.ret _ fr m=>F1 Ec Eb n x.2.1 (x.2.2.map (t4 aW)) (.dO .nilIface) m λm=>results Eb fn m fr λv=>.ai (v,m)
         |.cE u fr m=>F1 Ec Eb n x.2.1 (x.2.2.map (t4 aW)) u m λm=>results Eb fn m fr λv=>.ai (v,m)
         |_=>.aA 202
        |none=>.aA 201
       |_=>.aA 201
      |_=>.aA 201
     |_=>.aA 201
    |true=>.aA 143
  |none=>.aA 144
 |none=>.aA 145
end
noncomputable def Wn(Ea Eb Ec:Env)(n:Nat)(f:FuncId):iY:=⟨f,λargs m=>some (Wo Ea Eb Ec n f args m)⟩
def xl4{Ec Eb:Env}(hc:cV P Ec)(hb:cV P Eb){n:Nat}{g:FuncId}{aw:List SV}{m:Mem}{α:Type}{k:Mem->ak α}{L:α->Prop}{r:Fin}(h:(F1 Ec Eb n g aw r.hand m k).holds L):
  ∃m',(k m').holds L/\∀w0 R0 I w (a:Act) (b:Frame) (cs:List Frame) (todo:List Item) (u:Value) (cap:Array Value),aQ w0 R0 I w m->j8 (RO w0 R0 I w m) I m.next w aw cap.toList->a.defers=[{target:=.fn (.func g) cap,args:=#[]}] ->
   aJ (RO w0 R0 I w m) I m.next w r.hand (r.Nn u)->∃I' w',aQ w0 R0 I' w' m'/\m8 w0 R0 I w m I' w' m'/\Steps P (lone {b.at a todo with mode:=r.mode u} cs w) (lone {b.at {a with defers:=[]} todo with mode:=.returning} cs w'):=by
 unfold F1 at h
 split at h
 case h_2=>cases h
 rename_i fg HA;have HA:=hb.e.fn g fg HA
 split at h
 case h_2=>cases h
 rename_i cg hbg
 split at h
 case h_2=>cases h
 rename_i hng;obtain⟨frg,h1,h2,h3,h4⟩:=qz h;obtain⟨out,h5,h6⟩:=su hc.e hc.s hc.aL n _ _ _ _ _ _ h1
 cases out with
 |ret p aD m'=>cases h5
 |cE v aD m'=>cases h5
 |stop items aW m1=>
  dsimp only at h5
  split at h5
  case h_2=>cases h5
  rename_i c kg
  split at h5
  case h_2=>cases h5
  rename_i i0 xU
  split at h5
  case h_2=>cases h5
  rename_i d0 Hj;obtain⟨o0,rest,vR,hog,hod,jW⟩:=xl2 (P:=P) Hj;obtain⟨cH,h7,h8⟩:=vt h5;obtain⟨Sk,h9,lw⟩:=su hb.e hb.s hb.aL n _ _ _ _ _ _ h8
  cases Sk with
  |stop it aD m'=>cases h9
  |cE v aD m'=>cases h9
  |ret p3 yl m3=>
   dsimp only at h9;obtain⟨vg,HL,HK⟩:=qE hb.e h9;refine⟨m3,HL,λw0 R0 I w a b cs todo u cap hm mL TZ azU=>?_⟩
   have fR:xU[0]? =some o0:=by rw[<-Cg,vR];rfl
   have hszg:0<xU.size:=by rw[<-Ip,vR];simp
   have aAp:r.mode u≠.run:=by cases r<;>simp[Fin.mode]
   have ahi:=step_defer (P:=P) (fr:={b.at a todo with mode:=r.mode u}) (cs:=cs) (w:=w) (d:={target:=.fn (.func g) cap,args:=#[]}) (ds:=[]) (fv:=.func g) (cap:=cap) (f:=g) (args:=cap) aAp TZ rfl (by
    show(Go.callFunc g (#[] ++cap)).run P w=_;rw[Array.empty_append]
    exact nS HA hbg hng _ _)
   let bg:Frame:={ (default:Frame)with fn:=g,kind:=.deferred}
   have tc:Frame.enter P g cap .deferred=bg.at {tmps:=cap.toList.toArray++Array.replicate (fg.ntmps-cap.toList.toArray.size) Go.undef,defers:=[]} [.code cg] :=by
    simp[Frame.enter,Frame.at,HA,hbg,bg]
   obtain⟨ρ1,w1,a1,s1,x1,st1⟩:=h6 w0 R0 I w {tmps:=cap.toList.toArray++Array.replicate (fg.ntmps-cap.toList.toArray.size) Go.undef,defers:=[]} ⟨hm,pV h2 h3 h4 mL,rfl⟩ bg ({{b.at a todo with mode:=r.mode u} with defers:=[]}::cs)
   have azb:List.range xU.size=0::List.range' 1 (xU.size-1):=by
    rw[aig,show xU.size=(xU.size-1)+1 by omega,ND];simp
   have ahh:=step_region (P:=P) (b:=bg) (a:=a1) (k:=kg) (cs:={{b.at a todo with mode:=r.mode u} with defers:=[]}::cs) (w:=w1) (ops:=xU) (id:=i0);rw[azb]at ahh
   have ahg:=xl6 (P:=P) (b:=bg) (a:=a1) (k:=kg) (cs:={{b.at a todo with mode:=r.mode u} with defers:=[]}::cs) (cs':={{b.at a todo with mode:=r.Mb u} with defers:=[]}::cs) (w:=w1) (ops:=xU) (i:=0) (rest:=List.range' 1 (xU.size-1)) (v:=r.Nn u) rfl fR hog (jW _ _) (by
    cases r with
    |ret v0 bs=>exact .inr ⟨rfl,rfl,rfl⟩
    |cE v0 bs=>exact .inl rfl)
   rw[hod]at ahg;have s2:dG [] w0 R0 ρ1 w1 cH m1 (a1.put (some d0) (r.Nn u)):=⟨s1.1,rj.put s1.2.1 h7 (aJ.mono x1 _ _ azU),by rw[zu];exact s1.2.2⟩;obtain⟨ρ2,w2,a2,atW,g1,g2,g3⟩:=lw w0 R0 ρ1 w1 _ s2 bg ({{b.at a todo with mode:=r.Mb u} with defers:=[]}::cs);obtain⟨u3,r1,r2⟩:=HK w0 R0 ρ2 w2 a2 g1;have ay3:=step_going_returned (P:=P) (fr:={bg.at a2 atW with mode:=.returning}) (c:={{b.at a todo with mode:=r.Mb u} with defers:=[]}) (cs:=cs) (w:=w2) (v:=u3) rfl ⟨rfl,g1.2.2,fg,HA,r1⟩
   have ay8:settle (r.Mb u)=.returning:=by cases r<;>rfl
   refine⟨ρ2,w2,g1.1,x1.trans g2,?_⟩;rw[tc]at ahi;refine .head ahi (Steps.trans st1 (.head ahh (.head ahg (Steps.trans g3 (.one ?_)))));rw[ay3];dsimp only;rw[ay8];rfl
def zQ8{Ea Eb Ec:Env}(ha:cV P Ea)(hb:cV P Eb)(hc:cV P Ec)(n:Nat)(f:FuncId):(Wn Ea Eb Ec n f).ok P:=by
 intro args m t ht;cases ht
 refine F6 _ λy h=>?_
 unfold Wo at h
 split at h
 case h_2=>cases h
 rename_i fn jG;have hf:=hb.e.fn f fn jG
 split at h
 case h_2=>cases h
 rename_i body hbd
 split at h
 case h_2=>cases h
 rename_i hn;obtain⟨fr,h1,h2,h3,h4⟩:=qz h;obtain⟨out,h5,h6⟩:=su ha.e ha.s ha.aL n _ _ _ _ _ _ h1
 cases out with
 |ret p aD m'=>cases h5
 |cE v aD m'=>cases h5
 |stop items aW m1=>
  dsimp only at h5
  split at h5
  case h_2=>cases h5
  rename_i c k
  split at h5
  case h_2=>cases h5
  rename_i id ops
  split at h5
  case h_2=>cases h5
  rename_i x azD;obtain⟨o1,o2,cap,c,vR,g1,Uh,Ui,g2,Ue,Uf,Uc,Ud,mL⟩:=q51 azD;obtain⟨cH,h7,h8⟩:=vt h5;obtain⟨Sk,h9,lw⟩:=su hb.e hb.s hb.aL n _ _ _ _ _ _ h8
  -- all C9 is left, for both ends
  have fin:∀ (r:Fin) (yl:Fr) (m2:Mem),(F1 Ec Eb n x.2.1 (x.2.2.map (t4 aW)) r.hand m2 λm=>results Eb fn m yl λv=>.ai (v,m)).holds (λz=>z=y)->
    (∀ds w0 R0 I w a,dG ds w0 R0 I w cH m1 a->∀ (b:Frame) (cs:List Frame),∃I' w' a' todo u,dG ds w0 R0 I' w' yl m2 a'/\m8 w0 R0 I w m1 I' w' m2/\aJ (RO w0 R0 I' w' m2) I' m2.next w' r.hand (r.Nn u)/\Steps P (lone (b.at a k) cs w) (lone {b.at a' todo with mode:=r.mode u} cs w'))->Cq P f args m y:=by
   intro r yl m2 hr hgo;obtain⟨m3,HL,HK⟩:=xl4 hc hb hr;obtain⟨v,HJ,Nk⟩:=qE hb.e HL;have HJ:(v,m3)=y:=HJ;subst HJ;intro w0 R0 I w vs hm bR;show kN P _ ((Go.callFunc f vs.toArray).run P w);rw[nS hf hbd hn];have cn:=pV h2 h3 h4 bR;intro cs
   let b:Frame:={ (default:Frame)with fn:=f,kind:=.normal}
   have tc:Frame.enter P f vs.toArray .normal=b.at {tmps:=vs.toArray++Array.replicate (fn.ntmps-vs.toArray.size) Go.undef,defers:=[]} [.code body] :=by
    simp[Frame.enter,Frame.at,hf,hbd,b]
   obtain⟨ρ1,w1,a1,s1,x1,st1⟩:=h6 w0 R0 I w {tmps:=vs.toArray++Array.replicate (fn.ntmps-vs.toArray.size) Go.undef,defers:=[]} ⟨hm,cn,rfl⟩ b cs
   have hda:x.1<a1.tmps.size:=by rw[<-s1.2.1.1];exact h7.2.1 _ rfl
   obtain⟨e,a2,w2,⟨rfl,rfl,rfl⟩,rK⟩:=zQ9 (P:=P) (id:=id) vR g1 Uh Ui g2 Ue Uf Uc Ud a1 w1 hda b k cs
   have s2:dG [{target:=.fn (.func x.2.1) (cap.map a1.eval),args:=#[]}] w0 R0 ρ1 w2 cH m1 {tmps:=a1.tmps.setIfInBounds x.1 (.func (.func x.2.1) #[] (cap.map a1.eval)),defers:={target:=.fn (.func x.2.1) (cap.map a1.eval),args:=#[]}::a1.defers}:=
    ⟨s1.1,rj.put (d:=some x.1) (u:=.func (.func x.2.1) #[] (cap.map a1.eval)) s1.2.1 h7 trivial,by rw[s1.2.2]⟩
   obtain⟨ρ3,w3,a3,todo,u,s3,x3,hu,st3⟩:=hgo _ w0 R0 ρ1 w2 _ s2 b cs
   have hcv:j8 (RO w0 R0 ρ3 w3 m2) ρ3 m2.next w3 (x.2.2.map (t4 aW)) (cap.map a1.eval).toList:=by
    rw[U3,mL];exact j8.mono x3 _ _ (j8.map _ _ _ λz _=>s1.2.1.eval z)
   obtain⟨ρ4,w4,g5,g6,st4⟩:=HK w0 R0 ρ3 w3 a3 b cs todo u (cap.map a1.eval) s3.1 hcv s3.2.2 hu;obtain⟨uv,r1,r2⟩:=Nk w0 R0 ρ4 w4 {a3 with defers:=[]} (⟨g5,s3.2.1.mono g6,rfl⟩:dG [] w0 R0 ρ4 w4 yl m3 {a3 with defers:=[]});exact⟨.returned uv,w4,_,⟨uv,rfl,ρ4,g5,x1.trans (x3.trans g6),r2⟩,by rw[tc];exact Steps.trans st1 (Steps.trans rK (Steps.trans st3 st4)),rfl,rfl,rfl,rfl,fn,hf,r1⟩
  cases Sk with
  |stop it aD m'=>cases h9
  |ret p3 yl m2=>
   dsimp only at h9
   refine fin (.ret .undef []) yl m2 h9 λds w0 R0 I w a hs b cs=>?_
   obtain⟨I',w',a',todo,q1,q2,q3⟩:=lw w0 R0 I w a hs b cs;exact⟨I',w',a',todo,.nilIface,q1,q2,rfl,q3⟩
  |cE v yl m2=>
   dsimp only at h9
   refine fin (.cE v []) yl m2 h9 λds w0 R0 I w a hs b cs=>?_
   obtain⟨I',w',a',todo,u,q1,q2,q3,q4⟩:=lw w0 R0 I w a hs b cs;exact⟨I',w',a',todo,u,q1,q2,q3,q4⟩
end Go.Sx
namespace Go.Proofs
open Go.Shelf Go.RowKit Go.Lib Go.Sort
def Tryz.aue_ren:Ren:=⟨fun|6=>256|15=>286|14=>285|28=>317|29=>318|20=>309|21=>310|22=>311|23=>312|24=>313|25=>314|26=>315|27=>316|46=>326|47=>327|48=>328|49=>329|50=>330|57=>336|n=>n,fun|22=>190|24=>134|25=>239|3=>3|39=>170|0=>0|53=>281|55=>225|4=>4|46=>274|45=>273|50=>278|5=>5|9=>9|66=>287|70=>161|76=>295|77=>164|n=>n,fun|n=>n⟩
theorem Tryz.aue:SlLaysF0.n6 Tryz.prog Tryz.aue_ren:={
 mixed:=by kernel_rfl
 f6:=⟨Tryz.f256.name,by decide,Tryz.func256.trans (congrArg some (by kernel_rfl))⟩
 f14:=⟨Tryz.f285.name,by decide,Tryz.func285.trans (congrArg some (by kernel_rfl))⟩
 f15:=Tryz.func286.trans (congrArg some (by kernel_rfl))
 f20:=⟨Tryz.f309.name,by decide,Tryz.func309.trans (congrArg some (by kernel_rfl))⟩
 f21:=⟨Tryz.f310.name,by decide,Tryz.func310.trans (congrArg some (by kernel_rfl))⟩
 f22:=⟨Tryz.f311.name,by decide,Tryz.func311.trans (congrArg some (by kernel_rfl))⟩
 f23:=⟨Tryz.f312.name,by decide,Tryz.func312.trans (congrArg some (by kernel_rfl))⟩
 f24:=⟨Tryz.f313.name,by decide,Tryz.func313.trans (congrArg some (by kernel_rfl))⟩
 f25:=⟨Tryz.f314.name,by decide,Tryz.func314.trans (congrArg some (by kernel_rfl))⟩
 f26:=⟨Tryz.f315.name,by decide,Tryz.func315.trans (congrArg some (by kernel_rfl))⟩
 f27:=⟨Tryz.f316.name,by decide,Tryz.func316.trans (congrArg some (by kernel_rfl))⟩
 f28:=Tryz.func317.trans (congrArg some (by kernel_rfl))
 f29:=Tryz.func318.trans (congrArg some (by kernel_rfl))
 f46:=⟨Tryz.f326.name,by decide,Tryz.func326.trans (congrArg some (by kernel_rfl))⟩
 f47:=Tryz.func327.trans (congrArg some (by kernel_rfl))
 f48:=Tryz.func328.trans (congrArg some (by kernel_rfl))
 f49:=⟨Tryz.f329.name,by decide,Tryz.func329.trans (congrArg some (by kernel_rfl))⟩
 f50:=⟨Tryz.f330.name,by decide,Tryz.func330.trans (congrArg some (by kernel_rfl))⟩
 f57:=⟨Tryz.f336.name,by decide,Tryz.func336.trans (congrArg some (by kernel_rfl))⟩
 t0:=Tryz.underlying0
 a0:=Tryz.isAgg0
 z0:=Tryz.sizeOf0
 v0:=Tryz.zeroValue0
 t3:=Tryz.underlying3
 a3:=Tryz.isAgg3
 z3:=Tryz.sizeOf3
 v3:=Tryz.zeroValue3
 t4:=Tryz.underlying4
 a4:=Tryz.isAgg4
 z4:=Tryz.sizeOf4
 v4:=Tryz.zeroValue4
 t5:=Tryz.underlying5
 a5:=Tryz.isAgg5
 z5:=Tryz.sizeOf5
 v5:=Tryz.zeroValue5
 t9:=Tryz.underlying9
 a9:=Tryz.isAgg9
 z9:=Tryz.sizeOf9
 v9:=Tryz.zeroValue9
 t22:=Tryz.underlying190
 a22:=Tryz.isAgg190
 z22:=Tryz.sizeOf190
 v22:=Tryz.zeroValue190
 t25:=Tryz.underlying239
 a25:=Tryz.isAgg239
 z25:=Tryz.sizeOf239
 v25:=Tryz.zeroValue239
 t39:=Tryz.underlying170
 a39:=Tryz.isAgg170
 z39:=Tryz.sizeOf170
 v39:=Tryz.zeroValue170
 t45:=Tryz.underlying273
 a45:=Tryz.isAgg273
 z45:=Tryz.sizeOf273
 v45:=Tryz.zeroValue273
 t46:=Tryz.underlying274
 a46:=Tryz.isAgg274
 z46:=Tryz.sizeOf274
 v46:=Tryz.zeroValue274
 t50:=Tryz.underlying278
 a50:=Tryz.isAgg278
 z50:=Tryz.sizeOf278
 v50:=Tryz.zeroValue278
 t53:=Tryz.underlying281
 a53:=Tryz.isAgg281
 z53:=Tryz.sizeOf281
 v53:=Tryz.zeroValue281
 t55:=Tryz.underlying225
 a55:=Tryz.isAgg225
 z55:=Tryz.sizeOf225
 v55:=Tryz.zeroValue225
 t66:=Tryz.underlying287
 a66:=Tryz.isAgg287
 z66:=Tryz.sizeOf287
 v66:=Tryz.zeroValue287
 t70:=Tryz.underlying161
 a70:=Tryz.isAgg161
 z70:=Tryz.sizeOf161
 v70:=Tryz.zeroValue161
 t76:=Tryz.underlying295
 a76:=Tryz.isAgg295
 z76:=Tryz.sizeOf295
 v76:=Tryz.zeroValue295
 t77:=Tryz.underlying164
 a77:=Tryz.isAgg164
 z77:=Tryz.sizeOf164
 v77:=Tryz.zeroValue164 }
def Tryz.aA6_ren:Ren:=⟨fun|5=>258|7=>287|n=>n,fun|22=>3|3=>3|4=>4|n=>n,fun|n=>n⟩
theorem Tryz.aA6:SlLaysC2.n5 Tryz.prog Tryz.aA6_ren:={
 mixed:=by kernel_rfl
 f5:=⟨Tryz.f258.name,by decide,Tryz.func258.trans (congrArg some (by kernel_rfl))⟩
 f7:=⟨Tryz.f287.name,by decide,Tryz.func287.trans (congrArg some (by kernel_rfl))⟩
 t3:=Tryz.underlying3
 a3:=Tryz.isAgg3
 z3:=Tryz.sizeOf3
 v3:=Tryz.zeroValue3
 t4:=Tryz.underlying4
 a4:=Tryz.isAgg4
 z4:=Tryz.sizeOf4
 v4:=Tryz.zeroValue4
 t22:=Tryz.underlying3
 a22:=Tryz.isAgg3
 z22:=Tryz.sizeOf3
 v22:=Tryz.zeroValue3 }
end Go.Proofs
namespace Go.Proofs.YtnkaepnblikcdaaGreat
open Go.Sx Go.RowKit Go.Lib Go.Sort
def gF(x:RT):List Value:=[.int .i64 x.1,.int .i64 x.2.1,.int .i64 x.2.2.1,.int .i64 x.2.2.2.1,.int .i64 x.2.2.2.2.1.1,.int .i64 x.2.2.2.2.1.2.1,.int .i64 x.2.2.2.2.1.2.2.1,.int .i64 x.2.2.2.2.1.2.2.2,.int .i64 x.2.2.2.2.2.1,.int .i64 x.2.2.2.2.2.2.1,.int .i64 x.2.2.2.2.2.2.2.1,.int .i64 x.2.2.2.2.2.2.2.2]
def zY0(x:RT):∀v∈gF x,v.oneCell'=true:=by
 intro v hv;simp only[gF,qT,aih,or_false]at hv
 rcases hv with rfl|rfl|rfl|rfl|rfl|rfl|rfl|rfl|rfl|rfl|rfl|rfl<;>rfl
set_option maxHeartbeats 1000000 in
def zo1(x y:RT)(W:World):Calls pP 257 #[.agg (gF x).toArray,.agg (gF y).toArray] W λe w'=>e=.returned (.int .i64 (Lib.compareInt x.2.1 y.2.1))/\∃q os',w'=grow (W.drewN q) os':=by
 have HD:=λW'=>AnyG.cmp_Compare_int Tryz.aA6 x.2.1 y.2.1 W'
 change ∀W',Calls pP 258 _ _ _ at HD
 generalize Lib.compareInt x.2.1 y.2.1=r at HD ⊢;unfold gF
 go_enter Tryz.func257,Tryz.ntmps257
 go_wp2_with (go_at_call 258;refine(HD _).mono ?_;rintro e w' ⟨rfl,rfl⟩)
 go_ret
 exact⟨rfl,0,_,by rw[alloc_eq_grow,alloc_eq_grow,grow_grow];rfl⟩
def JX(x y:RT):ltOf (λx y:RT=>Lib.compareInt x.2.1 y.2.1) x y=decide (x.2.1<y.2.1):=by
 unfold ltOf Lib.compareInt
 by_cases h1:x.2.1<y.2.1
 .simp[h1]
 .by_cases h2:y.2.1<x.2.1<;>simp[h1,h2]
def jl0:SWO (ltOf λx y:RT=>Lib.compareInt x.2.1 y.2.1) where
 irrefl x:=by rw[JX];simp
 trans x y z h1 h2:=by rw[JX]at *;simp at *;omega
 ntrans x y z h1 h2:=by rw[JX]at *;simp at *;omega
def qX6(w:World):(isAgg 134).run pP w=.ok true w:=by
 simp[isAgg,ef Tryz.underlying134]
def qV9:(pP.info? 134).map (λi=>(i.zero,i.size,i.bytes))=some (some (.agg #[.int .i64 0,.int .i64 0,.int .i64 0,.int .i64 0,.int .i64 0,.int .i64 0,.int .i64 0,.int .i64 0,.int .i64 0,.int .i64 0,.int .i64 0,.int .i64 0]),12,96):=by kernel_rfl
def ja8(w:World):(Go.sizeOf 134).run pP w=.ok 12 w:=by
 obtain⟨i0,Ew,hz0,nG,rG⟩:=info_parts qV9;simp[Go.sizeOf,typeInfo,Ew,nG]
def jc2(lR cap:Nat)(d:Array RT)(w:World)(hH:HoldsK gF 12 w lR 0 d)(hblk:lR<w.heap.size)(bS:d.size<4611686018427387904):
  Calls pP 256 #[.slice (some ⟨lR,0,none⟩) d.size cap,.func (.func 257) #[] #[]] w λe w'=>e=.returned (.tuple #[])/\∃d' n os,PermIn 0 d.size d d'/\SortedIn (ltOf λx y:RT=>Lib.compareInt x.2.1 y.2.1) 0 d.size d'/\w'=sortWorldK gF 12 w lR 0 n d' os:=by
 have eg:∀args w,(Go.callFunc 257 args).run pP w=.ok (.enter 257 args) w:=enters_of Tryz.func257 (by kernel_rfl) rfl;have HD:=AnyQ.slices_SortFunc Tryz.aue 12 qX6 ja8 gF (λ_=>rfl) zY0 (λx y=>Lib.compareInt x.2.1 y.2.1) jl0 257 #[] lR 0 cap d w eg (λ_ _ _ _ x y=>zo1 x y _) hH hblk bS;exact HD
open Go.Sx
def xX9 :SCall pP 256 [.list dQ [],.fn 257 [] []] (.tuple []):=
 aY aL [] trivial 2000 (.kK)
  (t:=rT (.ai (SV.tuple [])))
  (by kernel_rfl) (by exact⟨rfl,rfl⟩) (by kernel_rfl)
end Go.Proofs.YtnkaepnblikcdaaGreat
