/-
  What the statement needs: an evaluator of the model, contracts of the functions that it reaches, and the plain law.
-/
import Derived.Test.YtnkaepnblikcdaaGreatVV4
import Derived.Test.YtnkaepnblikcdaaGreatVV3
import Derived.Laws.IdiomCopy
import Derived.Tactics
set_option maxRecDepth 100000
set_option linter.unusedVariables false
set_option linter.unusedSimpArgs false
open Go.IntKind (i64 u64)
namespace Go.Proofs.YtnkaepnblikcdaaGreat
open Go.Sx
def lst(v a b c:Int):Int:=if a*b / c<v then a*b / c else v
def factI4(f:FuncId)(h:Int→Int→Int→Int→Tree SV):Fact:=⟨f,fun args=>match args with
 |[.int .i64 a,.int .i64 b,.int .i64 c,.int .i64 d] =>some (h a b c d)
 |_=>none⟩
theorem factI4_ok{P:Program}{f:FuncId}{h:Int→Int→Int→Int→Tree SV}(k:∀a b c d,(h a b c d).says (SCall P f [I64 a,I64 b,I64 c,I64 d])):(factI4 f h).ok P:=fun args t ht=>by
 simp only[factI4]at ht
 split at ht
 ·injection ht with ht;subst ht;exact k _ _ _ _
 ·cases ht
def okB(v a b c:Int):Bool:=okMD a b c&&inR v 0 16777216
theorem okB_iff{v a b c:Int}:okB v a b c=true↔okMD a b c=true∧0≤v∧v≤16777216:=by simp only[okB,Bool.and_eq_true,inR_iff]
theorem s_szL(n:Int)(hn:inR n (-4611686018427387904) 4611686018427387904=true):SCall Tryz.prog 290 [I64 n] (I64 (sz n)):=
 scall_v mix [] trivial 1000 (.all)
  (t:=.leaf (SV.int IntKind.i64 (if i64.wrap (0-n)>n then i64.wrap (0-n)else n)))
  (by kernel_rfl) (by
   rw[inR_iff]at hn
   have e:i64.wrap (0-n)= -n:=by rw[w64 (by omega) (by omega)];omega
   simp only[Tree.holds,sL,ne_eq,beq_iff_eq,bne_iff_ne,eq_self,beq_eq_false_iff_ne,bne_eq_false_iff_eq,implies_true];(repeat' (first|apply And.intro|intro _));all_goals((try simp only[e]);refine sv_int ?_;unfold sz;(repeat' split)<;>omega)) (by kernel_rfl) (by kernel_rfl)
theorem s_szLR(n:Int)(hn:inR n (-4611686018427387904) 4611686018427387904=true):SCall Tryz.prog 99 [I64 n] (I64 (sz n)):=
 scall_v mix [] trivial 1000 (.fork (.all) (.all))
  (t:=.node (decide (n<0))
 (.leaf (SV.int IntKind.i64 (i64.wrap (0-n))))
 (.leaf (SV.int IntKind.i64 n)))
   (by kernel_rfl) (by
    rw[inR_iff]at hn
    have e:i64.wrap (0-n)= -n:=by rw[w64 (by omega) (by omega)];omega
    simp only[Tree.holds,sL,ne_eq,beq_iff_eq,bne_iff_ne,eq_self,beq_eq_false_iff_ne,bne_eq_false_iff_eq,implies_true];(repeat' (first|apply And.intro|intro _));all_goals((try simp only[e]);refine sv_int ?_;unfold sz;(repeat' split)<;>omega)) (by kernel_rfl) (by kernel_rfl)
theorem o_szL:(fSz 290).ok Tryz.prog:=factI_ok fun n h=>s_szL n h
theorem o_szLR:(fSz 99).ok Tryz.prog:=factI_ok fun n h=>s_szLR n h
theorem s_bnd(a b c v:Int)(h:okB v a b c=true):SCall Tryz.prog 289 [I64 a,I64 b,I64 c,I64 v] (I64 (lst v a b c)):=
 scall_v mix [fMd] ⟨o_md,trivial⟩ 1000 (.fork (.lit (.all)) (.lit (.all)))
  (t:=.req (okMD a b c) (.node (decide (a*b / c<9223372036854775808))
 (.leaf (SV.int IntKind.i64 (if v<a*b / c then v else a*b / c)))
 (.leaf (SV.int IntKind.i64 v))))
  (by kernel_rfl) (by
   have o:=okB_iff.1 h
   have m:=okMD_iff.1 o.1
   simp only[Tree.holds,sL,ne_eq,beq_iff_eq,bne_iff_ne,eq_self,beq_eq_false_iff_ne,bne_eq_false_iff_eq,implies_true];(repeat' (first|apply And.intro|intro _));
   all_goals first
    |exact o.1
    |(refine sv_int ?_;unfold lst;(repeat' split)<;>omega)) (by kernel_rfl) (by kernel_rfl)
theorem s_lst(v a b c:Int)(h:okB v a b c=true):SCall Tryz.prog 98 [I64 v,I64 a,I64 b,I64 c] (I64 (lst v a b c)):=
 scall_v mix [fMdR] ⟨o_mdR,trivial⟩ 1000 (.fork (.ln 4 (.fork .all .all)) (.ln 4 (.lit .all)))
  (t:=.req (okMD a b c) (.node (decide (a*b / c<9223372036854775808))
 (.node (decide (a*b / c<v))
  (.leaf (SV.int IntKind.i64 (a*b / c)))
  (.leaf (SV.int IntKind.i64 v)))
 (.leaf (SV.int IntKind.i64 v))))
  (by kernel_rfl) (by
   have o:=okB_iff.1 h
   have m:=okMD_iff.1 o.1
   simp only[Tree.holds,sL,ne_eq,beq_iff_eq,bne_iff_ne,eq_self,beq_eq_false_iff_ne,bne_eq_false_iff_eq,implies_true];(repeat' (first|apply And.intro|intro _));
   all_goals first
    |exact o.1
    |(refine sv_int ?_;unfold lst;(repeat' split)<;>omega)) (by kernel_rfl) (by kernel_rfl)
def fBnd:Fact:=factI4 289 fun a b c v=>.req (okB v a b c) (.leaf (I64 (lst v a b c)))
def fLst:Fact:=factI4 98 fun v a b c=>.req (okB v a b c) (.leaf (I64 (lst v a b c)))
theorem o_bnd:fBnd.ok Tryz.prog:=factI4_ok fun a b c v h=>s_bnd a b c v h
theorem o_lst:fLst.ok Tryz.prog:=factI4_ok fun v a b c h=>s_lst v a b c h
def stS(n v s k:Int):Int:=if k=0 then v else lst v s n (sz k)
def acc0(m:Ma)(c:V4):Int:=stS (dom c) (stS (dom c) (stS (dom c) (stS (dom c) 16777216 m.x.accel c.1) m.y.accel c.2.1) m.z.accel c.2.2.1) m.e.accel c.2.2.2
theorem lst_nn{v a b c:Int}(h:okB v a b c=true):0≤lst v a b c∧lst v a b c≤v:=by
 have o:=okB_iff.1 h
 have m:=okMD_iff.1 o.1
 have:0≤a*b / c:=Int.ediv_nonneg (Int.mul_nonneg m.1.1 m.2.1.1) (by omega)
 unfold lst;split<;>omega
theorem lst_rng{v a b c:Int}(h:okB v a b c=true)(hc:c≤a*b)(hv:1≤v):1≤lst v a b c∧lst v a b c≤v:=by
 have o:=okB_iff.1 h
 have m:=okMD_iff.1 o.1
 have:1≤a*b / c:=Int.le_ediv_of_mul_le (by omega) (by omega)
 unfold lst;split<;>omega
theorem ax_b{v s n k:Int}(hs:1≤s∧s≤16777216)(hn:1≤n∧n≤16777216)(hv:1≤v∧v≤16777216)(hk:¬k=0)(hz:sz k≤n):okB v s n (sz k)=true∧sz k≤s*n:=by
 have:1≤sz k:=by unfold sz;split<;>omega
 have h2:1*n≤s*n:=Int.mul_le_mul_of_nonneg_right hs.1 (by omega)
 exact⟨okB_iff.2 ⟨okMD_iff.2 (by omega),by omega⟩,by omega⟩
theorem stS_rng{n v s k:Int}(hs:1≤s∧s≤16777216)(hn:1≤n∧n≤16777216)(hv:1≤v∧v≤16777216)(hz:sz k≤n):1≤stS n v s k∧stS n v s k≤v:=by
 unfold stS
 split
 ·omega
 ·rename_i hk
  obtain⟨h1,h2⟩:=ax_b hs hn hv hk hz
  exact lst_rng h1 h2 hv.1
theorem lst_st{n v s k:Int}(h:¬k=0):lst v s n (sz k)=stS n v s k:=(if_neg h).symm
theorem st_no{n v s k:Int}(h:k=0):v=stS n v s k:=(if_pos h).symm
structure Four (M:Int) (m:Ma) (c:V4) (s:Ax→Int):Prop where
 h1:∀v,1≤v∧v≤M→1≤stS (dom c) v (s m.x) c.1∧stS (dom c) v (s m.x) c.1≤M
 h2:∀v,1≤v∧v≤M→1≤stS (dom c) v (s m.y) c.2.1∧stS (dom c) v (s m.y) c.2.1≤M
 h3:∀v,1≤v∧v≤M→1≤stS (dom c) v (s m.z) c.2.2.1∧stS (dom c) v (s m.z) c.2.2.1≤M
 h4:∀v,1≤v∧v≤M→1≤stS (dom c) v (s m.e) c.2.2.2∧stS (dom c) v (s m.e) c.2.2.2≤M
 k1:∀v,1≤v∧v≤M→¬c.1=0→okB v (s m.x) (dom c) (sz c.1)=true
 k2:∀v,1≤v∧v≤M→¬c.2.1=0→okB v (s m.y) (dom c) (sz c.2.1)=true
 k3:∀v,1≤v∧v≤M→¬c.2.2.1=0→okB v (s m.z) (dom c) (sz c.2.2.1)=true
 k4:∀v,1≤v∧v≤M→¬c.2.2.2=0→okB v (s m.e) (dom c) (sz c.2.2.2)=true
theorem four{M:Int}{m:Ma}{c:V4}{s:Ax→Int}(hM:M≤16777216)(hc:okC c=true)(hs:∀a:Ax,a.ok=true→1≤s a∧s a≤16777216)(hm:m.ok=true):Four M m c s:=by
 have o:=(Ma.ok_iff m).1 hm
 have d:=mx4_bounds hc
 rw[←dom_ok hc]at d
 have n1:1≤dom c∧dom c≤16777216:=by omega
 refine⟨fun v hv=>?_,fun v hv=>?_,fun v hv=>?_,fun v hv=>?_,fun v hv k=>(ax_b (hs _ o.1) n1 (by omega) k (by omega)).1,fun v hv k=>(ax_b (hs _ o.2.1) n1 (by omega) k (by omega)).1,fun v hv k=>(ax_b (hs _ o.2.2.1) n1 (by omega) k (by omega)).1,fun v hv k=>(ax_b (hs _ o.2.2.2.1) n1 (by omega) k (by omega)).1⟩
 ·have:=stS_rng (hs _ o.1) n1 (v:=v) (by omega) (k:=c.1) (by omega);omega
 ·have:=stS_rng (hs _ o.2.1) n1 (v:=v) (by omega) (k:=c.2.1) (by omega);omega
 ·have:=stS_rng (hs _ o.2.2.1) n1 (v:=v) (by omega) (k:=c.2.2.1) (by omega);omega
 ·have:=stS_rng (hs _ o.2.2.2.1) n1 (v:=v) (by omega) (k:=c.2.2.2) (by omega);omega
theorem ax_sp(a:Ax)(h:a.ok=true):1≤a.speed∧a.speed≤16777216:=by have:=(Ax.ok_iff a).1 h;omega
theorem ax_ac(a:Ax)(h:a.ok=true):1≤a.accel∧a.accel≤16777216:=by have:=(Ax.ok_iff a).1 h;omega
theorem ax_je(a:Ax)(h:a.ok=true):1≤a.jerk∧a.jerk≤1048576:=by have:=(Ax.ok_iff a).1 h;omega
def okL(m:Ma)(c:V4):Bool:=m.ok&&okC c
theorem okL_iff{m:Ma}{c:V4}:okL m c=true↔m.ok=true∧okC c=true:=by simp only[okL,Bool.and_eq_true]
def accV(m:Ma)(c:V4):Int:=match okL m c with
 |true=>acc0 m c
 |false=>0
theorem accV_yes{m:Ma}{c:V4}(h:okL m c=true):accV m c=acc0 m c:=by unfold accV;rw[h]
theorem accV_no{m:Ma}{c:V4}(h:okL m c=false):accV m c=0:=by unfold accV;rw[h]
def stepT(n v s k:Int)(K:Int→Tree SV):Tree SV:=.req true (.node (k != 0) (.req true (.req true (.req (inR k (-4611686018427387904) 4611686018427387904) (.req (okB v s n (sz k)) (K (lst v s n (sz k))))))) (K v))
theorem stepT_holds{n v s k:Int}{K:Int→Tree SV}{L:SV→Prop}(hk:inR k (-4611686018427387904) 4611686018427387904=true)(hb:¬k=0→okB v s n (sz k)=true)(h:(K (stS n v s k)).holds L):(stepT n v s k K).holds L:=by
 refine⟨rfl,fun c=>⟨rfl,rfl,hk,hb ?_,?_⟩,fun c=>?_⟩
 ·simpa using c
 ·rw[lst_st (by simpa using c)];exact h
 ·rw[st_no (n:=n) (v:=v) (s:=s) (k:=k) (by simpa using c)];exact h
def fourT(m:Ma)(c:V4)(s:Ax→Int)(v:Int)(K:Int→Tree SV):Tree SV:=stepT (dom c) v (s m.x) c.1 fun v=>stepT (dom c) v (s m.y) c.2.1 fun v=>stepT (dom c) v (s m.z) c.2.2.1 fun v=>stepT (dom c) v (s m.e) c.2.2.2 K
def fourV(m:Ma)(c:V4)(s:Ax→Int)(v:Int):Int:=stS (dom c) (stS (dom c) (stS (dom c) (stS (dom c) v (s m.x) c.1) (s m.y) c.2.1) (s m.z) c.2.2.1) (s m.e) c.2.2.2
theorem fourT_holds{M:Int}{m:Ma}{c:V4}{s:Ax→Int}{K:Int→Tree SV}{L:SV→Prop}(f:Four M m c s)(hc:okC c=true){v:Int}(hv:1≤v∧v≤M)(h:(K (fourV m c s v)).holds L):(fourT m c s v K).holds L:=by
 have b:=(okC_iff.1 hc).1
 have v1:=f.h1 v hv
 have v2:=f.h2 _ v1
 have v3:=f.h3 _ v2
 exact stepT_holds (inR_iff.2 (by omega)) (f.k1 v hv) (stepT_holds (inR_iff.2 (by omega)) (f.k2 _ v1) (stepT_holds (inR_iff.2 (by omega)) (f.k3 _ v2) (stepT_holds (inR_iff.2 (by omega)) (f.k4 _ v3) h)))
theorem fourV_rng{M:Int}{m:Ma}{c:V4}{s:Ax→Int}(f:Four M m c s){v:Int}(hv:1≤v∧v≤M):1≤fourV m c s v∧fourV m c s v≤M:=f.h4 _ (f.h3 _ (f.h2 _ (f.h1 v hv)))
theorem s_acc(m:Ma)(c:V4):SCall Tryz.prog 260 [m.sv,V4.sv c] (I64 (accV m c)):=
 scall_v mix [fDom,fOkC,fMaOk,fBnd,fSz 290] ⟨o_dom,o_okC,o_maOk,o_bnd,o_szL,trivial⟩ 1000 (.go (.lit (.fork (.lit (.all)) (.go (.lit (.fork (.all) (.go (.lit (.fork (.go (.lit (.fork (.go (.lit (.fork (.go (.lit (.fork (.go (.lit (.all))) (.go (.lit (.all)))))) (.go (.lit (.fork (.go (.lit (.all))) (.go (.lit (.all))))))))) (.go (.lit (.fork (.go (.lit (.fork (.go (.lit (.all))) (.go (.lit (.all)))))) (.go (.lit (.fork (.go (.lit (.all))) (.go (.lit (.all)))))))))))) (.go (.lit (.fork (.go (.lit (.fork (.go (.lit (.fork (.go (.lit (.all))) (.go (.lit (.all)))))) (.go (.lit (.fork (.go (.lit (.all))) (.go (.lit (.all))))))))) (.go (.lit (.fork (.go (.lit (.fork (.go (.lit (.all))) (.go (.lit (.all)))))) (.go (.lit (.fork (.go (.lit (.all))) (.go (.lit (.all)))))))))))))))))))))
  (t:=.req true (.node (!okC c) (.leaf (I64 0)) (.node (!m.ok) (.leaf (I64 0)) (fourT m c Ax.accel 16777216 fun v=>.leaf (I64 v)))))
  (by kernel_rfl) (by
   cases hl:okL m c with
   |false=>
    have:=mt okL_iff.2 (by rw[hl];exact Bool.false_ne_true)
    simp only[Tree.holds,accV_no hl,sL,ne_eq,beq_iff_eq,bne_iff_ne,eq_self,beq_eq_false_iff_ne,bne_eq_false_iff_eq,implies_true]
    (repeat' (first|apply And.intro|intro _))<;>first|rfl|(exfalso;simp_all)
   |true=>
    obtain⟨hm,hc⟩:=okL_iff.1 hl
    simp only[Tree.holds,accV_yes hl,hm,hc,sL,ne_eq,beq_iff_eq,bne_iff_ne,eq_self,beq_eq_false_iff_ne,bne_eq_false_iff_eq,implies_true]
    exact fourT_holds (M:=16777216) (four (by omega) hc ax_ac hm) hc (by omega) rfl) (by kernel_rfl) (by kernel_rfl)
theorem s_accR(m:Ma)(c:V4):SCall Tryz.prog 36 [m.sv,V4.sv c] (I64 (accV m c)):=
 scall_v mix [fDomR,fOkCR,fMaOkR,fLst,fSz 99] ⟨o_domR,o_okCR,o_maOkR,o_lst,o_szLR,trivial⟩ 1000 (.fork (.ln 3 (.lit .all)) (.ln 3 (.fork .all (.go (.lit (.fork (.go (.lit (.fork (.go (.lit (.fork (.go (.lit (.fork (.go (.lit .all)) (.go (.lit .all))))) (.go (.lit (.fork (.go (.lit .all)) (.go (.lit .all)))))))) (.go (.lit (.fork (.go (.lit (.fork (.go (.lit .all)) (.go (.lit .all))))) (.go (.lit (.fork (.go (.lit .all)) (.go (.lit .all))))))))))) (.go (.lit (.fork (.go (.lit (.fork (.go (.lit (.fork (.go (.lit .all)) (.go (.lit .all))))) (.go (.lit (.fork (.go (.lit .all)) (.go (.lit .all)))))))) (.go (.lit (.fork (.go (.lit (.fork (.go (.lit .all)) (.go (.lit .all))))) (.go (.lit (.fork (.go (.lit .all)) (.go (.lit .all)))))))))))))))))
  (t:=.node (!m.ok) (.leaf (I64 0)) (.node (!okC c) (.leaf (I64 0)) (fourT m c Ax.accel 16777216 fun v=>.leaf (I64 v))))
  (by kernel_rfl) (by
   cases hl:okL m c with
   |false=>
    have:=mt okL_iff.2 (by rw[hl];exact Bool.false_ne_true)
    simp only[Tree.holds,accV_no hl,sL,ne_eq,beq_iff_eq,bne_iff_ne,eq_self,beq_eq_false_iff_ne,bne_eq_false_iff_eq,implies_true]
    (repeat' (first|apply And.intro|intro _))<;>first|rfl|(exfalso;simp_all)
   |true=>
    obtain⟨hm,hc⟩:=okL_iff.1 hl
    simp only[Tree.holds,accV_yes hl,hm,hc,sL,ne_eq,beq_iff_eq,bne_iff_ne,eq_self,beq_eq_false_iff_ne,bne_eq_false_iff_eq,implies_true]
    exact fourT_holds (M:=16777216) (four (by omega) hc ax_ac hm) hc (by omega) rfl) (by kernel_rfl) (by kernel_rfl)
def fAcc:Fact:=factMV4 260 fun m c=>.leaf (I64 (accV m c))
def fAccR:Fact:=factMV4 36 fun m c=>.leaf (I64 (accV m c))
theorem o_acc:fAcc.ok Tryz.prog:=factMV4_ok (s_acc)
theorem o_accR:fAccR.ok Tryz.prog:=factMV4_ok (s_accR)
def spdK(v n l f:Int):Int:=if 0<l∧0<f then(if lst v f n l<1 then 1 else lst v f n l)else v
def spdV(m:Ma)(c:V4)(l f:Int):Int:=match okL m c with
 |true=>spdK (fourV m c Ax.speed 1048576) (dom c) l f
 |false=>0
theorem spdV_yes{m:Ma}{c:V4}{l f:Int}(h:okL m c=true):spdV m c l f=spdK (fourV m c Ax.speed 1048576) (dom c) l f:=by unfold spdV;rw[h]
theorem spdV_no{m:Ma}{c:V4}{l f:Int}(h:okL m c=false):spdV m c l f=0:=by unfold spdV;rw[h]
theorem dom16{c:V4}(hc:okC c=true):1≤dom c∧dom c≤16777216:=⟨dom_pos hc,(dom_range c).2⟩
theorem spd_okB{v n l f:Int}(hv:1≤v∧v≤1048576)(hn:1≤n∧n≤16777216)(hl:0<l∧l≤9223372036854775807)(hf:0<f∧f≤9223372036854775807):okB v f n l=true:=okB_iff.2 ⟨okMD_iff.2 (by omega),by omega⟩
def jS(v A B x:Int):Int:=if sz x=0 then v else lst v A B (sz x)
def jd(a b:V4)(x y:Int):Int:=x*dom b-y*dom a
def junV(m:Ma)(a b:V4):Int:=match okL m a&&okC b with
 |true=>jS (jS (jS (jS 1048576 (m.x.jerk*dom a) (dom b) (jd a b a.1 b.1)) (m.y.jerk*dom a) (dom b) (jd a b a.2.1 b.2.1)) (m.z.jerk*dom a) (dom b) (jd a b a.2.2.1 b.2.2.1)) (m.e.jerk*dom a) (dom b) (jd a b a.2.2.2 b.2.2.2)
 |false=>0
theorem junV_no{m:Ma}{a b:V4}(h:(okL m a&&okC b)=false):junV m a b=0:=by unfold junV;rw[h]
theorem junV_yes{m:Ma}{a b:V4}(h:(okL m a&&okC b)=true):junV m a b=jS (jS (jS (jS 1048576 (m.x.jerk*dom a) (dom b) (jd a b a.1 b.1)) (m.y.jerk*dom a) (dom b) (jd a b a.2.1 b.2.1)) (m.z.jerk*dom a) (dom b) (jd a b a.2.2.1 b.2.2.1)) (m.e.jerk*dom a) (dom b) (jd a b a.2.2.2 b.2.2.2):=by unfold junV;rw[h]
def jT(e:Int→Bool)(x A B v:Int)(K:Int→Tree SV):Tree SV:=.req true (.req true (.req (inR x (-4611686018427387904) 4611686018427387904) (.node (e (sz x)) (.req true (.req (okB v A B (sz x)) (K (lst v A B (sz x))))) (K v))))
theorem jT_holds{e:Int→Bool}(he:∀n,0≤n→(e n=true↔¬n=0)){x A B v:Int}{K:Int→Tree SV}{L:SV→Prop}(hx:inR x (-4611686018427387904) 4611686018427387904=true)(hb:¬sz x=0→okB v A B (sz x)=true)(h:(K (jS v A B x)).holds L):(jT e x A B v K).holds L:=by
 have z:=sz_nonneg x
 refine⟨rfl,rfl,hx,fun c=>⟨rfl,hb ((he _ z).1 c),?_⟩,fun c=>?_⟩
 ·rw[show lst v A B (sz x)=jS v A B x from(if_neg ((he _ z).1 c)).symm];exact h
 ·have:sz x=0:=by
   have hn:=mt (he _ z).2 (by rw[c];exact Bool.false_ne_true)
   omega
  rw[show v=jS v A B x from(if_pos this).symm];exact h
theorem jS_rng{v A B x:Int}(hv:0≤v∧v≤1048576)(h:¬sz x=0→okB v A B (sz x)=true):0≤jS v A B x∧jS v A B x≤1048576:=by
 unfold jS
 split
 ·exact hv
 ·rename_i c
  have:=lst_nn (h c);omega
theorem jd_rng{a b:V4}{x y:Int}(hx: -16777216≤x∧x≤16777216)(hy: -16777216≤y∧y≤16777216):(-281474976710656≤x*dom b∧x*dom b≤281474976710656)∧(-281474976710656≤y*dom a∧y*dom a≤281474976710656):=by
 have h1:=mul_rng (A:=16777216) (B:=16777216) (by omega) hx (dom_range b)
 have h2:=mul_rng (A:=16777216) (B:=16777216) (by omega) hy (dom_range a)
 omega
theorem jd_wrap{a b:V4}{x y:Int}(hx: -16777216≤x∧x≤16777216)(hy: -16777216≤y∧y≤16777216):i64.wrap (i64.wrap (x*dom b)-i64.wrap (y*dom a))=jd a b x y∧inR (jd a b x y) (-4611686018427387904) 4611686018427387904=true∧sz (jd a b x y)≤562949953421312:=by
 have r:=jd_rng (a:=a) (b:=b) hx hy
 unfold jd
 rw[w64 (x:=x*dom b) (by omega) (by omega),w64 (x:=y*dom a) (by omega) (by omega),w64 (by omega) (by omega)]
 refine⟨rfl,inR_iff.2 (by omega),?_⟩
 unfold sz;split<;>omega
theorem lst_assoc{v j n k c:Int}:lst v j (n*k) c=lst v (j*n) k c:=by unfold lst;rw[Int.mul_assoc]
theorem jS_assoc{v j n k x:Int}:jS v j (n*k) x=jS v (j*n) k x:=by unfold jS;rw[lst_assoc]
theorem jer_rng{j n:Int}(hj:1≤j∧j≤1048576)(hn:1≤n∧n≤16777216):0≤j*n∧j*n≤17592186044416:=by
 have h1:0≤j*n:=Int.mul_nonneg (by omega) (by omega)
 have h2:j*n≤1048576*16777216:=Int.mul_le_mul hj.2 hn.2 (by omega) (by omega)
 omega
theorem dom_mul{n k:Int}(hn:1≤n∧n≤16777216)(hk:1≤k∧k≤16777216):0≤n*k∧n*k≤281474976710656:=by
 have h1:0≤n*k:=Int.mul_nonneg (by omega) (by omega)
 have h2:n*k≤16777216*16777216:=Int.mul_le_mul hn.2 hk.2 (by omega) (by omega)
 omega
theorem s_spd(m:Ma)(c:V4)(l f:Int)(h:(ok63 l&&ok63 f)=true):SCall Tryz.prog 259 [m.sv,V4.sv c,I64 l,I64 f] (I64 (spdV m c l f)):=
 scall_v mix [fDom,fOkC,fMaOk,fBnd,fSz 290] ⟨o_dom,o_okC,o_maOk,o_bnd,o_szL,trivial⟩ 1000 (.go (.lit (.fork (.lit .all) (.go (.lit (.fork .all (.go (.lit (.fork (.go (.lit (.fork (.go (.lit (.fork (.go (.lit (.fork (.go (.lit (.fork (.lit (.lit (.fork .all .all))) (.lit (.lit (.lit .all)))))) (.go (.lit (.fork (.lit (.lit (.fork .all .all))) (.lit (.lit (.lit .all))))))))) (.go (.lit (.fork (.go (.lit (.fork (.lit (.lit (.fork .all .all))) (.lit (.lit (.lit .all)))))) (.go (.lit (.fork (.lit (.lit (.fork .all .all))) (.lit (.lit (.lit .all)))))))))))) (.go (.lit (.fork (.go (.lit (.fork (.go (.lit (.fork (.lit (.lit (.fork .all .all))) (.lit (.lit (.lit .all)))))) (.go (.lit (.fork (.lit (.lit (.fork .all .all))) (.lit (.lit (.lit .all))))))))) (.go (.lit (.fork (.go (.lit (.fork (.lit (.lit (.fork .all .all))) (.lit (.lit (.lit .all)))))) (.go (.lit (.fork (.lit (.lit (.fork .all .all))) (.lit (.lit (.lit .all))))))))))))))) (.go (.lit (.fork (.go (.lit (.fork (.go (.lit (.fork (.go (.lit (.fork (.lit (.lit (.fork .all .all))) (.lit (.lit (.lit .all)))))) (.go (.lit (.fork (.lit (.lit (.fork .all .all))) (.lit (.lit (.lit .all))))))))) (.go (.lit (.fork (.go (.lit (.fork (.lit (.lit (.fork .all .all))) (.lit (.lit (.lit .all)))))) (.go (.lit (.fork (.lit (.lit (.fork .all .all))) (.lit (.lit (.lit .all)))))))))))) (.go (.lit (.fork (.go (.lit (.fork (.go (.lit (.fork (.lit (.lit (.fork .all .all))) (.lit (.lit (.lit .all)))))) (.go (.lit (.fork (.lit (.lit (.fork .all .all))) (.lit (.lit (.lit .all))))))))) (.go (.lit (.fork (.go (.lit (.fork (.lit (.lit (.fork .all .all))) (.lit (.lit (.lit .all)))))) (.go (.lit (.fork (.lit (.lit (.fork .all .all))) (.lit (.lit (.lit .all))))))))))))))))))))))))
  (t:=.req true (.node (!okC c) (.leaf (I64 0)) (.node (!m.ok) (.leaf (I64 0)) (fourT m c Ax.speed 1048576 fun v=>.node (decide (l>0)) (.node (decide (f>0)) (.req (okB v f (dom c) l) (.leaf (I64 (if(if lst v f (dom c) l>1 then lst v f (dom c) l else 1)<v then(if lst v f (dom c) l>1 then lst v f (dom c) l else 1)else v)))) (.leaf (I64 v))) (.leaf (I64 v))))))
  (by kernel_rfl) (by
   rw[Bool.and_eq_true]at h
   have h1:=inR_iff.1 h.1
   have h2:=inR_iff.1 h.2
   cases hl:okL m c with
   |false=>
    have:=mt okL_iff.2 (by rw[hl];exact Bool.false_ne_true)
    simp only[Tree.holds,spdV_no hl,sL,ne_eq,beq_iff_eq,bne_iff_ne,eq_self,beq_eq_false_iff_ne,bne_eq_false_iff_eq,implies_true]
    (repeat' (first|apply And.intro|intro _))<;>first|rfl|(exfalso;simp_all)
   |true=>
    obtain⟨hm,hc⟩:=okL_iff.1 hl
    simp only[Tree.holds,spdV_yes hl,hm,hc,sL,ne_eq,beq_iff_eq,bne_iff_ne,eq_self,beq_eq_false_iff_ne,bne_eq_false_iff_eq,implies_true]
    have F:=four (M:=1048576) (m:=m) (c:=c) (s:=Ax.speed) (by omega) hc ax_sp hm
    have fv:=fourV_rng F (v:=1048576) (by omega)
    refine fourT_holds (M:=1048576) F hc (by omega) ?_
    unfold spdK
    generalize fourV m c Ax.speed 1048576=v at fv ⊢
    have dn:=dom16 hc
    have ob:=fun(a:0<l) (b:0<f)=>spd_okB (v:=v) (n:=dom c) (l:=l) (f:=f) (by omega) dn (by omega) (by omega)
    simp only[Tree.holds,sL,ne_eq,beq_iff_eq,bne_iff_ne,eq_self,beq_eq_false_iff_ne,bne_eq_false_iff_eq,implies_true]
    refine⟨fun a=>⟨fun b=>⟨ob a b,?_⟩,fun b=>?_⟩,fun a=>?_⟩
    ·have ln:=lst_nn (ob a b)
     rw[if_pos (show 0<l∧0<f from⟨a,b⟩)]
     refine sv_int ?_;(repeat' split)<;>omega
    ·rw[if_neg (show ¬(0<l∧0<f) by omega)]
    ·rw[if_neg (show ¬(0<l∧0<f) by omega)]) (by kernel_rfl) (by kernel_rfl)
theorem s_spdR(m:Ma)(c:V4)(l f:Int)(h:(ok63 l&&ok63 f)=true):SCall Tryz.prog 35 [m.sv,V4.sv c,I64 l,I64 f] (I64 (spdV m c l f)):=
 scall_v mix [fDomR,fOkCR,fMaOkR,fLst,fSz 99] ⟨o_domR,o_okCR,o_maOkR,o_lst,o_szLR,trivial⟩ 1000 (.fork (.ln 3 (.lit .all)) (.ln 3 (.fork .all (.go (.lit (.fork (.go (.lit (.fork (.go (.lit (.fork (.go (.lit (.fork (.go (.lit (.fork (.lit (.lit (.fork (.fork .all .all) .all))) (.lit (.lit (.lit .all)))))) (.go (.lit (.fork (.lit (.lit (.fork (.fork .all .all) .all))) (.lit (.lit (.lit .all))))))))) (.go (.lit (.fork (.go (.lit (.fork (.lit (.lit (.fork (.fork .all .all) .all))) (.lit (.lit (.lit .all)))))) (.go (.lit (.fork (.lit (.lit (.fork (.fork .all .all) .all))) (.lit (.lit (.lit .all)))))))))))) (.go (.lit (.fork (.go (.lit (.fork (.go (.lit (.fork (.lit (.lit (.fork (.fork .all .all) .all))) (.lit (.lit (.lit .all)))))) (.go (.lit (.fork (.lit (.lit (.fork (.fork .all .all) .all))) (.lit (.lit (.lit .all))))))))) (.go (.lit (.fork (.go (.lit (.fork (.lit (.lit (.fork (.fork .all .all) .all))) (.lit (.lit (.lit .all)))))) (.go (.lit (.fork (.lit (.lit (.fork (.fork .all .all) .all))) (.lit (.lit (.lit .all))))))))))))))) (.go (.lit (.fork (.go (.lit (.fork (.go (.lit (.fork (.go (.lit (.fork (.lit (.lit (.fork (.fork .all .all) .all))) (.lit (.lit (.lit .all)))))) (.go (.lit (.fork (.lit (.lit (.fork (.fork .all .all) .all))) (.lit (.lit (.lit .all))))))))) (.go (.lit (.fork (.go (.lit (.fork (.lit (.lit (.fork (.fork .all .all) .all))) (.lit (.lit (.lit .all)))))) (.go (.lit (.fork (.lit (.lit (.fork (.fork .all .all) .all))) (.lit (.lit (.lit .all)))))))))))) (.go (.lit (.fork (.go (.lit (.fork (.go (.lit (.fork (.lit (.lit (.fork (.fork .all .all) .all))) (.lit (.lit (.lit .all)))))) (.go (.lit (.fork (.lit (.lit (.fork (.fork .all .all) .all))) (.lit (.lit (.lit .all))))))))) (.go (.lit (.fork (.go (.lit (.fork (.lit (.lit (.fork (.fork .all .all) .all))) (.lit (.lit (.lit .all)))))) (.go (.lit (.fork (.lit (.lit (.fork (.fork .all .all) .all))) (.lit (.lit (.lit .all)))))))))))))))))))))
  (t:=.node (!m.ok) (.leaf (I64 0)) (.node (!okC c) (.leaf (I64 0)) (fourT m c Ax.speed 1048576 fun v=>.node (decide (l>0)) (.node (decide (f>0)) (.req (okB v f (dom c) l) (.node (decide (lst v f (dom c) l<1)) (.leaf (I64 1)) (.leaf (I64 (lst v f (dom c) l))))) (.leaf (I64 v))) (.leaf (I64 v)))))
  (by kernel_rfl) (by
   rw[Bool.and_eq_true]at h
   have h1:=inR_iff.1 h.1
   have h2:=inR_iff.1 h.2
   cases hl:okL m c with
   |false=>
    have:=mt okL_iff.2 (by rw[hl];exact Bool.false_ne_true)
    simp only[Tree.holds,spdV_no hl,sL,ne_eq,beq_iff_eq,bne_iff_ne,eq_self,beq_eq_false_iff_ne,bne_eq_false_iff_eq,implies_true]
    (repeat' (first|apply And.intro|intro _))<;>first|rfl|(exfalso;simp_all)
   |true=>
    obtain⟨hm,hc⟩:=okL_iff.1 hl
    simp only[Tree.holds,spdV_yes hl,hm,hc,sL,ne_eq,beq_iff_eq,bne_iff_ne,eq_self,beq_eq_false_iff_ne,bne_eq_false_iff_eq,implies_true]
    have F:=four (M:=1048576) (m:=m) (c:=c) (s:=Ax.speed) (by omega) hc ax_sp hm
    have fv:=fourV_rng F (v:=1048576) (by omega)
    refine fourT_holds (M:=1048576) F hc (by omega) ?_
    unfold spdK
    generalize fourV m c Ax.speed 1048576=v at fv ⊢
    have dn:=dom16 hc
    have ob:=fun(a:0<l) (b:0<f)=>spd_okB (v:=v) (n:=dom c) (l:=l) (f:=f) (by omega) dn (by omega) (by omega)
    simp only[Tree.holds,sL,ne_eq,beq_iff_eq,bne_iff_ne,eq_self,beq_eq_false_iff_ne,bne_eq_false_iff_eq,implies_true]
    refine⟨fun a=>⟨fun b=>⟨ob a b,?_⟩,fun b=>?_⟩,fun a=>?_⟩
    ·have ln:=lst_nn (ob a b)
     rw[if_pos (show 0<l∧0<f from⟨a,b⟩)]
     exact⟨fun d=>by rw[if_pos d],fun d=>by rw[if_neg d]⟩
    ·rw[if_neg (show ¬(0<l∧0<f) by omega)]
    ·rw[if_neg (show ¬(0<l∧0<f) by omega)]) (by kernel_rfl) (by kernel_rfl)
theorem s_jun(m:Ma)(a b:V4):SCall Tryz.prog 261 [m.sv,V4.sv a,V4.sv b] (I64 (junV m a b)):=
 scall_v mix [fDom,fOkC,fMaOk,fBnd,fSz 290] ⟨o_dom,o_okC,o_maOk,o_bnd,o_szL,trivial⟩ 1000 (.go (.lit (.fork (.lit (.all)) (.go (.lit (.fork (.lit (.all)) (.go (.lit (.fork (.all) (.go (.lit (.fork (.go (.lit (.fork (.go (.lit (.fork (.go (.lit (.fork (.go (.lit (.all))) (.go (.lit (.all)))))) (.go (.lit (.fork (.go (.lit (.all))) (.go (.lit (.all))))))))) (.go (.lit (.fork (.go (.lit (.fork (.go (.lit (.all))) (.go (.lit (.all)))))) (.go (.lit (.fork (.go (.lit (.all))) (.go (.lit (.all)))))))))))) (.go (.lit (.fork (.go (.lit (.fork (.go (.lit (.fork (.go (.lit (.all))) (.go (.lit (.all)))))) (.go (.lit (.fork (.go (.lit (.all))) (.go (.lit (.all))))))))) (.go (.lit (.fork (.go (.lit (.fork (.go (.lit (.all))) (.go (.lit (.all)))))) (.go (.lit (.fork (.go (.lit (.all))) (.go (.lit (.all))))))))))))))))))))))))
  (t:=.req true (.node (!okC a) (.leaf (I64 0)) (.req true (.node (!okC b) (.leaf (I64 0)) (.node (!m.ok) (.leaf (I64 0)) (jT (fun n=>decide (n>0)) (i64.wrap (i64.wrap (a.1*dom b)-i64.wrap (b.1*dom a))) (i64.wrap (m.x.jerk*dom a)) (dom b) 1048576 (fun v=>jT (fun n=>decide (n>0)) (i64.wrap (i64.wrap (a.2.1*dom b)-i64.wrap (b.2.1*dom a))) (i64.wrap (m.y.jerk*dom a)) (dom b) v (fun v=>jT (fun n=>decide (n>0)) (i64.wrap (i64.wrap (a.2.2.1*dom b)-i64.wrap (b.2.2.1*dom a))) (i64.wrap (m.z.jerk*dom a)) (dom b) v (fun v=>jT (fun n=>decide (n>0)) (i64.wrap (i64.wrap (a.2.2.2*dom b)-i64.wrap (b.2.2.2*dom a))) (i64.wrap (m.e.jerk*dom a)) (dom b) v (fun v=>.leaf (I64 v)))))))))))
  (by kernel_rfl) (by
   cases hl:okL m a&&okC b with
   |false=>
    have hn:¬((m.ok=true∧okC a=true)∧okC b=true):=fun k=>by
     have:(okL m a&&okC b)=true:=by rw[Bool.and_eq_true];exact⟨okL_iff.2 k.1,k.2⟩
     rw[hl]at this;cases this
    simp only[Tree.holds,junV_no hl,sL,ne_eq,beq_iff_eq,bne_iff_ne,eq_self,beq_eq_false_iff_ne,bne_eq_false_iff_eq,implies_true]
    (repeat' (first|apply And.intro|intro _))<;>first|rfl|(exfalso;simp_all)
   |true=>
    have h2:=hl
    rw[Bool.and_eq_true]at h2
    obtain⟨hm,ha⟩:=okL_iff.1 h2.1
    have hb:=h2.2
    have mo:=(Ma.ok_iff m).1 hm
    have ra:=(okC_iff.1 ha).1
    have rb:=(okC_iff.1 hb).1
    have da:=dom16 ha
    have db:=dom16 hb
    have j1:=ax_je _ mo.1
    have j2:=ax_je _ mo.2.1
    have j3:=ax_je _ mo.2.2.1
    have j4:=ax_je _ mo.2.2.2.1
    obtain⟨w1,i1,z1⟩:=jd_wrap (a:=a) (b:=b) (x:=a.1) (y:=b.1) (by omega) (by omega)
    obtain⟨w2,i2,z2⟩:=jd_wrap (a:=a) (b:=b) (x:=a.2.1) (y:=b.2.1) (by omega) (by omega)
    obtain⟨w3,i3,z3⟩:=jd_wrap (a:=a) (b:=b) (x:=a.2.2.1) (y:=b.2.2.1) (by omega) (by omega)
    obtain⟨w4,i4,z4'⟩:=jd_wrap (a:=a) (b:=b) (x:=a.2.2.2) (y:=b.2.2.2) (by omega) (by omega)
    have m1:=jer_rng j1 da
    have m2:=jer_rng j2 da
    have m3:=jer_rng j3 da
    have m4:=jer_rng j4 da
    have mm:=dom_mul da db
    have ob:∀{v A B x:Int},0≤v∧v≤1048576→0≤A∧A≤17592186044416→0≤B∧B≤281474976710656→sz x≤562949953421312→¬sz x=0→okB v A B (sz x)=true:=fun {v A B x} hv hA hB hx h0=>okB_iff.2 ⟨okMD_iff.2 (by have:=sz_nonneg x;omega),by omega⟩
    rw[w1,w2,w3,w4]
    simp only[Tree.holds,junV_yes hl,hm,ha,hb,sL,ne_eq,beq_iff_eq,bne_iff_ne,eq_self,beq_eq_false_iff_ne,bne_eq_false_iff_eq,implies_true]
    rw[w64 (x:=m.x.jerk*dom a) (by omega) (by omega),w64 (x:=m.y.jerk*dom a) (by omega) (by omega),w64 (x:=m.z.jerk*dom a) (by omega) (by omega),w64 (x:=m.e.jerk*dom a) (by omega) (by omega)]
    have v0:(0:Int)≤1048576∧(1048576:Int)≤1048576:=by omega
    have b1:=ob (x:=jd a b a.1 b.1) v0 (A:=m.x.jerk*dom a) (B:=dom b) m1 (by omega) z1
    have v1:=jS_rng v0 b1
    have b2:=ob (x:=jd a b a.2.1 b.2.1) v1 (A:=m.y.jerk*dom a) (B:=dom b) m2 (by omega) z2
    have v2:=jS_rng v1 b2
    have b3:=ob (x:=jd a b a.2.2.1 b.2.2.1) v2 (A:=m.z.jerk*dom a) (B:=dom b) m3 (by omega) z3
    have v3:=jS_rng v2 b3
    have b4:=ob (x:=jd a b a.2.2.2 b.2.2.2) v3 (A:=m.e.jerk*dom a) (B:=dom b) m4 (by omega) z4'
    exact jT_holds (fun n hn=>⟨fun k=>by have:=of_decide_eq_true k;omega,fun k=>decide_eq_true (by omega)⟩) i1 b1 (jT_holds (fun n hn=>⟨fun k=>by have:=of_decide_eq_true k;omega,fun k=>decide_eq_true (by omega)⟩) i2 b2 (jT_holds (fun n hn=>⟨fun k=>by have:=of_decide_eq_true k;omega,fun k=>decide_eq_true (by omega)⟩) i3 b3 (jT_holds (fun n hn=>⟨fun k=>by have:=of_decide_eq_true k;omega,fun k=>decide_eq_true (by omega)⟩) i4 b4 rfl)))) (by kernel_rfl) (by kernel_rfl)
theorem s_junR(m:Ma)(a b:V4):SCall Tryz.prog 37 [m.sv,V4.sv a,V4.sv b] (I64 (junV m a b)):=
 scall_v mix [fDomR,fOkCR,fMaOkR,fLst,fSz 99] ⟨o_domR,o_okCR,o_maOkR,o_lst,o_szLR,trivial⟩ 1000 (.fork (.ln 7 (.lit .all)) (.ln 3 (.fork (.ln 3 (.lit .all)) (.ln 3 (.fork .all (.go (.lit (.fork (.go (.lit (.fork (.go (.lit (.fork (.go (.lit (.fork (.go (.lit .all)) (.go (.lit .all))))) (.go (.lit (.fork (.go (.lit .all)) (.go (.lit .all)))))))) (.go (.lit (.fork (.go (.lit (.fork (.go (.lit .all)) (.go (.lit .all))))) (.go (.lit (.fork (.go (.lit .all)) (.go (.lit .all))))))))))) (.go (.lit (.fork (.go (.lit (.fork (.go (.lit (.fork (.go (.lit .all)) (.go (.lit .all))))) (.go (.lit (.fork (.go (.lit .all)) (.go (.lit .all)))))))) (.go (.lit (.fork (.go (.lit (.fork (.go (.lit .all)) (.go (.lit .all))))) (.go (.lit (.fork (.go (.lit .all)) (.go (.lit .all)))))))))))))))))))
  (t:=.node (!m.ok) (.leaf (I64 0)) (.node (!okC a) (.leaf (I64 0)) (.node (!okC b) (.leaf (I64 0)) (jT (fun n=>n != 0) (i64.wrap (i64.wrap (a.1*dom b)-i64.wrap (b.1*dom a))) m.x.jerk (i64.wrap (dom a*dom b)) 1048576 (fun v=>jT (fun n=>n != 0) (i64.wrap (i64.wrap (a.2.1*dom b)-i64.wrap (b.2.1*dom a))) m.y.jerk (i64.wrap (dom a*dom b)) v (fun v=>jT (fun n=>n != 0) (i64.wrap (i64.wrap (a.2.2.1*dom b)-i64.wrap (b.2.2.1*dom a))) m.z.jerk (i64.wrap (dom a*dom b)) v (fun v=>jT (fun n=>n != 0) (i64.wrap (i64.wrap (a.2.2.2*dom b)-i64.wrap (b.2.2.2*dom a))) m.e.jerk (i64.wrap (dom a*dom b)) v (fun v=>.leaf (I64 v)))))))))
  (by kernel_rfl) (by
   cases hl:okL m a&&okC b with
   |false=>
    have hn:¬((m.ok=true∧okC a=true)∧okC b=true):=fun k=>by
     have:(okL m a&&okC b)=true:=by rw[Bool.and_eq_true];exact⟨okL_iff.2 k.1,k.2⟩
     rw[hl]at this;cases this
    simp only[Tree.holds,junV_no hl,sL,ne_eq,beq_iff_eq,bne_iff_ne,eq_self,beq_eq_false_iff_ne,bne_eq_false_iff_eq,implies_true]
    (repeat' (first|apply And.intro|intro _))<;>first|rfl|(exfalso;simp_all)
   |true=>
    have h2:=hl
    rw[Bool.and_eq_true]at h2
    obtain⟨hm,ha⟩:=okL_iff.1 h2.1
    have hb:=h2.2
    have mo:=(Ma.ok_iff m).1 hm
    have ra:=(okC_iff.1 ha).1
    have rb:=(okC_iff.1 hb).1
    have da:=dom16 ha
    have db:=dom16 hb
    have j1:=ax_je _ mo.1
    have j2:=ax_je _ mo.2.1
    have j3:=ax_je _ mo.2.2.1
    have j4:=ax_je _ mo.2.2.2.1
    obtain⟨w1,i1,z1⟩:=jd_wrap (a:=a) (b:=b) (x:=a.1) (y:=b.1) (by omega) (by omega)
    obtain⟨w2,i2,z2⟩:=jd_wrap (a:=a) (b:=b) (x:=a.2.1) (y:=b.2.1) (by omega) (by omega)
    obtain⟨w3,i3,z3⟩:=jd_wrap (a:=a) (b:=b) (x:=a.2.2.1) (y:=b.2.2.1) (by omega) (by omega)
    obtain⟨w4,i4,z4'⟩:=jd_wrap (a:=a) (b:=b) (x:=a.2.2.2) (y:=b.2.2.2) (by omega) (by omega)
    have m1:=jer_rng j1 da
    have m2:=jer_rng j2 da
    have m3:=jer_rng j3 da
    have m4:=jer_rng j4 da
    have mm:=dom_mul da db
    have ob:∀{v A B x:Int},0≤v∧v≤1048576→0≤A∧A≤17592186044416→0≤B∧B≤281474976710656→sz x≤562949953421312→¬sz x=0→okB v A B (sz x)=true:=fun {v A B x} hv hA hB hx h0=>okB_iff.2 ⟨okMD_iff.2 (by have:=sz_nonneg x;omega),by omega⟩
    rw[w1,w2,w3,w4]
    simp only[Tree.holds,junV_yes hl,hm,ha,hb,sL,ne_eq,beq_iff_eq,bne_iff_ne,eq_self,beq_eq_false_iff_ne,bne_eq_false_iff_eq,implies_true]
    rw[w64 (x:=dom a*dom b) (by omega) (by omega)]
    simp only[←jS_assoc]
    have v0:(0:Int)≤1048576∧(1048576:Int)≤1048576:=by omega
    have b1:=ob (x:=jd a b a.1 b.1) v0 (A:=m.x.jerk) (B:=dom a*dom b) (by omega) mm z1
    have v1:=jS_rng v0 b1
    have b2:=ob (x:=jd a b a.2.1 b.2.1) v1 (A:=m.y.jerk) (B:=dom a*dom b) (by omega) mm z2
    have v2:=jS_rng v1 b2
    have b3:=ob (x:=jd a b a.2.2.1 b.2.2.1) v2 (A:=m.z.jerk) (B:=dom a*dom b) (by omega) mm z3
    have v3:=jS_rng v2 b3
    have b4:=ob (x:=jd a b a.2.2.2 b.2.2.2) v3 (A:=m.e.jerk) (B:=dom a*dom b) (by omega) mm z4'
    exact jT_holds (fun n hn=>by simp) i1 b1 (jT_holds (fun n hn=>by simp) i2 b2 (jT_holds (fun n hn=>by simp) i3 b3 (jT_holds (fun n hn=>by simp) i4 b4 rfl)))) (by kernel_rfl) (by kernel_rfl)
def factMV4II(f:FuncId)(h:Ma→V4→Int→Int→Tree SV):Fact:=⟨f,fun args=>match args with
 |[.agg [.int .i64 a0,.int .i64 a1,.int .i64 a2,.int .i64 a3,.int .i64 a4,.int .i64 a5,.int .i64 a6,.int .i64 b0,.int .i64 b1,.int .i64 b2,.int .i64 b3,.int .i64 b4,.int .i64 b5,.int .i64 b6,.int .i64 c0,.int .i64 c1,.int .i64 c2,.int .i64 c3,.int .i64 c4,.int .i64 c5,.int .i64 c6,.int .i64 d0,.int .i64 d1,.int .i64 d2,.int .i64 d3,.int .i64 d4,.int .i64 d5,.int .i64 d6,.bool xy,.int .i64 t],.agg [.int .i64 x,.int .i64 y,.int .i64 z,.int .i64 w],.int .i64 i,.int .i64 j] =>some (h ⟨⟨a0,a1,a2,a3,a4,a5,a6⟩,⟨b0,b1,b2,b3,b4,b5,b6⟩,⟨c0,c1,c2,c3,c4,c5,c6⟩,⟨d0,d1,d2,d3,d4,d5,d6⟩,xy,t⟩ (x,y,z,w) i j)
 |_=>none⟩
theorem factMV4II_ok{P:Program}{f:FuncId}{h:Ma→V4→Int→Int→Tree SV}(k:∀m v i j,(h m v i j).says (SCall P f [m.sv,V4.sv v,I64 i,I64 j])):(factMV4II f h).ok P:=fun args t ht=>by
 simp only[factMV4II]at ht
 split at ht
 ·injection ht with ht;subst ht;exact k ⟨⟨_,_,_,_,_,_,_⟩,⟨_,_,_,_,_,_,_⟩,⟨_,_,_,_,_,_,_⟩,⟨_,_,_,_,_,_,_⟩,_,_⟩ (_,_,_,_) _ _
 ·cases ht
def factMV44(f:FuncId)(h:Ma→V4→V4→Tree SV):Fact:=⟨f,fun args=>match args with
 |[.agg [.int .i64 a0,.int .i64 a1,.int .i64 a2,.int .i64 a3,.int .i64 a4,.int .i64 a5,.int .i64 a6,.int .i64 b0,.int .i64 b1,.int .i64 b2,.int .i64 b3,.int .i64 b4,.int .i64 b5,.int .i64 b6,.int .i64 c0,.int .i64 c1,.int .i64 c2,.int .i64 c3,.int .i64 c4,.int .i64 c5,.int .i64 c6,.int .i64 d0,.int .i64 d1,.int .i64 d2,.int .i64 d3,.int .i64 d4,.int .i64 d5,.int .i64 d6,.bool xy,.int .i64 t],.agg [.int .i64 x,.int .i64 y,.int .i64 z,.int .i64 w],.agg [.int .i64 x2,.int .i64 y2,.int .i64 z2,.int .i64 w2]] =>some (h ⟨⟨a0,a1,a2,a3,a4,a5,a6⟩,⟨b0,b1,b2,b3,b4,b5,b6⟩,⟨c0,c1,c2,c3,c4,c5,c6⟩,⟨d0,d1,d2,d3,d4,d5,d6⟩,xy,t⟩ (x,y,z,w) (x2,y2,z2,w2))
 |_=>none⟩
theorem factMV44_ok{P:Program}{f:FuncId}{h:Ma→V4→V4→Tree SV}(k:∀m v u,(h m v u).says (SCall P f [m.sv,V4.sv v,V4.sv u])):(factMV44 f h).ok P:=fun args t ht=>by
 simp only[factMV44]at ht
 split at ht
 ·injection ht with ht;subst ht;exact k ⟨⟨_,_,_,_,_,_,_⟩,⟨_,_,_,_,_,_,_⟩,⟨_,_,_,_,_,_,_⟩,⟨_,_,_,_,_,_,_⟩,_,_⟩ (_,_,_,_) (_,_,_,_)
 ·cases ht
def fSpd:Fact:=factMV4II 259 fun m c l f=>.req (ok63 l&&ok63 f) (.leaf (I64 (spdV m c l f)))
def fSpdR:Fact:=factMV4II 35 fun m c l f=>.req (ok63 l&&ok63 f) (.leaf (I64 (spdV m c l f)))
theorem o_spd:fSpd.ok Tryz.prog:=factMV4II_ok (fun m c l f h=>s_spd m c l f h)
theorem o_spdR:fSpdR.ok Tryz.prog:=factMV4II_ok (fun m c l f h=>s_spdR m c l f h)
def fJun:Fact:=factMV44 261 fun m a b=>.leaf (I64 (junV m a b))
def fJunR:Fact:=factMV44 37 fun m a b=>.leaf (I64 (junV m a b))
theorem o_jun:fJun.ok Tryz.prog:=factMV44_ok (s_jun)
theorem o_junR:fJunR.ok Tryz.prog:=factMV44_ok (s_junR)
section
variable {m:Ma} {c:V4}
theorem accV_rng(h:okL m c=true):1≤accV m c∧accV m c≤16777216:=by
 obtain⟨hm,hc⟩:=okL_iff.1 h
 rw[accV_yes h]
 exact fourV_rng (four (M:=16777216) (by omega) hc ax_ac hm) (v:=16777216) (by omega)
theorem spd_top(h:okL m c=true):1≤fourV m c Ax.speed 1048576∧fourV m c Ax.speed 1048576≤1048576:=by
 obtain⟨hm,hc⟩:=okL_iff.1 h
 exact fourV_rng (four (M:=1048576) (by omega) hc ax_sp hm) (v:=1048576) (by omega)
theorem spdV_zero(h:okL m c=true):spdV m c 0 0=fourV m c Ax.speed 1048576:=by
 rw[spdV_yes h];unfold spdK;rw[if_neg (by omega)]
theorem spdV_rng(h:okL m c=true){l f:Int}(hl:l≤9223372036854775807)(hf:f≤9223372036854775807):1≤spdV m c l f∧spdV m c l f≤spdV m c 0 0∧spdV m c 0 0≤1048576:=by
 have t:=spd_top h
 have hc:=(okL_iff.1 h).2
 rw[spdV_zero h]
 refine⟨?_,?_,t.2⟩
 all_goals
  rw[spdV_yes h];unfold spdK
  split
  ·rename_i k
   have b:=spd_okB (v:=fourV m c Ax.speed 1048576) (n:=dom c) (l:=l) (f:=f) (by omega) (dom16 hc) (by omega) (by omega)
   have n:=lst_nn b
   split<;>omega
  ·omega
theorem junV_rng(m:Ma)(a b:V4):0≤junV m a b∧junV m a b≤1048576:=by
 cases hl:okL m a&&okC b with
 |false=>rw[junV_no hl];omega
 |true=>
  have h2:=hl
  rw[Bool.and_eq_true]at h2
  obtain⟨hm,ha⟩:=okL_iff.1 h2.1
  have hb:=h2.2
  have mo:=(Ma.ok_iff m).1 hm
  have ra:=(okC_iff.1 ha).1
  have rb:=(okC_iff.1 hb).1
  have da:=dom16 ha
  have db:=dom16 hb
  have j1:=ax_je _ mo.1
  have j2:=ax_je _ mo.2.1
  have j3:=ax_je _ mo.2.2.1
  have j4:=ax_je _ mo.2.2.2.1
  obtain⟨w1,i1,z1⟩:=jd_wrap (a:=a) (b:=b) (x:=a.1) (y:=b.1) (by omega) (by omega)
  obtain⟨w2,i2,z2⟩:=jd_wrap (a:=a) (b:=b) (x:=a.2.1) (y:=b.2.1) (by omega) (by omega)
  obtain⟨w3,i3,z3⟩:=jd_wrap (a:=a) (b:=b) (x:=a.2.2.1) (y:=b.2.2.1) (by omega) (by omega)
  obtain⟨w4,i4,z4'⟩:=jd_wrap (a:=a) (b:=b) (x:=a.2.2.2) (y:=b.2.2.2) (by omega) (by omega)
  have m1:=jer_rng j1 da
  have m2:=jer_rng j2 da
  have m3:=jer_rng j3 da
  have m4:=jer_rng j4 da
  have ob:∀{v A B x:Int},0≤v∧v≤1048576→0≤A∧A≤17592186044416→0≤B∧B≤281474976710656→sz x≤562949953421312→1≤B→¬sz x=0→okB v A B (sz x)=true:=fun {v A B x} hv hA hB hx _ h0=>okB_iff.2 ⟨okMD_iff.2 (by have:=sz_nonneg x;omega),by omega⟩
  rw[junV_yes hl]
  have v0:(0:Int)≤1048576∧(1048576:Int)≤1048576:=by omega
  have v1:=jS_rng v0 (ob (A:=m.x.jerk*dom a) (B:=dom b) (x:=jd a b a.1 b.1) v0 m1 (by omega) z1 db.1)
  have v2:=jS_rng v1 (ob (A:=m.y.jerk*dom a) (B:=dom b) (x:=jd a b a.2.1 b.2.1) v1 m2 (by omega) z2 db.1)
  have v3:=jS_rng v2 (ob (A:=m.z.jerk*dom a) (B:=dom b) (x:=jd a b a.2.2.1 b.2.2.1) v2 m3 (by omega) z3 db.1)
  exact jS_rng v3 (ob (A:=m.e.jerk*dom a) (B:=dom b) (x:=jd a b a.2.2.2 b.2.2.2) v3 m4 (by omega) z4' db.1)
theorem sq_rng{v M:Int}(hv:0≤v∧v≤M):0≤v*v∧v*v≤M*M:=⟨Int.mul_nonneg hv.1 hv.1,Int.mul_le_mul hv.2 hv.2 hv.1 (by omega)⟩
theorem sq_pos{v M:Int}(hv:1≤v∧v≤M):1≤v*v∧v*v≤M*M:=by
 have h1:1*1≤v*v:=Int.mul_le_mul hv.1 hv.1 (by omega) (by omega)
 exact⟨by omega,(sq_rng (v:=v) (M:=M) (by omega)).2⟩
end
def firstL:List Int→Int→Int
 |[],d=>d
 |n::l,d=>if 0<n then n else firstL l d
def headZ:List Int→Bool
 |[] =>false
 |n::_=>n==0
def openV(f:Fw):Int:=if f.moving=true∧0<f.active then f.active else firstL f.lines (f.line+1)
def returnsB(f:Fw):Bool:=match f.moving with
 |true=>f.active==0
 |false=>headZ f.lines
def loseRet(f:Fw):V4:=if f.moving=true∧0<f.active then begin4 f else if f.homed=true∧returnsB f=false then f.pos else f.ret
def loseF(f:Fw):Fw:={f with ret:=loseRet f,line:=openV f-1,back:=f.back||f.homed,homed:=false,moving:=false,queue:=[],lines:=[],mo:=m0,active:=0,dwell:=0,waits:=0}
def resG(g:Gu)(r:Int):Gu:=if g.fault=0 then g else g.rest r
def resOk(g:Gu)(r:Int):Bool:=g.fault==0||g.resE r==0
def touchF(f:Fw):Fw:={f with g0:=f.g0.touch,g1:=f.g1.touch}
def stopG(f:Fw):Fw:={f with g0:=f.g0.stop,g1:=f.g1.stop}
def stopF(f:Fw):Fw:={loseF (stopG f)with mode:=3}
def newB(m:Ma)(c:V4)(len feed:Int):Bk:=(c,accV m c,0,spdV m c len feed*spdV m c len feed,0)
def capJ(m:Ma)(q:List Bk)(i:Nat):Int:=if i=0 then 0 else junV m (q.getD (i-1) dBk).1 (q.getD i dBk).1*junV m (q.getD (i-1) dBk).1 (q.getD i dBk).1
def capsV(m:Ma)(q:List Bk):List Int:=(List.range q.length).map (capJ m q)
def entryV(f:Fw):Int:=if f.moving=true then f.mo.1.2.2.2.2 else if f.queue.length=0 then 0 else(f.queue.getD 0 dBk).2.2.1
def addQ(f:Fw)(c:V4)(len:Int):List Bk:=f.queue++[newB f.ma c len f.feed]
def addOk(f:Fw)(c:V4)(len:Int):Bool:=decide (entryV f≤crL (addQ f c len) 0)&&decide (gL (addQ f c len) (capsV f.ma (addQ f c len)) (entryV f) 0=entryV f)
theorem addOk_iff{f:Fw}{c:V4}{len:Int}:addOk f c len=true↔entryV f≤crL (addQ f c len) 0∧gL (addQ f c len) (capsV f.ma (addQ f c len)) (entryV f) 0=entryV f:=by simp only[addOk,Bool.and_eq_true,decide_eq_true_eq]
def addF(f:Fw)(c:V4)(len line:Int):Fw:={f with queue:=plB (addQ f c len) (gL (addQ f c len) (capsV f.ma (addQ f c len)) (entryV f)),lines:=f.lines++[line]}
theorem nilC_ok(f:Fw)(h:f.queue=[])(k:f.lines=[]):NilLs (nilC f) f.cells:=by
 obtain⟨⟩:=f
 dsimp only at h k
 subst h k
 repeat(first|exact trivial|refine⟨.same _,?_⟩|refine⟨.nil _,?_⟩)
def hasW(h k:Int):Bool:=!(i64.wrap ((BitVec.ofInt 64 h &&&BitVec.ofInt 64 k).toNat:Int)==0)
def tgtV(f:Fw)(c:Gc.C):V3:=(if hasW c.has 1=true then c.x else f.loc.1,if hasW c.has 2=true then c.y else f.loc.2.1,if hasW c.has 4=true then c.z else f.loc.2.2)
def tgtE(f:Fw)(c:Gc.C):Int:=if hasW c.has 8=true then c.e else f.e
def sqs(a b:V3):Int:=(b.1-a.1)*(b.1-a.1)+(b.2.1-a.2.1)*(b.2.1-a.2.1)+(b.2.2-a.2.2)*(b.2.2-a.2.2)
def lenM(f:Fw)(p:V3)(e:Int):Int:=if isq (sqs f.loc p)=0 then(if e-f.e<f.e-e then f.e-e else e-f.e)else isq (sqs f.loc p)
def feedF(f:Fw)(c:Gc.C):Fw:=if hasW c.has 16=true then {f with feed:=c.f} else f
def moveP(f:Fw)(c:Gc.C):V4:=motV f.ma (tgtV f c) (tgtE f c)
def moveD(f:Fw)(c:Gc.C):V4:=sub4 (moveP f c) (goal4 f)
def tlE(g:Fw)(u:V3)(e:Int)(p d:V4):Int:=match near4 p&&near4 d with
 |false=>2
 |true=>match nz4 d with
  |false=>0
  |true=>if 32≤g.queue.length then 18 else if addOk g d (lenM g u e)=true then 0 else 2
def tlF(g:Fw)(line:Int)(u:V3)(e:Int)(d:V4):Fw:=match nz4 d with
 |false=>{g with loc:=u,e:=e}
 |true=>{addF g d (lenM g u e) line with loc:=u,e:=e}
def moveE(f:Fw)(line:Int)(c:Gc.C):Int:=
 if line<1∨f.homed=false∨f.back=true∨¬f.mode=1 then 14
 else if insB f.ma (tgtV f c)=false∨motOk f.ma (tgtV f c) (tgtE f c)=false then 8
 else if f.e<tgtE f c∧f.r0<f.cold then 15
 else 0
def moveA(f:Fw)(line:Int)(c:Gc.C):Int:=if moveE f line c=0 then tlE (feedF f c) (tgtV f c) (tgtE f c) (moveP f c) (moveD f c)else moveE f line c
def moveF(f:Fw)(line:Int)(c:Gc.C):Fw:=tlF (feedF f c) line (tgtV f c) (tgtE f c) (moveD f c)
def homeE(f:Fw):Int:=if unOk f.ma f.pos.2.2.2=true then unitsN f.ma.e f.pos.2.2.2 else 0
def homeB(f:Fw)(line:Int):Bool:=(line==0&&f.homed)||f.back
def homeR(f:Fw)(line:Int):V4:=if line=0∧f.homed=true then f.pos else f.ret
def home0(f:Fw)(line:Int):Fw:={f with ret:=homeR f line,back:=false,pos:=(0,0,0,f.pos.2.2.2),homed:=true,loc:=(0,0,0),e:=homeE f}
def homeC(f:Fw)(line:Int):V4:=(0,0,(homeR f line).2.2.1,0)
def homeD(f:Fw)(line:Int):V4:=((homeR f line).1,(homeR f line).2.1,0,0)
def backOk(f:Fw)(c:V4):Bool:=!nz4 c||addOk f c 0
def backF(f:Fw)(c:V4):Fw:=if nz4 c=true then addF f c 0 0 else f
def homeX(f:Fw)(line:Int):Int:=
 if homeB f line=false then 0
 else if backOk (home0 f line) (homeC f line)=false then 2
 else if backOk (backF (home0 f line) (homeC f line)) (homeD f line)=false then 2 else 0
def posL(m:Ma)(p:V4):V3:=((posV m p).1,(posV m p).2.1,(posV m p).2.2.1)
def homeF(f:Fw)(line:Int):Fw:=
 if homeB f line=false then home0 f line
 else {backF (backF (home0 f line) (homeC f line)) (homeD f line)with loc:=posL f.ma (homeR f line)}
def resE(f:Fw):Int:=if ¬f.mode=3 then 14 else if resOk f.g0 f.r0=false∨resOk f.g1 f.r1=false then 16 else 0
def resF(f:Fw):Fw:={f with g0:=resG f.g0 f.r0,g1:=resG f.g1 f.r1,mode:=1}
def homeA(f:Fw)(line:Int):Int:=if idleB f=false then 18 else if ¬f.mode=1 then 14 else homeX f line
def orB(a b:Int):Int:=i64.wrap ((BitVec.ofInt 64 a |||BitVec.ofInt 64 b).toNat:Int)
def lineF(f:Fw)(line:Int):Fw:=if line=0 then f else {f with line:=line}
def doE(f:Fw)(line:Int)(c:Gc.C):Int:=
 if c.code=1112 then 0
 else if c.code=1999 then resE f
 else if f.mode=3 then 16
 else if c.code=1025 then(if f.mode=1 then 0 else 14)
 else if c.code=1024 then(if f.mode=2 then 0 else 14)
 else if ¬f.waits=0∨¬f.dwell=0 then 18
 else if c.code=0∨c.code=1 then moveA f line c
 else if c.code=4 then(if idleB f=true then 0 else 18)
 else if c.code=28 then homeA f line
 else 0
def doF(f:Fw)(line:Int)(c:Gc.C):Fw:=
 if c.code=1112 then stopF (lineF f line)
 else if c.code=1999 then resF f
 else if c.code=1025 then {f with mode:=2}
 else if c.code=1024 then {f with mode:=1}
 else if c.code=0∨c.code=1 then moveF f line c
 else if c.code=4 then {f with dwell:=c.s}
 else if c.code=28 then homeF f line
 else if c.code=1104 then {f with c0:=f.c0.aim c.s}
 else if c.code=1109 then {f with c0:=f.c0.aim c.s,waits:=orB f.waits 1}
 else if c.code=1140 then {f with c1:=f.c1.aim c.s}
 else if c.code=1190 then {f with c1:=f.c1.aim c.s,waits:=orB f.waits 2}
 else {f with fan:=c.s}
def accE(f:Fw)(line:Int)(c:Gc.C):Int:=
 if validF f=false∨c.valid=false∨(¬line=0∧¬line=f.line+1)∨1099511627776<line then 1 else doE f line c
def accF(f:Fw)(line:Int)(c:Gc.C):Fw:=touchF (if c.code=1112 then doF f line c else lineF (doF f line c) line)
def lensB(f:Fw):Bool:=decide (f.lines.length=f.queue.length)
theorem lensB_iff{f:Fw}:lensB f=true↔f.lines.length=f.queue.length:=by simp only[lensB,decide_eq_true_eq]
def cp0_p:Plan:=.all
noncomputable def cp0_t(f:Fw):Tree Stop:= .leaf (.at (loopOf Tryz.prog 200 0) 38 (slotsS 38 [(1,.ptr 0 0),(3,SV.nilS),(4,.int .i64 0)]) [some (.cells (Fw.cells f))])
theorem cp0(f:Fw):segR (Env.of Tryz.prog (sumOf [fJunR])) 1000 (fnOf Tryz.prog 200) (.int .i64) (keepS 38 [1,3,4]) (codeS Tryz.prog 200) cp0_p (startS Tryz.prog 200 [f.sv]) [] =cp0_t f:=by kernel_rfl
def cp1a_p:Plan:=.fork (.fork (.all) (.all)) (.all)
noncomputable def cp1a_t(f:Fw)(i:Int):Tree Stop:= .node (decide (i< (↑f.queue.length:Int))) (.node (decide (i>0)) (.req (decide (0≤i64.wrap (i-1))&&decide (i64.wrap (i-1)< (↑f.queue.length:Int))) (.req (decide (0≤i)&&decide (i< (↑f.queue.length:Int))) (.req (decide ([i64.wrap (junV f.ma (f.queue.getD (i64.wrap (i-1)).toNat dBk).1 (f.queue.getD i.toNat dBk).1*junV f.ma (f.queue.getD (i64.wrap (i-1)).toNat dBk).1 (f.queue.getD i.toNat dBk).1)].length*8≤140737488355328)) (.leaf (.at (loopOf Tryz.prog 200 0) 38 (slotsS 38 [(1,.ptr 0 0),(3,SV.row 1),(4,.int .i64 (i64.wrap (i+1)))]) [some (.cells (Fw.cells f)),some (.rows (Ty.int IntKind.i64) [i64.wrap (junV f.ma (f.queue.getD (i64.wrap (i-1)).toNat dBk).1 (f.queue.getD i.toNat dBk).1*junV f.ma (f.queue.getD (i64.wrap (i-1)).toNat dBk).1 (f.queue.getD i.toNat dBk).1)])]))))) (.req true (.leaf (.at (loopOf Tryz.prog 200 0) 38 (slotsS 38 [(1,.ptr 0 0),(3,SV.row 1),(4,.int .i64 (i64.wrap (i+1)))]) [some (.cells (Fw.cells f)),some (.rows (Ty.int IntKind.i64) [(0:Int)])])))) (.leaf (.done (.list (Ty.int IntKind.i64) [])))
theorem cp1a(f:Fw)(i:Int):segR (Env.of Tryz.prog (sumOf [fJunR])) 1000 (fnOf Tryz.prog 200) (.int .i64) (keepS 38 [1,3,4]) (loopOf Tryz.prog 200 0) cp1a_p (slotsS 38 [(1,.ptr 0 0),(3,.nilS),(4,I64 i)]) [some (.cells f.cells)] =cp1a_t f i:=by kernel_rfl
def cp1_p:Plan:=.fork (.fork (.all) (.all)) (.all)
noncomputable def cp1_t(f:Fw)(s:List Int)(i:Int):Tree Stop:= .node (decide (i< (↑f.queue.length:Int))) (.node (decide (i>0)) (.req (decide (0≤i64.wrap (i-1))&&decide (i64.wrap (i-1)< (↑f.queue.length:Int))) (.req (decide (0≤i)&&decide (i< (↑f.queue.length:Int))) (.req (decide ((s.length+ [i64.wrap (junV f.ma (f.queue.getD (i64.wrap (i-1)).toNat dBk).1 (f.queue.getD i.toNat dBk).1*junV f.ma (f.queue.getD (i64.wrap (i-1)).toNat dBk).1 (f.queue.getD i.toNat dBk).1)].length)*8≤140737488355328)) (.leaf (.at (loopOf Tryz.prog 200 0) 38 (slotsS 38 [(1,.ptr 0 0),(3,SV.row 1),(4,.int .i64 (i64.wrap (i+1)))]) [some (.cells (Fw.cells f)),some (.rows (Ty.int IntKind.i64) (s++[i64.wrap (junV f.ma (f.queue.getD (i64.wrap (i-1)).toNat dBk).1 (f.queue.getD i.toNat dBk).1*junV f.ma (f.queue.getD (i64.wrap (i-1)).toNat dBk).1 (f.queue.getD i.toNat dBk).1)]))]))))) (.req (decide ((s.length+1)*8≤140737488355328)) (.leaf (.at (loopOf Tryz.prog 200 0) 38 (slotsS 38 [(1,.ptr 0 0),(3,SV.row 1),(4,.int .i64 (i64.wrap (i+1)))]) [some (.cells (Fw.cells f)),some (.rows (Ty.int IntKind.i64) (s++[(0:Int)]))])))) (.leaf (.done (.list (Ty.int IntKind.i64) s)))
theorem cp1(f:Fw)(s:List Int)(i:Int):segR (Env.of Tryz.prog (sumOf [fJunR])) 1000 (fnOf Tryz.prog 200) (.int .i64) (keepS 38 [1,3,4]) (loopOf Tryz.prog 200 0) cp1_p (slotsS 38 [(1,.ptr 0 0),(3,.row 1),(4,I64 i)]) [some (.cells f.cells),some (.rows (.int .i64) s)] =cp1_t f s i:=by kernel_rfl
def addPre(f:Fw)(c:V4)(len:Int):Bool:=okL f.ma c&& (ok63 len&& (ok63 f.feed&& (f.queue.all soundB&& (lensB f&& (decide (f.queue.length≤1000)&&inR (entryV f) 0 1099511627776)))))
theorem addPre_iff{f:Fw}{c:V4}{len:Int}:addPre f c len=true↔okL f.ma c=true∧ok63 len=true∧ok63 f.feed=true∧(∀b∈f.queue,soundB b=true)∧f.lines.length=f.queue.length∧f.queue.length≤1000∧0≤entryV f∧entryV f≤1099511627776:=by
 simp only[addPre,Bool.and_eq_true,List.all_eq_true,lensB_iff,decide_eq_true_eq,inR_iff]
theorem ok63_iff{x:Int}:ok63 x=true↔-9223372036854775808≤x∧x≤9223372036854775807:=inR_iff
theorem capJ_rng(m:Ma)(q:List Bk)(i:Nat):0≤capJ m q i∧capJ m q i≤1099511627776:=by
 unfold capJ
 split
 ·omega
 ·have:=sq_rng (junV_rng m (q.getD (i-1) dBk).1 (q.getD i dBk).1);omega
theorem capsV_len(m:Ma)(q:List Bk):(capsV m q).length=q.length:=by simp[capsV]
theorem addQ_len(f:Fw)(c:V4)(len:Int):(addQ f c len).length=f.queue.length+1:=by simp[addQ]
theorem newB_sound{f:Fw}{c:V4}{len:Int}(h:addPre f c len=true):soundB (newB f.ma c len f.feed)=true:=by
 obtain⟨h1,h2,h3,_⟩:=addPre_iff.1 h
 have a:=accV_rng h1
 have s:=spdV_rng h1 (l:=len) (f:=f.feed) (ok63_iff.1 h2).2 (ok63_iff.1 h3).2
 have q:=sq_pos (v:=spdV f.ma c len f.feed) (M:=1048576) (by omega)
 exact soundB_iff.2 ⟨(okL_iff.1 h1).2,a,by show 1≤spdV f.ma c len f.feed*spdV f.ma c len f.feed;omega,by show spdV f.ma c len f.feed*spdV f.ma c len f.feed≤1099511627776;omega⟩
theorem add_plOk{f:Fw}{c:V4}{len:Int}(h:addPre f c len=true):PlOk (addQ f c len) (capsV f.ma (addQ f c len)) (entryV f):=by
 have p:=addPre_iff.1 h
 refine⟨by rw[addQ_len];omega,fun b hb=>?_,capsV_len _ _,fun x hx=>?_,p.2.2.2.2.2.2⟩
 ·unfold addQ at hb
  rcases List.mem_append.1 hb with hb|hb
  ·exact p.2.2.2.1 b hb
  ·rw[List.mem_singleton.1 hb];exact newB_sound h
 ·unfold capsV at hx
  obtain⟨i,_,rfl⟩:=List.mem_map.1 hx
  exact capJ_rng _ _ _
theorem add_okPl{f:Fw}{c:V4}{len:Int}(h:addPre f c len=true):okPl (addQ f c len) (capsV f.ma (addQ f c len)) (entryV f)=true:=
 okPl_iff.2 ⟨by have:=(addPre_iff.1 h).2.2.2.2.2.1;rw[addQ_len];omega,add_plOk h⟩
theorem caps_list{m:Ma}{q:List Bk}{s:List Int}(hs:s.length=q.length)(h:∀t,t<q.length→s.getD t 0=capJ m q t):s=capsV m q:=list_eq_map hs h
theorem wsq{v:Int}(hv:0≤v∧v≤1048576):i64.wrap (v*v)=v*v:=by
 have:=sq_rng hv
 exact w64 (by omega) (by omega)
theorem capJ_succ(m:Ma)(q:List Bk){i:Nat}(h:1≤i):capJ m q i=junV m (q.getD (i-1) dBk).1 (q.getD i dBk).1*junV m (q.getD (i-1) dBk).1 (q.getD i dBk).1:=if_neg (by omega)
theorem wrA:∀x∈[fPla.frz],x.ok Tryz.prog:=allQ.all (p:=WFact.ok Tryz.prog) (l:=[fPla.frz]) ⟨Fact.frz_ok o_pla,trivial⟩
def bAdd:BFact:=bfact 215 fun f rest=>match rest with
 |[.agg [.int .i64 a,.int .i64 b,.int .i64 c,.int .i64 d],.int .i64 len,.int .i64 line] =>some (.req (addPre f (a,b,c,d) len) (.node (addOk f (a,b,c,d) len) (.leaf (I64 0,addF f (a,b,c,d) len line)) (.leaf (I64 2,f))))
 |_=>none
section
variable {g:Fw} {line e:Int} {u:V3} {p d:V4}
end
structure VF (f:Fw):Prop where
 ma:f.ma.ok=true
 c0:f.c0.ok=true
 c1:f.c1.ok=true
 g0:f.g0.ok=true
 g1:f.g1.ok=true
 mode:1≤f.mode∧f.mode≤3
 nums:(-16777216≤f.loc.1∧f.loc.1≤16777216)∧(-16777216≤f.loc.2.1∧f.loc.2.1≤16777216)∧(-16777216≤f.loc.2.2∧f.loc.2.2≤16777216)∧(-16777216≤f.e∧f.e≤16777216)∧(0≤f.feed∧f.feed≤1048576)∧(0≤f.dwell∧f.dwell≤1048576)∧(0≤f.waits∧f.waits≤3)∧(0≤f.fan∧f.fan≤255)∧(0≤f.line∧f.line≤1099511627776)∧(0≤f.active∧f.active≤1099511627776)∧(0≤f.ticks∧f.ticks≤1099511627776)∧0≤f.cold∧f.cold≤400000
 moves:movesB f=true
 queued:queuedB f=true
 ends:(¬f.mode=3∧f.homed=true)∨(f.moving=false∧f.queue.length=0)
 len:f.queue.length≤32
 lens:f.lines.length=f.queue.length
 pos:near4 f.pos=true
 ret:near4 f.ret=true
 beg:near4 (begin4 f)=true
 q0:near4 (queue0 f)=true
 blk:∀i,i<f.queue.length→blkOK (queue0 f) f.queue f.lines i=true
theorem vf_of{f:Fw}(h:validF f=true):VF f:=by
 obtain⟨h1,h2,h3,h4,h5⟩:=validF_iff.1 h
 obtain⟨a1,a2,a3,a4,a5⟩:=partsB_iff.1 h1
 obtain⟨b1,b2⟩:=modNumB_iff.1 h2
 obtain⟨q1,q2,q3,q4,q5,q6,q7⟩:=queuedB_iff.1 h4
 exact⟨a1,a2,a3,a4,a5,b1,numsB_iff.1 b2,h3,h4,endB_iff.1 h5,q1,q2,q3,q4,q5,q6,q7⟩
theorem getD_of_mem{α:Type}{l:List α}{x d:α}(h:x∈l):∃i,i<l.length∧l.getD i d=x:=by
 obtain⟨i,hi,e⟩:=List.getElem_of_mem h
 exact⟨i,hi,by rw[List.getD_eq_getElem?_getD,List.getElem?_eq_getElem hi];exact e⟩
theorem blk_use{p:V4}{q:List Bk}{ls:List Int}{i:Nat}(h:blkOK p q ls i=true):validB (q.getD i dBk)=true∧(0≤ls.getD i 0∧ls.getD i 0≤1099511627776)∧near4 (posAt p q (i+1))=true:=by
 simp only[blkOK,Bool.and_eq_true,inR_iff]at h;exact h
theorem VF.blocks{f:Fw}(v:VF f):∀b∈f.queue,validB b=true:=fun b hb=>by
 obtain⟨i,hi,rfl⟩:=getD_of_mem (d:=dBk) hb
 exact(blk_use (v.blk i hi)).1
theorem VF.sound{f:Fw}(v:VF f):∀b∈f.queue,soundB b=true:=fun b hb=>by
 have:=v.blocks b hb
 unfold validB at this
 rw[Bool.and_eq_true]at this
 exact this.1
section
variable {f:Fw} {line:Int} {c:Gc.C}
end
def hm0_p:Plan:=.fork .all (.fork .all (.fork (.ln 5 (.fork (.fork (.lit .all) (.lit .all)) (.fork (.fork .all .all) (.fork .all .all)))) (.ln 6 (.fork (.fork .all .all) (.fork .all .all)))))
noncomputable def hm0_t(f:Fw)(line:Int)(c:Gc.C):Tree StopX:=let y1:=slotsS 148 [(0,.ptr 0 0),(115,.agg [.int .i64 0,.int .i64 0,.int .i64 f.pos.2.2.1,.int .i64 0,.int .i64 f.pos.1,.int .i64 f.pos.2.1,.int .i64 0,.int .i64 0]),(116,.int .i64 0)];let y2:=slotsS 148 [(0,.ptr 0 0),(115,.agg [.int .i64 0,.int .i64 0,.int .i64 f.ret.2.2.1,.int .i64 0,.int .i64 f.ret.1,.int .i64 f.ret.2.1,.int .i64 0,.int .i64 0]),(116,.int .i64 0)];let y3:=(0,0,0,f.pos.2.2.2);let y4:=loopOf Tryz.prog 148 0;let y5:=unitsN (axM f.ma 3) f.pos.2.2.2;let y0:Tree StopX:=.req true (.req (true) (.req true (.node (unOk f.ma f.pos.2.2.2) (.node (!f.back) (.leaf (.fin (.ret (.int .i64 0) [some (.cells (Fw.cells {f with homed:=true,pos:=y3,loc:=(0,0,0),e:=y5}))]))) (.req true (.req (true) (.req true (.leaf (.at y4 148 y2 [some (.cells (Fw.cells {f with homed:=true,pos:=y3,loc:=(0,0,0),e:=y5,back:=false}))])))))) (.node (!f.back) (.leaf (.fin (.ret (.int .i64 0) [some (.cells (Fw.cells {f with homed:=true,pos:=y3,loc:=(0,0,0),e:=0}))]))) (.req true (.req (true) (.req true (.leaf (.at y4 148 y2 [some (.cells (Fw.cells {f with homed:=true,pos:=y3,loc:=(0,0,0),e:=0,back:=false}))]))))))))); .node (!idleB f) (.leaf (.fin (.ret (.int .i64 18) [some (.cells (Fw.cells f))]))) (.node (f.mode != 1) (.leaf (.fin (.ret (.int .i64 14) [some (.cells (Fw.cells f))]))) (.node (line==0) (.node (f.homed) (.req true (.req (true) (.req true (.node (unOk f.ma f.pos.2.2.2) (.req true (.req (true) (.req true (.leaf (.at y4 148 y1 [some (.cells (Fw.cells {f with homed:=true,pos:=y3,loc:=(0,0,0),e:=y5,back:=false,ret:=f.pos}))]))))) (.req true (.req (true) (.req true (.leaf (.at y4 148 y1 [some (.cells (Fw.cells {f with homed:=true,pos:=y3,loc:=(0,0,0),e:=0,back:=false,ret:=f.pos}))]))))))))) y0) y0))
theorem hm0(f:Fw)(line:Int)(c:Gc.C):segX (Env.ofB Tryz.prog (sumOf [fIdle,fUni,fPos]) (wrOf []) (pnOf [BFact.toP bAdd]) (bxOf [bAdd]) (rdOf []) (rdOf []) (rdOf []) (rdOf [])) 1000 (fnOf Tryz.prog 148) 1 (keepS 148 [0,115,116]) (codeS Tryz.prog 148) hm0_p (startS Tryz.prog 148 [.ptr 0 0,I64 line,c.sv]) [some (.cells f.cells)] =hm0_t f line c:=by kernel_rfl
def hm1_p:Plan:=.lit (.fork (.all) (.fork (.lit (.all)) (.lit (.all))))
noncomputable def hm1_t(g:Fw)(c d:V4):Tree StopX:= .req (true) (.node (c.1==0&& (c.2.1==0&& (c.2.2.1==0&& (c.2.2.2==0&&true)))) (.leaf (.at (loopOf Tryz.prog 148 0) 148 (slotsS 148 [(0,.ptr 0 0),(115,.agg [.int .i64 c.1,.int .i64 c.2.1,.int .i64 c.2.2.1,.int .i64 c.2.2.2,.int .i64 d.1,.int .i64 d.2.1,.int .i64 d.2.2.1,.int .i64 d.2.2.2]),(116,.int .i64 1)]) [some (.cells (Fw.cells g))])) (.req (addPre g c 0) (.node (addOk g c 0) (.leaf (.at (loopOf Tryz.prog 148 0) 148 (slotsS 148 [(0,.ptr 0 0),(115,.agg [.int .i64 c.1,.int .i64 c.2.1,.int .i64 c.2.2.1,.int .i64 c.2.2.2,.int .i64 d.1,.int .i64 d.2.1,.int .i64 d.2.2.1,.int .i64 d.2.2.2]),(116,.int .i64 1)]) [some (.cells (Fw.cells (addF g c 0 0)))])) (.leaf (.fin (.ret (.int .i64 2) [some (.cells (Fw.cells g))]))))))
theorem hm1(g:Fw)(c d:V4):segX (Env.ofB Tryz.prog (sumOf [fIdle,fUni,fPos]) (wrOf []) (pnOf [BFact.toP bAdd]) (bxOf [bAdd]) (rdOf []) (rdOf []) (rdOf []) (rdOf [])) 1000 (fnOf Tryz.prog 148) 1 (keepS 148 [0,115,116]) (loopOf Tryz.prog 148 0) hm1_p (slotsS 148 [(0,.ptr 0 0),(115,.agg (V4.cells c++V4.cells d)),(116,I64 0)]) [some (.cells g.cells)] =hm1_t g c d:=by kernel_rfl
def hm2_p:Plan:=.lit (.fork (.all) (.fork (.lit (.all)) (.lit (.all))))
noncomputable def hm2_t(g:Fw)(c d:V4):Tree StopX:= .req (true) (.node (d.1==0&& (d.2.1==0&& (d.2.2.1==0&& (d.2.2.2==0&&true)))) (.leaf (.at (loopOf Tryz.prog 148 0) 148 (slotsS 148 [(0,.ptr 0 0),(115,.agg [.int .i64 c.1,.int .i64 c.2.1,.int .i64 c.2.2.1,.int .i64 c.2.2.2,.int .i64 d.1,.int .i64 d.2.1,.int .i64 d.2.2.1,.int .i64 d.2.2.2]),(116,.int .i64 2)]) [some (.cells (Fw.cells g))])) (.req (addPre g d 0) (.node (addOk g d 0) (.leaf (.at (loopOf Tryz.prog 148 0) 148 (slotsS 148 [(0,.ptr 0 0),(115,.agg [.int .i64 c.1,.int .i64 c.2.1,.int .i64 c.2.2.1,.int .i64 c.2.2.2,.int .i64 d.1,.int .i64 d.2.1,.int .i64 d.2.2.1,.int .i64 d.2.2.2]),(116,.int .i64 2)]) [some (.cells (Fw.cells (addF g d 0 0)))])) (.leaf (.fin (.ret (.int .i64 2) [some (.cells (Fw.cells g))]))))))
theorem hm2(g:Fw)(c d:V4):segX (Env.ofB Tryz.prog (sumOf [fIdle,fUni,fPos]) (wrOf []) (pnOf [BFact.toP bAdd]) (bxOf [bAdd]) (rdOf []) (rdOf []) (rdOf []) (rdOf [])) 1000 (fnOf Tryz.prog 148) 1 (keepS 148 [0,115,116]) (loopOf Tryz.prog 148 0) hm2_p (slotsS 148 [(0,.ptr 0 0),(115,.agg (V4.cells c++V4.cells d)),(116,I64 1)]) [some (.cells g.cells)] =hm2_t g c d:=by kernel_rfl
theorem plB_len(l:List Bk)(g:Nat→Int):(plB l g).length=l.length:=by simp[plB]
theorem plB_get{l:List Bk}{g:Nat→Int}{i:Nat}(h:i<l.length):(plB l g).getD i dBk=setEE (l.getD i dBk) (g i) (g (i+1)):=by
 unfold plB
 rw[List.getD_eq_getElem?_getD,List.getElem?_map,List.getElem?_range h];rfl
theorem soundB_setEE(b:Bk)(x y:Int):soundB (setEE b x y)=soundB b:=rfl
section
variable {g:Fw} {c:V4} {len line:Int}
theorem addF_len:(addF g c len line).queue.length=g.queue.length+1:=by
 show(plB _ _).length=_
 rw[plB_len,addQ_len]
theorem addF_lens(h:g.lines.length=g.queue.length):(addF g c len line).lines.length=(addF g c len line).queue.length:=by
 rw[addF_len];show(g.lines++[line]).length=_;simp[h]
theorem addF_sound(h:addPre g c len=true):∀b∈(addF g c len line).queue,soundB b=true:=fun b hb=>by
 obtain⟨i,hi,e⟩:=getD_of_mem (d:=dBk) hb
 have hi2:i< (addQ g c len).length:=by rw[addF_len]at hi;rw[addQ_len];exact hi
 have e2:=plB_get (g:=gL (addQ g c len) (capsV g.ma (addQ g c len)) (entryV g)) hi2
 rw[←e]
 show soundB ((plB _ _).getD i dBk)=true
 rw[e2,soundB_setEE]
 exact getD_in (p:=fun b=>soundB b=true) (add_plOk h).snd hi2
theorem addF_entry(o:addOk g c len=true):entryV (addF g c len line)=entryV g:=by
 have k:=(addOk_iff.1 o).2
 have hl:(addF g c len line).queue.length=g.queue.length+1:=addF_len
 by_cases hm:g.moving=true
 ·unfold entryV
  rw[show(addF g c len line).moving=g.moving from rfl,if_pos hm,if_pos hm];rfl
 ·have e1:entryV (addF g c len line)=((addF g c len line).queue.getD 0 dBk).2.2.1:=by
   unfold entryV
   rw[show(addF g c len line).moving=g.moving from rfl,if_neg hm,if_neg (by omega)]
  rw[e1]
  show((plB _ _).getD 0 dBk).2.2.1=_
  rw[plB_get (by rw[addQ_len];omega)]
  exact k
theorem addF_pre{d:V4}{len2:Int}(h:addPre g c len=true)(o:addOk g c len=true)(hd:okL g.ma d=true)(hl:ok63 len2=true)(hq:g.queue.length≤900):addPre (addF g c len line) d len2=true:=by
 have p:=addPre_iff.1 h
 exact addPre_iff.2 ⟨hd,hl,p.2.2.1,addF_sound h,addF_lens p.2.2.2.2.1,by rw[addF_len];omega,by rw[addF_entry o];exact p.2.2.2.2.2.2⟩
end
def hE2(g:Fw)(d:V4):Int:=if backOk g d=true then 0 else 2
def hE1(g:Fw)(c d:V4):Int:=if backOk g c=true then hE2 (backF g c) d else 2
section
variable {g:Fw} {c d:V4}
theorem backF_yes(h:nz4 c=true):backF g c=addF g c 0 0:=if_pos h
theorem backF_no(h:nz4 c=false):backF g c=g:=if_neg (by rw[h];exact Bool.false_ne_true)
theorem backOk_no(h:nz4 c=false):backOk g c=true:=by unfold backOk;rw[h];rfl
theorem backOk_yes(h:nz4 c=true):backOk g c=addOk g c 0:=by unfold backOk;rw[h];rfl
end
theorem okL_of{m:Ma}{c:V4}(hm:m.ok=true)(hn:near4 c=true)(hz:nz4 c=true):okL m c=true:=okL_iff.2 ⟨hm,by unfold okC;rw[hn,hz];rfl⟩
section
variable {f:Fw} {line:Int}
end
section
variable {m:Mo} {t:Int}
end
section
variable {f:Fw} {line:Int} {c:Gc.C}
end
section
variable {f:Fw} {c:Gc.C}
end
section
variable {f:Fw} {line:Int} {c:Gc.C}
end
theorem n_eq{α:Type}{L:α→Prop}{a k:Int}{T F:Tree α}(h:a=k→T.holds L)(h':¬a=k→F.holds L):(Tree.node (a==k) T F).holds L:=⟨fun e=>h (beq_iff_eq.1 e),fun e=>h' (beq_eq_false_iff_ne.1 e)⟩
theorem n_ne{α:Type}{L:α→Prop}{a k:Int}{T F:Tree α}(h:¬a=k→T.holds L)(h':a=k→F.holds L):(Tree.node (a != k) T F).holds L:=⟨fun e=>h (bne_iff_ne.1 e),fun e=>h' (bne_eq_false_iff_eq.1 e)⟩
theorem n_bool{α:Type}{L:α→Prop}{b:Bool}{T F:Tree α}(h:b=true→T.holds L)(h':b=false→F.holds L):(Tree.node b T F).holds L:=⟨h,h'⟩
theorem n_not{α:Type}{L:α→Prop}{b:Bool}{T F:Tree α}(h:b=false→T.holds L)(h':b=true→F.holds L):(Tree.node (!b) T F).holds L:=⟨fun e=>h (by simpa using e),fun e=>h' (by simpa using e)⟩
theorem n_dec{α:Type}{L:α→Prop}{p:Prop}[Decidable p]{T F:Tree α}(h:p→T.holds L)(h':¬p→F.holds L):(Tree.node (decide p) T F).holds L:=⟨fun e=>h (of_decide_eq_true e),fun e=>h' (of_decide_eq_false e)⟩
theorem n_req{α:Type}{L:α→Prop}{b:Bool}{T:Tree α}(h:b=true)(h':T.holds L):(Tree.req b T).holds L:=⟨h,h'⟩
section
variable {f:Fw} {line:Int} {c:Gc.C}
end
abbrev CmdT:=Int×Int×Int×Int×Int×Int×Int×Int
abbrev OpT:=Int×Bool×CmdT×Int×Int×Int
abbrev tyOp:Ty:=.pair (.int .i64) (.pair .bool (.pair (.pair (.int .i64) (.pair (.int .i64) (.pair (.int .i64) (.pair (.int .i64) (.pair (.int .i64) (.pair (.int .i64) (.pair (.int .i64) (.int .i64)))))))) (.pair (.int .i64) (.pair (.int .i64) (.int .i64)))))
abbrev LO(l:List OpT):SV:=.list tyOp l
def opN(x:OpT):Int:=x.2.2.2.1
theorem k00:Known Tryz.prog (Env.of Tryz.prog (sumOf [])):=kW trivial
section
variable {l:List Bk} {caps:List Int} {e:Int}
end
section
variable {g:Fw} {d:V4} {len line:Int}
end
section
variable {f:Fw} {line:Int} {c:Gc.C}
theorem backF_len{g:Fw}{d:V4}:(backF g d).queue.length≤g.queue.length+1:=by
 cases z:nz4 d with
 |false=>rw[backF_no z];omega
 |true=>rw[backF_yes z,addF_len];omega
end
section
variable {f:Fw} {r s:Int}
end
section
variable {f:Fw} {line:Int} {c:Gc.C}
end
def asMa:List SV→Option Ma
 |[.int .i64 a0,.int .i64 a1,.int .i64 a2,.int .i64 a3,.int .i64 a4,.int .i64 a5,.int .i64 a6,.int .i64 a7,.int .i64 a8,.int .i64 a9,.int .i64 a10,.int .i64 a11,.int .i64 a12,.int .i64 a13,.int .i64 a14,.int .i64 a15,.int .i64 a16,.int .i64 a17,.int .i64 a18,.int .i64 a19,.int .i64 a20,.int .i64 a21,.int .i64 a22,.int .i64 a23,.int .i64 a24,.int .i64 a25,.int .i64 a26,.int .i64 a27,.bool xy,.int .i64 t] =>some ⟨⟨a0,a1,a2,a3,a4,a5,a6⟩,⟨a7,a8,a9,a10,a11,a12,a13⟩,⟨a14,a15,a16,a17,a18,a19,a20⟩,⟨a21,a22,a23,a24,a25,a26,a27⟩,xy,t⟩
 |_=>none
theorem asMa_eq{l:List SV}{m:Ma}(h:asMa l=some m):l=m.cells:=by
 unfold asMa at h
 split at h
 ·injection h with h;subst h;rfl
 ·cases h
def asCo2:List SV→Option (Co×Co)
 |[.int .i64 c0,.int .i64 c1,.int .i64 c2,.int .i64 c3,.int .i64 c4,.int .i64 c5,.int .i64 c6,.int .i64 c7,.int .i64 c8,.int .i64 c9,.int .i64 c10,.int .i64 c11] =>some (⟨c0,c1,c2,c3,c4,c5⟩,⟨c6,c7,c8,c9,c10,c11⟩)
 |_=>none
theorem asCo2_eq{l:List SV}{m:(Co×Co)}(h:asCo2 l=some m):l=m.1.cells++m.2.cells:=by
 unfold asCo2 at h
 split at h
 ·injection h with h;subst h;rfl
 ·cases h
def asGu2:List SV→Option (Gu×Gu)
 |[.int .i64 g0,.int .i64 g1,.int .i64 g2,.int .i64 g3,.int .i64 g4,.int .i64 g5,.int .i64 g6,.int .i64 g7,.int .i64 g8,.int .i64 g9,.bool u,.int .i64 h0,.int .i64 h1,.int .i64 h2,.int .i64 h3,.int .i64 h4,.int .i64 h5,.int .i64 h6,.int .i64 h7,.int .i64 h8,.int .i64 h9,.bool v] =>some (⟨g0,g1,g2,g3,g4,g5,g6,g7,g8,g9,u⟩,⟨h0,h1,h2,h3,h4,h5,h6,h7,h8,h9,v⟩)
 |_=>none
theorem asGu2_eq{l:List SV}{m:(Gu×Gu)}(h:asGu2 l=some m):l=m.1.cells++m.2.cells:=by
 unfold asGu2 at h
 split at h
 ·injection h with h;subst h;rfl
 ·cases h
def factNew(f:FuncId):Fact:=⟨f,fun args=>match args with
 |[.agg lm,.agg lc,.agg lg,.int .i64 cold] =>match asMa lm with
  |some m=>match asCo2 lc with
   |some c=>match asGu2 lg with
    |some g=>some (.node (newOk m c.1 c.2 g.1 g.2 cold) (.leaf (.tuple [(newF m c.1 c.2 g.1 g.2 cold).sv,I64 0])) (.leaf (.tuple [fw0.sv,I64 1])))
    |none=>none
   |none=>none
  |none=>none
 |_=>none⟩
def fNew:Fact:=factNew 61
theorem factNew_ok{f:FuncId}(k:∀m c d g h cold,SCall Tryz.prog f [Ma.sv m,.agg (Co.cells c++Co.cells d),.agg (Gu.cells g++Gu.cells h),I64 cold] (newS m c d g h cold)):(factNew f).ok Tryz.prog:=fun args t ht=>by
 simp only[factNew]at ht
 split at ht
 ·split at ht
  ·rename_i hm
   split at ht
   ·rename_i hc
    split at ht
    ·rename_i hg
     injection ht with ht;subst ht
     rw[asMa_eq hm,asCo2_eq hc,asGu2_eq hg]
     refine⟨fun h1=>?_,fun h1=>?_⟩
     ·refine scall_val (v:=newS _ _ _ _ _ _) (k _ _ _ _ _ _) ?_
      rw[newS_yes h1];exact nil_tuple (nilC_ok _ rfl rfl)
     ·refine scall_val (v:=newS _ _ _ _ _ _) (k _ _ _ _ _ _) ?_
      rw[newS_no h1];exact nil_tuple (nilC_ok _ rfl rfl)
    ·cases ht
   ·cases ht
  ·cases ht
 ·cases ht
theorem o_new:fNew.ok Tryz.prog:=factNew_ok s_new
section
variable {f:Fw} {ex:Int} {cn:V4}
end
section
variable {f:Fw} {line:Int} {c:Gc.C} {ex:Int} {cn:V4}
end
section
variable {f:Fw} {r s ex:Int} {cn:V4}
end
section
variable {f:Fw} {line:Int} {c:Gc.C} {a b:Int×Int}
end
section
variable {f:Fw} {r s:Int} {a b:Int×Int}
end
def eqLI(a b:List Int):Bool:=decide (a=b)
def eqLB(a b:List Bk):Bool:=decide (a=b)
theorem eqLI_eq{a b:List Int}(h:eqLI a b=true):a=b:=of_decide_eq_true h
theorem eqLB_eq{a b:List Bk}(h:eqLB a b=true):a=b:=of_decide_eq_true h
def shI(a:List Int):Bool:=decide (a.length≤1000)
def shB(a:List Bk):Bool:=decide (a.length≤1000)
def fSaI:Fact:=⟨70,fun args=>match args with
 |[.list (.int .i64) a,.list (.int .i64) b] =>some (.req (eqLI a b) (.req (shI a) (.leaf (.bool true))))
 |_=>none⟩
def fSaB:Fact:=⟨69,fun args=>match args with
 |[.list (.pair (.pair (.int .i64) (.pair (.int .i64) (.pair (.int .i64) (.int .i64)))) (.pair (.int .i64) (.pair (.int .i64) (.pair (.int .i64) (.int .i64))))) a,.list (.pair (.pair (.int .i64) (.pair (.int .i64) (.pair (.int .i64) (.int .i64)))) (.pair (.int .i64) (.pair (.int .i64) (.pair (.int .i64) (.int .i64))))) b] =>some (.req (eqLB a b) (.req (shB a) (.leaf (.bool true))))
 |_=>none⟩
def sai0_p:Plan:=.fork (.all) (.all)
noncomputable def sai0_t(l:List Int):Tree Stop:= .node ((↑l.length:Int) !=(↑l.length:Int)) (.leaf (.done (.bool false))) (.leaf (.at (loopOf Tryz.prog 70 0) 26 (slotsS 26 [(0,.list (Ty.int IntKind.i64) l),(1,.list (Ty.int IntKind.i64) l),(5,.int .i64 0)]) []))
theorem sai0(l:List Int):segR (Env.of Tryz.prog (sumOf [])) 1000 (fnOf Tryz.prog 70) .unit (keepS 26 [0,1,5]) (codeS Tryz.prog 70) sai0_p (startS Tryz.prog 70 [LI l,LI l]) [] =sai0_t l:=by kernel_rfl
def sai1_p:Plan:=.fork (.fork (.all) (.all)) (.all)
noncomputable def sai1_t(l:List Int)(i:Int):Tree Stop:= .node (decide (i< (↑l.length:Int))) (.req (decide (0≤i)&&decide (i< (↑l.length:Int))) (.req (decide (0≤i)&&decide (i< (↑l.length:Int))) (.node (l.getD i.toNat 0 != l.getD i.toNat 0) (.leaf (.done (.bool false))) (.leaf (.at (loopOf Tryz.prog 70 0) 26 (slotsS 26 [(0,.list (Ty.int IntKind.i64) l),(1,.list (Ty.int IntKind.i64) l),(5,.int .i64 (i64.wrap (i+1)))]) []))))) (.leaf (.done (.bool true)))
theorem sai1(l:List Int)(i:Int):segR (Env.of Tryz.prog (sumOf [])) 1000 (fnOf Tryz.prog 70) .unit (keepS 26 [0,1,5]) (loopOf Tryz.prog 70 0) sai1_p (slotsS 26 [(0,LI l),(1,LI l),(5,I64 i)]) [] =sai1_t l i:=by kernel_rfl
def sab0_p:Plan:=.fork (.all) (.all)
noncomputable def sab0_t(l:List Bk):Tree Stop:= .node ((↑l.length:Int) !=(↑l.length:Int)) (.leaf (.done (.bool false))) (.leaf (.at (loopOf Tryz.prog 69 0) 26 (slotsS 26 [(0,.list tyBk l),(1,.list tyBk l),(5,.int .i64 0)]) []))
theorem sab0(l:List Bk):segR (Env.of Tryz.prog (sumOf [])) 1000 (fnOf Tryz.prog 69) .unit (keepS 26 [0,1,5]) (codeS Tryz.prog 69) sab0_p (startS Tryz.prog 69 [LB l,LB l]) [] =sab0_t l:=by kernel_rfl
def sab1_p:Plan:=.fork (.fork (.all) (.all)) (.all)
noncomputable def sab1_t(l:List Bk)(i:Int):Tree Stop:= .node (decide (i< (↑l.length:Int))) (.req (decide (0≤i)&&decide (i< (↑l.length:Int))) (.req (decide (0≤i)&&decide (i< (↑l.length:Int))) (.node (!((l.getD i.toNat dBk).1.1==(l.getD i.toNat dBk).1.1&& ((l.getD i.toNat dBk).1.2.1==(l.getD i.toNat dBk).1.2.1&& ((l.getD i.toNat dBk).1.2.2.1==(l.getD i.toNat dBk).1.2.2.1&& ((l.getD i.toNat dBk).1.2.2.2==(l.getD i.toNat dBk).1.2.2.2&&true)))&& ((l.getD i.toNat dBk).2.1==(l.getD i.toNat dBk).2.1&& ((l.getD i.toNat dBk).2.2.1==(l.getD i.toNat dBk).2.2.1&& ((l.getD i.toNat dBk).2.2.2.1==(l.getD i.toNat dBk).2.2.2.1&& ((l.getD i.toNat dBk).2.2.2.2==(l.getD i.toNat dBk).2.2.2.2&&true)))))) (.leaf (.done (.bool false))) (.leaf (.at (loopOf Tryz.prog 69 0) 26 (slotsS 26 [(0,.list tyBk l),(1,.list tyBk l),(5,.int .i64 (i64.wrap (i+1)))]) []))))) (.leaf (.done (.bool true)))
theorem sab1(l:List Bk)(i:Int):segR (Env.of Tryz.prog (sumOf [])) 1000 (fnOf Tryz.prog 69) .unit (keepS 26 [0,1,5]) (loopOf Tryz.prog 69 0) sab1_p (slotsS 26 [(0,LB l),(1,LB l),(5,I64 i)]) [] =sab1_t l i:=by kernel_rfl
structure Fl where
 pages:List (List UInt8)
 fuse:Int
 dead:Bool
 keep:Int
def Fl.cells(f:Fl):List SV:=[.list .str f.pages,I64 f.fuse,.bool f.dead,I64 f.keep]
def Fl.sv(f:Fl):SV:=.agg f.cells
def factFl(f:FuncId)(h:Fl→Tree SV):Fact:=⟨f,fun args=>match args with
 |[.agg [.list .str p,.int .i64 a,.bool d,.int .i64 k]] =>some (h ⟨p,a,d,k⟩)
 |_=>none⟩
theorem factFl_ok{P:Program}{f:FuncId}{h:Fl→Tree SV}(k:∀c,(h c).says (SCall P f [c.sv])):(factFl f h).ok P:=fun args t ht=>by
 simp only[factFl]at ht
 split at ht
 ·injection ht with ht;subst ht;exact k ⟨_,_,_,_⟩
 ·cases ht
def vap0_p:Plan:=.all
noncomputable def vap0_t(f:Fl):Tree Stop:= .leaf (.at (loopOf Tryz.prog 102 0) 46 (slotsS 46 [(1,.ptr 0 0),(6,.list Ty.str f.pages),(7,.int .i64 (↑f.pages.length:Int)),(8,.int .i64 0)]) [some (.cells [.list Ty.str f.pages,.int .i64 f.fuse,.bool f.dead,.int .i64 f.keep])])
theorem vap0(f:Fl):segR (Env.of Tryz.prog (sumOf [])) 1000 (fnOf Tryz.prog 102) .unit (keepS 46 [1,6,7,8]) (codeS Tryz.prog 102) vap0_p (startS Tryz.prog 102 [f.sv]) [] =vap0_t f:=by kernel_rfl
def vap1_p:Plan:=.fork (.fork .all .all) (.fork (.ln 4 (.fork (.ln 3 (.fork (.ln 3 (.fork (.ln 3 (.fork (.lit (.lit (.lit .all))) (.lit (.lit (.lit .all))))) (.ln 6 (.lit .all)))) (.ln 10 (.lit .all)))) (.ln 14 (.lit .all)))) (.ln 19 (.lit .all)))
noncomputable def vap1_t(f:Fl)(i:Int):Tree Stop:= .node (decide (i< (↑f.pages.length:Int))) (.req (decide (0≤i)&&decide (i< (↑f.pages.length:Int))) (.node (((List.length (f.pages.getD i.toNat ([] :List UInt8)):Nat):Int) != 64) (.leaf (.done (.bool false))) (.leaf (.at (loopOf Tryz.prog 102 0) 46 (slotsS 46 [(1,.ptr 0 0),(6,.list Ty.str f.pages),(7,.int .i64 (↑f.pages.length:Int)),(8,.int .i64 (i64.wrap (i+1)))]) [some (.cells [.list Ty.str f.pages,.int .i64 f.fuse,.bool f.dead,.int .i64 f.keep])])))) (.node (decide ((↑f.pages.length:Int)≥2)) (.node (decide ((↑f.pages.length:Int)≤256)) (.node (decide (f.fuse≥0)) (.node (decide (f.fuse≤1048576)) (.node (decide (f.keep≥0)) (.leaf (.done (.bool (decide (f.keep≤64))))) (.leaf (.done (.bool false)))) (.leaf (.done (.bool false)))) (.leaf (.done (.bool false)))) (.leaf (.done (.bool false)))) (.leaf (.done (.bool false))))
theorem vap1(f:Fl)(i:Int):segR (Env.of Tryz.prog (sumOf [])) 1000 (fnOf Tryz.prog 102) .unit (keepS 46 [1,6,7,8]) (loopOf Tryz.prog 102 0) vap1_p (slotsS 46 [(1,.ptr 0 0),(6,.list .str f.pages),(7,I64 f.pages.length),(8,I64 i)]) [some (.cells f.cells)] =vap1_t f i:=by kernel_rfl
def var0_p:Plan:=.all
noncomputable def var0_t(f:Fl):Tree Stop:= .leaf (.at (loopOf Tryz.prog 109 0) 46 (slotsS 46 [(1,.ptr 0 0),(6,.list Ty.str f.pages),(7,.int .i64 (↑f.pages.length:Int)),(8,.int .i64 0)]) [some (.cells [.list Ty.str f.pages,.int .i64 f.fuse,.bool f.dead,.int .i64 f.keep])])
theorem var0(f:Fl):segR (Env.of Tryz.prog (sumOf [])) 1000 (fnOf Tryz.prog 109) .unit (keepS 46 [1,6,7,8]) (codeS Tryz.prog 109) var0_p (startS Tryz.prog 109 [f.sv]) [] =var0_t f:=by kernel_rfl
def var1_p:Plan:=.fork (.fork .all .all) (.fork (.ln 4 (.fork (.ln 3 (.fork (.ln 3 (.fork (.ln 3 (.fork (.lit (.lit (.lit .all))) (.lit (.lit (.lit .all))))) (.ln 6 (.lit .all)))) (.ln 10 (.lit .all)))) (.ln 14 (.lit .all)))) (.ln 19 (.lit .all)))
noncomputable def var1_t(f:Fl)(i:Int):Tree Stop:= .node (decide (i< (↑f.pages.length:Int))) (.req (decide (0≤i)&&decide (i< (↑f.pages.length:Int))) (.node (((List.length (f.pages.getD i.toNat ([] :List UInt8)):Nat):Int) != 64) (.leaf (.done (.bool false))) (.leaf (.at (loopOf Tryz.prog 109 0) 46 (slotsS 46 [(1,.ptr 0 0),(6,.list Ty.str f.pages),(7,.int .i64 (↑f.pages.length:Int)),(8,.int .i64 (i64.wrap (i+1)))]) [some (.cells [.list Ty.str f.pages,.int .i64 f.fuse,.bool f.dead,.int .i64 f.keep])])))) (.node (decide ((↑f.pages.length:Int)≥2)) (.node (decide ((↑f.pages.length:Int)≤256)) (.node (decide (f.fuse≥0)) (.node (decide (f.fuse≤1048576)) (.node (decide (f.keep≥0)) (.leaf (.done (.bool (decide (f.keep≤64))))) (.leaf (.done (.bool false)))) (.leaf (.done (.bool false)))) (.leaf (.done (.bool false)))) (.leaf (.done (.bool false)))) (.leaf (.done (.bool false))))
theorem var1(f:Fl)(i:Int):segR (Env.of Tryz.prog (sumOf [])) 1000 (fnOf Tryz.prog 109) .unit (keepS 46 [1,6,7,8]) (loopOf Tryz.prog 109 0) var1_p (slotsS 46 [(1,.ptr 0 0),(6,.list .str f.pages),(7,I64 f.pages.length),(8,I64 i)]) [some (.cells f.cells)] =var1_t f i:=by kernel_rfl
def fcp_p:Plan:=.fork (.all) (.all)
noncomputable def fcp_t(f:Fl):Tree Stop:= .node (f.pages.isEmpty) (.leaf (.done (.agg [.list Ty.str [],.int .i64 f.fuse,.bool f.dead,.int .i64 f.keep]))) (.req (decide ((0+f.pages.length)*16≤140737488355328)) (.leaf (.done (.agg [.list Ty.str f.pages,.int .i64 f.fuse,.bool f.dead,.int .i64 f.keep]))))
theorem fcp(f:Fl):segR (Env.of Tryz.prog (sumOf [])) 1000 (fnOf Tryz.prog 130) .str (keepS 9 []) (codeS Tryz.prog 130) fcp_p (startS Tryz.prog 130 [f.sv]) [] =fcp_t f:=by kernel_rfl
theorem n_true{α:Type}{L:α→Prop}{b:Bool}{T F:Tree α}(hb:b=true)(h:T.holds L):(Tree.node b T F).holds L:=⟨fun _=>h,fun k=>by rw[hb]at k;cases k⟩
theorem k000:Known Tryz.prog (Env.of Tryz.prog (sumOf [])):=kW trivial
theorem sai_loop(l:List Int)(hl:l.length≤4611686018427387904):∀ (k i:Nat),i+k=l.length→
  RunsR Tryz.prog (fnOf Tryz.prog 70) (.bool true) (loopOf Tryz.prog 70 0) (slotsS 26 [(0,LI l),(1,LI l),(5,I64 i)]) []
 |k,i,hi=>by
  refine runsR_seg k000 (n:=1000) (hint:=.unit) (keep:=keepS 26 [0,1,5]) (p:=sai1_p) rfl ?_
  erw [sai1 l i]
  unfold sai1_t
  have t0:(i:Int).toNat=i:=by omega
  have w1:i64.wrap ((i:Int)+1)=((i+1:Nat):Int):=by rw[w64 (by omega) (by omega)];omega
  rw[t0,w1]
  refine n_dec (fun a=>?_) fun a=>rfl
  match k,hi with
  |0,hi=>omega
  |k+1,hi=>
   exact n_req (by simp;omega) (n_req (by simp;omega) (n_ne (fun c=>absurd rfl c) fun _=>⟨slotsS_len _ _,sai_loop l hl k (i+1) (by omega)⟩))
theorem sab_loop(l:List Bk)(hl:l.length≤4611686018427387904):∀ (k i:Nat),i+k=l.length→
  RunsR Tryz.prog (fnOf Tryz.prog 69) (.bool true) (loopOf Tryz.prog 69 0) (slotsS 26 [(0,LB l),(1,LB l),(5,I64 i)]) []
 |k,i,hi=>by
  refine runsR_seg k000 (n:=1000) (hint:=.unit) (keep:=keepS 26 [0,1,5]) (p:=sab1_p) rfl ?_
  erw [sab1 l i]
  unfold sab1_t
  have t0:(i:Int).toNat=i:=by omega
  have w1:i64.wrap ((i:Int)+1)=((i+1:Nat):Int):=by rw[w64 (by omega) (by omega)];omega
  rw[t0,w1]
  refine n_dec (fun a=>?_) fun a=>rfl
  match k,hi with
  |0,hi=>omega
  |k+1,hi=>
   exact n_req (by simp;omega) (n_req (by simp;omega) ⟨fun c=>(by simp at c),fun _=>⟨slotsS_len _ _,sab_loop l hl k (i+1) (by omega)⟩⟩)
theorem s_saI(l:List Int)(hl:l.length≤4611686018427387904):SCall Tryz.prog 70 [LI l,LI l] (.bool true):=by
 refine scallR_loops rfl rfl (by kernel_rfl) (runsR_seg k000 (n:=1000) (hint:=.unit) (keep:=keepS 26 [0,1,5]) (p:=sai0_p) (boxes:=[]) rfl ?_)
 have q:=sai0 l
 unfold startS codeS at q
 erw [q]
 unfold sai0_t
 exact n_ne (fun c=>absurd rfl c) fun _=>⟨slotsS_len _ _,sai_loop l hl l.length 0 (by omega)⟩
theorem s_saB(l:List Bk)(hl:l.length≤4611686018427387904):SCall Tryz.prog 69 [LB l,LB l] (.bool true):=by
 refine scallR_loops rfl rfl (by kernel_rfl) (runsR_seg k000 (n:=1000) (hint:=.unit) (keep:=keepS 26 [0,1,5]) (p:=sab0_p) (boxes:=[]) rfl ?_)
 have q:=sab0 l
 unfold startS codeS at q
 erw [q]
 unfold sab0_t
 exact n_ne (fun c=>absurd rfl c) fun _=>⟨slotsS_len _ _,sab_loop l hl l.length 0 (by omega)⟩
def fewP(f:Fl):Bool:=decide (f.pages.length≤1000)
def pagesB(l:List (List UInt8)):Bool:=l.all fun p=>decide (p.length=64)
def flB(f:Fl):Bool:=pagesB f.pages&& (decide (2≤f.pages.length)&&decide (f.pages.length≤256)&&inR f.fuse 0 1048576&&inR f.keep 0 64)
def flRest(f:Fl):Bool:=decide (2≤f.pages.length)&&decide (f.pages.length≤256)&&inR f.fuse 0 1048576&&inR f.keep 0 64
theorem flB_iff{f:Fl}:flB f=true↔(∀p∈f.pages,p.length=64)∧2≤f.pages.length∧f.pages.length≤256∧(0≤f.fuse∧f.fuse≤1048576)∧0≤f.keep∧f.keep≤64:=by
 simp[flB,pagesB,inR_iff,and_assoc]
theorem drop_getD{α:Type}{l:List α}{d:α}{i:Nat}(h:i<l.length):l.drop i=l.getD i d::l.drop (i+1):=by
 rw[List.drop_eq_getElem_cons h,List.getD_eq_getElem?_getD,List.getElem?_eq_getElem h];rfl
theorem vap_loop(f:Fl)(hl:f.pages.length≤1000):∀ (k i:Nat) (v:Bool),i+k=f.pages.length→v=((f.pages.drop i).all (fun p=>decide (p.length=64))&&flRest f)→
  RunsR Tryz.prog (fnOf Tryz.prog 102) (.bool v) (loopOf Tryz.prog 102 0) (slotsS 46 [(1,.ptr 0 0),(6,.list .str f.pages),(7,I64 f.pages.length),(8,I64 i)]) [some (.cells f.cells)]
 |k,i,v,hi,hv=>by
  refine runsR_seg k000 (n:=1000) (hint:=.unit) (keep:=keepS 46 [1,6,7,8]) (p:=vap1_p) rfl ?_
  erw [vap1 f i]
  unfold vap1_t
  have t0:(i:Int).toNat=i:=by omega
  have w1:i64.wrap ((i:Int)+1)=((i+1:Nat):Int):=by rw[w64 (by omega) (by omega)];omega
  rw[t0,w1]
  refine n_dec (fun a=>?_) fun a=>?_
  ·match k,hi with
   |0,hi=>omega
   |k+1,hi=>
    rw[drop_getD (d:=([] :List UInt8)) (by omega:i<f.pages.length),List.all_cons]at hv
    refine n_req (by simp;omega) (n_ne (fun c=>?_) fun c=>?_)
    ·have:¬(f.pages.getD i []).length=64:=fun k=>c (by rw[k];rfl)
     rw[decide_eq_false this]at hv
     subst hv;rfl
    ·have:(f.pages.getD i []).length=64:=by have:=c;omega
     rw[decide_eq_true this,Bool.true_and]at hv
     exact⟨slotsS_len _ _,vap_loop f hl k (i+1) v (by omega) hv⟩
  ·have z:f.pages.drop i=[] :=List.drop_eq_nil_of_le (by omega)
   rw[z]at hv
   have hv:v=flRest f:=hv
   have q:∀b:Bool,b=flRest f→SV.bool b=SV.bool v:=fun b e=>by rw[hv,e]
   refine n_dec (fun b1=>n_dec (fun b2=>n_dec (fun b3=>n_dec (fun b4=>n_dec (fun b5=>q _ ?_) fun b5=>q _ ?_) fun b4=>q _ ?_) fun b3=>q _ ?_) fun b2=>q _ ?_) fun b1=>q _ ?_
   all_goals
    rw[Bool.eq_iff_iff]
    simp only[flRest,Bool.and_eq_true,inR_iff,decide_eq_true_eq,Bool.false_eq_true,false_iff]
    omega
theorem var_loop(f:Fl)(hl:f.pages.length≤1000):∀ (k i:Nat) (v:Bool),i+k=f.pages.length→v=((f.pages.drop i).all (fun p=>decide (p.length=64))&&flRest f)→
  RunsR Tryz.prog (fnOf Tryz.prog 109) (.bool v) (loopOf Tryz.prog 109 0) (slotsS 46 [(1,.ptr 0 0),(6,.list .str f.pages),(7,I64 f.pages.length),(8,I64 i)]) [some (.cells f.cells)]
 |k,i,v,hi,hv=>by
  refine runsR_seg k000 (n:=1000) (hint:=.unit) (keep:=keepS 46 [1,6,7,8]) (p:=var1_p) rfl ?_
  erw [var1 f i]
  unfold var1_t
  have t0:(i:Int).toNat=i:=by omega
  have w1:i64.wrap ((i:Int)+1)=((i+1:Nat):Int):=by rw[w64 (by omega) (by omega)];omega
  rw[t0,w1]
  refine n_dec (fun a=>?_) fun a=>?_
  ·match k,hi with
   |0,hi=>omega
   |k+1,hi=>
    rw[drop_getD (d:=([] :List UInt8)) (by omega:i<f.pages.length),List.all_cons]at hv
    refine n_req (by simp;omega) (n_ne (fun c=>?_) fun c=>?_)
    ·have:¬(f.pages.getD i []).length=64:=fun k=>c (by rw[k];rfl)
     rw[decide_eq_false this]at hv
     subst hv;rfl
    ·have:(f.pages.getD i []).length=64:=by have:=c;omega
     rw[decide_eq_true this,Bool.true_and]at hv
     exact⟨slotsS_len _ _,var_loop f hl k (i+1) v (by omega) hv⟩
  ·have z:f.pages.drop i=[] :=List.drop_eq_nil_of_le (by omega)
   rw[z]at hv
   have hv:v=flRest f:=hv
   have q:∀b:Bool,b=flRest f→SV.bool b=SV.bool v:=fun b e=>by rw[hv,e]
   refine n_dec (fun b1=>n_dec (fun b2=>n_dec (fun b3=>n_dec (fun b4=>n_dec (fun b5=>q _ ?_) fun b5=>q _ ?_) fun b4=>q _ ?_) fun b3=>q _ ?_) fun b2=>q _ ?_) fun b1=>q _ ?_
   all_goals
    rw[Bool.eq_iff_iff]
    simp only[flRest,Bool.and_eq_true,inR_iff,decide_eq_true_eq,Bool.false_eq_true,false_iff]
    omega
theorem s_flB(f:Fl)(h:fewP f=true):SCall Tryz.prog 102 [f.sv] (.bool (flB f)):=by
 have hl:f.pages.length≤1000:=of_decide_eq_true h
 refine scallR_loops rfl rfl (by kernel_rfl) (runsR_seg k000 (n:=1000) (hint:=.unit) (keep:=keepS 46 [1,6,7,8]) (p:=vap0_p) (boxes:=[]) rfl ?_)
 have q:=vap0 f
 unfold startS codeS at q
 erw [q]
 unfold vap0_t
 exact⟨slotsS_len _ _,vap_loop f hl f.pages.length 0 _ (by omega) (by rw[List.drop_zero];simp only[flB,pagesB,flRest])⟩
theorem s_flBR(f:Fl)(h:fewP f=true):SCall Tryz.prog 109 [f.sv] (.bool (flB f)):=by
 have hl:f.pages.length≤1000:=of_decide_eq_true h
 refine scallR_loops rfl rfl (by kernel_rfl) (runsR_seg k000 (n:=1000) (hint:=.unit) (keep:=keepS 46 [1,6,7,8]) (p:=var0_p) (boxes:=[]) rfl ?_)
 have q:=var0 f
 unfold startS codeS at q
 erw [q]
 unfold var0_t
 exact⟨slotsS_len _ _,var_loop f hl f.pages.length 0 _ (by omega) (by rw[List.drop_zero];simp only[flB,pagesB,flRest])⟩
theorem s_flCopy(f:Fl)(h:fewP f=true):SCall Tryz.prog 130 [f.sv] f.sv:=by
 have hl:f.pages.length≤1000:=of_decide_eq_true h
 refine scallR_loops rfl rfl (by kernel_rfl) (runsR_seg k000 (n:=1000) (hint:=.str) (keep:=keepS 9 []) (p:=fcp_p) (boxes:=[]) rfl ?_)
 have q:=fcp f
 unfold startS codeS at q
 erw [q]
 unfold fcp_t
 refine⟨fun e=>?_,fun e=>n_req (decide_eq_true (by omega)) rfl⟩
 have e:f.pages=[] :=List.isEmpty_iff.1 e
 show SV.agg _=SV.agg f.cells
 unfold Fl.cells;rw[e];rfl
def fFlB:Fact:=factFl 102 fun f=>.req (fewP f) (.leaf (.bool (flB f)))
theorem o_flB:fFlB.ok Tryz.prog:=factFl_ok fun f h=>s_flB f h
def fFlBR:Fact:=factFl 109 fun f=>.req (fewP f) (.leaf (.bool (flB f)))
theorem o_flBR:fFlBR.ok Tryz.prog:=factFl_ok fun f h=>s_flBR f h
def fFlC:Fact:=factFl 130 fun f=>.req (fewP f) (.leaf f.sv)
theorem o_flC:fFlC.ok Tryz.prog:=factFl_ok fun f h=>s_flCopy f h
def hasB(f:Fl)(i:Int):Bool:=flB f&&inR i 0 (f.pages.length-1)
def factFlI(f:FuncId)(h:Fl→Int→Tree SV):Fact:=⟨f,fun args=>match args with
 |[.agg [.list .str p,.int .i64 a,.bool d,.int .i64 k],.int .i64 i] =>some (h ⟨p,a,d,k⟩ i)
 |_=>none⟩
theorem factFlI_ok{P:Program}{f:FuncId}{h:Fl→Int→Tree SV}(k:∀c i,(h c i).says (SCall P f [c.sv,I64 i])):(factFlI f h).ok P:=fun args t ht=>by
 simp only[factFlI]at ht
 split at ht
 ·injection ht with ht;subst ht;exact k ⟨_,_,_,_⟩ _
 ·cases ht
theorem s_has(f:Fl)(i:Int)(h:fewP f=true):SCall Tryz.prog 302 [f.sv,I64 i] (.bool (hasB f i)):=
 scall_v mix [fFlB,fFlC] ⟨o_flB,o_flC,trivial⟩ 1000 (.fork (.lit (.lit (.fork (.ln 4 (.lit .all)) (.ln 4 (.lit .all))))) (.ln 7 (.lit .all)))
  (t:=.req (fewP f) (.node (flB f)
 (.node (decide (i≥0))
  (.leaf (SV.bool (decide (i< (↑f.pages.length:Int)))))
  (.leaf (SV.bool false)))
 (.leaf (SV.bool false))))
  (by kernel_rfl) (by
   refine n_req h ?_
   unfold hasB
   refine n_bool (fun v=>?_) (fun v=>?_)<;>rw[v]
   ·refine n_dec (fun a=>?_) fun a=>?_
    ·show SV.bool _=SV.bool _
     congr 1
     rw[Bool.eq_iff_iff]
     simp only[Bool.true_and,inR_iff,decide_eq_true_eq];omega
    ·show SV.bool _=SV.bool _
     congr 1
     symm
     rw[Bool.true_and,Bool.eq_false_iff]
     intro k
     rw[inR_iff]at k;omega
   ·rfl) (by kernel_rfl) (by kernel_rfl)
def fHas:Fact:=factFlI 302 fun f i=>.req (fewP f) (.leaf (.bool (hasB f i)))
theorem o_has:fHas.ok Tryz.prog:=factFlI_ok fun f i h=>s_has f i h
def U16(n:Int):SV:=.int .u16 n
def ca0_p:Plan:=.all
noncomputable def ca0_t(s:List UInt8):Tree Stop:= .leaf (.at (loopOf Tryz.prog 300 0) 32 (slotsS 32 [(0,SV.str s),(3,SV.int IntKind.u16 65535),(7,.int .i64 (↑s.length:Int)),(8,.int .i64 0)]) [])
theorem ca0(s:List UInt8):segR (Env.of Tryz.prog (sumOf [])) 1000 (fnOf Tryz.prog 300) .unit (keepS 32 [0,3,7,8]) (codeS Tryz.prog 300) ca0_p (startS Tryz.prog 300 [.str s]) [] =ca0_t s:=by kernel_rfl
def ca1_p:Plan:=.fork (.all) (.all)
noncomputable def ca1_t(s:List UInt8)(r i:Int):Tree Stop:= .node (decide (i< (↑s.length:Int))) (.req (decide (0≤i)&&decide (i< (↑s.length:Int))) (.req true (.leaf (.at (loopOf Tryz.prog 300 1) 32 (slotsS 32 [(0,SV.str s),(3,SV.int IntKind.u16 (IntKind.u16.wrap (↑(BitVec.ofInt 16 r ^^^ BitVec.ofInt 16 (IntKind.u16.wrap (IntKind.u16.wrap (↑(s.getD i.toNat 0).toNat:Int)*256))).toNat:Int))),(7,.int .i64 (↑s.length:Int)),(8,.int .i64 i),(18,.int .i64 0)]) [])))) (.leaf (.done (.int .i64 (i64.wrap r))))
theorem ca1(s:List UInt8)(r i:Int):segR (Env.of Tryz.prog (sumOf [])) 1000 (fnOf Tryz.prog 300) .unit (keepS 32 [0,3,7,8,18]) (loopOf Tryz.prog 300 0) ca1_p (slotsS 32 [(0,.str s),(3,U16 r),(7,I64 s.length),(8,I64 i)]) [] =ca1_t s r i:=by kernel_rfl
def ca2_p:Plan:=.fork (.fork (.all) (.all)) (.all)
noncomputable def ca2_t(s:List UInt8)(r i k:Int):Tree Stop:= .node (decide (k<8)) (.req true (.node (IntKind.u16.wrap (↑(BitVec.ofInt 16 r &&&BitVec.ofInt 16 32768).toNat:Int) != 0) (.leaf (.at (loopOf Tryz.prog 300 1) 32 (slotsS 32 [(0,SV.str s),(3,SV.int IntKind.u16 (IntKind.u16.wrap (↑(BitVec.ofInt 16 (IntKind.u16.wrap (r*2)) ^^^ BitVec.ofInt 16 4129).toNat:Int))),(7,.int .i64 (↑s.length:Int)),(8,.int .i64 i),(18,.int .i64 (i64.wrap (k+1)))]) [])) (.leaf (.at (loopOf Tryz.prog 300 1) 32 (slotsS 32 [(0,SV.str s),(3,SV.int IntKind.u16 (IntKind.u16.wrap (r*2))),(7,.int .i64 (↑s.length:Int)),(8,.int .i64 i),(18,.int .i64 (i64.wrap (k+1)))]) [])))) (.leaf (.at (loopOf Tryz.prog 300 0) 32 (slotsS 32 [(0,SV.str s),(3,SV.int IntKind.u16 r),(7,.int .i64 (↑s.length:Int)),(8,.int .i64 (i64.wrap (i+1))),(18,.int .i64 k)]) []))
theorem ca2(s:List UInt8)(r i k:Int):segR (Env.of Tryz.prog (sumOf [])) 1000 (fnOf Tryz.prog 300) .unit (keepS 32 [0,3,7,8,18]) (loopOf Tryz.prog 300 1) ca2_p (slotsS 32 [(0,.str s),(3,U16 r),(7,I64 s.length),(8,I64 i),(18,I64 k)]) [] =ca2_t s r i k:=by kernel_rfl
def cb0_p:Plan:=.all
noncomputable def cb0_t(s:List UInt8):Tree Stop:= .leaf (.at (loopOf Tryz.prog 254 0) 26 (slotsS 26 [(0,SV.str s),(3,.int .i64 65535),(4,.int .i64 0)]) [])
theorem cb0(s:List UInt8):segR (Env.of Tryz.prog (sumOf [])) 1000 (fnOf Tryz.prog 254) .unit (keepS 26 [0,3,4]) (codeS Tryz.prog 254) cb0_p (startS Tryz.prog 254 [.str s]) [] =cb0_t s:=by kernel_rfl
def cb1_p:Plan:=.fork (.all) (.all)
noncomputable def cb1_t(s:List UInt8)(r i:Int):Tree Stop:= .node (decide (i< (↑s.length:Int))) (.req (decide (0≤i)&&decide (i< (↑s.length:Int))) (.leaf (.at (loopOf Tryz.prog 254 1) 26 (slotsS 26 [(0,SV.str s),(3,.int .i64 (i64.wrap (↑(BitVec.ofInt 64 r ^^^ BitVec.ofInt 64 (i64.wrap (i64.wrap (↑(s.getD i.toNat 0).toNat:Int)*256))).toNat:Int))),(4,.int .i64 i),(5,.int .i64 0)]) []))) (.leaf (.done (.int .i64 r)))
theorem cb1(s:List UInt8)(r i:Int):segR (Env.of Tryz.prog (sumOf [])) 1000 (fnOf Tryz.prog 254) .unit (keepS 26 [0,3,4,5]) (loopOf Tryz.prog 254 0) cb1_p (slotsS 26 [(0,.str s),(3,I64 r),(4,I64 i)]) [] =cb1_t s r i:=by kernel_rfl
def cb2_p:Plan:=.fork (.fork (.all) (.all)) (.all)
noncomputable def cb2_t(s:List UInt8)(r i k:Int):Tree Stop:= .node (decide (k<8)) (.node (decide (r≥32768)) (.leaf (.at (loopOf Tryz.prog 254 1) 26 (slotsS 26 [(0,SV.str s),(3,.int .i64 (i64.wrap (↑(BitVec.ofInt 64 (i64.wrap (i64.wrap (r-32768)*2)) ^^^ BitVec.ofInt 64 4129).toNat:Int))),(4,.int .i64 i),(5,.int .i64 (i64.wrap (k+1)))]) [])) (.leaf (.at (loopOf Tryz.prog 254 1) 26 (slotsS 26 [(0,SV.str s),(3,.int .i64 (i64.wrap (r*2))),(4,.int .i64 i),(5,.int .i64 (i64.wrap (k+1)))]) []))) (.leaf (.at (loopOf Tryz.prog 254 0) 26 (slotsS 26 [(0,SV.str s),(3,.int .i64 r),(4,.int .i64 (i64.wrap (i+1))),(5,.int .i64 k)]) []))
theorem cb2(s:List UInt8)(r i k:Int):segR (Env.of Tryz.prog (sumOf [])) 1000 (fnOf Tryz.prog 254) .unit (keepS 26 [0,3,4,5]) (loopOf Tryz.prog 254 1) cb2_p (slotsS 26 [(0,.str s),(3,I64 r),(4,I64 i),(5,I64 k)]) [] =cb2_t s r i k:=by kernel_rfl
def ca3_p:Plan:=.fork (.all) (.all)
noncomputable def ca3_t(s:List UInt8)(r i k:Int):Tree Stop:= .node (decide (i< (↑s.length:Int))) (.req (decide (0≤i)&&decide (i< (↑s.length:Int))) (.req true (.leaf (.at (loopOf Tryz.prog 300 1) 32 (slotsS 32 [(0,SV.str s),(3,SV.int IntKind.u16 (IntKind.u16.wrap (↑(BitVec.ofInt 16 r ^^^ BitVec.ofInt 16 (IntKind.u16.wrap (IntKind.u16.wrap (↑(s.getD i.toNat 0).toNat:Int)*256))).toNat:Int))),(7,.int .i64 (↑s.length:Int)),(8,.int .i64 i),(18,.int .i64 0)]) [])))) (.leaf (.done (.int .i64 (i64.wrap r))))
theorem ca3(s:List UInt8)(r i k:Int):segR (Env.of Tryz.prog (sumOf [])) 1000 (fnOf Tryz.prog 300) .unit (keepS 32 [0,3,7,8,18]) (loopOf Tryz.prog 300 0) ca3_p (slotsS 32 [(0,.str s),(3,U16 r),(7,I64 s.length),(8,I64 i),(18,I64 k)]) [] =ca3_t s r i k:=by kernel_rfl
def cb3_p:Plan:=.fork (.all) (.all)
noncomputable def cb3_t(s:List UInt8)(r i k:Int):Tree Stop:= .node (decide (i< (↑s.length:Int))) (.req (decide (0≤i)&&decide (i< (↑s.length:Int))) (.leaf (.at (loopOf Tryz.prog 254 1) 26 (slotsS 26 [(0,SV.str s),(3,.int .i64 (i64.wrap (↑(BitVec.ofInt 64 r ^^^ BitVec.ofInt 64 (i64.wrap (i64.wrap (↑(s.getD i.toNat 0).toNat:Int)*256))).toNat:Int))),(4,.int .i64 i),(5,.int .i64 0)]) []))) (.leaf (.done (.int .i64 r)))
theorem cb3(s:List UInt8)(r i k:Int):segR (Env.of Tryz.prog (sumOf [])) 1000 (fnOf Tryz.prog 254) .unit (keepS 26 [0,3,4,5]) (loopOf Tryz.prog 254 0) cb3_p (slotsS 26 [(0,.str s),(3,I64 r),(4,I64 i),(5,I64 k)]) [] =cb3_t s r i k:=by kernel_rfl
def crcBit(r:Nat):Nat:=if 32768≤r then((r-32768)*2) ^^^ 4129 else r*2
def crcBits:Nat→Nat→Nat
 |0,r=>r
 |k+1,r=>crcBits k (crcBit r)
def crcFrom:List UInt8→Nat→Nat
 |[],r=>r
 |b::l,r=>crcFrom l (crcBits 8 (r ^^^ b.toNat*256))
def crc(s:List UInt8):Nat:=crcFrom s 65535
theorem crcBit_lt{r:Nat}(h:r<65536):crcBit r<65536:=by
 unfold crcBit
 split
 ·exact Nat.xor_lt_two_pow (n:=16) (by omega) (by decide)
 ·omega
theorem crcBits_lt:∀ (k:Nat) {r:Nat},r<65536→crcBits k r<65536
 |0,_,h=>h
 |k+1,_,h=>crcBits_lt k (crcBit_lt h)
theorem crcIn_lt{r:Nat}(b:UInt8)(h:r<65536):r ^^^ b.toNat*256<65536:=
 Nat.xor_lt_two_pow (n:=16) h (by have:=b.toNat_lt;omega)
theorem crcFrom_lt:∀ (s:List UInt8) {r:Nat},r<65536→crcFrom s r<65536
 |[],_,h=>h
 |b::s,_,h=>crcFrom_lt s (crcBits_lt 8 (crcIn_lt b h))
theorem crc_lt(s:List UInt8):crc s<65536:=crcFrom_lt s (by decide)
theorem wu16{n:Int}(h:0≤n)(h':n<65536):IntKind.u16.wrap n=n:=by
 unfold IntKind.wrap
 have e:n % (2 ^ IntKind.u16.bits:Int)=n:=Int.emod_eq_of_lt h h'
 simp only[e]
 rw[if_neg (by simp[IntKind.signed])]
theorem xor16{a b:Nat}(ha:a<65536)(hb:b<65536):IntKind.u16.wrap (((BitVec.ofInt 16 (a:Int) ^^^ BitVec.ofInt 16 (b:Int)).toNat:Nat):Int)=((a ^^^ b:Nat):Int):=by
 have e:(BitVec.ofInt 16 (a:Int) ^^^ BitVec.ofInt 16 (b:Int)).toNat=a ^^^ b:=by
  rw[BitVec.ofInt_natCast,BitVec.ofInt_natCast,BitVec.toNat_xor,BitVec.toNat_ofNat,BitVec.toNat_ofNat,Nat.mod_eq_of_lt (by omega),Nat.mod_eq_of_lt (by omega)]
 rw[e]
 have:=Nat.xor_lt_two_pow (n:=16) ha hb
 exact wu16 (by omega) (by omega)
theorem xor64{a b:Nat}(ha:a<65536)(hb:b<65536):i64.wrap (((BitVec.ofInt 64 (a:Int) ^^^ BitVec.ofInt 64 (b:Int)).toNat:Nat):Int)=((a ^^^ b:Nat):Int):=by
 have e:(BitVec.ofInt 64 (a:Int) ^^^ BitVec.ofInt 64 (b:Int)).toNat=a ^^^ b:=by
  rw[BitVec.ofInt_natCast,BitVec.ofInt_natCast,BitVec.toNat_xor,BitVec.toNat_ofNat,BitVec.toNat_ofNat,Nat.mod_eq_of_lt (by omega),Nat.mod_eq_of_lt (by omega)]
 rw[e]
 have:=Nat.xor_lt_two_pow (n:=16) ha hb
 exact w64 (by omega) (by omega)
theorem high16:∀{a:Nat},a<65536→((IntKind.u16.wrap (((BitVec.ofInt 16 (a:Int) &&&BitVec.ofInt 16 32768).toNat:Nat):Int) != 0)=decide (32768≤a)):=by
 intro a ha
 have e:(BitVec.ofInt 16 (a:Int) &&&BitVec.ofInt 16 32768).toNat=a &&&32768:=by
  rw[BitVec.ofInt_natCast,show BitVec.ofInt 16 32768=BitVec.ofNat 16 32768 from rfl,BitVec.toNat_and,BitVec.toNat_ofNat,BitVec.toNat_ofNat,Nat.mod_eq_of_lt (by omega),Nat.mod_eq_of_lt (by omega)]
 rw[e]
 have e2:a &&&32768=if 32768≤a then 32768 else 0:=by
  apply Nat.eq_of_testBit_eq
  intro j
  rw[Nat.testBit_and,show(32768:Nat)=2 ^ 15 from rfl,Nat.testBit_two_pow]
  by_cases hj:15=j
  ·subst hj
   rw[Nat.testBit_eq_decide_div_mod_eq]
   split
   ·rename_i h
    rw[Nat.testBit_two_pow,decide_eq_true (show a / 2 ^ 15 % 2=1 by omega)];rfl
   ·rename_i h
    rw[decide_eq_false (show ¬a / 2 ^ 15 % 2=1 by omega),Nat.zero_testBit];rfl
  ·rw[decide_eq_false hj,Bool.and_false]
   split
   ·rw[Nat.testBit_two_pow,decide_eq_false hj]
   ·rw[Nat.zero_testBit]
 rw[e2]
 by_cases h:32768≤a
 ·rw[if_pos h,decide_eq_true h];decide
 ·rw[if_neg h,decide_eq_false h];decide
theorem ca_inner(s:List UInt8)(i:Nat)(hi:i<s.length)(hl:s.length≤1099511627776)(v:Int):∀ (j k r:Nat),k+j=8→r<65536→
  RunsR Tryz.prog (fnOf Tryz.prog 300) (I64 v) (loopOf Tryz.prog 300 0) (slotsS 32 [(0,.str s),(3,U16 (crcBits j r:Nat)),(7,I64 s.length),(8,I64 (i+1:Nat)),(18,I64 8)]) [] →
  RunsR Tryz.prog (fnOf Tryz.prog 300) (I64 v) (loopOf Tryz.prog 300 1) (slotsS 32 [(0,.str s),(3,U16 r),(7,I64 s.length),(8,I64 i),(18,I64 k)]) []
 |j,k,r,hk,hr,H=>by
  refine runsR_seg k000 (n:=1000) (hint:=.unit) (keep:=keepS 32 [0,3,7,8,18]) (p:=ca2_p) rfl ?_
  erw [ca2 s r i k]
  unfold ca2_t
  have wi:i64.wrap ((i:Int)+1)=((i+1:Nat):Int):=by rw[w64 (by omega) (by omega)];omega
  have wk:i64.wrap ((k:Int)+1)=((k+1:Nat):Int):=by rw[w64 (by omega) (by omega)];omega
  rw[wi,wk]
  match j,hk,H with
  |0,hk,H=>
   have e8:k=8:=by omega
   subst e8
   exact⟨fun a=>absurd (of_decide_eq_true a) (by decide),fun _=>⟨slotsS_len _ _,H⟩⟩
  |j+1,hk,H=>
   refine n_dec (fun a=>?_) fun a=>absurd (show((k:Nat):Int)<8 by omega) a
   have H':RunsR Tryz.prog (fnOf Tryz.prog 300) (I64 v) (loopOf Tryz.prog 300 0) (slotsS 32 [(0,.str s),(3,U16 (crcBits j (crcBit r):Nat)),(7,I64 s.length),(8,I64 (i+1:Nat)),(18,I64 8)]) [] :=H
   refine n_req rfl ?_
   rw[high16 hr]
   refine n_dec (fun b=>?_) fun b=>?_
   ·have e:crcBit r=((r-32768)*2) ^^^ 4129:=if_pos b
    have w:IntKind.u16.wrap ((r:Int)*2)=(((r-32768)*2:Nat):Int):=by
     unfold IntKind.wrap
     have e:((r:Int)*2) % (2 ^ IntKind.u16.bits:Int)=(((r-32768)*2:Nat):Int):=by
      show((r:Int)*2) % 65536=_
      omega
     simp only[e]
     rw[if_neg (by simp[IntKind.signed])]
    rw[w]
    refine⟨slotsS_len _ _,?_⟩
    have x:=xor16 (a:=(r-32768)*2) (b:=4129) (by omega) (by decide)
    have x:IntKind.u16.wrap (((BitVec.ofInt 16 (((r-32768)*2:Nat):Int) ^^^ BitVec.ofInt 16 4129).toNat:Nat):Int)=_:=x
    rw[x,←e]
    exact ca_inner s i hi hl v j (k+1) (crcBit r) (by omega) (crcBit_lt hr) H'
   ·have e:crcBit r=r*2:=if_neg b
    rw[wu16 (by omega) (by omega),show(r:Int)*2=((crcBit r:Nat):Int) by rw[e];omega]
    exact⟨slotsS_len _ _,ca_inner s i hi hl v j (k+1) (crcBit r) (by omega) (crcBit_lt hr) H'⟩
theorem ca_outer(s:List UInt8)(hl:s.length≤1099511627776):∀ (m i r:Nat) (v:Nat),i+m=s.length→r<65536→v=crcFrom (s.drop i) r→
  RunsR Tryz.prog (fnOf Tryz.prog 300) (I64 v) (loopOf Tryz.prog 300 0) (slotsS 32 [(0,.str s),(3,U16 r),(7,I64 s.length),(8,I64 i),(18,I64 8)]) []
 |m,i,r,v,hi,hr,hv=>by
  refine runsR_seg k000 (n:=1000) (hint:=.unit) (keep:=keepS 32 [0,3,7,8,18]) (p:=ca3_p) rfl ?_
  erw [ca3 s r i 8]
  unfold ca3_t
  have t0:(i:Int).toNat=i:=by omega
  rw[t0]
  refine n_dec (fun a=>?_) fun a=>?_
  ·match m,hi with
   |0,hi=>omega
   |m+1,hi=>
    have hb:=(s.getD i 0).toNat_lt
    rw[drop_getD (d:=(0:UInt8)) (by omega:i<s.length)]at hv
    have hv:v=crcFrom (s.drop (i+1)) (crcBits 8 (r ^^^ (s.getD i 0).toNat*256)):=hv
    have hx:=crcIn_lt (s.getD i 0) hr
    refine n_req (by simp;omega) (n_req rfl ?_)
    rw[wu16 (n:=((s.getD i 0).toNat:Int)) (by omega) (by omega),wu16 (n:=((s.getD i 0).toNat:Int)*256) (by omega) (by omega),show(((s.getD i 0).toNat:Nat):Int)*256=(((s.getD i 0).toNat*256:Nat):Int) by omega,xor16 hr (by omega)]
    exact⟨slotsS_len _ _,ca_inner s i (by omega) hl _ 8 0 _ rfl hx (ca_outer s hl m (i+1) _ v (by omega) (crcBits_lt 8 hx) hv)⟩
  ·have z:s.drop i=[] :=List.drop_eq_nil_of_le (by omega)
   rw[z]at hv
   have hv:v=r:=hv
   subst hv
   rw[w64 (by omega) (by omega)]
   exact rfl
theorem s_crc(s:List UInt8)(hl:s.length≤1099511627776):SCall Tryz.prog 300 [.str s] (I64 (crc s)):=by
 refine scallR_loops rfl rfl (by kernel_rfl) (runsR_seg k000 (n:=1000) (hint:=.unit) (keep:=keepS 32 [0,3,7,8]) (p:=ca0_p) (boxes:=[]) rfl ?_)
 have q:=ca0 s
 unfold startS codeS at q
 erw [q]
 unfold ca0_t
 refine⟨slotsS_len _ _,?_⟩
 refine runsR_seg k000 (n:=1000) (hint:=.unit) (keep:=keepS 32 [0,3,7,8,18]) (p:=ca1_p) rfl ?_
 erw [ca1 s 65535 0]
 unfold ca1_t
 refine n_dec (fun a=>?_) fun a=>?_
 ·have hb:=(s.getD 0 0).toNat_lt
  have hx:=crcIn_lt (s.getD 0 0) (show 65535<65536 by decide)
  refine n_req (by simp;omega) (n_req rfl ?_)
  rw[show(0:Int).toNat=0 from rfl,wu16 (n:=((s.getD 0 0).toNat:Int)) (by omega) (by omega),wu16 (n:=((s.getD 0 0).toNat:Int)*256) (by omega) (by omega),show(((s.getD 0 0).toNat:Nat):Int)*256=(((s.getD 0 0).toNat*256:Nat):Int) by omega]
  have x:=xor16 (a:=65535) (b:=(s.getD 0 0).toNat*256) (by decide) (by omega)
  have x:IntKind.u16.wrap (((BitVec.ofInt 16 65535 ^^^ BitVec.ofInt 16 (((s.getD 0 0).toNat*256:Nat):Int)).toNat:Nat):Int)=_:=x
  rw[x]
  refine⟨slotsS_len _ _,ca_inner s 0 (by omega) hl _ 8 0 _ rfl hx (ca_outer s hl (s.length-1) 1 _ _ (by omega) (crcBits_lt 8 hx) ?_)⟩
  have e:=drop_getD (d:=(0:UInt8)) (show 0<s.length by omega)
  rw[List.drop_zero]at e
  unfold crc
  conv=>lhs;rw[e]
  rfl
 ·have z:s=[] :=List.length_eq_zero_iff.1 (by omega)
  subst z;rfl
theorem cb_inner(s:List UInt8)(i:Nat)(hi:i<s.length)(hl:s.length≤1099511627776)(v:Int):∀ (j k r:Nat),k+j=8→r<65536→
  RunsR Tryz.prog (fnOf Tryz.prog 254) (I64 v) (loopOf Tryz.prog 254 0) (slotsS 26 [(0,.str s),(3,I64 (crcBits j r:Nat)),(4,I64 (i+1:Nat)),(5,I64 8)]) [] →
  RunsR Tryz.prog (fnOf Tryz.prog 254) (I64 v) (loopOf Tryz.prog 254 1) (slotsS 26 [(0,.str s),(3,I64 r),(4,I64 i),(5,I64 k)]) []
 |j,k,r,hk,hr,H=>by
  refine runsR_seg k000 (n:=1000) (hint:=.unit) (keep:=keepS 26 [0,3,4,5]) (p:=cb2_p) rfl ?_
  erw [cb2 s r i k]
  unfold cb2_t
  have wi:i64.wrap ((i:Int)+1)=((i+1:Nat):Int):=by rw[w64 (by omega) (by omega)];omega
  have wk:i64.wrap ((k:Int)+1)=((k+1:Nat):Int):=by rw[w64 (by omega) (by omega)];omega
  rw[wi,wk]
  match j,hk,H with
  |0,hk,H=>
   have e8:k=8:=by omega
   subst e8
   exact⟨fun a=>absurd (of_decide_eq_true a) (by decide),fun _=>⟨slotsS_len _ _,H⟩⟩
  |j+1,hk,H=>
   refine n_dec (fun a=>?_) fun a=>absurd (show((k:Nat):Int)<8 by omega) a
   have H':RunsR Tryz.prog (fnOf Tryz.prog 254) (I64 v) (loopOf Tryz.prog 254 0) (slotsS 26 [(0,.str s),(3,I64 (crcBits j (crcBit r):Nat)),(4,I64 (i+1:Nat)),(5,I64 8)]) [] :=H
   refine n_dec (fun b=>?_) fun b=>?_
   ·have e:crcBit r=((r-32768)*2) ^^^ 4129:=if_pos (by omega)
    rw[w64 (x:=(r:Int)-32768) (by omega) (by omega),w64 (x:=((r:Int)-32768)*2) (by omega) (by omega),show((r:Int)-32768)*2=(((r-32768)*2:Nat):Int) by omega]
    refine⟨slotsS_len _ _,?_⟩
    have x:=xor64 (a:=(r-32768)*2) (b:=4129) (by omega) (by decide)
    have x:i64.wrap (((BitVec.ofInt 64 (((r-32768)*2:Nat):Int) ^^^ BitVec.ofInt 64 4129).toNat:Nat):Int)=_:=x
    rw[x,←e]
    exact cb_inner s i hi hl v j (k+1) (crcBit r) (by omega) (crcBit_lt hr) H'
   ·have e:crcBit r=r*2:=if_neg (by omega)
    rw[w64 (by omega) (by omega),show(r:Int)*2=((crcBit r:Nat):Int) by rw[e];omega]
    exact⟨slotsS_len _ _,cb_inner s i hi hl v j (k+1) (crcBit r) (by omega) (crcBit_lt hr) H'⟩
theorem cb_outer(s:List UInt8)(hl:s.length≤1099511627776):∀ (m i r:Nat) (v:Nat),i+m=s.length→r<65536→v=crcFrom (s.drop i) r→
  RunsR Tryz.prog (fnOf Tryz.prog 254) (I64 v) (loopOf Tryz.prog 254 0) (slotsS 26 [(0,.str s),(3,I64 r),(4,I64 i),(5,I64 8)]) []
 |m,i,r,v,hi,hr,hv=>by
  refine runsR_seg k000 (n:=1000) (hint:=.unit) (keep:=keepS 26 [0,3,4,5]) (p:=cb3_p) rfl ?_
  erw [cb3 s r i 8]
  unfold cb3_t
  have t0:(i:Int).toNat=i:=by omega
  rw[t0]
  refine n_dec (fun a=>?_) fun a=>?_
  ·match m,hi with
   |0,hi=>omega
   |m+1,hi=>
    have hb:=(s.getD i 0).toNat_lt
    rw[drop_getD (d:=(0:UInt8)) (by omega:i<s.length)]at hv
    have hv:v=crcFrom (s.drop (i+1)) (crcBits 8 (r ^^^ (s.getD i 0).toNat*256)):=hv
    have hx:=crcIn_lt (s.getD i 0) hr
    refine n_req (by simp;omega) ?_
    rw[w64 (x:=((s.getD i 0).toNat:Int)) (by omega) (by omega),w64 (x:=((s.getD i 0).toNat:Int)*256) (by omega) (by omega),show(((s.getD i 0).toNat:Nat):Int)*256=(((s.getD i 0).toNat*256:Nat):Int) by omega,xor64 hr (by omega)]
    exact⟨slotsS_len _ _,cb_inner s i (by omega) hl _ 8 0 _ rfl hx (cb_outer s hl m (i+1) _ v (by omega) (crcBits_lt 8 hx) hv)⟩
  ·have z:s.drop i=[] :=List.drop_eq_nil_of_le (by omega)
   rw[z]at hv
   have hv:v=r:=hv
   subst hv
   exact rfl
theorem s_crcR(s:List UInt8)(hl:s.length≤1099511627776):SCall Tryz.prog 254 [.str s] (I64 (crc s)):=by
 refine scallR_loops rfl rfl (by kernel_rfl) (runsR_seg k000 (n:=1000) (hint:=.unit) (keep:=keepS 26 [0,3,4]) (p:=cb0_p) (boxes:=[]) rfl ?_)
 have q:=cb0 s
 unfold startS codeS at q
 erw [q]
 unfold cb0_t
 refine⟨slotsS_len _ _,?_⟩
 refine runsR_seg k000 (n:=1000) (hint:=.unit) (keep:=keepS 26 [0,3,4,5]) (p:=cb1_p) rfl ?_
 erw [cb1 s 65535 0]
 unfold cb1_t
 refine n_dec (fun a=>?_) fun a=>?_
 ·have hb:=(s.getD 0 0).toNat_lt
  have hx:=crcIn_lt (s.getD 0 0) (show 65535<65536 by decide)
  refine n_req (by simp;omega) ?_
  rw[show(0:Int).toNat=0 from rfl,w64 (x:=((s.getD 0 0).toNat:Int)) (by omega) (by omega),w64 (x:=((s.getD 0 0).toNat:Int)*256) (by omega) (by omega),show(((s.getD 0 0).toNat:Nat):Int)*256=(((s.getD 0 0).toNat*256:Nat):Int) by omega]
  have x:=xor64 (a:=65535) (b:=(s.getD 0 0).toNat*256) (by decide) (by omega)
  have x:i64.wrap (((BitVec.ofInt 64 65535 ^^^ BitVec.ofInt 64 (((s.getD 0 0).toNat*256:Nat):Int)).toNat:Nat):Int)=_:=x
  rw[x]
  refine⟨slotsS_len _ _,cb_inner s 0 (by omega) hl _ 8 0 _ rfl hx (cb_outer s hl (s.length-1) 1 _ _ (by omega) (crcBits_lt 8 hx) ?_)⟩
  have e:=drop_getD (d:=(0:UInt8)) (show 0<s.length by omega)
  rw[List.drop_zero]at e
  unfold crc
  conv=>lhs;rw[e]
  rfl
 ·have z:s=[] :=List.length_eq_zero_iff.1 (by omega)
  subst z;rfl
def nu0_p:Plan:=.all
noncomputable def nu0_t(s:List UInt8):Tree Stop:= .leaf (.at (loopOf Tryz.prog 335 0) 19 (slotsS 19 [(0,SV.str s),(3,.int .u64 0),(4,.int .i64 0)]) [])
theorem nu0(s:List UInt8):segR (Env.of Tryz.prog (sumOf [])) 1000 (fnOf Tryz.prog 335) .unit (keepS 19 [0,3,4]) (codeS Tryz.prog 335) nu0_p (startS Tryz.prog 335 [.str s]) [] =nu0_t s:=by kernel_rfl
def nu1_p:Plan:=.fork (.all) (.all)
noncomputable def nu1_t(s:List UInt8)(u i:Int):Tree Stop:= .node (decide (i< (↑s.length:Int))) (.req (decide (0≤i)&&decide (i< (↑s.length:Int))) (.leaf (.at (loopOf Tryz.prog 335 0) 19 (slotsS 19 [(0,SV.str s),(3,.int .u64 (u64.wrap (u64.wrap (u*256)+u64.wrap (↑(s.getD i.toNat 0).toNat:Int)))),(4,.int .i64 (i64.wrap (i+1)))]) []))) (.leaf (.done (.int .u64 u)))
theorem nu1(s:List UInt8)(u i:Int):segR (Env.of Tryz.prog (sumOf [])) 1000 (fnOf Tryz.prog 335) .unit (keepS 19 [0,3,4]) (loopOf Tryz.prog 335 0) nu1_p (slotsS 19 [(0,.str s),(3,.int .u64 u),(4,I64 i)]) [] =nu1_t s u i:=by kernel_rfl
def numW:Int→List UInt8→Int
 |u,[] =>u
 |u,b::l=>numW (u64.wrap (u64.wrap (u*256)+u64.wrap (b.toNat:Int))) l
def fNum:Fact:=⟨335,fun args=>match args with
 |[.str s] =>some (.req (decide ((s.length:Int)≤100000)) (.leaf (.int .u64 (numW 0 s))))
 |_=>none⟩
def wu1_p:Plan:=.ln 4 (.fork (.ln 5 (.lit .all)) (.ln 11 (.fork .all (.go (.lit (.go (.lit .all)))))))
noncomputable def wu1_t(n:Int):Tree Stop:= .node (decide (n<0)) (.leaf (.done (.tuple [SV.str [],.int .i64 3]))) (.req true (.node (!decide (u64.wrap n<256)) (.leaf (.done (.tuple [SV.str [],.int .i64 3]))) (.req true (.req (true) (.req (decide ((0+ [IntKind.u8.wrap ((u64.wrap n).fdiv 1)].length)*1≤140737488355328)) (.leaf (.done (.tuple [SV.str (List.map (fun n=>UInt8.ofNat (Int.toNat n)) [IntKind.u8.wrap ((u64.wrap n).fdiv 1)]),.int .i64 0]))))))))
theorem wu1(n:Int):segR (Env.of Tryz.prog (sumOf [])) 1000 (fnOf Tryz.prog 298) .unit (keepS 25 []) (codeS Tryz.prog 298) wu1_p (startS Tryz.prog 298 [I64 n,I64 1]) [] =wu1_t n:=by kernel_rfl
def wuR1_p:Plan:=.ln 4 (.fork (.ln 4 (.lit .all)) (.ln 11 (.fork .all (.go (.lit (.go (.lit .all)))))))
noncomputable def wuR1_t(n:Int):Tree Stop:= .node (decide (n<0)) (.leaf (.done (.tuple [SV.str [],.int .i64 3]))) (.req true (.node (decide (n≥256)) (.leaf (.done (.tuple [SV.str [],.int .i64 3]))) (.req true (.req (true) (.req true (.req (true) (.req true (.leaf (.done (.tuple [SV.str (List.map (fun n=>UInt8.ofNat (Int.toNat n)) ((List.replicate 1 0).set 0 (IntKind.u8.wrap ((u64.wrap n).tmod 256)))),.int .i64 0]))))))))))
theorem wuR1(n:Int):segR (Env.of Tryz.prog (sumOf [])) 1000 (fnOf Tryz.prog 279) .unit (keepS 27 []) (codeS Tryz.prog 279) wuR1_p (startS Tryz.prog 279 [I64 n,I64 1]) [] =wuR1_t n:=by kernel_rfl
def wu2_p:Plan:=.ln 4 (.fork (.ln 5 (.lit .all)) (.ln 11 (.fork .all (.go (.lit (.go (.lit (.go (.lit .all)))))))))
noncomputable def wu2_t(n:Int):Tree Stop:= .node (decide (n<0)) (.leaf (.done (.tuple [SV.str [],.int .i64 3]))) (.req true (.node (!decide (u64.wrap n<65536)) (.leaf (.done (.tuple [SV.str [],.int .i64 3]))) (.req true (.req (true) (.req (decide ((0+ [IntKind.u8.wrap ((u64.wrap n).fdiv 256)].length)*1≤140737488355328)) (.req true (.req (decide (([IntKind.u8.wrap ((u64.wrap n).fdiv 256)].length+ [IntKind.u8.wrap ((u64.wrap n).fdiv 1)].length)*1≤140737488355328)) (.leaf (.done (.tuple [SV.str (List.map (fun n=>UInt8.ofNat (Int.toNat n)) ([IntKind.u8.wrap ((u64.wrap n).fdiv 256)] ++[IntKind.u8.wrap ((u64.wrap n).fdiv 1)])),.int .i64 0]))))))))))
theorem wu2(n:Int):segR (Env.of Tryz.prog (sumOf [])) 1000 (fnOf Tryz.prog 298) .unit (keepS 25 []) (codeS Tryz.prog 298) wu2_p (startS Tryz.prog 298 [I64 n,I64 2]) [] =wu2_t n:=by kernel_rfl
def wuR2_p:Plan:=.ln 4 (.fork (.ln 4 (.lit .all)) (.ln 11 (.fork .all (.go (.lit (.go (.lit (.go (.lit .all)))))))))
noncomputable def wuR2_t(n:Int):Tree Stop:= .node (decide (n<0)) (.leaf (.done (.tuple [SV.str [],.int .i64 3]))) (.req true (.node (decide (n≥65536)) (.leaf (.done (.tuple [SV.str [],.int .i64 3]))) (.req true (.req (true) (.req true (.req (true) (.req true (.req (true) (.req (decide (0< (↑((List.replicate 2 0).set 1 (IntKind.u8.wrap ((u64.wrap n).tmod 256))).length:Int))) (.req (decide (0< ((List.replicate 2 0).set 1 (IntKind.u8.wrap ((u64.wrap n).tmod 256))).length)) (.req true (.leaf (.done (.tuple [SV.str (List.map (fun n=>UInt8.ofNat (Int.toNat n)) (((List.replicate 2 0).set 1 (IntKind.u8.wrap ((u64.wrap n).tmod 256))).set 0 (IntKind.u8.wrap ((u64.wrap ((u64.wrap n).tdiv 256)).tmod 256)))),.int .i64 0]))))))))))))))
theorem wuR2(n:Int):segR (Env.of Tryz.prog (sumOf [])) 1000 (fnOf Tryz.prog 279) .unit (keepS 27 []) (codeS Tryz.prog 279) wuR2_p (startS Tryz.prog 279 [I64 n,I64 2]) [] =wuR2_t n:=by kernel_rfl
def wu4_p:Plan:=.ln 4 (.fork (.ln 5 (.lit .all)) (.ln 11 (.fork .all (.go (.lit (.go (.lit (.go (.lit (.go (.lit (.go (.lit .all)))))))))))))
noncomputable def wu4_t(n:Int):Tree Stop:= .node (decide (n<0)) (.leaf (.done (.tuple [SV.str [],.int .i64 3]))) (.req true (.node (!decide (u64.wrap n<4294967296)) (.leaf (.done (.tuple [SV.str [],.int .i64 3]))) (.req true (.req (true) (.req (decide ((0+ [IntKind.u8.wrap ((u64.wrap n).fdiv 16777216)].length)*1≤140737488355328)) (.req true (.req (decide (([IntKind.u8.wrap ((u64.wrap n).fdiv 16777216)].length+ [IntKind.u8.wrap ((u64.wrap n).fdiv 65536)].length)*1≤140737488355328)) (.req true (.req (decide ((([IntKind.u8.wrap ((u64.wrap n).fdiv 16777216)] ++[IntKind.u8.wrap ((u64.wrap n).fdiv 65536)]).length+ [IntKind.u8.wrap ((u64.wrap n).fdiv 256)].length)*1≤140737488355328)) (.req true (.req (decide ((([IntKind.u8.wrap ((u64.wrap n).fdiv 16777216)] ++[IntKind.u8.wrap ((u64.wrap n).fdiv 65536)] ++[IntKind.u8.wrap ((u64.wrap n).fdiv 256)]).length+ [IntKind.u8.wrap ((u64.wrap n).fdiv 1)].length)*1≤140737488355328)) (.leaf (.done (.tuple [SV.str (List.map (fun n=>UInt8.ofNat (Int.toNat n)) ([IntKind.u8.wrap ((u64.wrap n).fdiv 16777216)] ++[IntKind.u8.wrap ((u64.wrap n).fdiv 65536)] ++[IntKind.u8.wrap ((u64.wrap n).fdiv 256)] ++[IntKind.u8.wrap ((u64.wrap n).fdiv 1)])),.int .i64 0]))))))))))))))
theorem wu4(n:Int):segR (Env.of Tryz.prog (sumOf [])) 1000 (fnOf Tryz.prog 298) .unit (keepS 25 []) (codeS Tryz.prog 298) wu4_p (startS Tryz.prog 298 [I64 n,I64 4]) [] =wu4_t n:=by kernel_rfl
def wuR4_p:Plan:=.ln 4 (.fork (.ln 4 (.lit .all)) (.ln 11 (.fork .all (.go (.lit (.go (.lit (.go (.lit (.go (.lit (.go (.lit .all)))))))))))))
noncomputable def wuR4_t(n:Int):Tree Stop:= .node (decide (n<0)) (.leaf (.done (.tuple [SV.str [],.int .i64 3]))) (.req true (.node (decide (n≥4294967296)) (.leaf (.done (.tuple [SV.str [],.int .i64 3]))) (.req true (.req (true) (.req true (.req (true) (.req true (.req (true) (.req (decide (2< (↑((List.replicate 4 0).set 3 (IntKind.u8.wrap ((u64.wrap n).tmod 256))).length:Int))) (.req (decide (2< ((List.replicate 4 0).set 3 (IntKind.u8.wrap ((u64.wrap n).tmod 256))).length)) (.req true (.req (true) (.req (decide (1< (↑(((List.replicate 4 0).set 3 (IntKind.u8.wrap ((u64.wrap n).tmod 256))).set 2 (IntKind.u8.wrap ((u64.wrap ((u64.wrap n).tdiv 256)).tmod 256))).length:Int))) (.req (decide (1< (((List.replicate 4 0).set 3 (IntKind.u8.wrap ((u64.wrap n).tmod 256))).set 2 (IntKind.u8.wrap ((u64.wrap ((u64.wrap n).tdiv 256)).tmod 256))).length)) (.req true (.req (true) (.req (decide (0< (↑((((List.replicate 4 0).set 3 (IntKind.u8.wrap ((u64.wrap n).tmod 256))).set 2 (IntKind.u8.wrap ((u64.wrap ((u64.wrap n).tdiv 256)).tmod 256))).set 1 (IntKind.u8.wrap ((u64.wrap ((u64.wrap ((u64.wrap n).tdiv 256)).tdiv 256)).tmod 256))).length:Int))) (.req (decide (0< ((((List.replicate 4 0).set 3 (IntKind.u8.wrap ((u64.wrap n).tmod 256))).set 2 (IntKind.u8.wrap ((u64.wrap ((u64.wrap n).tdiv 256)).tmod 256))).set 1 (IntKind.u8.wrap ((u64.wrap ((u64.wrap ((u64.wrap n).tdiv 256)).tdiv 256)).tmod 256))).length)) (.req true (.leaf (.done (.tuple [SV.str (List.map (fun n=>UInt8.ofNat (Int.toNat n)) (((((List.replicate 4 0).set 3 (IntKind.u8.wrap ((u64.wrap n).tmod 256))).set 2 (IntKind.u8.wrap ((u64.wrap ((u64.wrap n).tdiv 256)).tmod 256))).set 1 (IntKind.u8.wrap ((u64.wrap ((u64.wrap ((u64.wrap n).tdiv 256)).tdiv 256)).tmod 256))).set 0 (IntKind.u8.wrap ((u64.wrap ((u64.wrap ((u64.wrap ((u64.wrap n).tdiv 256)).tdiv 256)).tdiv 256)).tmod 256)))),.int .i64 0]))))))))))))))))))))))
theorem wuR4(n:Int):segR (Env.of Tryz.prog (sumOf [])) 1000 (fnOf Tryz.prog 279) .unit (keepS 27 []) (codeS Tryz.prog 279) wuR4_p (startS Tryz.prog 279 [I64 n,I64 4]) [] =wuR4_t n:=by kernel_rfl
def wu6_p:Plan:=.ln 4 (.fork (.ln 5 (.lit .all)) (.ln 11 (.fork .all (.go (.lit (.go (.lit (.go (.lit (.go (.lit (.go (.lit (.go (.lit (.go (.lit .all)))))))))))))))))
noncomputable def wu6_t(n:Int):Tree Stop:= .node (decide (n<0)) (.leaf (.done (.tuple [SV.str [],.int .i64 3]))) (.req true (.node (!decide (u64.wrap n<281474976710656)) (.leaf (.done (.tuple [SV.str [],.int .i64 3]))) (.req true (.req (true) (.req (decide ((0+ [IntKind.u8.wrap ((u64.wrap n).fdiv 1099511627776)].length)*1≤140737488355328)) (.req true (.req (decide (([IntKind.u8.wrap ((u64.wrap n).fdiv 1099511627776)].length+ [IntKind.u8.wrap ((u64.wrap n).fdiv 4294967296)].length)*1≤140737488355328)) (.req true (.req (decide ((([IntKind.u8.wrap ((u64.wrap n).fdiv 1099511627776)] ++[IntKind.u8.wrap ((u64.wrap n).fdiv 4294967296)]).length+ [IntKind.u8.wrap ((u64.wrap n).fdiv 16777216)].length)*1≤140737488355328)) (.req true (.req (decide ((([IntKind.u8.wrap ((u64.wrap n).fdiv 1099511627776)] ++[IntKind.u8.wrap ((u64.wrap n).fdiv 4294967296)] ++[IntKind.u8.wrap ((u64.wrap n).fdiv 16777216)]).length+ [IntKind.u8.wrap ((u64.wrap n).fdiv 65536)].length)*1≤140737488355328)) (.req true (.req (decide ((([IntKind.u8.wrap ((u64.wrap n).fdiv 1099511627776)] ++[IntKind.u8.wrap ((u64.wrap n).fdiv 4294967296)] ++[IntKind.u8.wrap ((u64.wrap n).fdiv 16777216)] ++[IntKind.u8.wrap ((u64.wrap n).fdiv 65536)]).length+ [IntKind.u8.wrap ((u64.wrap n).fdiv 256)].length)*1≤140737488355328)) (.req true (.req (decide ((([IntKind.u8.wrap ((u64.wrap n).fdiv 1099511627776)] ++[IntKind.u8.wrap ((u64.wrap n).fdiv 4294967296)] ++[IntKind.u8.wrap ((u64.wrap n).fdiv 16777216)] ++[IntKind.u8.wrap ((u64.wrap n).fdiv 65536)] ++[IntKind.u8.wrap ((u64.wrap n).fdiv 256)]).length+ [IntKind.u8.wrap ((u64.wrap n).fdiv 1)].length)*1≤140737488355328)) (.leaf (.done (.tuple [SV.str (List.map (fun n=>UInt8.ofNat (Int.toNat n)) ([IntKind.u8.wrap ((u64.wrap n).fdiv 1099511627776)] ++[IntKind.u8.wrap ((u64.wrap n).fdiv 4294967296)] ++[IntKind.u8.wrap ((u64.wrap n).fdiv 16777216)] ++[IntKind.u8.wrap ((u64.wrap n).fdiv 65536)] ++[IntKind.u8.wrap ((u64.wrap n).fdiv 256)] ++[IntKind.u8.wrap ((u64.wrap n).fdiv 1)])),.int .i64 0]))))))))))))))))))
theorem wu6(n:Int):segR (Env.of Tryz.prog (sumOf [])) 1000 (fnOf Tryz.prog 298) .unit (keepS 25 []) (codeS Tryz.prog 298) wu6_p (startS Tryz.prog 298 [I64 n,I64 6]) [] =wu6_t n:=by kernel_rfl
def wuR6_p:Plan:=.ln 4 (.fork (.ln 4 (.lit .all)) (.ln 11 (.fork .all (.go (.lit (.go (.lit (.go (.lit (.go (.lit (.go (.lit (.go (.lit (.go (.lit .all)))))))))))))))))
noncomputable def wuR6_t(n:Int):Tree Stop:= .node (decide (n<0)) (.leaf (.done (.tuple [SV.str [],.int .i64 3]))) (.req true (.node (decide (n≥281474976710656)) (.leaf (.done (.tuple [SV.str [],.int .i64 3]))) (.req true (.req (true) (.req true (.req (true) (.req true (.req (true) (.req (decide (4< (↑((List.replicate 6 0).set 5 (IntKind.u8.wrap ((u64.wrap n).tmod 256))).length:Int))) (.req (decide (4< ((List.replicate 6 0).set 5 (IntKind.u8.wrap ((u64.wrap n).tmod 256))).length)) (.req true (.req (true) (.req (decide (3< (↑(((List.replicate 6 0).set 5 (IntKind.u8.wrap ((u64.wrap n).tmod 256))).set 4 (IntKind.u8.wrap ((u64.wrap ((u64.wrap n).tdiv 256)).tmod 256))).length:Int))) (.req (decide (3< (((List.replicate 6 0).set 5 (IntKind.u8.wrap ((u64.wrap n).tmod 256))).set 4 (IntKind.u8.wrap ((u64.wrap ((u64.wrap n).tdiv 256)).tmod 256))).length)) (.req true (.req (true) (.req (decide (2< (↑((((List.replicate 6 0).set 5 (IntKind.u8.wrap ((u64.wrap n).tmod 256))).set 4 (IntKind.u8.wrap ((u64.wrap ((u64.wrap n).tdiv 256)).tmod 256))).set 3 (IntKind.u8.wrap ((u64.wrap ((u64.wrap ((u64.wrap n).tdiv 256)).tdiv 256)).tmod 256))).length:Int))) (.req (decide (2< ((((List.replicate 6 0).set 5 (IntKind.u8.wrap ((u64.wrap n).tmod 256))).set 4 (IntKind.u8.wrap ((u64.wrap ((u64.wrap n).tdiv 256)).tmod 256))).set 3 (IntKind.u8.wrap ((u64.wrap ((u64.wrap ((u64.wrap n).tdiv 256)).tdiv 256)).tmod 256))).length)) (.req true (.req (true) (.req (decide (1< (↑(((((List.replicate 6 0).set 5 (IntKind.u8.wrap ((u64.wrap n).tmod 256))).set 4 (IntKind.u8.wrap ((u64.wrap ((u64.wrap n).tdiv 256)).tmod 256))).set 3 (IntKind.u8.wrap ((u64.wrap ((u64.wrap ((u64.wrap n).tdiv 256)).tdiv 256)).tmod 256))).set 2 (IntKind.u8.wrap ((u64.wrap ((u64.wrap ((u64.wrap ((u64.wrap n).tdiv 256)).tdiv 256)).tdiv 256)).tmod 256))).length:Int))) (.req (decide (1< (((((List.replicate 6 0).set 5 (IntKind.u8.wrap ((u64.wrap n).tmod 256))).set 4 (IntKind.u8.wrap ((u64.wrap ((u64.wrap n).tdiv 256)).tmod 256))).set 3 (IntKind.u8.wrap ((u64.wrap ((u64.wrap ((u64.wrap n).tdiv 256)).tdiv 256)).tmod 256))).set 2 (IntKind.u8.wrap ((u64.wrap ((u64.wrap ((u64.wrap ((u64.wrap n).tdiv 256)).tdiv 256)).tdiv 256)).tmod 256))).length)) (.req true (.req (true) (.req (decide (0< (↑((((((List.replicate 6 0).set 5 (IntKind.u8.wrap ((u64.wrap n).tmod 256))).set 4 (IntKind.u8.wrap ((u64.wrap ((u64.wrap n).tdiv 256)).tmod 256))).set 3 (IntKind.u8.wrap ((u64.wrap ((u64.wrap ((u64.wrap n).tdiv 256)).tdiv 256)).tmod 256))).set 2 (IntKind.u8.wrap ((u64.wrap ((u64.wrap ((u64.wrap ((u64.wrap n).tdiv 256)).tdiv 256)).tdiv 256)).tmod 256))).set 1 (IntKind.u8.wrap ((u64.wrap ((u64.wrap ((u64.wrap ((u64.wrap ((u64.wrap n).tdiv 256)).tdiv 256)).tdiv 256)).tdiv 256)).tmod 256))).length:Int))) (.req (decide (0< ((((((List.replicate 6 0).set 5 (IntKind.u8.wrap ((u64.wrap n).tmod 256))).set 4 (IntKind.u8.wrap ((u64.wrap ((u64.wrap n).tdiv 256)).tmod 256))).set 3 (IntKind.u8.wrap ((u64.wrap ((u64.wrap ((u64.wrap n).tdiv 256)).tdiv 256)).tmod 256))).set 2 (IntKind.u8.wrap ((u64.wrap ((u64.wrap ((u64.wrap ((u64.wrap n).tdiv 256)).tdiv 256)).tdiv 256)).tmod 256))).set 1 (IntKind.u8.wrap ((u64.wrap ((u64.wrap ((u64.wrap ((u64.wrap ((u64.wrap n).tdiv 256)).tdiv 256)).tdiv 256)).tdiv 256)).tmod 256))).length)) (.req true (.leaf (.done (.tuple [SV.str (List.map (fun n=>UInt8.ofNat (Int.toNat n)) (((((((List.replicate 6 0).set 5 (IntKind.u8.wrap ((u64.wrap n).tmod 256))).set 4 (IntKind.u8.wrap ((u64.wrap ((u64.wrap n).tdiv 256)).tmod 256))).set 3 (IntKind.u8.wrap ((u64.wrap ((u64.wrap ((u64.wrap n).tdiv 256)).tdiv 256)).tmod 256))).set 2 (IntKind.u8.wrap ((u64.wrap ((u64.wrap ((u64.wrap ((u64.wrap n).tdiv 256)).tdiv 256)).tdiv 256)).tmod 256))).set 1 (IntKind.u8.wrap ((u64.wrap ((u64.wrap ((u64.wrap ((u64.wrap ((u64.wrap n).tdiv 256)).tdiv 256)).tdiv 256)).tdiv 256)).tmod 256))).set 0 (IntKind.u8.wrap ((u64.wrap ((u64.wrap ((u64.wrap ((u64.wrap ((u64.wrap ((u64.wrap n).tdiv 256)).tdiv 256)).tdiv 256)).tdiv 256)).tdiv 256)).tmod 256)))),.int .i64 0]))))))))))))))))))))))))))))))
theorem wuR6(n:Int):segR (Env.of Tryz.prog (sumOf [])) 1000 (fnOf Tryz.prog 279) .unit (keepS 27 []) (codeS Tryz.prog 279) wuR6_p (startS Tryz.prog 279 [I64 n,I64 6]) [] =wuR6_t n:=by kernel_rfl
def wi4_p:Plan:=.ln 9 (.fork (.ln 5 (.lit .all)) (.ln 5 (.fork .all (.go (.lit (.go (.lit (.go (.lit (.go (.lit (.go (.lit .all)))))))))))))
noncomputable def wi4_t(n:Int):Tree Stop:= .req (true) (.node (decide (n < -2147483648)) (.leaf (.done (.tuple [SV.str [],.int .i64 3]))) (.node (decide (n≥2147483648)) (.leaf (.done (.tuple [SV.str [],.int .i64 3]))) (.req true (.req (true) (.req (decide ((0+ [IntKind.u8.wrap ((u64.wrap n).fdiv 16777216)].length)*1≤140737488355328)) (.req true (.req (decide (([IntKind.u8.wrap ((u64.wrap n).fdiv 16777216)].length+ [IntKind.u8.wrap ((u64.wrap n).fdiv 65536)].length)*1≤140737488355328)) (.req true (.req (decide ((([IntKind.u8.wrap ((u64.wrap n).fdiv 16777216)] ++[IntKind.u8.wrap ((u64.wrap n).fdiv 65536)]).length+ [IntKind.u8.wrap ((u64.wrap n).fdiv 256)].length)*1≤140737488355328)) (.req true (.req (decide ((([IntKind.u8.wrap ((u64.wrap n).fdiv 16777216)] ++[IntKind.u8.wrap ((u64.wrap n).fdiv 65536)] ++[IntKind.u8.wrap ((u64.wrap n).fdiv 256)]).length+ [IntKind.u8.wrap ((u64.wrap n).fdiv 1)].length)*1≤140737488355328)) (.leaf (.done (.tuple [SV.str (List.map (fun n=>UInt8.ofNat (Int.toNat n)) ([IntKind.u8.wrap ((u64.wrap n).fdiv 16777216)] ++[IntKind.u8.wrap ((u64.wrap n).fdiv 65536)] ++[IntKind.u8.wrap ((u64.wrap n).fdiv 256)] ++[IntKind.u8.wrap ((u64.wrap n).fdiv 1)])),.int .i64 0]))))))))))))))
theorem wi4(n:Int):segR (Env.of Tryz.prog (sumOf [])) 1000 (fnOf Tryz.prog 299) .unit (keepS 32 []) (codeS Tryz.prog 299) wi4_p (startS Tryz.prog 299 [I64 n,I64 4]) [] =wi4_t n:=by kernel_rfl
def wiR4_p:Plan:=.ln 13 (.fork (.ln 9 (.lit .all)) (.ln 9 (.fork .all (.go (.lit (.go (.lit (.go (.lit (.go (.lit (.go (.lit .all)))))))))))))
noncomputable def wiR4_t(n:Int):Tree Stop:= .req (true) (.node (decide (n < -2147483648)) (.leaf (.done (.tuple [SV.str [],.int .i64 3]))) (.req true (.node (decide (n≥2147483648)) (.leaf (.done (.tuple [SV.str [],.int .i64 3]))) (.req true (.req (true) (.req true (.req (true) (.req true (.req (true) (.req (decide (2< (↑((List.replicate 4 0).set 3 (IntKind.u8.wrap ((u64.wrap n).tmod 256))).length:Int))) (.req (decide (2< ((List.replicate 4 0).set 3 (IntKind.u8.wrap ((u64.wrap n).tmod 256))).length)) (.req true (.req (true) (.req (decide (1< (↑(((List.replicate 4 0).set 3 (IntKind.u8.wrap ((u64.wrap n).tmod 256))).set 2 (IntKind.u8.wrap ((u64.wrap ((u64.wrap n).tdiv 256)).tmod 256))).length:Int))) (.req (decide (1< (((List.replicate 4 0).set 3 (IntKind.u8.wrap ((u64.wrap n).tmod 256))).set 2 (IntKind.u8.wrap ((u64.wrap ((u64.wrap n).tdiv 256)).tmod 256))).length)) (.req true (.req (true) (.req (decide (0< (↑((((List.replicate 4 0).set 3 (IntKind.u8.wrap ((u64.wrap n).tmod 256))).set 2 (IntKind.u8.wrap ((u64.wrap ((u64.wrap n).tdiv 256)).tmod 256))).set 1 (IntKind.u8.wrap ((u64.wrap ((u64.wrap ((u64.wrap n).tdiv 256)).tdiv 256)).tmod 256))).length:Int))) (.req (decide (0< ((((List.replicate 4 0).set 3 (IntKind.u8.wrap ((u64.wrap n).tmod 256))).set 2 (IntKind.u8.wrap ((u64.wrap ((u64.wrap n).tdiv 256)).tmod 256))).set 1 (IntKind.u8.wrap ((u64.wrap ((u64.wrap ((u64.wrap n).tdiv 256)).tdiv 256)).tmod 256))).length)) (.req true (.leaf (.done (.tuple [SV.str (List.map (fun n=>UInt8.ofNat (Int.toNat n)) (((((List.replicate 4 0).set 3 (IntKind.u8.wrap ((u64.wrap n).tmod 256))).set 2 (IntKind.u8.wrap ((u64.wrap ((u64.wrap n).tdiv 256)).tmod 256))).set 1 (IntKind.u8.wrap ((u64.wrap ((u64.wrap ((u64.wrap n).tdiv 256)).tdiv 256)).tmod 256))).set 0 (IntKind.u8.wrap ((u64.wrap ((u64.wrap ((u64.wrap ((u64.wrap n).tdiv 256)).tdiv 256)).tdiv 256)).tmod 256)))),.int .i64 0])))))))))))))))))))))))
theorem wiR4(n:Int):segR (Env.of Tryz.prog (sumOf [])) 1000 (fnOf Tryz.prog 280) .unit (keepS 34 []) (codeS Tryz.prog 280) wiR4_p (startS Tryz.prog 280 [I64 n,I64 4]) [] =wiR4_t n:=by kernel_rfl
def tkP1(s:List UInt8)(a:Int):Int:=u64.wrap (↑(BitVec.ofInt 64 0 |||BitVec.ofInt 64 (u64.wrap (↑(s.getD (i64.wrap (a+0)).toNat 0).toNat:Int))).toNat:Int)
def tkP4(s:List UInt8)(a:Int):Int:=u64.wrap (↑(BitVec.ofInt 64 (u64.wrap (u64.wrap (↑(BitVec.ofInt 64 (u64.wrap (u64.wrap (↑(BitVec.ofInt 64 (u64.wrap (u64.wrap (↑(BitVec.ofInt 64 0 |||BitVec.ofInt 64 (u64.wrap (↑(s.getD (i64.wrap (a+0)).toNat 0).toNat:Int))).toNat:Int)*256)) |||BitVec.ofInt 64 (u64.wrap (↑(s.getD (i64.wrap (a+1)).toNat 0).toNat:Int))).toNat:Int)*256)) |||BitVec.ofInt 64 (u64.wrap (↑(s.getD (i64.wrap (a+2)).toNat 0).toNat:Int))).toNat:Int)*256)) |||BitVec.ofInt 64 (u64.wrap (↑(s.getD (i64.wrap (a+3)).toNat 0).toNat:Int))).toNat:Int)
def tkP6(s:List UInt8)(a:Int):Int:=u64.wrap (↑(BitVec.ofInt 64 (u64.wrap (u64.wrap (↑(BitVec.ofInt 64 (u64.wrap (u64.wrap (↑(BitVec.ofInt 64 (u64.wrap (u64.wrap (↑(BitVec.ofInt 64 (u64.wrap (u64.wrap (↑(BitVec.ofInt 64 (u64.wrap (u64.wrap (↑(BitVec.ofInt 64 0 |||BitVec.ofInt 64 (u64.wrap (↑(s.getD (i64.wrap (a+0)).toNat 0).toNat:Int))).toNat:Int)*256)) |||BitVec.ofInt 64 (u64.wrap (↑(s.getD (i64.wrap (a+1)).toNat 0).toNat:Int))).toNat:Int)*256)) |||BitVec.ofInt 64 (u64.wrap (↑(s.getD (i64.wrap (a+2)).toNat 0).toNat:Int))).toNat:Int)*256)) |||BitVec.ofInt 64 (u64.wrap (↑(s.getD (i64.wrap (a+3)).toNat 0).toNat:Int))).toNat:Int)*256)) |||BitVec.ofInt 64 (u64.wrap (↑(s.getD (i64.wrap (a+4)).toNat 0).toNat:Int))).toNat:Int)*256)) |||BitVec.ofInt 64 (u64.wrap (↑(s.getD (i64.wrap (a+5)).toNat 0).toNat:Int))).toNat:Int)
def tw1_p:Plan:=.fork (.ln 9 (.lit .all)) (.ln 4 (.fork (.ln 4 (.lit .all)) (.ln 7 (.fork (.lit .all) (.go (.lit (.go (.lit (.lit (.fork .all .all))))))))))
noncomputable def tw1_t(s:List UInt8)(a:Int):Tree Stop:= .node (decide (a<0)) (.leaf (.done (.tuple [.int .i64 0,.int .i64 0,.int .i64 1]))) (.node (decide (a> (↑s.length:Int))) (.leaf (.done (.tuple [.int .i64 0,.int .i64 0,.int .i64 1]))) (.node (decide (i64.wrap ((↑s.length:Int)-a)<1)) (.leaf (.done (.tuple [.int .i64 0,.int .i64 0,.int .i64 6]))) (.req true (.req (decide (0≤i64.wrap (a+0))&&decide (i64.wrap (a+0)< (↑s.length:Int))) (.node (decide (tkP1 s a≥9223372036854775808)) (.leaf (.done (.tuple [.int .i64 0,.int .i64 0,.int .i64 3]))) (.leaf (.done (.tuple [.int .i64 (i64.wrap (tkP1 s a)),.int .i64 (i64.wrap (a+1)),.int .i64 0]))))))))
theorem tw1(s:List UInt8)(a:Int):segR (Env.of Tryz.prog (sumOf [])) 1000 (fnOf Tryz.prog 282) .unit (keepS 30 []) (codeS Tryz.prog 282) tw1_p (startS Tryz.prog 282 [.str s,I64 a,I64 1]) [] =tw1_t s a:=by kernel_rfl
def twR1_p:Plan:=.fork (.ln 9 (.lit .all)) (.ln 4 (.fork (.ln 4 (.lit .all)) (.ln 7 (.fork (.lit .all) (.lit (.fork .all .all))))))
noncomputable def twR1_t(s:List UInt8)(a:Int):Tree Stop:= .node (decide (a<0)) (.leaf (.done (.tuple [.int .i64 0,.int .i64 0,.int .i64 1]))) (.node (decide (a> (↑s.length:Int))) (.leaf (.done (.tuple [.int .i64 0,.int .i64 0,.int .i64 1]))) (.node (decide (i64.wrap ((↑s.length:Int)-a)<1)) (.leaf (.done (.tuple [.int .i64 0,.int .i64 0,.int .i64 6]))) (.req (decide (0≤i64.wrap (a+1))&&decide (i64.wrap (a+1)≤(↑s.length:Int))&&decide (0≤a)&&decide (a≤i64.wrap (a+1))) (.req (decide ((↑(List.drop a.toNat (List.take (i64.wrap (a+1)).toNat s)).length:Int)≤100000)) (.node (decide (numW 0 (List.drop a.toNat (List.take (i64.wrap (a+1)).toNat s))≥9223372036854775808)) (.leaf (.done (.tuple [.int .i64 0,.int .i64 0,.int .i64 3]))) (.leaf (.done (.tuple [.int .i64 (i64.wrap (numW 0 (List.drop a.toNat (List.take (i64.wrap (a+1)).toNat s)))),.int .i64 (i64.wrap (a+1)),.int .i64 0]))))))))
theorem twR1(s:List UInt8)(a:Int):segR (Env.of Tryz.prog (sumOf [fNum])) 1000 (fnOf Tryz.prog 321) .unit (keepS 31 []) (codeS Tryz.prog 321) twR1_p (startS Tryz.prog 321 [.str s,I64 a,I64 1]) [] =twR1_t s a:=by kernel_rfl
def tw4_p:Plan:=.fork (.ln 9 (.lit .all)) (.ln 4 (.fork (.ln 4 (.lit .all)) (.ln 7 (.fork (.lit .all) (.go (.lit (.go (.lit (.go (.lit (.go (.lit (.go (.lit (.lit (.fork .all .all))))))))))))))))
noncomputable def tw4_t(s:List UInt8)(a:Int):Tree Stop:= .node (decide (a<0)) (.leaf (.done (.tuple [.int .i64 0,.int .i64 0,.int .i64 1]))) (.node (decide (a> (↑s.length:Int))) (.leaf (.done (.tuple [.int .i64 0,.int .i64 0,.int .i64 1]))) (.node (decide (i64.wrap ((↑s.length:Int)-a)<4)) (.leaf (.done (.tuple [.int .i64 0,.int .i64 0,.int .i64 6]))) (.req true (.req (decide (0≤i64.wrap (a+0))&&decide (i64.wrap (a+0)< (↑s.length:Int))) (.req true (.req (decide (0≤i64.wrap (a+1))&&decide (i64.wrap (a+1)< (↑s.length:Int))) (.req true (.req (decide (0≤i64.wrap (a+2))&&decide (i64.wrap (a+2)< (↑s.length:Int))) (.req true (.req (decide (0≤i64.wrap (a+3))&&decide (i64.wrap (a+3)< (↑s.length:Int))) (.node (decide (tkP4 s a≥9223372036854775808)) (.leaf (.done (.tuple [.int .i64 0,.int .i64 0,.int .i64 3]))) (.leaf (.done (.tuple [.int .i64 (i64.wrap (tkP4 s a)),.int .i64 (i64.wrap (a+4)),.int .i64 0]))))))))))))))
theorem tw4(s:List UInt8)(a:Int):segR (Env.of Tryz.prog (sumOf [])) 1000 (fnOf Tryz.prog 282) .unit (keepS 30 []) (codeS Tryz.prog 282) tw4_p (startS Tryz.prog 282 [.str s,I64 a,I64 4]) [] =tw4_t s a:=by kernel_rfl
def twR4_p:Plan:=.fork (.ln 9 (.lit .all)) (.ln 4 (.fork (.ln 4 (.lit .all)) (.ln 7 (.fork (.lit .all) (.lit (.fork .all .all))))))
noncomputable def twR4_t(s:List UInt8)(a:Int):Tree Stop:= .node (decide (a<0)) (.leaf (.done (.tuple [.int .i64 0,.int .i64 0,.int .i64 1]))) (.node (decide (a> (↑s.length:Int))) (.leaf (.done (.tuple [.int .i64 0,.int .i64 0,.int .i64 1]))) (.node (decide (i64.wrap ((↑s.length:Int)-a)<4)) (.leaf (.done (.tuple [.int .i64 0,.int .i64 0,.int .i64 6]))) (.req (decide (0≤i64.wrap (a+4))&&decide (i64.wrap (a+4)≤(↑s.length:Int))&&decide (0≤a)&&decide (a≤i64.wrap (a+4))) (.req (decide ((↑(List.drop a.toNat (List.take (i64.wrap (a+4)).toNat s)).length:Int)≤100000)) (.node (decide (numW 0 (List.drop a.toNat (List.take (i64.wrap (a+4)).toNat s))≥9223372036854775808)) (.leaf (.done (.tuple [.int .i64 0,.int .i64 0,.int .i64 3]))) (.leaf (.done (.tuple [.int .i64 (i64.wrap (numW 0 (List.drop a.toNat (List.take (i64.wrap (a+4)).toNat s)))),.int .i64 (i64.wrap (a+4)),.int .i64 0]))))))))
theorem twR4(s:List UInt8)(a:Int):segR (Env.of Tryz.prog (sumOf [fNum])) 1000 (fnOf Tryz.prog 321) .unit (keepS 31 []) (codeS Tryz.prog 321) twR4_p (startS Tryz.prog 321 [.str s,I64 a,I64 4]) [] =twR4_t s a:=by kernel_rfl
def tw6_p:Plan:=.fork (.ln 9 (.lit .all)) (.ln 4 (.fork (.ln 4 (.lit .all)) (.ln 7 (.fork (.lit .all) (.go (.lit (.go (.lit (.go (.lit (.go (.lit (.go (.lit (.go (.lit (.go (.lit (.lit (.fork .all .all))))))))))))))))))))
noncomputable def tw6_t(s:List UInt8)(a:Int):Tree Stop:= .node (decide (a<0)) (.leaf (.done (.tuple [.int .i64 0,.int .i64 0,.int .i64 1]))) (.node (decide (a> (↑s.length:Int))) (.leaf (.done (.tuple [.int .i64 0,.int .i64 0,.int .i64 1]))) (.node (decide (i64.wrap ((↑s.length:Int)-a)<6)) (.leaf (.done (.tuple [.int .i64 0,.int .i64 0,.int .i64 6]))) (.req true (.req (decide (0≤i64.wrap (a+0))&&decide (i64.wrap (a+0)< (↑s.length:Int))) (.req true (.req (decide (0≤i64.wrap (a+1))&&decide (i64.wrap (a+1)< (↑s.length:Int))) (.req true (.req (decide (0≤i64.wrap (a+2))&&decide (i64.wrap (a+2)< (↑s.length:Int))) (.req true (.req (decide (0≤i64.wrap (a+3))&&decide (i64.wrap (a+3)< (↑s.length:Int))) (.req true (.req (decide (0≤i64.wrap (a+4))&&decide (i64.wrap (a+4)< (↑s.length:Int))) (.req true (.req (decide (0≤i64.wrap (a+5))&&decide (i64.wrap (a+5)< (↑s.length:Int))) (.node (decide (tkP6 s a≥9223372036854775808)) (.leaf (.done (.tuple [.int .i64 0,.int .i64 0,.int .i64 3]))) (.leaf (.done (.tuple [.int .i64 (i64.wrap (tkP6 s a)),.int .i64 (i64.wrap (a+6)),.int .i64 0]))))))))))))))))))
theorem tw6(s:List UInt8)(a:Int):segR (Env.of Tryz.prog (sumOf [])) 1000 (fnOf Tryz.prog 282) .unit (keepS 30 []) (codeS Tryz.prog 282) tw6_p (startS Tryz.prog 282 [.str s,I64 a,I64 6]) [] =tw6_t s a:=by kernel_rfl
def twR6_p:Plan:=.fork (.ln 9 (.lit .all)) (.ln 4 (.fork (.ln 4 (.lit .all)) (.ln 7 (.fork (.lit .all) (.lit (.fork .all .all))))))
noncomputable def twR6_t(s:List UInt8)(a:Int):Tree Stop:= .node (decide (a<0)) (.leaf (.done (.tuple [.int .i64 0,.int .i64 0,.int .i64 1]))) (.node (decide (a> (↑s.length:Int))) (.leaf (.done (.tuple [.int .i64 0,.int .i64 0,.int .i64 1]))) (.node (decide (i64.wrap ((↑s.length:Int)-a)<6)) (.leaf (.done (.tuple [.int .i64 0,.int .i64 0,.int .i64 6]))) (.req (decide (0≤i64.wrap (a+6))&&decide (i64.wrap (a+6)≤(↑s.length:Int))&&decide (0≤a)&&decide (a≤i64.wrap (a+6))) (.req (decide ((↑(List.drop a.toNat (List.take (i64.wrap (a+6)).toNat s)).length:Int)≤100000)) (.node (decide (numW 0 (List.drop a.toNat (List.take (i64.wrap (a+6)).toNat s))≥9223372036854775808)) (.leaf (.done (.tuple [.int .i64 0,.int .i64 0,.int .i64 3]))) (.leaf (.done (.tuple [.int .i64 (i64.wrap (numW 0 (List.drop a.toNat (List.take (i64.wrap (a+6)).toNat s)))),.int .i64 (i64.wrap (a+6)),.int .i64 0]))))))))
theorem twR6(s:List UInt8)(a:Int):segR (Env.of Tryz.prog (sumOf [fNum])) 1000 (fnOf Tryz.prog 321) .unit (keepS 31 []) (codeS Tryz.prog 321) twR6_p (startS Tryz.prog 321 [.str s,I64 a,I64 6]) [] =twR6_t s a:=by kernel_rfl
def ti4_p:Plan:=.fork (.ln 9 (.lit .all)) (.ln 4 (.fork (.ln 4 (.lit .all)) (.ln 7 (.fork (.lit .all) (.go (.lit (.go (.lit (.go (.lit (.go (.lit (.go (.lit (.lit .all)))))))))))))))
noncomputable def ti4_t(s:List UInt8)(a:Int):Tree Stop:= .node (decide (a<0)) (.leaf (.done (.tuple [.int .i64 0,.int .i64 0,.int .i64 1]))) (.node (decide (a> (↑s.length:Int))) (.leaf (.done (.tuple [.int .i64 0,.int .i64 0,.int .i64 1]))) (.node (decide (i64.wrap ((↑s.length:Int)-a)<4)) (.leaf (.done (.tuple [.int .i64 0,.int .i64 0,.int .i64 6]))) (.req true (.req (decide (0≤i64.wrap (a+0))&&decide (i64.wrap (a+0)< (↑s.length:Int))) (.req true (.req (decide (0≤i64.wrap (a+1))&&decide (i64.wrap (a+1)< (↑s.length:Int))) (.req true (.req (decide (0≤i64.wrap (a+2))&&decide (i64.wrap (a+2)< (↑s.length:Int))) (.req true (.req (decide (0≤i64.wrap (a+3))&&decide (i64.wrap (a+3)< (↑s.length:Int))) (.req true (.req (true) (.leaf (.done (.tuple [.int .i64 ((i64.wrap (u64.wrap (tkP4 s a*4294967296))).fdiv 4294967296),.int .i64 (i64.wrap (a+4)),.int .i64 0])))))))))))))))
theorem ti4(s:List UInt8)(a:Int):segR (Env.of Tryz.prog (sumOf [])) 1000 (fnOf Tryz.prog 284) .unit (keepS 34 []) (codeS Tryz.prog 284) ti4_p (startS Tryz.prog 284 [.str s,I64 a,I64 4]) [] =ti4_t s a:=by kernel_rfl
def tiR4_p:Plan:=.fork (.ln 9 (.lit .all)) (.ln 4 (.fork (.ln 4 (.lit .all)) (.ln 7 (.fork (.lit .all) (.ln 5 (.fork .all .all))))))
noncomputable def tiR4_t(s:List UInt8)(a:Int):Tree Stop:= .node (decide (a<0)) (.leaf (.done (.tuple [.int .i64 0,.int .i64 0,.int .i64 1]))) (.node (decide (a> (↑s.length:Int))) (.leaf (.done (.tuple [.int .i64 0,.int .i64 0,.int .i64 1]))) (.node (decide (i64.wrap ((↑s.length:Int)-a)<4)) (.leaf (.done (.tuple [.int .i64 0,.int .i64 0,.int .i64 6]))) (.req (decide (0≤i64.wrap (a+4))&&decide (i64.wrap (a+4)≤(↑s.length:Int))&&decide (0≤a)&&decide (a≤i64.wrap (a+4))) (.req (decide ((↑(List.drop a.toNat (List.take (i64.wrap (a+4)).toNat s)).length:Int)≤100000)) (.req (decide (0< (↑(List.drop a.toNat (List.take (i64.wrap (a+4)).toNat s)).length:Int))) (.node (decide ((↑((List.drop a.toNat (List.take (i64.wrap (a+4)).toNat s)).getD 0 0).toNat:Int)≥128)) (.req true (.leaf (.done (.tuple [.int .i64 (i64.wrap (i64.wrap (numW 0 (List.drop a.toNat (List.take (i64.wrap (a+4)).toNat s)))-4294967296)),.int .i64 (i64.wrap (a+4)),.int .i64 0])))) (.leaf (.done (.tuple [.int .i64 (i64.wrap (numW 0 (List.drop a.toNat (List.take (i64.wrap (a+4)).toNat s)))),.int .i64 (i64.wrap (a+4)),.int .i64 0])))))))))
theorem tiR4(s:List UInt8)(a:Int):segR (Env.of Tryz.prog (sumOf [fNum])) 1000 (fnOf Tryz.prog 322) .unit (keepS 46 []) (codeS Tryz.prog 322) tiR4_p (startS Tryz.prog 322 [.str s,I64 a,I64 4]) [] =tiR4_t s a:=by kernel_rfl
def padR_p:Plan:=.fork (.lit (.lit (.lit .all))) (.lit (.lit (.fork .all (.fork .all .all))))
noncomputable def padR_t(s:List UInt8)(n:Int):Tree Stop:= .node (decide (n<0)) (.leaf (.done (.tuple [SV.str [],.int .i64 1]))) (.node (decide (n>65536)) (.leaf (.done (.tuple [SV.str [],.int .i64 1]))) (.node (decide ((↑s.length:Int)>n)) (.leaf (.done (.tuple [SV.str [],.int .i64 2]))) (.req (decide (0≤i64.wrap (n-(↑s.length:Int)))&&i64.wrap (n-(↑s.length:Int))==i64.wrap (n-(↑s.length:Int))&&decide (1*i64.wrap (n-(↑s.length:Int))≤140737488355328)&&decide (i64.wrap (n-(↑s.length:Int))≤(9223372036854775807:Int))) (.req (decide (((s.length+(List.map (fun n=>UInt8.ofNat (Int.toNat n)) (List.replicate (i64.wrap (n-(↑s.length:Int))).toNat (0:Int))).length:Nat):Int)≤(9223372036854775807:Int))) (.leaf (.done (.tuple [SV.str (s++List.map (fun n=>UInt8.ofNat (Int.toNat n)) (List.replicate (i64.wrap (n-(↑s.length:Int))).toNat (0:Int))),.int .i64 0])))))))
theorem padR(s:List UInt8)(n:Int):segR (Env.of Tryz.prog (sumOf [])) 1000 (fnOf Tryz.prog 253) .unit (keepS 24 []) (codeS Tryz.prog 253) padR_p (startS Tryz.prog 253 [.str s,I64 n]) [] =padR_t s n:=by kernel_rfl
theorem u8_def(x:Int):IntKind.u8.wrap x=x % 256:=by
 have h2:IntKind.wrap .u8 x=if false&&decide (x % 256≥128)then x % 256-256 else x % 256:=rfl
 rw[h2];simp
theorem u64_df(x:Int):u64.wrap x=x % 18446744073709551616:=by
 have h2:IntKind.wrap .u64 x=if false&&decide (x % 18446744073709551616≥9223372036854775808)then x % 18446744073709551616-18446744073709551616 else x % 18446744073709551616:=rfl
 rw[h2];simp
theorem u64_id{x:Int}(h0:0≤x)(h1:x<18446744073709551616):u64.wrap x=x:=by rw[u64_df];omega
theorem fdN{x k:Int}(hk:0≤k):x.fdiv k=x / k:=Int.fdiv_eq_ediv_of_nonneg x hk
def beN(n:Int):Nat→List UInt8
 |0=>[]
 |w+1=>UInt8.ofNat (n / 256 ^ w % 256).toNat::beN n w
theorem beN_len(n:Int):∀w,(beN n w).length=w
 |0=>rfl
 |w+1=>congrArg (· +1) (beN_len n w)
theorem bq(n:Int){k:Int}(hk:0≤k)(h0:0≤n)(h1:n<18446744073709551616):IntKind.u8.wrap ((u64.wrap n).fdiv k)=n / k % 256:=by rw[u8_def,u64_id h0 h1,fdN hk]
theorem tmN{x:Int}(hx:0≤x):x.tmod 256=x % 256:=Int.tmod_eq_emod_of_nonneg hx
theorem tdN{x:Int}(hx:0≤x):x.tdiv 256=x / 256:=Int.tdiv_eq_ediv_of_nonneg hx
theorem wdN{x:Int}(h0:0≤x)(h1:x<18446744073709551616):u64.wrap (x.tdiv 256)=x / 256:=by rw[tdN h0,u64_df];omega
theorem w8N{x:Int}(h0:0≤x):IntKind.u8.wrap (x.tmod 256)=x % 256:=by rw[tmN h0,u8_def];omega
def tkN(s:List UInt8)(a:Nat):Nat→Int
 |0=>0
 |w+1=>tkN s a w*256+(s.getD (a+w) 0).toNat
def tk(s:List UInt8)(a w:Nat):Int:=match s with
 |[] =>tkN [] a w
 |b::l=>tkN (b::l) a w
theorem tk_eq(s:List UInt8)(a w:Nat):tk s a w=tkN s a w:=by cases s<;>rfl
theorem by_range(s:List UInt8)(i:Nat):(0:Int)≤((s.getD i 0).toNat:Int)∧((s.getD i 0).toNat:Int)<256:=by
 have:=(s.getD i 0).toNat_lt;omega
theorem or256{x b:Int}(h0:0≤x)(h1:x<72057594037927936)(b0:0≤b)(b1:b<256):u64.wrap (((BitVec.ofInt 64 (u64.wrap (x*256)) |||BitVec.ofInt 64 (u64.wrap b)).toNat:Nat):Int)=x*256+b:=by
 rw[u64_id (x:=x*256) (by omega) (by omega),u64_id b0 (by omega)]
 obtain⟨m,rfl⟩:=Int.eq_ofNat_of_zero_le h0
 obtain⟨k,rfl⟩:=Int.eq_ofNat_of_zero_le b0
 rw[BitVec.toNat_or,BitVec.toNat_ofInt,BitVec.toNat_ofInt]
 have e1:((m:Int)*256 % ((2:Nat) ^ 64:Nat)).toNat=m <<< 8:=by
  rw[Nat.shiftLeft_eq]
  have:((2 ^ 64:Nat):Int)=18446744073709551616:=rfl
  rw[this];omega
 have e2:((k:Int) % ((2:Nat) ^ 64:Nat)).toNat=k:=by
  have:((2 ^ 64:Nat):Int)=18446744073709551616:=rfl
  rw[this];omega
 rw[e1,e2,←Nat.shiftLeft_add_eq_or_of_lt (show k<2 ^ 8 by omega),Nat.shiftLeft_eq,u64_id (by omega) (by omega)]
 push_cast
 rfl
theorem orZ{b:Int}(b0:0≤b)(b1:b<256):u64.wrap (((BitVec.ofInt 64 0 |||BitVec.ofInt 64 (u64.wrap b)).toNat:Nat):Int)=b:=by
 have:=or256 (x:=0) (b:=b) (by omega) (by omega) b0 b1
 rw[show u64.wrap ((0:Int)*256)=0 from rfl]at this
 rw[this];omega
def sg(x:Int):Int:=if x<2147483648 then x else x-4294967296
theorem sg_shift{x:Int}(h0:0≤x)(h1:x<4294967296):(i64.wrap (u64.wrap (x*4294967296))).fdiv 4294967296=sg x:=by
 rw[fdN (by omega),u64_id (by omega) (by omega)]
 unfold sg
 split
 ·rw[w64 (by omega) (by omega)];omega
 ·have:i64.wrap (x*4294967296)=x*4294967296-18446744073709551616:=by
   unfold IntKind.wrap
   have e:(x*4294967296) % (2 ^ IntKind.i64.bits:Int)=x*4294967296:=Int.emod_eq_of_lt (by omega) (by show x*4294967296<18446744073709551616;omega)
   simp only[e]
   rw[if_pos (by simp[IntKind.signed,IntKind.bits];omega)]
   rfl
  rw[this];omega
theorem dropsN{s:List UInt8}{i:Nat}(hi:i<s.length):s.drop i=s.getD i 0::s.drop (i+1):=drop_getD hi
theorem nu_loop(s:List UInt8)(hs:s.length≤100000):∀ (n i:Nat) (u v:Int),i+n=s.length→v=numW u (s.drop i)→RunsR Tryz.prog (fnOf Tryz.prog 335) (.int .u64 v) (loopOf Tryz.prog 335 0) (slotsS 19 [(0,.str s),(3,.int .u64 u),(4,I64 i)]) []
 |n,i,u,v,hi,hv=>by
  refine runsR_seg k000 (n:=1000) (hint:=.unit) (keep:=keepS 19 [0,3,4]) (p:=nu1_p) rfl ?_
  erw [nu1 s u (i:Int)]
  unfold nu1_t
  have t0:(i:Int).toNat=i:=by omega
  have w1:i64.wrap ((i:Int)+1)=((i+1:Nat):Int):=by rw[w64 (by omega) (by omega)];omega
  rw[t0,w1]
  refine n_dec (fun a=>?_) fun a=>?_
  ·match n,hi with
   |0,hi=>omega
   |n+1,hi=>
    rw[dropsN (by omega:i<s.length)]at hv
    exact n_req (by simp;omega) ⟨slotsS_len _ _,nu_loop s hs n (i+1) _ v (by omega) hv⟩
  ·rw[List.drop_eq_nil_of_le (by omega)]at hv
   subst hv;rfl
theorem s_number(s:List UInt8)(hs:s.length≤100000):SCall Tryz.prog 335 [.str s] (.int .u64 (numW 0 s)):=by
 refine scallR_loops rfl rfl (by kernel_rfl) (runsR_seg k000 (n:=1000) (hint:=.unit) (keep:=keepS 19 [0,3,4]) (p:=nu0_p) (boxes:=[]) rfl ?_)
 have e:=nu0 s
 unfold startS codeS at e
 erw [e]
 exact⟨slotsS_len _ _,nu_loop s hs s.length 0 0 _ (by omega) rfl⟩
theorem o_num:fNum.ok Tryz.prog:=fun args t ht=>by
 simp only[fNum]at ht
 split at ht
 ·injection ht with ht;subst ht
  intro h
  exact s_number _ (by have:=of_decide_eq_true h;omega)
 ·cases ht
theorem kNum:Known Tryz.prog (Env.of Tryz.prog (sumOf [fNum])):=kW (l:=[fNum]) ⟨o_num,trivial⟩
theorem s_wu1(n:Int)(h0:0≤n)(h1:n<256):SCall Tryz.prog 298 [I64 n,I64 1] (.tuple [.str (beN n 1),I64 0]):=by
 refine scallR_loops rfl rfl (by kernel_rfl) (runsR_seg k000 (n:=1000) (hint:=.unit) (keep:=keepS 25 []) (p:=wu1_p) (boxes:=[]) rfl ?_)
 have e:=wu1 n
 unfold startS codeS at e
 erw [e]
 unfold wu1_t
 rw[bq n (k:=1) (by decide) h0 (by omega)]
 rw[u64_id h0 (by omega)]
 repeat' first
  |exact rfl
  |refine n_req rfl ?_
  |refine n_dec (fun h=>absurd h (by omega)) (fun _=>?_)
  |refine n_not (fun h=>absurd (of_decide_eq_false h) (by omega)) (fun _=>?_)
theorem s_wuR1(n:Int)(h0:0≤n)(h1:n<256):SCall Tryz.prog 279 [I64 n,I64 1] (.tuple [.str (beN n 1),I64 0]):=by
 refine scallR_loops rfl rfl (by kernel_rfl) (runsR_seg k000 (n:=1000) (hint:=.unit) (keep:=keepS 27 []) (p:=wuR1_p) (boxes:=[]) rfl ?_)
 have e:=wuR1 n
 unfold startS codeS at e
 erw [e]
 unfold wuR1_t
 rw[u64_id h0 (by omega)]
 have m0:IntKind.u8.wrap ((n).tmod 256)=n / 1 % 256:=by rw[w8N (by omega)];try omega
 rw[m0]
 repeat' first
  |exact rfl
  |refine n_req rfl ?_
  |refine n_dec (fun h=>absurd h (by omega)) (fun _=>?_)
  |refine n_not (fun h=>absurd (of_decide_eq_false h) (by omega)) (fun _=>?_)
theorem s_wu2(n:Int)(h0:0≤n)(h1:n<65536):SCall Tryz.prog 298 [I64 n,I64 2] (.tuple [.str (beN n 2),I64 0]):=by
 refine scallR_loops rfl rfl (by kernel_rfl) (runsR_seg k000 (n:=1000) (hint:=.unit) (keep:=keepS 25 []) (p:=wu2_p) (boxes:=[]) rfl ?_)
 have e:=wu2 n
 unfold startS codeS at e
 erw [e]
 unfold wu2_t
 rw[bq n (k:=256) (by decide) h0 (by omega),bq n (k:=1) (by decide) h0 (by omega)]
 rw[u64_id h0 (by omega)]
 repeat' first
  |exact rfl
  |refine n_req rfl ?_
  |refine n_dec (fun h=>absurd h (by omega)) (fun _=>?_)
  |refine n_not (fun h=>absurd (of_decide_eq_false h) (by omega)) (fun _=>?_)
theorem s_wuR2(n:Int)(h0:0≤n)(h1:n<65536):SCall Tryz.prog 279 [I64 n,I64 2] (.tuple [.str (beN n 2),I64 0]):=by
 refine scallR_loops rfl rfl (by kernel_rfl) (runsR_seg k000 (n:=1000) (hint:=.unit) (keep:=keepS 27 []) (p:=wuR2_p) (boxes:=[]) rfl ?_)
 have e:=wuR2 n
 unfold startS codeS at e
 erw [e]
 unfold wuR2_t
 rw[u64_id h0 (by omega)]
 have m0:IntKind.u8.wrap ((n).tmod 256)=n / 1 % 256:=by rw[w8N (by omega)];try omega
 rw[m0]
 have d1:u64.wrap ((n).tdiv 256)=n / 256:=by rw[wdN (by omega) (by omega)];try omega
 rw[d1]
 have m1:IntKind.u8.wrap ((n / 256).tmod 256)=n / 256 % 256:=by rw[w8N (by omega)];try omega
 rw[m1]
 repeat' first
  |exact rfl
  |refine n_req rfl ?_
  |refine n_dec (fun h=>absurd h (by omega)) (fun _=>?_)
  |refine n_not (fun h=>absurd (of_decide_eq_false h) (by omega)) (fun _=>?_)
theorem s_wu4(n:Int)(h0:0≤n)(h1:n<4294967296):SCall Tryz.prog 298 [I64 n,I64 4] (.tuple [.str (beN n 4),I64 0]):=by
 refine scallR_loops rfl rfl (by kernel_rfl) (runsR_seg k000 (n:=1000) (hint:=.unit) (keep:=keepS 25 []) (p:=wu4_p) (boxes:=[]) rfl ?_)
 have e:=wu4 n
 unfold startS codeS at e
 erw [e]
 unfold wu4_t
 rw[bq n (k:=16777216) (by decide) h0 (by omega),bq n (k:=65536) (by decide) h0 (by omega),bq n (k:=256) (by decide) h0 (by omega),bq n (k:=1) (by decide) h0 (by omega)]
 rw[u64_id h0 (by omega)]
 repeat' first
  |exact rfl
  |refine n_req rfl ?_
  |refine n_dec (fun h=>absurd h (by omega)) (fun _=>?_)
  |refine n_not (fun h=>absurd (of_decide_eq_false h) (by omega)) (fun _=>?_)
theorem s_wuR4(n:Int)(h0:0≤n)(h1:n<4294967296):SCall Tryz.prog 279 [I64 n,I64 4] (.tuple [.str (beN n 4),I64 0]):=by
 refine scallR_loops rfl rfl (by kernel_rfl) (runsR_seg k000 (n:=1000) (hint:=.unit) (keep:=keepS 27 []) (p:=wuR4_p) (boxes:=[]) rfl ?_)
 have e:=wuR4 n
 unfold startS codeS at e
 erw [e]
 unfold wuR4_t
 rw[u64_id h0 (by omega)]
 have m0:IntKind.u8.wrap ((n).tmod 256)=n / 1 % 256:=by rw[w8N (by omega)];try omega
 rw[m0]
 have d1:u64.wrap ((n).tdiv 256)=n / 256:=by rw[wdN (by omega) (by omega)];try omega
 rw[d1]
 have m1:IntKind.u8.wrap ((n / 256).tmod 256)=n / 256 % 256:=by rw[w8N (by omega)];try omega
 rw[m1]
 have d2:u64.wrap ((n / 256).tdiv 256)=n / 65536:=by rw[wdN (by omega) (by omega)];try omega
 rw[d2]
 have m2:IntKind.u8.wrap ((n / 65536).tmod 256)=n / 65536 % 256:=by rw[w8N (by omega)];try omega
 rw[m2]
 have d3:u64.wrap ((n / 65536).tdiv 256)=n / 16777216:=by rw[wdN (by omega) (by omega)];try omega
 rw[d3]
 have m3:IntKind.u8.wrap ((n / 16777216).tmod 256)=n / 16777216 % 256:=by rw[w8N (by omega)];try omega
 rw[m3]
 repeat' first
  |exact rfl
  |refine n_req rfl ?_
  |refine n_dec (fun h=>absurd h (by omega)) (fun _=>?_)
  |refine n_not (fun h=>absurd (of_decide_eq_false h) (by omega)) (fun _=>?_)
theorem s_wu6(n:Int)(h0:0≤n)(h1:n<281474976710656):SCall Tryz.prog 298 [I64 n,I64 6] (.tuple [.str (beN n 6),I64 0]):=by
 refine scallR_loops rfl rfl (by kernel_rfl) (runsR_seg k000 (n:=1000) (hint:=.unit) (keep:=keepS 25 []) (p:=wu6_p) (boxes:=[]) rfl ?_)
 have e:=wu6 n
 unfold startS codeS at e
 erw [e]
 unfold wu6_t
 rw[bq n (k:=1099511627776) (by decide) h0 (by omega),bq n (k:=4294967296) (by decide) h0 (by omega),bq n (k:=16777216) (by decide) h0 (by omega),bq n (k:=65536) (by decide) h0 (by omega),bq n (k:=256) (by decide) h0 (by omega),bq n (k:=1) (by decide) h0 (by omega)]
 rw[u64_id h0 (by omega)]
 repeat' first
  |exact rfl
  |refine n_req rfl ?_
  |refine n_dec (fun h=>absurd h (by omega)) (fun _=>?_)
  |refine n_not (fun h=>absurd (of_decide_eq_false h) (by omega)) (fun _=>?_)
theorem s_wuR6(n:Int)(h0:0≤n)(h1:n<281474976710656):SCall Tryz.prog 279 [I64 n,I64 6] (.tuple [.str (beN n 6),I64 0]):=by
 refine scallR_loops rfl rfl (by kernel_rfl) (runsR_seg k000 (n:=1000) (hint:=.unit) (keep:=keepS 27 []) (p:=wuR6_p) (boxes:=[]) rfl ?_)
 have e:=wuR6 n
 unfold startS codeS at e
 erw [e]
 unfold wuR6_t
 rw[u64_id h0 (by omega)]
 have m0:IntKind.u8.wrap ((n).tmod 256)=n / 1 % 256:=by rw[w8N (by omega)];try omega
 rw[m0]
 have d1:u64.wrap ((n).tdiv 256)=n / 256:=by rw[wdN (by omega) (by omega)];try omega
 rw[d1]
 have m1:IntKind.u8.wrap ((n / 256).tmod 256)=n / 256 % 256:=by rw[w8N (by omega)];try omega
 rw[m1]
 have d2:u64.wrap ((n / 256).tdiv 256)=n / 65536:=by rw[wdN (by omega) (by omega)];try omega
 rw[d2]
 have m2:IntKind.u8.wrap ((n / 65536).tmod 256)=n / 65536 % 256:=by rw[w8N (by omega)];try omega
 rw[m2]
 have d3:u64.wrap ((n / 65536).tdiv 256)=n / 16777216:=by rw[wdN (by omega) (by omega)];try omega
 rw[d3]
 have m3:IntKind.u8.wrap ((n / 16777216).tmod 256)=n / 16777216 % 256:=by rw[w8N (by omega)];try omega
 rw[m3]
 have d4:u64.wrap ((n / 16777216).tdiv 256)=n / 4294967296:=by rw[wdN (by omega) (by omega)];try omega
 rw[d4]
 have m4:IntKind.u8.wrap ((n / 4294967296).tmod 256)=n / 4294967296 % 256:=by rw[w8N (by omega)];try omega
 rw[m4]
 have d5:u64.wrap ((n / 4294967296).tdiv 256)=n / 1099511627776:=by rw[wdN (by omega) (by omega)];try omega
 rw[d5]
 have m5:IntKind.u8.wrap ((n / 1099511627776).tmod 256)=n / 1099511627776 % 256:=by rw[w8N (by omega)];try omega
 rw[m5]
 repeat' first
  |exact rfl
  |refine n_req rfl ?_
  |refine n_dec (fun h=>absurd h (by omega)) (fun _=>?_)
  |refine n_not (fun h=>absurd (of_decide_eq_false h) (by omega)) (fun _=>?_)
end Go.Proofs.YtnkaepnblikcdaaGreat
set_option maxHeartbeats 4000000
namespace Go.Proofs.YtnkaepnblikcdaaGreat
open Go.Sx
theorem ixB{i n:Nat}(h:i<n):(decide (0≤((i:Nat):Int))&&decide (((i:Nat):Int)< ((n:Nat):Int)))=true:=by simp;omega
theorem i64x{x:Int}(h0: -9000000000000000000≤x)(h1:x≤9000000000000000000):i64.wrap x=x:=w64 (by omega) (by omega)
theorem s_wi4(n:Int)(h0: -2147483648≤n)(h1:n<2147483648):SCall Tryz.prog 299 [I64 n,I64 4] (.tuple [.str (beN n 4),I64 0]):=by
 refine scallR_loops rfl rfl (by kernel_rfl) (runsR_seg k000 (n:=1000) (hint:=.unit) (keep:=keepS 32 []) (p:=wi4_p) (boxes:=[]) rfl ?_)
 have e:=wi4 n
 unfold startS codeS at e
 erw [e]
 unfold wi4_t
 have q3:IntKind.u8.wrap ((u64.wrap n).fdiv 16777216)=n / 16777216 % 256:=by rw[u8_def,u64_df,fdN (by omega)];omega
 have q2:IntKind.u8.wrap ((u64.wrap n).fdiv 65536)=n / 65536 % 256:=by rw[u8_def,u64_df,fdN (by omega)];omega
 have q1:IntKind.u8.wrap ((u64.wrap n).fdiv 256)=n / 256 % 256:=by rw[u8_def,u64_df,fdN (by omega)];omega
 have q0:IntKind.u8.wrap ((u64.wrap n).fdiv 1)=n / 1 % 256:=by rw[u8_def,u64_df,fdN (by omega)];omega
 rw[q3,q2,q1,q0]
 repeat' first
  |exact rfl
  |refine n_req rfl ?_
  |refine n_dec (fun h=>absurd h (by omega)) (fun _=>?_)
  |refine n_not (fun h=>absurd (of_decide_eq_false h) (by omega)) (fun _=>?_)
theorem s_wiR4(n:Int)(h0: -2147483648≤n)(h1:n<2147483648):SCall Tryz.prog 280 [I64 n,I64 4] (.tuple [.str (beN n 4),I64 0]):=by
 refine scallR_loops rfl rfl (by kernel_rfl) (runsR_seg k000 (n:=1000) (hint:=.unit) (keep:=keepS 34 []) (p:=wiR4_p) (boxes:=[]) rfl ?_)
 have e:=wiR4 n
 unfold startS codeS at e
 erw [e]
 unfold wiR4_t
 have hr:0≤u64.wrap n∧u64.wrap n<18446744073709551616:=by rw[u64_df];omega
 have hm:u64.wrap n=n % 18446744073709551616:=u64_df n
 generalize u64.wrap n=m at hr hm ⊢
 have d1:u64.wrap (m.tdiv 256)=m / 256:=by rw[wdN (by omega) (by omega)]
 have d2:u64.wrap ((m / 256).tdiv 256)=m / 65536:=by rw[wdN (by omega) (by omega)];omega
 have d3:u64.wrap ((m / 65536).tdiv 256)=m / 16777216:=by rw[wdN (by omega) (by omega)];omega
 have m0:IntKind.u8.wrap (m.tmod 256)=n / 1 % 256:=by rw[w8N (by omega)];omega
 have m1:IntKind.u8.wrap ((m / 256).tmod 256)=n / 256 % 256:=by rw[w8N (by omega)];omega
 have m2:IntKind.u8.wrap ((m / 65536).tmod 256)=n / 65536 % 256:=by rw[w8N (by omega)];omega
 have m3:IntKind.u8.wrap ((m / 16777216).tmod 256)=n / 16777216 % 256:=by rw[w8N (by omega)];omega
 rw[d1,d2,d3,m0,m1,m2,m3]
 repeat' first
  |exact rfl
  |refine n_req rfl ?_
  |refine n_dec (fun h=>absurd h (by omega)) (fun _=>?_)
  |refine n_not (fun h=>absurd (of_decide_eq_false h) (by omega)) (fun _=>?_)
theorem tkN_lt1(s:List UInt8)(a:Nat):0≤tkN s a 1∧tkN s a 1<256:=by
 have q0:=by_range s a
 simp only[tkN,Nat.add_zero]
 omega
theorem dk1{s:List UInt8}{a:Nat}(h:a+1≤s.length):List.drop a (List.take (a+1) s)=[s.getD a 0] :=by
 rw[List.drop_take,show a+1-a=1 by omega]
 rw[dropsN (show a<s.length by omega)]
 rfl
theorem nk1{s:List UInt8}{a:Nat}(h:a+1≤s.length):numW 0 (List.drop a (List.take (a+1) s))=tkN s a 1:=by
 have q0:=by_range s a
 rw[dk1 h]
 simp only[numW,u64_df,tkN,Nat.add_zero]
 omega
theorem tkN_lt4(s:List UInt8)(a:Nat):0≤tkN s a 4∧tkN s a 4<4294967296:=by
 have q0:=by_range s a
 have q1:=by_range s (a+1)
 have q2:=by_range s (a+2)
 have q3:=by_range s (a+3)
 simp only[tkN,Nat.add_zero]
 omega
theorem dk4{s:List UInt8}{a:Nat}(h:a+4≤s.length):List.drop a (List.take (a+4) s)=[s.getD a 0,s.getD (a+1) 0,s.getD (a+2) 0,s.getD (a+3) 0] :=by
 rw[List.drop_take,show a+4-a=4 by omega]
 rw[dropsN (show a<s.length by omega),dropsN (show a+1<s.length by omega),dropsN (show a+1+1<s.length by omega),dropsN (show a+1+1+1<s.length by omega)]
 rfl
theorem nk4{s:List UInt8}{a:Nat}(h:a+4≤s.length):numW 0 (List.drop a (List.take (a+4) s))=tkN s a 4:=by
 have q0:=by_range s a
 have q1:=by_range s (a+1)
 have q2:=by_range s (a+2)
 have q3:=by_range s (a+3)
 rw[dk4 h]
 simp only[numW,u64_df,tkN,Nat.add_zero]
 omega
theorem tkN_lt6(s:List UInt8)(a:Nat):0≤tkN s a 6∧tkN s a 6<281474976710656:=by
 have q0:=by_range s a
 have q1:=by_range s (a+1)
 have q2:=by_range s (a+2)
 have q3:=by_range s (a+3)
 have q4:=by_range s (a+4)
 have q5:=by_range s (a+5)
 simp only[tkN,Nat.add_zero]
 omega
theorem dk6{s:List UInt8}{a:Nat}(h:a+6≤s.length):List.drop a (List.take (a+6) s)=[s.getD a 0,s.getD (a+1) 0,s.getD (a+2) 0,s.getD (a+3) 0,s.getD (a+4) 0,s.getD (a+5) 0] :=by
 rw[List.drop_take,show a+6-a=6 by omega]
 rw[dropsN (show a<s.length by omega),dropsN (show a+1<s.length by omega),dropsN (show a+1+1<s.length by omega),dropsN (show a+1+1+1<s.length by omega),dropsN (show a+1+1+1+1<s.length by omega),dropsN (show a+1+1+1+1+1<s.length by omega)]
 rfl
theorem nk6{s:List UInt8}{a:Nat}(h:a+6≤s.length):numW 0 (List.drop a (List.take (a+6) s))=tkN s a 6:=by
 have q0:=by_range s a
 have q1:=by_range s (a+1)
 have q2:=by_range s (a+2)
 have q3:=by_range s (a+3)
 have q4:=by_range s (a+4)
 have q5:=by_range s (a+5)
 rw[dk6 h]
 simp only[numW,u64_df,tkN,Nat.add_zero]
 omega
theorem tkP1_eq(s:List UInt8)(a:Nat)(h:a≤100000):tkP1 s (a:Int)=tkN s a 1:=by
 have q0:=by_range s (a+0)
 have k0:(i64.wrap ((a:Int)+0)).toNat=a+0:=by rw[i64x (by omega) (by omega)];omega
 unfold tkP1
 rw[k0]
 rw[orZ q0.1 q0.2]
 have p0:tkN s a 1=((s.getD (a+0) 0).toNat:Int):=by simp only[tkN,Int.zero_mul,Int.zero_add]
 have l0:0≤tkN s a 1∧tkN s a 1<256:=by rw[p0];exact q0
 rw[←p0]
theorem tkP4_eq(s:List UInt8)(a:Nat)(h:a≤100000):tkP4 s (a:Int)=tkN s a 4:=by
 have q0:=by_range s (a+0)
 have k0:(i64.wrap ((a:Int)+0)).toNat=a+0:=by rw[i64x (by omega) (by omega)];omega
 have q1:=by_range s (a+1)
 have k1:(i64.wrap ((a:Int)+1)).toNat=a+1:=by rw[i64x (by omega) (by omega)];omega
 have q2:=by_range s (a+2)
 have k2:(i64.wrap ((a:Int)+2)).toNat=a+2:=by rw[i64x (by omega) (by omega)];omega
 have q3:=by_range s (a+3)
 have k3:(i64.wrap ((a:Int)+3)).toNat=a+3:=by rw[i64x (by omega) (by omega)];omega
 unfold tkP4
 rw[k0,k1,k2,k3]
 rw[orZ q0.1 q0.2]
 have p0:tkN s a 1=((s.getD (a+0) 0).toNat:Int):=by simp only[tkN,Int.zero_mul,Int.zero_add]
 have l0:0≤tkN s a 1∧tkN s a 1<256:=by rw[p0];exact q0
 rw[←p0]
 rw[or256 (x:=tkN s a 1) (b:=((s.getD (a+1) 0).toNat:Int)) (by omega) (by omega) q1.1 q1.2]
 have p1:tkN s a 2=tkN s a 1*256+((s.getD (a+1) 0).toNat:Int):=rfl
 have l1:0≤tkN s a 2∧tkN s a 2<65536:=by omega
 rw[←p1]
 rw[or256 (x:=tkN s a 2) (b:=((s.getD (a+2) 0).toNat:Int)) (by omega) (by omega) q2.1 q2.2]
 have p2:tkN s a 3=tkN s a 2*256+((s.getD (a+2) 0).toNat:Int):=rfl
 have l2:0≤tkN s a 3∧tkN s a 3<16777216:=by omega
 rw[←p2]
 rw[or256 (x:=tkN s a 3) (b:=((s.getD (a+3) 0).toNat:Int)) (by omega) (by omega) q3.1 q3.2]
 have p3:tkN s a 4=tkN s a 3*256+((s.getD (a+3) 0).toNat:Int):=rfl
 have l3:0≤tkN s a 4∧tkN s a 4<4294967296:=by omega
 rw[←p3]
theorem tkP6_eq(s:List UInt8)(a:Nat)(h:a≤100000):tkP6 s (a:Int)=tkN s a 6:=by
 have q0:=by_range s (a+0)
 have k0:(i64.wrap ((a:Int)+0)).toNat=a+0:=by rw[i64x (by omega) (by omega)];omega
 have q1:=by_range s (a+1)
 have k1:(i64.wrap ((a:Int)+1)).toNat=a+1:=by rw[i64x (by omega) (by omega)];omega
 have q2:=by_range s (a+2)
 have k2:(i64.wrap ((a:Int)+2)).toNat=a+2:=by rw[i64x (by omega) (by omega)];omega
 have q3:=by_range s (a+3)
 have k3:(i64.wrap ((a:Int)+3)).toNat=a+3:=by rw[i64x (by omega) (by omega)];omega
 have q4:=by_range s (a+4)
 have k4:(i64.wrap ((a:Int)+4)).toNat=a+4:=by rw[i64x (by omega) (by omega)];omega
 have q5:=by_range s (a+5)
 have k5:(i64.wrap ((a:Int)+5)).toNat=a+5:=by rw[i64x (by omega) (by omega)];omega
 unfold tkP6
 rw[k0,k1,k2,k3,k4,k5]
 rw[orZ q0.1 q0.2]
 have p0:tkN s a 1=((s.getD (a+0) 0).toNat:Int):=by simp only[tkN,Int.zero_mul,Int.zero_add]
 have l0:0≤tkN s a 1∧tkN s a 1<256:=by rw[p0];exact q0
 rw[←p0]
 rw[or256 (x:=tkN s a 1) (b:=((s.getD (a+1) 0).toNat:Int)) (by omega) (by omega) q1.1 q1.2]
 have p1:tkN s a 2=tkN s a 1*256+((s.getD (a+1) 0).toNat:Int):=rfl
 have l1:0≤tkN s a 2∧tkN s a 2<65536:=by omega
 rw[←p1]
 rw[or256 (x:=tkN s a 2) (b:=((s.getD (a+2) 0).toNat:Int)) (by omega) (by omega) q2.1 q2.2]
 have p2:tkN s a 3=tkN s a 2*256+((s.getD (a+2) 0).toNat:Int):=rfl
 have l2:0≤tkN s a 3∧tkN s a 3<16777216:=by omega
 rw[←p2]
 rw[or256 (x:=tkN s a 3) (b:=((s.getD (a+3) 0).toNat:Int)) (by omega) (by omega) q3.1 q3.2]
 have p3:tkN s a 4=tkN s a 3*256+((s.getD (a+3) 0).toNat:Int):=rfl
 have l3:0≤tkN s a 4∧tkN s a 4<4294967296:=by omega
 rw[←p3]
 rw[or256 (x:=tkN s a 4) (b:=((s.getD (a+4) 0).toNat:Int)) (by omega) (by omega) q4.1 q4.2]
 have p4:tkN s a 5=tkN s a 4*256+((s.getD (a+4) 0).toNat:Int):=rfl
 have l4:0≤tkN s a 5∧tkN s a 5<1099511627776:=by omega
 rw[←p4]
 rw[or256 (x:=tkN s a 5) (b:=((s.getD (a+5) 0).toNat:Int)) (by omega) (by omega) q5.1 q5.2]
 have p5:tkN s a 6=tkN s a 5*256+((s.getD (a+5) 0).toNat:Int):=rfl
 have l5:0≤tkN s a 6∧tkN s a 6<281474976710656:=by omega
 rw[←p5]
theorem s_tw1(s:List UInt8)(a:Nat)(h:a+1≤s.length)(hs:s.length≤100000):SCall Tryz.prog 282 [.str s,I64 (a:Int),I64 1] (.tuple [I64 (tk s a 1),I64 ((a+1:Nat):Int),I64 0]):=by
 refine scallR_loops rfl rfl (by kernel_rfl) (runsR_seg k000 (n:=1000) (hint:=.unit) (keep:=keepS 30 []) (p:=tw1_p) (boxes:=[]) rfl ?_)
 have e:=tw1 s (a:Int)
 unfold startS codeS at e
 erw [e]
 unfold tw1_t
 have n0:((a:Int)).toNat=a:=by omega
 have jw:i64.wrap ((a:Int)+1)=((a+1:Nat):Int):=by rw[i64x (by omega) (by omega)];omega
 have jl:i64.wrap ((s.length:Int)-(a:Int))=(s.length:Int)-(a:Int):=i64x (by omega) (by omega)
 have tl:=tkN_lt1 s a
 rw[tk_eq]
 have j0:i64.wrap ((a:Int)+0)=((a+0:Nat):Int):=by rw[i64x (by omega) (by omega)];omega
 have k0:((a+0:Nat):Int).toNat=a+0:=by omega
 have q0:=by_range s (a+0)
 rw[tkP1_eq s a (by omega)]
 rw[j0,jw,jl]
 rw[i64x (x:=tkN s a 1) (by omega) (by omega)]
 exact n_dec (fun h=>absurd h (by omega)) fun _=>n_dec (fun h=>absurd h (by omega)) fun _=>n_dec (fun h=>absurd h (by omega)) fun _=>n_req rfl (n_req (ixB (by omega)) (n_dec (fun h=>absurd h (by omega)) fun _=>rfl))
theorem s_twR1(s:List UInt8)(a:Nat)(h:a+1≤s.length)(hs:s.length≤100000):SCall Tryz.prog 321 [.str s,I64 (a:Int),I64 1] (.tuple [I64 (tk s a 1),I64 ((a+1:Nat):Int),I64 0]):=by
 refine scallR_loops rfl rfl (by kernel_rfl) (runsR_seg kNum (n:=1000) (hint:=.unit) (keep:=keepS 31 []) (p:=twR1_p) (boxes:=[]) rfl ?_)
 have e:=twR1 s (a:Int)
 unfold startS codeS at e
 erw [e]
 unfold twR1_t
 have n0:((a:Int)).toNat=a:=by omega
 have jw:i64.wrap ((a:Int)+1)=((a+1:Nat):Int):=by rw[i64x (by omega) (by omega)];omega
 have jl:i64.wrap ((s.length:Int)-(a:Int))=(s.length:Int)-(a:Int):=i64x (by omega) (by omega)
 have tl:=tkN_lt1 s a
 rw[tk_eq]
 rw[jw,jl,n0,show((a+1:Nat):Int).toNat=a+1 by omega,nk1 h]
 rw[i64x (x:=tkN s a 1) (by omega) (by omega)]
 exact n_dec (fun h=>absurd h (by omega)) fun _=>n_dec (fun h=>absurd h (by omega)) fun _=>n_dec (fun h=>absurd h (by omega)) fun _=>n_req (by simp<;>omega) (n_req (decide_eq_true (by rw[dk1 h];simp)) (n_dec (fun h=>absurd h (by omega)) fun _=>rfl))
theorem s_tw6(s:List UInt8)(a:Nat)(h:a+6≤s.length)(hs:s.length≤100000):SCall Tryz.prog 282 [.str s,I64 (a:Int),I64 6] (.tuple [I64 (tk s a 6),I64 ((a+6:Nat):Int),I64 0]):=by
 refine scallR_loops rfl rfl (by kernel_rfl) (runsR_seg k000 (n:=1000) (hint:=.unit) (keep:=keepS 30 []) (p:=tw6_p) (boxes:=[]) rfl ?_)
 have e:=tw6 s (a:Int)
 unfold startS codeS at e
 erw [e]
 unfold tw6_t
 have n0:((a:Int)).toNat=a:=by omega
 have jw:i64.wrap ((a:Int)+6)=((a+6:Nat):Int):=by rw[i64x (by omega) (by omega)];omega
 have jl:i64.wrap ((s.length:Int)-(a:Int))=(s.length:Int)-(a:Int):=i64x (by omega) (by omega)
 have tl:=tkN_lt6 s a
 rw[tk_eq]
 have j0:i64.wrap ((a:Int)+0)=((a+0:Nat):Int):=by rw[i64x (by omega) (by omega)];omega
 have k0:((a+0:Nat):Int).toNat=a+0:=by omega
 have q0:=by_range s (a+0)
 have j1:i64.wrap ((a:Int)+1)=((a+1:Nat):Int):=by rw[i64x (by omega) (by omega)];omega
 have k1:((a+1:Nat):Int).toNat=a+1:=by omega
 have q1:=by_range s (a+1)
 have j2:i64.wrap ((a:Int)+2)=((a+2:Nat):Int):=by rw[i64x (by omega) (by omega)];omega
 have k2:((a+2:Nat):Int).toNat=a+2:=by omega
 have q2:=by_range s (a+2)
 have j3:i64.wrap ((a:Int)+3)=((a+3:Nat):Int):=by rw[i64x (by omega) (by omega)];omega
 have k3:((a+3:Nat):Int).toNat=a+3:=by omega
 have q3:=by_range s (a+3)
 have j4:i64.wrap ((a:Int)+4)=((a+4:Nat):Int):=by rw[i64x (by omega) (by omega)];omega
 have k4:((a+4:Nat):Int).toNat=a+4:=by omega
 have q4:=by_range s (a+4)
 have j5:i64.wrap ((a:Int)+5)=((a+5:Nat):Int):=by rw[i64x (by omega) (by omega)];omega
 have k5:((a+5:Nat):Int).toNat=a+5:=by omega
 have q5:=by_range s (a+5)
 rw[tkP6_eq s a (by omega)]
 rw[j0,j1,j2,j3,j4,j5,jw,jl]
 rw[i64x (x:=tkN s a 6) (by omega) (by omega)]
 exact n_dec (fun h=>absurd h (by omega)) fun _=>n_dec (fun h=>absurd h (by omega)) fun _=>n_dec (fun h=>absurd h (by omega)) fun _=>n_req rfl (n_req (ixB (by omega)) (n_req rfl (n_req (ixB (by omega)) (n_req rfl (n_req (ixB (by omega)) (n_req rfl (n_req (ixB (by omega)) (n_req rfl (n_req (ixB (by omega)) (n_req rfl (n_req (ixB (by omega)) (n_dec (fun h=>absurd h (by omega)) fun _=>rfl))))))))))))
theorem s_twR6(s:List UInt8)(a:Nat)(h:a+6≤s.length)(hs:s.length≤100000):SCall Tryz.prog 321 [.str s,I64 (a:Int),I64 6] (.tuple [I64 (tk s a 6),I64 ((a+6:Nat):Int),I64 0]):=by
 refine scallR_loops rfl rfl (by kernel_rfl) (runsR_seg kNum (n:=1000) (hint:=.unit) (keep:=keepS 31 []) (p:=twR6_p) (boxes:=[]) rfl ?_)
 have e:=twR6 s (a:Int)
 unfold startS codeS at e
 erw [e]
 unfold twR6_t
 have n0:((a:Int)).toNat=a:=by omega
 have jw:i64.wrap ((a:Int)+6)=((a+6:Nat):Int):=by rw[i64x (by omega) (by omega)];omega
 have jl:i64.wrap ((s.length:Int)-(a:Int))=(s.length:Int)-(a:Int):=i64x (by omega) (by omega)
 have tl:=tkN_lt6 s a
 rw[tk_eq]
 rw[jw,jl,n0,show((a+6:Nat):Int).toNat=a+6 by omega,nk6 h]
 rw[i64x (x:=tkN s a 6) (by omega) (by omega)]
 exact n_dec (fun h=>absurd h (by omega)) fun _=>n_dec (fun h=>absurd h (by omega)) fun _=>n_dec (fun h=>absurd h (by omega)) fun _=>n_req (by simp<;>omega) (n_req (decide_eq_true (by rw[dk6 h];simp)) (n_dec (fun h=>absurd h (by omega)) fun _=>rfl))
theorem s_tw4(s:List UInt8)(a:Nat)(h:a+4≤s.length)(hs:s.length≤100000):SCall Tryz.prog 282 [.str s,I64 (a:Int),I64 4] (.tuple [I64 (tk s a 4),I64 ((a+4:Nat):Int),I64 0]):=by
 refine scallR_loops rfl rfl (by kernel_rfl) (runsR_seg k000 (n:=1000) (hint:=.unit) (keep:=keepS 30 []) (p:=tw4_p) (boxes:=[]) rfl ?_)
 have e:=tw4 s (a:Int)
 unfold startS codeS at e
 erw [e]
 unfold tw4_t
 have n0:((a:Int)).toNat=a:=by omega
 have jw:i64.wrap ((a:Int)+4)=((a+4:Nat):Int):=by rw[i64x (by omega) (by omega)];omega
 have jl:i64.wrap ((s.length:Int)-(a:Int))=(s.length:Int)-(a:Int):=i64x (by omega) (by omega)
 have tl:=tkN_lt4 s a
 rw[tk_eq]
 have j0:i64.wrap ((a:Int)+0)=((a+0:Nat):Int):=by rw[i64x (by omega) (by omega)];omega
 have k0:((a+0:Nat):Int).toNat=a+0:=by omega
 have q0:=by_range s (a+0)
 have j1:i64.wrap ((a:Int)+1)=((a+1:Nat):Int):=by rw[i64x (by omega) (by omega)];omega
 have k1:((a+1:Nat):Int).toNat=a+1:=by omega
 have q1:=by_range s (a+1)
 have j2:i64.wrap ((a:Int)+2)=((a+2:Nat):Int):=by rw[i64x (by omega) (by omega)];omega
 have k2:((a+2:Nat):Int).toNat=a+2:=by omega
 have q2:=by_range s (a+2)
 have j3:i64.wrap ((a:Int)+3)=((a+3:Nat):Int):=by rw[i64x (by omega) (by omega)];omega
 have k3:((a+3:Nat):Int).toNat=a+3:=by omega
 have q3:=by_range s (a+3)
 rw[tkP4_eq s a (by omega)]
 rw[j0,j1,j2,j3,jw,jl]
 rw[i64x (x:=tkN s a 4) (by omega) (by omega)]
 exact n_dec (fun h=>absurd h (by omega)) fun _=>n_dec (fun h=>absurd h (by omega)) fun _=>n_dec (fun h=>absurd h (by omega)) fun _=>n_req rfl (n_req (ixB (by omega)) (n_req rfl (n_req (ixB (by omega)) (n_req rfl (n_req (ixB (by omega)) (n_req rfl (n_req (ixB (by omega)) (n_dec (fun h=>absurd h (by omega)) fun _=>rfl))))))))
theorem s_twR4(s:List UInt8)(a:Nat)(h:a+4≤s.length)(hs:s.length≤100000):SCall Tryz.prog 321 [.str s,I64 (a:Int),I64 4] (.tuple [I64 (tk s a 4),I64 ((a+4:Nat):Int),I64 0]):=by
 refine scallR_loops rfl rfl (by kernel_rfl) (runsR_seg kNum (n:=1000) (hint:=.unit) (keep:=keepS 31 []) (p:=twR4_p) (boxes:=[]) rfl ?_)
 have e:=twR4 s (a:Int)
 unfold startS codeS at e
 erw [e]
 unfold twR4_t
 have n0:((a:Int)).toNat=a:=by omega
 have jw:i64.wrap ((a:Int)+4)=((a+4:Nat):Int):=by rw[i64x (by omega) (by omega)];omega
 have jl:i64.wrap ((s.length:Int)-(a:Int))=(s.length:Int)-(a:Int):=i64x (by omega) (by omega)
 have tl:=tkN_lt4 s a
 rw[tk_eq]
 rw[jw,jl,n0,show((a+4:Nat):Int).toNat=a+4 by omega,nk4 h]
 rw[i64x (x:=tkN s a 4) (by omega) (by omega)]
 exact n_dec (fun h=>absurd h (by omega)) fun _=>n_dec (fun h=>absurd h (by omega)) fun _=>n_dec (fun h=>absurd h (by omega)) fun _=>n_req (by simp<;>omega) (n_req (decide_eq_true (by rw[dk4 h];simp)) (n_dec (fun h=>absurd h (by omega)) fun _=>rfl))
theorem s_ti4(s:List UInt8)(a:Nat)(h:a+4≤s.length)(hs:s.length≤100000):SCall Tryz.prog 284 [.str s,I64 (a:Int),I64 4] (.tuple [I64 (sg (tk s a 4)),I64 ((a+4:Nat):Int),I64 0]):=by
 refine scallR_loops rfl rfl (by kernel_rfl) (runsR_seg k000 (n:=1000) (hint:=.unit) (keep:=keepS 34 []) (p:=ti4_p) (boxes:=[]) rfl ?_)
 have e:=ti4 s (a:Int)
 unfold startS codeS at e
 erw [e]
 unfold ti4_t
 have n0:((a:Int)).toNat=a:=by omega
 have jw:i64.wrap ((a:Int)+4)=((a+4:Nat):Int):=by rw[i64x (by omega) (by omega)];omega
 have jl:i64.wrap ((s.length:Int)-(a:Int))=(s.length:Int)-(a:Int):=i64x (by omega) (by omega)
 have tl:=tkN_lt4 s a
 rw[tk_eq]
 have j0:i64.wrap ((a:Int)+0)=((a+0:Nat):Int):=by rw[i64x (by omega) (by omega)];omega
 have k0:((a+0:Nat):Int).toNat=a+0:=by omega
 have q0:=by_range s (a+0)
 have j1:i64.wrap ((a:Int)+1)=((a+1:Nat):Int):=by rw[i64x (by omega) (by omega)];omega
 have k1:((a+1:Nat):Int).toNat=a+1:=by omega
 have q1:=by_range s (a+1)
 have j2:i64.wrap ((a:Int)+2)=((a+2:Nat):Int):=by rw[i64x (by omega) (by omega)];omega
 have k2:((a+2:Nat):Int).toNat=a+2:=by omega
 have q2:=by_range s (a+2)
 have j3:i64.wrap ((a:Int)+3)=((a+3:Nat):Int):=by rw[i64x (by omega) (by omega)];omega
 have k3:((a+3:Nat):Int).toNat=a+3:=by omega
 have q3:=by_range s (a+3)
 rw[tkP4_eq s a (by omega)]
 rw[j0,j1,j2,j3,jw,jl]
 rw[sg_shift tl.1 tl.2]
 exact n_dec (fun h=>absurd h (by omega)) fun _=>n_dec (fun h=>absurd h (by omega)) fun _=>n_dec (fun h=>absurd h (by omega)) fun _=>n_req rfl (n_req (ixB (by omega)) (n_req rfl (n_req (ixB (by omega)) (n_req rfl (n_req (ixB (by omega)) (n_req rfl (n_req (ixB (by omega)) (n_req rfl (n_req rfl rfl)))))))))
theorem s_tiR4(s:List UInt8)(a:Nat)(h:a+4≤s.length)(hs:s.length≤100000):SCall Tryz.prog 322 [.str s,I64 (a:Int),I64 4] (.tuple [I64 (sg (tk s a 4)),I64 ((a+4:Nat):Int),I64 0]):=by
 refine scallR_loops rfl rfl (by kernel_rfl) (runsR_seg kNum (n:=1000) (hint:=.unit) (keep:=keepS 46 []) (p:=tiR4_p) (boxes:=[]) rfl ?_)
 have e:=tiR4 s (a:Int)
 unfold startS codeS at e
 erw [e]
 unfold tiR4_t
 have n0:((a:Int)).toNat=a:=by omega
 have jw:i64.wrap ((a:Int)+4)=((a+4:Nat):Int):=by rw[i64x (by omega) (by omega)];omega
 have jl:i64.wrap ((s.length:Int)-(a:Int))=(s.length:Int)-(a:Int):=i64x (by omega) (by omega)
 have tl:=tkN_lt4 s a
 rw[tk_eq]
 rw[jw,jl,n0,show((a+4:Nat):Int).toNat=a+4 by omega,nk4 h]
 rw[dk4 h,i64x (x:=tkN s a 4) (by omega) (by omega),i64x (x:=tkN s a 4-4294967296) (by omega) (by omega)]
 have q0:=by_range s a
 have q1:=by_range s (a+1)
 have q2:=by_range s (a+2)
 have q3:=by_range s (a+3)
 have hb:((s.getD a 0).toNat:Int)≥128↔¬tkN s a 4<2147483648:=by simp only[tkN,Nat.add_zero];omega
 refine n_dec (fun h=>absurd h (by omega)) (fun _=>n_dec (fun h=>absurd h (by omega)) (fun _=>n_dec (fun h=>absurd h (by omega)) (fun _=>?_)))
 refine n_req (by simp<;>omega) (n_req (decide_eq_true (by simp<;>omega)) (n_req (by simp) (n_dec (fun h=>?_) fun h=>?_)))
 ·have h:¬tkN s a 4<2147483648:=hb.1 h
  refine n_req rfl ?_
  rw[show sg (tkN s a 4)=tkN s a 4-4294967296 from if_neg h];rfl
 ·have h:tkN s a 4<2147483648:=by
   rcases Int.lt_or_le (tkN s a 4) 2147483648 with h'|h'
   ·exact h'
   ·exact absurd (hb.2 (by omega)) h
  rw[show sg (tkN s a 4)=tkN s a 4 from if_pos h];rfl
structure Rc where
 kind:Int
 seq:Int
 line:Int
 done:Int
 src:V4
 dst:V4
def Rc.cells(r:Rc):List SV:=[I64 r.kind,I64 r.seq,I64 r.line,I64 r.done,I64 r.src.1,I64 r.src.2.1,I64 r.src.2.2.1,I64 r.src.2.2.2,I64 r.dst.1,I64 r.dst.2.1,I64 r.dst.2.2.1,I64 r.dst.2.2.2]
def Rc.sv(r:Rc):SV:=.agg r.cells
def in32(c:V4):Bool:=inR c.1 (-2147483648) 2147483647&& (inR c.2.1 (-2147483648) 2147483647&& (inR c.2.2.1 (-2147483648) 2147483647&&inR c.2.2.2 (-2147483648) 2147483647))
def rcB(r:Rc):Bool:=inR r.kind 1 3&& (inR r.seq 1 1099511627776&& (inR r.line 0 1099511627776&& (inR r.done 0 16777216&& (in32 r.src&&in32 r.dst))))
theorem rcB_iff{r:Rc}:rcB r=true↔(1≤r.kind∧r.kind≤3)∧(1≤r.seq∧r.seq≤1099511627776)∧(0≤r.line∧r.line≤1099511627776)∧(0≤r.done∧r.done≤16777216)∧((-2147483648≤r.src.1∧r.src.1≤2147483647)∧(-2147483648≤r.src.2.1∧r.src.2.1≤2147483647)∧(-2147483648≤r.src.2.2.1∧r.src.2.2.1≤2147483647)∧-2147483648≤r.src.2.2.2∧r.src.2.2.2≤2147483647)∧(-2147483648≤r.dst.1∧r.dst.1≤2147483647)∧(-2147483648≤r.dst.2.1∧r.dst.2.1≤2147483647)∧(-2147483648≤r.dst.2.2.1∧r.dst.2.2.1≤2147483647)∧-2147483648≤r.dst.2.2.2∧r.dst.2.2.2≤2147483647:=by
 simp only[rcB,in32,Bool.and_eq_true,inR_iff]
theorem s_rcB(r:Rc):SCall Tryz.prog 296 [r.sv] (.bool (rcB r)):=
 scall_v mix [] trivial 1000 (.fork (.ln 27 (.lit .all)) (.ln 3 (.fork (.ln 23 (.lit .all)) (.ln 3 (.fork (.ln 19 (.lit .all)) (.ln 3 (.fork (.ln 15 (.lit .all)) (.ln 3 (.fork (.ln 11 (.lit .all)) (.ln 3 (.fork (.ln 7 (.lit .all)) (.ln 3 (.fork (.ln 3 (.lit .all)) (.ln 3 (.fork .all (.go (.lit (.go (.lit (.fork (.lit (.lit (.lit .all))) (.lit (.lit (.fork .all (.go (.lit (.fork (.lit (.lit (.lit .all))) (.lit (.lit (.fork .all (.go (.lit (.fork (.lit (.lit (.lit .all))) (.lit (.lit (.fork .all (.go (.lit (.fork (.lit (.lit (.lit .all))) (.lit (.lit (.fork .all (.go (.lit (.go (.lit (.go (.lit (.fork (.lit (.lit (.lit .all))) (.lit (.lit (.fork .all (.go (.lit (.fork (.lit (.lit (.lit .all))) (.lit (.lit (.fork .all (.go (.lit (.fork (.lit (.lit (.lit .all))) (.lit (.lit (.fork .all (.go (.lit (.fork (.lit (.lit (.lit .all))) (.lit (.lit (.fork .all (.go (.lit (.go (.lit .all)))))))))))))))))))))))))))))))))))))))))))))))))))))))))))))))))))))))))
  (t:=let y0:Tree SV:=.leaf (.bool false);.node (decide (r.kind<1)) y0 (.node (decide (r.kind>3)) y0 (.node (decide (r.seq<1)) y0 (.node (decide (r.seq>1099511627776)) y0 (.node (decide (r.line<0)) y0 (.node (decide (r.line>1099511627776)) y0 (.node (decide (r.done<0)) y0 (.node (decide (r.done>16777216)) y0 (.req true (.req (true) (.node (decide (r.src.1 < -2147483648)) y0 (.node (decide (r.src.1≥2147483648)) y0 (.req true (.node (decide (r.src.2.1 < -2147483648)) y0 (.node (decide (r.src.2.1≥2147483648)) y0 (.req true (.node (decide (r.src.2.2.1 < -2147483648)) y0 (.node (decide (r.src.2.2.1≥2147483648)) y0 (.req true (.node (decide (r.src.2.2.2 < -2147483648)) y0 (.node (decide (r.src.2.2.2≥2147483648)) y0 (.req true (.req (true) (.node (decide (r.dst.1 < -2147483648)) y0 (.node (decide (r.dst.1≥2147483648)) y0 (.req true (.node (decide (r.dst.2.1 < -2147483648)) y0 (.node (decide (r.dst.2.1≥2147483648)) y0 (.req true (.node (decide (r.dst.2.2.1 < -2147483648)) y0 (.node (decide (r.dst.2.2.1≥2147483648)) y0 (.req true (.node (decide (r.dst.2.2.2 < -2147483648)) y0 (.node (decide (r.dst.2.2.2≥2147483648)) y0 (.leaf (.bool true))))))))))))))))))))))))))))))))))))
  (by kernel_rfl) (by
   have q:∀b:Bool,(b=true↔rcB r=true)→SV.bool b=SV.bool (rcB r):=fun b h=>by rw[Bool.eq_iff_iff.2 h]
   repeat' first|refine n_dec (fun _=>?_) (fun _=>?_)|refine n_req rfl ?_|refine q _ ?_
   all_goals(rw[rcB_iff];simp only[decide_eq_true_eq,Bool.false_eq_true,false_iff,true_iff];omega)) (by kernel_rfl) (by kernel_rfl)
theorem s_rcBR(r:Rc):SCall Tryz.prog 250 [r.sv] (.bool (rcB r)):=
 scall_v mix [] trivial 1000 (.fork (.ln 3 (.fork (.ln 3 (.fork (.ln 3 (.fork (.ln 3 (.fork (.ln 3 (.fork (.ln 3 (.fork (.ln 3 (.fork (.lit (.lit (.go (.lit (.fork (.ln 9 (.lit .all)) (.ln 4 (.fork (.ln 4 (.lit .all)) (.go (.lit (.fork (.ln 9 (.lit .all)) (.ln 4 (.fork (.ln 4 (.lit .all)) (.go (.lit (.fork (.ln 9 (.lit .all)) (.ln 4 (.fork (.ln 4 (.lit .all)) (.go (.lit (.fork (.ln 9 (.lit .all)) (.ln 4 (.fork (.ln 4 (.lit .all)) (.go (.ln 5 (.go (.lit (.fork (.ln 5 (.lit .all)) (.ln 4 (.fork (.lit .all) (.go (.lit (.fork (.ln 5 (.lit .all)) (.ln 4 (.fork (.lit .all) (.go (.lit (.fork (.ln 5 (.lit .all)) (.ln 4 (.fork (.lit .all) (.go (.lit (.fork (.ln 5 (.lit .all)) (.ln 4 (.fork (.lit .all) (.go (.lit (.lit .all))))))))))))))))))))))))))))))))))))))))))))))) (.ln 6 (.lit .all)))) (.ln 10 (.lit .all)))) (.ln 14 (.lit .all)))) (.ln 18 (.lit .all)))) (.ln 22 (.lit .all)))) (.ln 26 (.lit .all)))) (.ln 30 (.lit .all)))) (.ln 34 (.lit .all)))
  (t:=let y0:Tree SV:=.leaf (.bool false);.node (decide (r.kind≥1)) (.node (decide (r.kind≤3)) (.node (decide (r.seq≥1)) (.node (decide (r.seq≤1099511627776)) (.node (decide (r.line≥0)) (.node (decide (r.line≤1099511627776)) (.node (decide (r.done≥0)) (.node (decide (r.done≤16777216)) (.req true (.node (decide (r.src.1 < -2147483648)) y0 (.req true (.node (decide (r.src.1≥2147483648)) y0 (.req true (.node (decide (r.src.2.1 < -2147483648)) y0 (.req true (.node (decide (r.src.2.1≥2147483648)) y0 (.req true (.node (decide (r.src.2.2.1 < -2147483648)) y0 (.req true (.node (decide (r.src.2.2.1≥2147483648)) y0 (.req true (.node (decide (r.src.2.2.2 < -2147483648)) y0 (.req true (.node (decide (r.src.2.2.2≥2147483648)) y0 (.req true (.node (decide (r.dst.1 < -2147483648)) y0 (.req true (.node (decide (r.dst.1≥2147483648)) y0 (.req true (.node (decide (r.dst.2.1 < -2147483648)) y0 (.req true (.node (decide (r.dst.2.1≥2147483648)) y0 (.req true (.node (decide (r.dst.2.2.1 < -2147483648)) y0 (.req true (.node (decide (r.dst.2.2.1≥2147483648)) y0 (.req true (.node (decide (r.dst.2.2.2 < -2147483648)) y0 (.req true (.node (decide (r.dst.2.2.2≥2147483648)) y0 (.leaf (.bool true)))))))))))))))))))))))))))))))))) y0) y0) y0) y0) y0) y0) y0) y0)
  (by kernel_rfl) (by
   have q:∀b:Bool,(b=true↔rcB r=true)→SV.bool b=SV.bool (rcB r):=fun b h=>by rw[Bool.eq_iff_iff.2 h]
   repeat' first|refine n_dec (fun _=>?_) (fun _=>?_)|refine n_req rfl ?_|refine q _ ?_
   all_goals(rw[rcB_iff];simp only[decide_eq_true_eq,Bool.false_eq_true,false_iff,true_iff];omega)) (by kernel_rfl) (by kernel_rfl)
def fCrcF(f:FuncId):Fact:=factS f fun s=>.req (decide (s.length≤100000)) (.leaf (I64 (crc s)))
def fCrc:Fact:=fCrcF 300
theorem o_crc:fCrc.ok Tryz.prog:=factS_ok fun s h=>s_crc s (by have:=of_decide_eq_true h;omega)
def fCrcR:Fact:=fCrcF 254
theorem o_crcR:fCrcR.ok Tryz.prog:=factS_ok fun s h=>s_crcR s (by have:=of_decide_eq_true h;omega)
def factRc(f:FuncId)(h:Rc→Tree SV):Fact:=⟨f,fun args=>match args with
 |[.agg [.int .i64 a,.int .i64 b,.int .i64 c,.int .i64 d,.int .i64 p0,.int .i64 p1,.int .i64 p2,.int .i64 p3,.int .i64 q0,.int .i64 q1,.int .i64 q2,.int .i64 q3]] =>some (h ⟨a,b,c,d,(p0,p1,p2,p3),(q0,q1,q2,q3)⟩)
 |_=>none⟩
theorem factRc_ok{P:Program}{f:FuncId}{h:Rc→Tree SV}(k:∀c,(h c).says (SCall P f [c.sv])):(factRc f h).ok P:=fun args t ht=>by
 simp only[factRc]at ht
 split at ht
 ·injection ht with ht;subst ht;exact k ⟨_,_,_,_,(_,_,_,_),(_,_,_,_)⟩
 ·cases ht
def fRcB:Fact:=factRc 296 fun r=>.leaf (.bool (rcB r))
theorem o_rcB:fRcB.ok Tryz.prog:=factRc_ok s_rcB
def fRcBR:Fact:=factRc 250 fun r=>.leaf (.bool (rcB r))
theorem o_rcBR:fRcBR.ok Tryz.prog:=factRc_ok s_rcBR
def fUiF(f:FuncId):Fact:=⟨f,fun args=>match args with
 |[.int .i64 n,.int .i64 k] =>match k==6 with
  |true=>some (.req (inR n 0 281474976710655) (.leaf (.tuple [.str (beN n 6),I64 0])))
  |false=>match k==1 with
   |true=>some (.req (inR n 0 255) (.leaf (.tuple [.str (beN n 1),I64 0])))
   |false=>match k==4 with
    |true=>some (.req (inR n 0 4294967295) (.leaf (.tuple [.str (beN n 4),I64 0])))
    |false=>match k==2 with
     |true=>some (.req (inR n 0 65535) (.leaf (.tuple [.str (beN n 2),I64 0])))
     |false=>none
 |_=>none⟩
def fIiF(f:FuncId):Fact:=⟨f,fun args=>match args with
 |[.int .i64 n,.int .i64 k] =>match k==4 with
  |true=>some (.req (inR n (-2147483648) 2147483647) (.leaf (.tuple [.str (beN n 4),I64 0])))
  |false=>none
 |_=>none⟩
def fTuF(f:FuncId):Fact:=⟨f,fun args=>match args with
 |[.str s,.int .i64 a,.int .i64 k] =>match k==6 with
  |true=>some (.req (decide (0≤a)&& (decide (a+6≤(s.length:Int))&&decide (s.length≤100000))) (.leaf (.tuple [I64 (tk s a.toNat 6),I64 (a+6),I64 0])))
  |false=>match k==1 with
   |true=>some (.req (decide (0≤a)&& (decide (a+1≤(s.length:Int))&&decide (s.length≤100000))) (.leaf (.tuple [I64 (tk s a.toNat 1),I64 (a+1),I64 0])))
   |false=>match k==4 with
    |true=>some (.req (decide (0≤a)&& (decide (a+4≤(s.length:Int))&&decide (s.length≤100000))) (.leaf (.tuple [I64 (tk s a.toNat 4),I64 (a+4),I64 0])))
    |false=>none
 |_=>none⟩
def fTiF(f:FuncId):Fact:=⟨f,fun args=>match args with
 |[.str s,.int .i64 a,.int .i64 k] =>match k==4 with
  |true=>some (.req (decide (0≤a)&& (decide (a+4≤(s.length:Int))&&decide (s.length≤100000))) (.leaf (.tuple [I64 (sg (tk s a.toNat 4)),I64 (a+4),I64 0])))
  |false=>none
 |_=>none⟩
theorem fUiF_ok{f:FuncId}(h6:∀n,0≤n→n<281474976710656→SCall Tryz.prog f [I64 n,I64 6] (.tuple [.str (beN n 6),I64 0]))(h1:∀n,0≤n→n<256→SCall Tryz.prog f [I64 n,I64 1] (.tuple [.str (beN n 1),I64 0]))(h4:∀n,0≤n→n<4294967296→SCall Tryz.prog f [I64 n,I64 4] (.tuple [.str (beN n 4),I64 0]))(h2:∀n,0≤n→n<65536→SCall Tryz.prog f [I64 n,I64 2] (.tuple [.str (beN n 2),I64 0])):(fUiF f).ok Tryz.prog:=fun args t ht=>by
 simp only[fUiF]at ht
 split at ht
 ·rename_i n k
  by_cases e6:k=6
  ·subst e6
   simp at ht;subst ht
   intro h
   exact h6 _ (inR_iff.1 h).1 (by have:=(inR_iff.1 h).2;omega)
  ·skip
   by_cases e1:k=1
   ·subst e1
    simp at ht;subst ht
    intro h
    exact h1 _ (inR_iff.1 h).1 (by have:=(inR_iff.1 h).2;omega)
   ·skip
    by_cases e4:k=4
    ·subst e4
     simp at ht;subst ht
     intro h
     exact h4 _ (inR_iff.1 h).1 (by have:=(inR_iff.1 h).2;omega)
    ·skip
     by_cases e2:k=2
     ·subst e2
      simp at ht;subst ht
      intro h
      exact h2 _ (inR_iff.1 h).1 (by have:=(inR_iff.1 h).2;omega)
     ·simp[show(k==6)=false from beq_eq_false_iff_ne.2 e6,show(k==1)=false from beq_eq_false_iff_ne.2 e1,show(k==4)=false from beq_eq_false_iff_ne.2 e4,show(k==2)=false from beq_eq_false_iff_ne.2 e2]at ht
 ·cases ht
theorem fIiF_ok{f:FuncId}(h4:∀n,-2147483648≤n→n<2147483648→SCall Tryz.prog f [I64 n,I64 4] (.tuple [.str (beN n 4),I64 0])):(fIiF f).ok Tryz.prog:=fun args t ht=>by
 simp only[fIiF]at ht
 split at ht
 ·rename_i n k
  by_cases e4:k=4
  ·subst e4
   simp at ht;subst ht
   intro h
   exact h4 _ (inR_iff.1 h).1 (by have:=(inR_iff.1 h).2;omega)
  ·simp[show(k==4)=false from beq_eq_false_iff_ne.2 e4]at ht
 ·cases ht
theorem fTuF_ok{f:FuncId}(h6:∀ (s:List UInt8) (a:Nat),a+6≤s.length→s.length≤100000→SCall Tryz.prog f [.str s,I64 (a:Int),I64 6] (.tuple [I64 (tk s a 6),I64 ((a+6:Nat):Int),I64 0]))(h1:∀ (s:List UInt8) (a:Nat),a+1≤s.length→s.length≤100000→SCall Tryz.prog f [.str s,I64 (a:Int),I64 1] (.tuple [I64 (tk s a 1),I64 ((a+1:Nat):Int),I64 0]))(h4:∀ (s:List UInt8) (a:Nat),a+4≤s.length→s.length≤100000→SCall Tryz.prog f [.str s,I64 (a:Int),I64 4] (.tuple [I64 (tk s a 4),I64 ((a+4:Nat):Int),I64 0])):(fTuF f).ok Tryz.prog:=fun args t ht=>by
 simp only[fTuF]at ht
 split at ht
 ·rename_i s a k
  by_cases e6:k=6
  ·subst e6
   simp at ht;subst ht
   intro h
   simp only[Bool.and_eq_true,decide_eq_true_eq]at h
   obtain⟨m,rfl⟩:=Int.eq_ofNat_of_zero_le h.1
   have q:=h6 s m (by omega) h.2.2
   exact q
  ·skip
   by_cases e1:k=1
   ·subst e1
    simp at ht;subst ht
    intro h
    simp only[Bool.and_eq_true,decide_eq_true_eq]at h
    obtain⟨m,rfl⟩:=Int.eq_ofNat_of_zero_le h.1
    have q:=h1 s m (by omega) h.2.2
    exact q
   ·skip
    by_cases e4:k=4
    ·subst e4
     simp at ht;subst ht
     intro h
     simp only[Bool.and_eq_true,decide_eq_true_eq]at h
     obtain⟨m,rfl⟩:=Int.eq_ofNat_of_zero_le h.1
     have q:=h4 s m (by omega) h.2.2
     exact q
    ·simp[show(k==6)=false from beq_eq_false_iff_ne.2 e6,show(k==1)=false from beq_eq_false_iff_ne.2 e1,show(k==4)=false from beq_eq_false_iff_ne.2 e4]at ht
 ·cases ht
theorem fTiF_ok{f:FuncId}(h4:∀ (s:List UInt8) (a:Nat),a+4≤s.length→s.length≤100000→SCall Tryz.prog f [.str s,I64 (a:Int),I64 4] (.tuple [I64 (sg (tk s a 4)),I64 ((a+4:Nat):Int),I64 0])):(fTiF f).ok Tryz.prog:=fun args t ht=>by
 simp only[fTiF]at ht
 split at ht
 ·rename_i s a k
  by_cases e4:k=4
  ·subst e4
   simp at ht;subst ht
   intro h
   simp only[Bool.and_eq_true,decide_eq_true_eq]at h
   obtain⟨m,rfl⟩:=Int.eq_ofNat_of_zero_le h.1
   have q:=h4 s m (by omega) h.2.2
   exact q
  ·simp[show(k==4)=false from beq_eq_false_iff_ne.2 e4]at ht
 ·cases ht
def fUi:Fact:=fUiF 298
theorem o_ui:fUi.ok Tryz.prog:=fUiF_ok s_wu6 s_wu1 s_wu4 s_wu2
def fIi:Fact:=fIiF 299
theorem o_ii:fIi.ok Tryz.prog:=fIiF_ok s_wi4
def fTu:Fact:=fTuF 282
theorem o_tu:fTu.ok Tryz.prog:=fTuF_ok s_tw6 s_tw1 s_tw4
def fTi:Fact:=fTiF 284
theorem o_ti:fTi.ok Tryz.prog:=fTiF_ok s_ti4
def fUiR:Fact:=fUiF 279
theorem o_uiR:fUiR.ok Tryz.prog:=fUiF_ok s_wuR6 s_wuR1 s_wuR4 s_wuR2
def fIiR:Fact:=fIiF 280
theorem o_iiR:fIiR.ok Tryz.prog:=fIiF_ok s_wiR4
def fTuR:Fact:=fTuF 321
theorem o_tuR:fTuR.ok Tryz.prog:=fTuF_ok s_twR6 s_twR1 s_twR4
def fTiR:Fact:=fTiF 322
theorem o_tiR:fTiR.ok Tryz.prog:=fTiF_ok s_tiR4
def padS(s:List UInt8)(n:Int):List UInt8:=s++List.replicate (n-s.length).toNat 0
theorem s_padR(s:List UInt8)(n:Int)(h:(s.length:Int)≤n)(hn:n≤65536):SCall Tryz.prog 253 [.str s,I64 n] (.tuple [.str (padS s n),I64 0]):=by
 refine scallR_loops rfl rfl (by kernel_rfl) (runsR_seg k000 (n:=1000) (hint:=.unit) (keep:=keepS 24 []) (p:=padR_p) (boxes:=[]) rfl ?_)
 have e:=padR s n
 unfold startS codeS at e
 erw [e]
 unfold padR_t
 have j:i64.wrap (n-(s.length:Int))=n-(s.length:Int):=w64 (by omega) (by omega)
 have z:(List.map (fun n=>UInt8.ofNat (Int.toNat n)) (List.replicate (n-(s.length:Int)).toNat (0:Int)))=List.replicate (n-(s.length:Int)).toNat 0:=by
  rw[List.map_replicate];rfl
 rw[j,z]
 refine n_dec (fun h=>absurd h (by omega)) fun _=>n_dec (fun h=>absurd h (by omega)) fun _=>n_dec (fun h=>absurd h (by omega)) fun _=>n_req ?_ (n_req (decide_eq_true ?_) rfl)
 ·simp;omega
 ·rw[List.length_replicate];omega
def encS(r:Rc):List UInt8:=beN r.seq 6++beN r.kind 1++beN r.line 6++beN r.done 4++(beN r.src.1 4++beN r.src.2.1 4++beN r.src.2.2.1 4++beN r.src.2.2.2 4)++(beN r.dst.1 4++beN r.dst.2.1 4++beN r.dst.2.2.1 4++beN r.dst.2.2.2 4)
def enc(r:Rc):List UInt8:=padS (encS r++beN (crc (encS r)) 2) 58++beN r.seq 6
theorem encS_len(r:Rc):(encS r).length=49:=by simp only[encS,List.length_append,beN_len]
theorem enc_len(r:Rc):(enc r).length=64:=by
 simp only[enc,padS,List.length_append,beN_len,encS_len,List.length_replicate];omega
def fPadR:Fact:=⟨253,fun args=>match args with
 |[.str s,.int .i64 n] =>some (.req (decide ((s.length:Int)≤n)&&decide (n≤65536)) (.leaf (.tuple [.str (padS s n),I64 0])))
 |_=>none⟩
theorem o_padR:fPadR.ok Tryz.prog:=fun args t ht=>by
 simp only[fPadR]at ht
 split at ht
 ·injection ht with ht;subst ht
  intro h
  simp only[Bool.and_eq_true,decide_eq_true_eq]at h
  exact s_padR _ _ h.1 h.2
 ·cases ht
theorem s_unR6(n:Int)(h:inR n 0 281474976710655=true):SCall Tryz.prog 251 [I64 n,I64 6] (.str (beN n 6)):=
 scall_v mix [fUiR] ⟨o_uiR,trivial⟩ 1000 (.all)
  (t:=.req (inR n 0 281474976710655) (.leaf (SV.str (beN n 6))))
  (by kernel_rfl) (by exact n_req h rfl) (by kernel_rfl) (by kernel_rfl)
theorem s_unR1(n:Int)(h:inR n 0 255=true):SCall Tryz.prog 251 [I64 n,I64 1] (.str (beN n 1)):=
 scall_v mix [fUiR] ⟨o_uiR,trivial⟩ 1000 (.all)
  (t:=.req (inR n 0 255) (.leaf (SV.str (beN n 1))))
  (by kernel_rfl) (by exact n_req h rfl) (by kernel_rfl) (by kernel_rfl)
theorem s_unR4(n:Int)(h:inR n 0 4294967295=true):SCall Tryz.prog 251 [I64 n,I64 4] (.str (beN n 4)):=
 scall_v mix [fUiR] ⟨o_uiR,trivial⟩ 1000 (.all)
  (t:=.req (inR n 0 4294967295) (.leaf (SV.str (beN n 4))))
  (by kernel_rfl) (by exact n_req h rfl) (by kernel_rfl) (by kernel_rfl)
theorem s_unR2(n:Int)(h:inR n 0 65535=true):SCall Tryz.prog 251 [I64 n,I64 2] (.str (beN n 2)):=
 scall_v mix [fUiR] ⟨o_uiR,trivial⟩ 1000 (.all)
  (t:=.req (inR n 0 65535) (.leaf (SV.str (beN n 2))))
  (by kernel_rfl) (by exact n_req h rfl) (by kernel_rfl) (by kernel_rfl)
theorem s_posn(c:V4)(h:in32 c=true):SCall Tryz.prog 252 [V4.sv c] (.str (beN c.1 4++beN c.2.1 4++beN c.2.2.1 4++beN c.2.2.2 4)):=
 scall_v mix [fIiR] ⟨o_iiR,trivial⟩ 1000 (.go (.lit (.go (.lit (.go (.lit (.go (.lit (.go (.lit (.all)))))))))))
  (t:=.req (true) (.req (inR c.1 (-2147483648) 2147483647) (.req (decide (((0+(beN c.1 4).length:Nat):Int)≤(9223372036854775807:Int))) (.req true (.req (inR c.2.1 (-2147483648) 2147483647) (.req (decide ((((beN c.1 4).length+(beN c.2.1 4).length:Nat):Int)≤(9223372036854775807:Int))) (.req true (.req (inR c.2.2.1 (-2147483648) 2147483647) (.req (decide ((((beN c.1 4++beN c.2.1 4).length+(beN c.2.2.1 4).length:Nat):Int)≤(9223372036854775807:Int))) (.req true (.req (inR c.2.2.2 (-2147483648) 2147483647) (.req (decide ((((beN c.1 4++beN c.2.1 4++beN c.2.2.1 4).length+(beN c.2.2.2 4).length:Nat):Int)≤(9223372036854775807:Int))) (.leaf (SV.str (beN c.1 4++beN c.2.1 4++beN c.2.2.1 4++beN c.2.2.2 4)))))))))))))))
  (by kernel_rfl) (by
   simp only[in32,Bool.and_eq_true]at h
   exact n_req rfl (n_req h.1 (n_req (decide_eq_true (by simp[beN_len])) (n_req rfl (n_req h.2.1 (n_req (decide_eq_true (by simp[beN_len])) (n_req rfl (n_req h.2.2.1 (n_req (decide_eq_true (by simp[beN_len])) (n_req rfl (n_req h.2.2.2 (n_req (decide_eq_true (by simp[beN_len])) rfl)))))))))))) (by kernel_rfl) (by kernel_rfl)
def fUnR:Fact:=⟨251,fun args=>match args with
 |[.int .i64 n,.int .i64 k] =>match k==6 with|true=>some (.req (inR n 0 281474976710655) (.leaf (.str (beN n 6))))|false=>match k==1 with|true=>some (.req (inR n 0 255) (.leaf (.str (beN n 1))))|false=>match k==4 with|true=>some (.req (inR n 0 4294967295) (.leaf (.str (beN n 4))))|false=>match k==2 with|true=>some (.req (inR n 0 65535) (.leaf (.str (beN n 2))))|false=>none
 |_=>none⟩
def fPsnR:Fact:=factV 252 fun c=>.req (in32 c) (.leaf (.str (beN c.1 4++beN c.2.1 4++beN c.2.2.1 4++beN c.2.2.2 4)))
theorem o_psnR:fPsnR.ok Tryz.prog:=factV_ok s_posn
theorem o_unR:fUnR.ok Tryz.prog:=fun args t ht=>by
 simp only[fUnR]at ht
 split at ht
 ·rename_i n k
  by_cases e6:k=6
  ·subst e6;simp at ht;subst ht;exact s_unR6 _
  ·by_cases e1:k=1
   ·subst e1;simp at ht;subst ht;exact s_unR1 _
   ·by_cases e4:k=4
    ·subst e4;simp at ht;subst ht;exact s_unR4 _
    ·by_cases e2:k=2
     ·subst e2;simp at ht;subst ht;exact s_unR2 _
     ·simp[show(k==6)=false from beq_eq_false_iff_ne.2 e6,show(k==1)=false from beq_eq_false_iff_ne.2 e1,show(k==4)=false from beq_eq_false_iff_ne.2 e4,show(k==2)=false from beq_eq_false_iff_ne.2 e2]at ht
 ·cases ht
def encV(r:Rc):SV:=match rcB r with
 |true=>.tuple [.str (enc r),I64 0]
 |false=>.tuple [.str [],I64 1]
theorem encV_data(r:Rc):(encV r).data=true:=by unfold encV;split<;>rfl
theorem s_encR(r:Rc):SCall Tryz.prog 189 [r.sv] (encV r):=
 scall_v mix [fRcBR,fUnR,fPsnR,fCrcR,fPadR] ⟨o_rcBR,o_unR,o_psnR,o_crcR,o_padR,trivial⟩ 1000 (.fork (.all) (.all))
  (t:=.node (!rcB r) (.leaf (.tuple [SV.str [],.int .i64 1])) (.req (inR r.seq 0 281474976710655) (.req (inR r.kind 0 255) (.req (decide ((((beN r.seq 6).length+(beN r.kind 1).length:Nat):Int)≤(9223372036854775807:Int))) (.req (inR r.line 0 281474976710655) (.req (decide ((((beN r.seq 6++beN r.kind 1).length+(beN r.line 6).length:Nat):Int)≤(9223372036854775807:Int))) (.req (inR r.done 0 4294967295) (.req (decide ((((beN r.seq 6++beN r.kind 1++beN r.line 6).length+(beN r.done 4).length:Nat):Int)≤(9223372036854775807:Int))) (.req (in32 r.src) (.req (decide ((((beN r.seq 6++beN r.kind 1++beN r.line 6++beN r.done 4).length+(beN r.src.1 4++beN r.src.2.1 4++beN r.src.2.2.1 4++beN r.src.2.2.2 4).length:Nat):Int)≤(9223372036854775807:Int))) (.req (in32 r.dst) (.req (decide ((((beN r.seq 6++beN r.kind 1++beN r.line 6++beN r.done 4++(beN r.src.1 4++beN r.src.2.1 4++beN r.src.2.2.1 4++beN r.src.2.2.2 4)).length+(beN r.dst.1 4++beN r.dst.2.1 4++beN r.dst.2.2.1 4++beN r.dst.2.2.2 4).length:Nat):Int)≤(9223372036854775807:Int))) (.req (decide ((encS r).length≤100000)) (.req (inR ((crc (encS r):Nat):Int) 0 65535) (.req (decide ((((encS r).length+(beN ((crc (encS r):Nat):Int) 2).length:Nat):Int)≤(9223372036854775807:Int))) (.req (decide ((↑(encS r++beN ((crc (encS r):Nat):Int) 2).length:Int)≤58)&&true) (.req (inR r.seq 0 281474976710655) (.req (decide ((((padS (encS r++beN ((crc (encS r):Nat):Int) 2) 58).length+(beN r.seq 6).length:Nat):Int)≤(9223372036854775807:Int))) (.leaf (.tuple [SV.str (padS (encS r++beN ((crc (encS r):Nat):Int) 2) 58++beN r.seq 6),.int .i64 0]))))))))))))))))))))
  (by kernel_rfl) (by
   unfold encV
   refine n_not (fun v=>by rw[v];rfl) fun v=>?_
   rw[v]
   have q:=rcB_iff.1 v
   have v':=v
   simp only[rcB,Bool.and_eq_true]at v'
   have c:=crc_lt (encS r)
   have l:=encS_len r
   have e:2=(beN ((crc (encS r):Nat):Int) 2).length:=(beN_len _ 2).symm
   refine n_req (inR_iff.2 ⟨by omega,by omega⟩) ?_
   refine n_req (inR_iff.2 ⟨by omega,by omega⟩) ?_
   refine n_req (decide_eq_true (by simp only[List.length_append,beN_len,encS_len,padS,List.length_replicate];omega)) ?_
   refine n_req (inR_iff.2 ⟨by omega,by omega⟩) ?_
   refine n_req (decide_eq_true (by simp only[List.length_append,beN_len,encS_len,padS,List.length_replicate];omega)) ?_
   refine n_req (inR_iff.2 ⟨by omega,by omega⟩) ?_
   refine n_req (decide_eq_true (by simp only[List.length_append,beN_len,encS_len,padS,List.length_replicate];omega)) ?_
   refine n_req v'.2.2.2.2.1 ?_
   refine n_req (decide_eq_true (by simp only[List.length_append,beN_len,encS_len,padS,List.length_replicate];omega)) ?_
   refine n_req v'.2.2.2.2.2 ?_
   refine n_req (decide_eq_true (by simp only[List.length_append,beN_len,encS_len,padS,List.length_replicate];omega)) ?_
   refine n_req (decide_eq_true (by simp only[List.length_append,beN_len,encS_len,padS,List.length_replicate];omega)) ?_
   refine n_req (inR_iff.2 ⟨by omega,by omega⟩) ?_
   refine n_req (decide_eq_true (by simp only[List.length_append,beN_len,encS_len,padS,List.length_replicate];omega)) ?_
   refine n_req (by simp only[List.length_append,beN_len,encS_len,Bool.and_true,decide_eq_true_eq];omega) ?_
   refine n_req (inR_iff.2 ⟨by omega,by omega⟩) ?_
   refine n_req (decide_eq_true (by simp only[List.length_append,beN_len,encS_len,padS,List.length_replicate];omega)) ?_
   exact rfl) (by kernel_rfl) (by exact encV_data r)
theorem s_nb6(s:List UInt8)(a:Int)(h:(decide (0≤a)&& (decide (a+6≤(s.length:Int))&&decide (s.length≤100000)))=true):SCall Tryz.prog 292 [.str s,I64 a,I64 6] (I64 (tk s a.toNat 6)):=
 scall_v mix [fTuR] ⟨o_tuR,trivial⟩ 1000 (.all)
  (t:=.req (decide (0≤a)&& (decide (a+6≤(↑s.length:Int))&&decide (s.length≤100000))) (.leaf (SV.int IntKind.i64 (tk s a.toNat 6))))
  (by kernel_rfl) (by exact n_req h rfl) (by kernel_rfl) (by kernel_rfl)
theorem s_nb1(s:List UInt8)(a:Int)(h:(decide (0≤a)&& (decide (a+1≤(s.length:Int))&&decide (s.length≤100000)))=true):SCall Tryz.prog 292 [.str s,I64 a,I64 1] (I64 (tk s a.toNat 1)):=
 scall_v mix [fTuR] ⟨o_tuR,trivial⟩ 1000 (.all)
  (t:=.req (decide (0≤a)&& (decide (a+1≤(↑s.length:Int))&&decide (s.length≤100000))) (.leaf (SV.int IntKind.i64 (tk s a.toNat 1))))
  (by kernel_rfl) (by exact n_req h rfl) (by kernel_rfl) (by kernel_rfl)
theorem s_nb4(s:List UInt8)(a:Int)(h:(decide (0≤a)&& (decide (a+4≤(s.length:Int))&&decide (s.length≤100000)))=true):SCall Tryz.prog 292 [.str s,I64 a,I64 4] (I64 (tk s a.toNat 4)):=
 scall_v mix [fTuR] ⟨o_tuR,trivial⟩ 1000 (.all)
  (t:=.req (decide (0≤a)&& (decide (a+4≤(↑s.length:Int))&&decide (s.length≤100000))) (.leaf (SV.int IntKind.i64 (tk s a.toNat 4))))
  (by kernel_rfl) (by exact n_req h rfl) (by kernel_rfl) (by kernel_rfl)
theorem s_four(s:List UInt8)(a:Int)(h0:0≤a)(h1:a+16≤s.length)(h2:s.length≤100000):SCall Tryz.prog 293 [.str s,I64 a] (.agg [I64 (sg (tk s a.toNat 4)),I64 (sg (tk s (a+4).toNat 4)),I64 (sg (tk s (a+8).toNat 4)),I64 (sg (tk s (a+12).toNat 4))]):=
 scall_v mix [fTiR] ⟨o_tiR,trivial⟩ 1000 (.go (.lit (.go (.lit (.go (.lit (.go (.lit (.go (.lit (.all)))))))))))
  (t:=.req (decide (0≤i64.wrap (a+0))&& (decide (i64.wrap (a+0)+4≤(↑s.length:Int))&&decide (s.length≤100000))) (.req true (.req (decide (0≤i64.wrap (a+4))&& (decide (i64.wrap (a+4)+4≤(↑s.length:Int))&&decide (s.length≤100000))) (.req true (.req (decide (0≤i64.wrap (a+8))&& (decide (i64.wrap (a+8)+4≤(↑s.length:Int))&&decide (s.length≤100000))) (.req true (.req (decide (0≤i64.wrap (a+12))&& (decide (i64.wrap (a+12)+4≤(↑s.length:Int))&&decide (s.length≤100000))) (.req true (.leaf (.agg [.int .i64 (sg (tk s (i64.wrap (a+0)).toNat 4)),.int .i64 (sg (tk s (i64.wrap (a+4)).toNat 4)),.int .i64 (sg (tk s (i64.wrap (a+8)).toNat 4)),.int .i64 (sg (tk s (i64.wrap (a+12)).toNat 4))]))))))))))
  (by kernel_rfl) (by
   rw[i64x (x:=a+0) (by omega) (by omega),i64x (x:=a+4) (by omega) (by omega),i64x (x:=a+8) (by omega) (by omega),i64x (x:=a+12) (by omega) (by omega),Int.add_zero]
   have q:∀x:Int,0≤x→x+4≤s.length→(decide (0≤x)&& (decide (x+4≤(s.length:Int))&&decide (s.length≤100000)))=true:=fun x h k=>by simp;omega
   exact n_req (q _ (by omega) (by omega)) (n_req rfl (n_req (q _ (by omega) (by omega)) (n_req rfl (n_req (q _ (by omega) (by omega)) (n_req rfl (n_req (q _ (by omega) (by omega)) (n_req rfl rfl)))))))) (by kernel_rfl) (by kernel_rfl)
def fNbR:Fact:=⟨292,fun args=>match args with
 |[.str s,.int .i64 a,.int .i64 k] =>match k==6 with|true=>some (.req (decide (0≤a)&& (decide (a+6≤(s.length:Int))&&decide (s.length≤100000))) (.leaf (I64 (tk s a.toNat 6))))|false=>match k==1 with|true=>some (.req (decide (0≤a)&& (decide (a+1≤(s.length:Int))&&decide (s.length≤100000))) (.leaf (I64 (tk s a.toNat 1))))|false=>match k==4 with|true=>some (.req (decide (0≤a)&& (decide (a+4≤(s.length:Int))&&decide (s.length≤100000))) (.leaf (I64 (tk s a.toNat 4))))|false=>none
 |_=>none⟩
def fFourR:Fact:=⟨293,fun args=>match args with
 |[.str s,.int .i64 a] =>some (.req (decide (0≤a)&& (decide (a+16≤(s.length:Int))&&decide (s.length≤100000))) (.leaf (.agg [I64 (sg (tk s a.toNat 4)),I64 (sg (tk s (a+4).toNat 4)),I64 (sg (tk s (a+8).toNat 4)),I64 (sg (tk s (a+12).toNat 4))])))
 |_=>none⟩
def fEncR:Fact:=factRc 189 fun r=>.node (rcB r) (.leaf (.tuple [.str (enc r),I64 0])) (.leaf (.tuple [.str [],I64 1]))
theorem o_fourR:fFourR.ok Tryz.prog:=fun args t ht=>by
 simp only[fFourR]at ht
 split at ht
 ·injection ht with ht;subst ht
  intro h
  simp only[Bool.and_eq_true,decide_eq_true_eq]at h
  exact s_four _ _ h.1 h.2.1 h.2.2
 ·cases ht
theorem o_encR:fEncR.ok Tryz.prog:=factRc_ok fun r=>by
 have q:=s_encR r
 unfold encV at q
 exact⟨fun v=>by rw[v]at q;exact q,fun v=>by rw[v]at q;exact q⟩
theorem o_nbR:fNbR.ok Tryz.prog:=fun args t ht=>by
 simp only[fNbR]at ht
 split at ht
 ·rename_i s a k
  by_cases e6:k=6
  ·subst e6;simp at ht;subst ht;intro h;exact s_nb6 _ _ (by simpa using h)
  ·by_cases e1:k=1
   ·subst e1;simp at ht;subst ht;intro h;exact s_nb1 _ _ (by simpa using h)
   ·by_cases e4:k=4
    ·subst e4;simp at ht;subst ht;intro h;exact s_nb4 _ _ (by simpa using h)
    ·simp[show(k==6)=false from beq_eq_false_iff_ne.2 e6,show(k==1)=false from beq_eq_false_iff_ne.2 e1,show(k==4)=false from beq_eq_false_iff_ne.2 e4]at ht
 ·cases ht
theorem o_saI:fSaI.ok Tryz.prog:=fun args t ht=>by
 simp only[fSaI]at ht
 split at ht
 ·injection ht with ht;subst ht
  intro h h2
  obtain rfl:=eqLI_eq h
  exact s_saI _ (by have:=of_decide_eq_true h2;omega)
 ·cases ht
theorem o_saB:fSaB.ok Tryz.prog:=fun args t ht=>by
 simp only[fSaB]at ht
 split at ht
 ·injection ht with ht;subst ht
  intro h h2
  obtain rfl:=eqLB_eq h
  exact s_saB _ (by have:=of_decide_eq_true h2;omega)
 ·cases ht
theorem s_same(f:Fw)(h:shB f.queue=true)(k:shI f.lines=true):SCall Tryz.prog 23 [f.sv,f.sv] (.bool true):=
 scall_vE (hB (l:=[fSaI,fSaB]) (k:=[]) (j:=[]) (i:=[]) ([] :List Nat) ([] :List Nat) ([] :List Nat) ([] :List Nat) (⟨o_saI,o_saB,trivial⟩) noneOk noneOk noneOk) 1000 (.fork (.ln 5 (.fork (.ln 5 (.fork (.ln 5 (.fork (.ln 5 (.fork (.ln 5 (.fork (.ln 5 (.fork (.ln 5 (.fork (.ln 5 (.fork (.ln 5 (.fork (.ln 5 (.fork (.ln 5 (.fork (.ln 5 (.fork (.ln 5 (.fork (.ln 5 (.fork (.ln 5 (.fork (.ln 5 (.fork (.ln 5 (.fork (.ln 5 (.fork (.ln 5 (.fork (.lit (.fork (.ln 10 (.lit .all)) (.ln 10 (.lit .all)))) (.ln 12 (.lit .all)))) (.ln 5 (.fork (.ln 12 (.lit .all)) (.ln 12 (.lit .all)))))) (.ln 11 (.fork (.ln 12 (.lit .all)) (.ln 12 (.lit .all)))))) (.ln 17 (.fork (.ln 12 (.lit .all)) (.ln 12 (.lit .all)))))) (.ln 23 (.fork (.ln 12 (.lit .all)) (.ln 12 (.lit .all)))))) (.ln 29 (.fork (.ln 12 (.lit .all)) (.ln 12 (.lit .all)))))) (.ln 35 (.fork (.ln 12 (.lit .all)) (.ln 12 (.lit .all)))))) (.ln 41 (.fork (.ln 12 (.lit .all)) (.ln 12 (.lit .all)))))) (.ln 47 (.fork (.ln 12 (.lit .all)) (.ln 12 (.lit .all)))))) (.ln 53 (.fork (.ln 12 (.lit .all)) (.ln 12 (.lit .all)))))) (.ln 59 (.fork (.ln 12 (.lit .all)) (.ln 12 (.lit .all)))))) (.ln 5 (.fork (.ln 5 (.fork (.ln 5 (.fork (.ln 5 (.fork (.ln 5 (.fork (.ln 5 (.fork (.ln 5 (.fork (.ln 5 (.fork (.ln 5 (.fork (.ln 5 (.fork (.ln 18 (.lit .all)) (.ln 18 (.lit .all)))) (.ln 24 (.lit .all)))) (.ln 30 (.lit .all)))) (.ln 36 (.lit .all)))) (.ln 42 (.lit .all)))) (.ln 48 (.lit .all)))) (.ln 54 (.lit .all)))) (.ln 60 (.lit .all)))) (.ln 66 (.lit .all)))) (.ln 72 (.lit .all)))))) (.ln 11 (.fork (.ln 5 (.fork (.ln 5 (.fork (.ln 5 (.fork (.ln 5 (.fork (.ln 5 (.fork (.ln 5 (.fork (.ln 5 (.fork (.ln 5 (.fork (.ln 5 (.fork (.ln 18 (.lit .all)) (.ln 18 (.lit .all)))) (.ln 24 (.lit .all)))) (.ln 30 (.lit .all)))) (.ln 36 (.lit .all)))) (.ln 42 (.lit .all)))) (.ln 48 (.lit .all)))) (.ln 54 (.lit .all)))) (.ln 60 (.lit .all)))) (.ln 66 (.lit .all)))) (.ln 72 (.lit .all)))))) (.ln 17 (.fork (.ln 5 (.fork (.ln 5 (.fork (.ln 5 (.fork (.ln 5 (.fork (.ln 5 (.fork (.ln 5 (.fork (.ln 5 (.fork (.ln 5 (.fork (.ln 5 (.fork (.ln 18 (.lit .all)) (.ln 18 (.lit .all)))) (.ln 24 (.lit .all)))) (.ln 30 (.lit .all)))) (.ln 36 (.lit .all)))) (.ln 42 (.lit .all)))) (.ln 48 (.lit .all)))) (.ln 54 (.lit .all)))) (.ln 60 (.lit .all)))) (.ln 66 (.lit .all)))) (.ln 72 (.lit .all)))))) (.ln 23 (.fork (.ln 5 (.fork (.ln 5 (.fork (.ln 5 (.fork (.ln 5 (.fork (.ln 5 (.fork (.ln 5 (.fork (.ln 5 (.fork (.ln 5 (.fork (.ln 5 (.fork (.ln 18 (.lit .all)) (.ln 18 (.lit .all)))) (.ln 24 (.lit .all)))) (.ln 30 (.lit .all)))) (.ln 36 (.lit .all)))) (.ln 42 (.lit .all)))) (.ln 48 (.lit .all)))) (.ln 54 (.lit .all)))) (.ln 60 (.lit .all)))) (.ln 66 (.lit .all)))) (.ln 72 (.lit .all)))))) (.ln 29 (.fork (.ln 5 (.fork (.ln 5 (.fork (.ln 5 (.fork (.ln 5 (.fork (.ln 5 (.fork (.ln 5 (.fork (.ln 5 (.fork (.ln 5 (.fork (.ln 5 (.fork (.ln 18 (.lit .all)) (.ln 18 (.lit .all)))) (.ln 24 (.lit .all)))) (.ln 30 (.lit .all)))) (.ln 36 (.lit .all)))) (.ln 42 (.lit .all)))) (.ln 48 (.lit .all)))) (.ln 54 (.lit .all)))) (.ln 60 (.lit .all)))) (.ln 66 (.lit .all)))) (.ln 72 (.lit .all)))))) (.ln 35 (.fork (.ln 5 (.fork (.ln 5 (.fork (.ln 5 (.fork (.ln 5 (.fork (.ln 5 (.fork (.ln 5 (.fork (.ln 5 (.fork (.ln 5 (.fork (.ln 5 (.fork (.ln 18 (.lit .all)) (.ln 18 (.lit .all)))) (.ln 24 (.lit .all)))) (.ln 30 (.lit .all)))) (.ln 36 (.lit .all)))) (.ln 42 (.lit .all)))) (.ln 48 (.lit .all)))) (.ln 54 (.lit .all)))) (.ln 60 (.lit .all)))) (.ln 66 (.lit .all)))) (.ln 72 (.lit .all)))))) (.ln 41 (.fork (.ln 5 (.fork (.ln 5 (.fork (.ln 5 (.fork (.ln 5 (.fork (.ln 5 (.fork (.ln 5 (.fork (.ln 5 (.fork (.ln 5 (.fork (.ln 5 (.fork (.ln 18 (.lit .all)) (.ln 18 (.lit .all)))) (.ln 24 (.lit .all)))) (.ln 30 (.lit .all)))) (.ln 36 (.lit .all)))) (.ln 42 (.lit .all)))) (.ln 48 (.lit .all)))) (.ln 54 (.lit .all)))) (.ln 60 (.lit .all)))) (.ln 66 (.lit .all)))) (.ln 72 (.lit .all)))))) (.ln 47 (.fork (.ln 5 (.fork (.ln 5 (.fork (.ln 5 (.fork (.ln 5 (.fork (.ln 5 (.fork (.ln 5 (.fork (.ln 5 (.fork (.ln 5 (.fork (.ln 5 (.fork (.ln 18 (.lit .all)) (.ln 18 (.lit .all)))) (.ln 24 (.lit .all)))) (.ln 30 (.lit .all)))) (.ln 36 (.lit .all)))) (.ln 42 (.lit .all)))) (.ln 48 (.lit .all)))) (.ln 54 (.lit .all)))) (.ln 60 (.lit .all)))) (.ln 66 (.lit .all)))) (.ln 72 (.lit .all)))))) (.ln 53 (.fork (.ln 5 (.fork (.ln 5 (.fork (.ln 5 (.fork (.ln 5 (.fork (.ln 5 (.fork (.ln 5 (.fork (.ln 5 (.fork (.ln 5 (.fork (.ln 5 (.fork (.ln 18 (.lit .all)) (.ln 18 (.lit .all)))) (.ln 24 (.lit .all)))) (.ln 30 (.lit .all)))) (.ln 36 (.lit .all)))) (.ln 42 (.lit .all)))) (.ln 48 (.lit .all)))) (.ln 54 (.lit .all)))) (.ln 60 (.lit .all)))) (.ln 66 (.lit .all)))) (.ln 72 (.lit .all)))))
  (t:=let y1:=f.g0.low==f.g0.low&& (f.g0.high==f.g0.high&& (f.g0.watch==f.g0.watch&& (f.g0.rise==f.g0.rise&& (f.g0.band==f.g0.band&& (f.g0.base==f.g0.base&& (f.g0.count==f.g0.count&& (f.g0.idle==f.g0.idle&& (f.g0.quiet==f.g0.quiet&& (f.g0.fault==f.g0.fault&& (f.g0.door==f.g0.door&&true))))))))))&& (f.g1.low==f.g1.low&& (f.g1.high==f.g1.high&& (f.g1.watch==f.g1.watch&& (f.g1.rise==f.g1.rise&& (f.g1.band==f.g1.band&& (f.g1.base==f.g1.base&& (f.g1.count==f.g1.count&& (f.g1.idle==f.g1.idle&& (f.g1.quiet==f.g1.quiet&& (f.g1.fault==f.g1.fault&& (f.g1.door==f.g1.door&&true))))))))))&&true);let y3:=f.c0.target==f.c0.target&& (f.c0.kp==f.c0.kp&& (f.c0.ki==f.c0.ki&& (f.c0.scale==f.c0.scale&& (f.c0.sum==f.c0.sum&& (f.c0.limit==f.c0.limit&&true)))))&& (f.c1.target==f.c1.target&& (f.c1.kp==f.c1.kp&& (f.c1.ki==f.c1.ki&& (f.c1.scale==f.c1.scale&& (f.c1.sum==f.c1.sum&& (f.c1.limit==f.c1.limit&&true)))))&&true);let y4:Tree SV:=.leaf (.bool false);let y2:Tree SV:=.node (f.active==f.active) y4 y4;let y5:=f.ret.1==f.ret.1&& (f.ret.2.1==f.ret.2.1&& (f.ret.2.2.1==f.ret.2.2.1&& (f.ret.2.2.2==f.ret.2.2.2&&true)));let y0:Tree SV:=.node (f.back==f.back) (.node y5 (.node (f.dwell==f.dwell) (.node (f.waits==f.waits) (.node y3 (.node y1 (.node (f.fan==f.fan) (.node (f.line==f.line) (.node (f.ticks==f.ticks) (.node (f.cold==f.cold) y4 y4) y4) y4) y4) y4) y4) y4) y4) y4) y4;.node (f.ma.x.num==f.ma.x.num&& (f.ma.x.den==f.ma.x.den&& (f.ma.x.speed==f.ma.x.speed&& (f.ma.x.accel==f.ma.x.accel&& (f.ma.x.jerk==f.ma.x.jerk&& (f.ma.x.min==f.ma.x.min&& (f.ma.x.max==f.ma.x.max&&true))))))&& (f.ma.y.num==f.ma.y.num&& (f.ma.y.den==f.ma.y.den&& (f.ma.y.speed==f.ma.y.speed&& (f.ma.y.accel==f.ma.y.accel&& (f.ma.y.jerk==f.ma.y.jerk&& (f.ma.y.min==f.ma.y.min&& (f.ma.y.max==f.ma.y.max&&true))))))&& (f.ma.z.num==f.ma.z.num&& (f.ma.z.den==f.ma.z.den&& (f.ma.z.speed==f.ma.z.speed&& (f.ma.z.accel==f.ma.z.accel&& (f.ma.z.jerk==f.ma.z.jerk&& (f.ma.z.min==f.ma.z.min&& (f.ma.z.max==f.ma.z.max&&true))))))&& (f.ma.e.num==f.ma.e.num&& (f.ma.e.den==f.ma.e.den&& (f.ma.e.speed==f.ma.e.speed&& (f.ma.e.accel==f.ma.e.accel&& (f.ma.e.jerk==f.ma.e.jerk&& (f.ma.e.min==f.ma.e.min&& (f.ma.e.max==f.ma.e.max&&true))))))&&true)))&& (f.ma.xy==f.ma.xy&& (f.ma.ticks==f.ma.ticks&&true))) (.node (f.mode==f.mode) (.node (f.homed==f.homed) (.node (f.pos.1==f.pos.1&& (f.pos.2.1==f.pos.2.1&& (f.pos.2.2.1==f.pos.2.2.1&& (f.pos.2.2.2==f.pos.2.2.2&&true)))) (.node (f.loc.1==f.loc.1&& (f.loc.2.1==f.loc.2.1&& (f.loc.2.2==f.loc.2.2&&true))) (.node (f.e==f.e) (.node (f.feed==f.feed) (.node (f.mo.1.1.1==f.mo.1.1.1&& (f.mo.1.1.2.1==f.mo.1.1.2.1&& (f.mo.1.1.2.2.1==f.mo.1.1.2.2.1&& (f.mo.1.1.2.2.2==f.mo.1.1.2.2.2&&true)))&& (f.mo.1.2.1==f.mo.1.2.1&& (f.mo.1.2.2.1==f.mo.1.2.2.1&& (f.mo.1.2.2.2.1==f.mo.1.2.2.2.1&& (f.mo.1.2.2.2.2==f.mo.1.2.2.2.2&&true))))&& (f.mo.2.1==f.mo.2.1&& (f.mo.2.2==f.mo.2.2&&true))) (.node (f.moving==f.moving) (.node (f.back==f.back) (.node y5 (.node (f.dwell==f.dwell) (.node (f.waits==f.waits) (.node y3 (.node y1 (.node (f.fan==f.fan) (.node (f.line==f.line) (.node (f.ticks==f.ticks) (.node (f.cold==f.cold) (.node (f.active==f.active) (.node (f.r0==f.r0&& (f.r1==f.r1&&true)) (.req (eqLB f.queue f.queue) (.req (shB f.queue) (.req (eqLI f.lines f.lines) (.req (shI f.lines) (.leaf (.bool true)))))) y4) y4) y2) y2) y2) y2) y2) y2) y2) y2) y2) y2) y0) y0) y0) y0) y0) y0) y0) y0) y0)
  (by kernel_rfl) (by repeat' first|refine n_true (by simp) ?_|refine n_req (by simp[eqLI,eqLB]) ?_|refine n_req h ?_|refine n_req k ?_|exact rfl) (by kernel_rfl) (by kernel_rfl)
noncomputable def eqFw(x y:Fw):Bool:=@decide (x=y) (Classical.propDecidable _)
theorem eqFw_rfl(x:Fw):eqFw x x=true:=@decide_eq_true _ (Classical.propDecidable _) rfl
theorem eqFw_eq{x y:Fw}(h:eqFw x y=true):x=y:=@of_decide_eq_true _ (Classical.propDecidable _) h
def shF(x:Fw):Bool:=shB x.queue&&shI x.lines
noncomputable def fSame:Fact:=factFw 23 fun x rest=>match rest with
 |[.agg l] =>match asFw l with
  |some y=>some (.req (eqFw x y) (.req (shF x) (.leaf (.bool true))))
  |none=>none
 |_=>none
theorem scall_nil2{P:Program}{f:FuncId}{cs ds:List SV}{a:SV}{v:SV}(hn:NilLs cs ds)(h:SCall P f [a,.agg ds] v):SCall P f [a,.agg cs] v:=by
 intro m w0 R0 ρ w vs hm hvs
 obtain⟨u,us,rfl,h0,u2,us2,rfl,⟨ws,h1,h2⟩,h3⟩:=hvs
 exact h m w0 R0 ρ w _ hm ⟨u,_,rfl,h0,u2,us2,rfl,⟨ws,h1,hn.rep h2⟩,h3⟩
theorem o_same:fSame.ok Tryz.prog:=factFw_ok fun x rest t ht=>by
 split at ht
 ·split at ht
  ·rename_i hy
   injection ht with ht;subst ht
   intro h k
   obtain rfl:=eqFw_eq h
   have k:=(Bool.and_eq_true _ _).mp k
   exact scall_nil2 (asFw_nil hy) (s_same _ k.1 k.2)
  ·cases ht
 ·cases ht
abbrev EvT:=OpT×Int×Int
def flN(n:Nat):Fl:=⟨List.replicate n (List.replicate 64 0),0,false,0⟩
def pg0_p:Plan:=.all
noncomputable def pg0_t(l:Fl):Tree Stop:= .leaf (.at (loopOf Tryz.prog 39 0) 26 (slotsS 26 [(1,.ptr 0 0),(3,.int .i64 0)]) [some (.cells [.list Ty.str l.pages,.int .i64 l.fuse,.bool l.dead,.int .i64 l.keep])])
theorem pg0(l:Fl):segR (Env.of Tryz.prog (sumOf [])) 1000 (fnOf Tryz.prog 39) .unit (keepS 26 [1,3]) (codeS Tryz.prog 39) pg0_p (startS Tryz.prog 39 [l.sv]) [] =pg0_t l:=by kernel_rfl
def pg1_p:Plan:=.fork (.lit (.lit (.fork (.fork .all .all) .all))) (.lit (.lit (.lit .all)))
noncomputable def pg1_t(l:Fl)(i:Int):Tree Stop:= .node (decide (i< (↑l.pages.length:Int))) (.node (decide (i<21)) (.req (decide (0≤i)&&decide (i< (↑l.pages.length:Int))) (.node (decide (((List.length (l.pages.getD i.toNat Ty.str.dflt):Nat):Int)>100)) (.leaf (.done (.bool false))) (.leaf (.at (loopOf Tryz.prog 39 0) 26 (slotsS 26 [(1,.ptr 0 0),(3,.int .i64 (i64.wrap (i+1)))]) [some (.cells [.list Ty.str l.pages,.int .i64 l.fuse,.bool l.dead,.int .i64 l.keep])])))) (.leaf (.done (.bool (decide ((↑l.pages.length:Int)≤20)))))) (.leaf (.done (.bool (decide ((↑l.pages.length:Int)≤20)))))
theorem pg1(l:Fl)(i:Int):segR (Env.of Tryz.prog (sumOf [])) 1000 (fnOf Tryz.prog 39) .unit (keepS 26 [1,3]) (loopOf Tryz.prog 39 0) pg1_p (slotsS 26 [(1,.ptr 0 0),(3,I64 i)]) [some (.cells l.cells)] =pg1_t l i:=by kernel_rfl
def fs0_p:Plan:=.fork (.ln 17 (.lit .all)) (.ln 5 (.fork (.ln 11 (.lit .all)) (.ln 5 (.fork (.ln 5 (.lit .all)) (.ln 5 (.fork .all .all))))))
noncomputable def fs0_t(l:Fl):Tree Stop:= .node ((↑l.pages.length:Int) !=(↑l.pages.length:Int)) (.leaf (.done (.bool false))) (.node (l.fuse != l.fuse) (.leaf (.done (.bool false))) (.node (!l.dead==l.dead) (.leaf (.done (.bool false))) (.node (l.keep != l.keep) (.leaf (.done (.bool false))) (.leaf (.at (loopOf Tryz.prog 45 0) 52 (slotsS 52 [(2,.ptr 0 0),(3,.ptr 1 0),(36,.int .i64 (↑l.pages.length:Int)),(37,.int .i64 0)]) [some (.cells [.list Ty.str l.pages,.int .i64 l.fuse,.bool l.dead,.int .i64 l.keep]),some (.cells [.list Ty.str l.pages,.int .i64 l.fuse,.bool l.dead,.int .i64 l.keep])])))))
theorem fs0(l:Fl):segR (Env.of Tryz.prog (sumOf [])) 1000 (fnOf Tryz.prog 45) .unit (keepS 52 [2,3,36,37]) (codeS Tryz.prog 45) fs0_p (startS Tryz.prog 45 [l.sv,l.sv]) [] =fs0_t l:=by kernel_rfl
def fs1_p:Plan:=.fork (.fork (.all) (.all)) (.all)
noncomputable def fs1_t(l:Fl)(i:Int):Tree Stop:= .node (decide (i< (↑l.pages.length:Int))) (.req (decide (0≤i)&&decide (i< (↑l.pages.length:Int))) (.req (decide (0≤i)&&decide (i< (↑l.pages.length:Int))) (.node (!l.pages.getD i.toNat Ty.str.dflt==l.pages.getD i.toNat Ty.str.dflt) (.leaf (.done (.bool false))) (.leaf (.at (loopOf Tryz.prog 45 0) 52 (slotsS 52 [(2,.ptr 0 0),(3,.ptr 1 0),(36,.int .i64 (↑l.pages.length:Int)),(37,.int .i64 (i64.wrap (i+1)))]) [some (.cells [.list Ty.str l.pages,.int .i64 l.fuse,.bool l.dead,.int .i64 l.keep]),some (.cells [.list Ty.str l.pages,.int .i64 l.fuse,.bool l.dead,.int .i64 l.keep])]))))) (.leaf (.done (.bool true)))
theorem fs1(l:Fl)(i:Int):segR (Env.of Tryz.prog (sumOf [])) 1000 (fnOf Tryz.prog 45) .unit (keepS 52 [2,3,36,37]) (loopOf Tryz.prog 45 0) fs1_p (slotsS 52 [(2,.ptr 0 0),(3,.ptr 1 0),(36,I64 l.pages.length),(37,I64 i)]) [some (.cells l.cells),some (.cells l.cells)] =fs1_t l i:=by kernel_rfl
def fn6_p:Plan:=.ln 4 (.go (.lit (.go (.lit (.go (.lit (.go (.lit (.go (.lit (.go (.lit (.go (.lit .all))))))))))))))
noncomputable def fn6_t(u:Unit):Tree Stop:= .req (true) (.req true (.req (true) (.req true (.req (true) (.req true (.req (true) (.req true (.req (true) (.req true (.req (true) (.req true (.leaf (.done (.tuple [.agg [.list Ty.str ([List.map (fun n=>UInt8.ofNat (Int.toNat n)) (List.replicate 64 0)] ++[List.map (fun n=>UInt8.ofNat (Int.toNat n)) (List.replicate 64 0)] ++[List.map (fun n=>UInt8.ofNat (Int.toNat n)) (List.replicate 64 0)] ++[List.map (fun n=>UInt8.ofNat (Int.toNat n)) (List.replicate 64 0)] ++[List.map (fun n=>UInt8.ofNat (Int.toNat n)) (List.replicate 64 0)] ++[List.map (fun n=>UInt8.ofNat (Int.toNat n)) (List.replicate 64 0)]),.int .i64 0,.bool false,.int .i64 0],.int .i64 0]))))))))))))))
theorem fn6(u:Unit):segR (Env.of Tryz.prog (sumOf [])) 1000 (fnOf Tryz.prog 51) .str (keepS 25 []) (codeS Tryz.prog 51) fn6_p (startS Tryz.prog 51 [I64 6]) [] =fn6_t u:=by kernel_rfl
def fn4_p:Plan:=.ln 4 (.go (.lit (.go (.lit (.go (.lit (.go (.lit (.go (.lit .all))))))))))
noncomputable def fn4_t(u:Unit):Tree Stop:= .req (true) (.req true (.req (true) (.req true (.req (true) (.req true (.req (true) (.req true (.leaf (.done (.tuple [.agg [.list Ty.str ([List.map (fun n=>UInt8.ofNat (Int.toNat n)) (List.replicate 64 0)] ++[List.map (fun n=>UInt8.ofNat (Int.toNat n)) (List.replicate 64 0)] ++[List.map (fun n=>UInt8.ofNat (Int.toNat n)) (List.replicate 64 0)] ++[List.map (fun n=>UInt8.ofNat (Int.toNat n)) (List.replicate 64 0)]),.int .i64 0,.bool false,.int .i64 0],.int .i64 0]))))))))))
theorem fn4(u:Unit):segR (Env.of Tryz.prog (sumOf [])) 1000 (fnOf Tryz.prog 51) .str (keepS 25 []) (codeS Tryz.prog 51) fn4_p (startS Tryz.prog 51 [I64 4]) [] =fn4_t u:=by kernel_rfl
theorem range_snoc(m:Ma)(q:List Bk)(i:Nat):(List.range i).map (capJ m q)++[capJ m q i] =(List.range (i+1)).map (capJ m q):=by
 rw[List.range_succ,List.map_append];rfl
theorem fsCap:allOk Tryz.prog [fJunR] :=⟨o_junR,trivial⟩
theorem cp1_loop{f:Fw}(hl:f.queue.length≤100000):∀ (k i:Nat) (s:List Int),i+k=f.queue.length→1≤i→s=(List.range i).map (capJ f.ma f.queue)→
  RunsR Tryz.prog (fnOf Tryz.prog 200) (LI (capsV f.ma f.queue)) (loopOf Tryz.prog 200 0) (slotsS 38 [(1,.ptr 0 0),(3,.row 1),(4,I64 i)]) [some (.cells f.cells),some (.rows (.int .i64) s)]
 |k,i,s,hi,h1,hs=>by
  refine runsR_seg (kW fsCap) (n:=1000) (hint:=.int .i64) (keep:=keepS 38 [1,3,4]) (p:=cp1_p) rfl ?_
  erw [cp1 f s i]
  unfold cp1_t
  have t0:(i:Int).toNat=i:=by omega
  have wm:i64.wrap ((i:Int)-1)=((i-1:Nat):Int):=by rw[w64 (by omega) (by omega)];omega
  have tm:((i-1:Nat):Int).toNat=i-1:=by omega
  have w1:i64.wrap ((i:Int)+1)=((i+1:Nat):Int):=by rw[w64 (by omega) (by omega)];omega
  have jr:=junV_rng f.ma (f.queue.getD (i-1) dBk).1 (f.queue.getD i dBk).1
  match k,hi with
  |k+1,hi=>
   have hi2:(i:Int)<f.queue.length:=by omega
   have hi3:(i:Int)>0:=by omega
   have hn:s.length=i:=by rw[hs];simp
   have ih:=cp1_loop hl k (i+1) (s++[capJ f.ma f.queue i]) (by omega) (by omega) (by rw[hs];exact range_snoc _ _ _)
   rw[capJ_succ f.ma f.queue h1]at ih
   simp only[t0,wm,tm,w1,wsq jr,hi2,hi3,Tree.holds,decide_eq_true_eq,decide_eq_false_iff_not,Bool.and_eq_true,not_true_eq_false,false_implies,true_and,and_true,true_implies]
   refine⟨⟨by omega,by omega⟩,by omega,by simp[hn];omega,slotsS_len _ _,ih⟩
  |0,hi=>
   have hi2:¬((i:Int)<f.queue.length):=by omega
   have e:i=f.queue.length:=by omega
   simp only[hi2,Tree.holds,decide_eq_true_eq,decide_eq_false_iff_not,false_implies,true_and,true_implies,not_false_eq_true]
   rw[hs,e];rfl
theorem cp1a_start{f:Fw}(hl:f.queue.length≤100000):
  RunsR Tryz.prog (fnOf Tryz.prog 200) (LI (capsV f.ma f.queue)) (loopOf Tryz.prog 200 0) (slotsS 38 [(1,.ptr 0 0),(3,.nilS),(4,I64 0)]) [some (.cells f.cells)] :=by
 refine runsR_seg (kW fsCap) (n:=1000) (hint:=.int .i64) (keep:=keepS 38 [1,3,4]) (p:=cp1a_p) rfl ?_
 erw [cp1a f 0]
 unfold cp1a_t
 have w1:i64.wrap ((0:Int)+1)=((1:Nat):Int):=by decide
 by_cases hq:f.queue.length=0
 ·have hi2:¬((0:Int)<f.queue.length):=by omega
  simp only[hi2,Tree.holds,decide_eq_true_eq,decide_eq_false_iff_not,false_implies,true_and,true_implies,not_false_eq_true]
  unfold capsV;rw[hq];rfl
 ·have hi2:(0:Int)<f.queue.length:=by omega
  have hi3:¬((0:Int)>0):=by omega
  have lp:=cp1_loop hl (f.queue.length-1) 1 [0] (by omega) (by omega) rfl
  simp only[w1,hi2,hi3,Tree.holds,decide_eq_true_eq,decide_eq_false_iff_not,Bool.and_eq_true,not_true_eq_false,not_false_eq_true,false_implies,true_and,and_true,true_implies]
  exact⟨slotsS_len _ _,lp⟩
theorem s_capsR(f:Fw)(h:few2 f.queue.length=true):SCall Tryz.prog 200 [f.sv] (LI (capsV f.ma f.queue)):=by
 have hl:=few2_iff.1 h
 refine scallR_loops rfl rfl (by kernel_rfl) (runsR_seg (kW fsCap) (n:=1000) (hint:=.int .i64) (keep:=keepS 38 [1,3,4]) (p:=cp0_p) (boxes:=[]) rfl ?_)
 have q:=cp0 f
 unfold startS codeS at q
 erw [q]
 exact⟨slotsS_len _ _,cp1a_start hl⟩
def fCapsR:Fact:=factF1 200 fun f=>.req (few2 f.queue.length) (.leaf (LI (capsV f.ma f.queue)))
theorem o_capsR:fCapsR.ok Tryz.prog:=factF1_ok fun f h=>s_capsR f h
noncomputable def itemsB:List Item:=stopIt (segX (Env.ofB Tryz.prog (sumOf [fSpdR,fAccR]) (wrOf []) (pnOf []) (bxOf []) (rdOf []) (rdOf []) (rdOf []) (rdOf [10])) 1000 (fnOf Tryz.prog 114) 0 (keepS 79 []) (codeS Tryz.prog 114) .all (startS Tryz.prog 114 [fw0.sv,V4.sv z4,I64 0,I64 0]) [])
def bl0_p:Plan:=.all
noncomputable def bl0_t(f:Fw)(c:V4)(len line:Int):Tree Stop:= .req (ok63 len&&ok63 f.feed) (.req (decide (f.queue.length*64≤140737488355328)) (.req (decide (f.lines.length*8≤140737488355328)) (.req (decide ((f.queue.length+ [(c,accV f.ma c,0,i64.wrap (spdV f.ma c len f.feed*spdV f.ma c len f.feed),0)].length)*64≤140737488355328)) (.req (decide ((f.lines.length+ [line].length)*8≤140737488355328)) (.leaf (.at itemsB 79 (slotsS 79 [(4,.ptr 0 0),(8,.ptr 1 0),(11,SV.row 2)]) [some (.cells [.int .i64 f.ma.x.num,.int .i64 f.ma.x.den,.int .i64 f.ma.x.speed,.int .i64 f.ma.x.accel,.int .i64 f.ma.x.jerk,.int .i64 f.ma.x.min,.int .i64 f.ma.x.max,.int .i64 f.ma.y.num,.int .i64 f.ma.y.den,.int .i64 f.ma.y.speed,.int .i64 f.ma.y.accel,.int .i64 f.ma.y.jerk,.int .i64 f.ma.y.min,.int .i64 f.ma.y.max,.int .i64 f.ma.z.num,.int .i64 f.ma.z.den,.int .i64 f.ma.z.speed,.int .i64 f.ma.z.accel,.int .i64 f.ma.z.jerk,.int .i64 f.ma.z.min,.int .i64 f.ma.z.max,.int .i64 f.ma.e.num,.int .i64 f.ma.e.den,.int .i64 f.ma.e.speed,.int .i64 f.ma.e.accel,.int .i64 f.ma.e.jerk,.int .i64 f.ma.e.min,.int .i64 f.ma.e.max,.bool f.ma.xy,.int .i64 f.ma.ticks,.int .i64 f.mode,.bool f.homed,.int .i64 f.pos.1,.int .i64 f.pos.2.1,.int .i64 f.pos.2.2.1,.int .i64 f.pos.2.2.2,.int .i64 f.loc.1,.int .i64 f.loc.2.1,.int .i64 f.loc.2.2,.int .i64 f.e,.int .i64 f.feed,SV.row 2,SV.row 3,.int .i64 f.mo.1.1.1,.int .i64 f.mo.1.1.2.1,.int .i64 f.mo.1.1.2.2.1,.int .i64 f.mo.1.1.2.2.2,.int .i64 f.mo.1.2.1,.int .i64 f.mo.1.2.2.1,.int .i64 f.mo.1.2.2.2.1,.int .i64 f.mo.1.2.2.2.2,.int .i64 f.mo.2.1,.int .i64 f.mo.2.2,.bool f.moving,.int .i64 f.active,.bool f.back,.int .i64 f.ret.1,.int .i64 f.ret.2.1,.int .i64 f.ret.2.2.1,.int .i64 f.ret.2.2.2,.int .i64 f.dwell,.int .i64 f.waits,.int .i64 f.c0.target,.int .i64 f.c0.kp,.int .i64 f.c0.ki,.int .i64 f.c0.scale,.int .i64 f.c0.sum,.int .i64 f.c0.limit,.int .i64 f.c1.target,.int .i64 f.c1.kp,.int .i64 f.c1.ki,.int .i64 f.c1.scale,.int .i64 f.c1.sum,.int .i64 f.c1.limit,.int .i64 f.g0.low,.int .i64 f.g0.high,.int .i64 f.g0.watch,.int .i64 f.g0.rise,.int .i64 f.g0.band,.int .i64 f.g0.base,.int .i64 f.g0.count,.int .i64 f.g0.idle,.int .i64 f.g0.quiet,.int .i64 f.g0.fault,.bool f.g0.door,.int .i64 f.g1.low,.int .i64 f.g1.high,.int .i64 f.g1.watch,.int .i64 f.g1.rise,.int .i64 f.g1.band,.int .i64 f.g1.base,.int .i64 f.g1.count,.int .i64 f.g1.idle,.int .i64 f.g1.quiet,.int .i64 f.g1.fault,.bool f.g1.door,.int .i64 f.fan,.int .i64 f.line,.int .i64 f.ticks,.int .i64 f.cold,.int .i64 f.r0,.int .i64 f.r1]),some (.cells (nilC fw0)),some (.rows tyBk (f.queue++[(c,accV f.ma c,0,i64.wrap (spdV f.ma c len f.feed*spdV f.ma c len f.feed),0)])),some (.rows (Ty.int IntKind.i64) (f.lines++[line]))]))))))
theorem bl0(f:Fw)(c:V4)(len line:Int):segR (Env.ofB Tryz.prog (sumOf [fSpdR,fAccR]) (wrOf []) (pnOf []) (bxOf []) (rdOf []) (rdOf []) (rdOf []) (rdOf [10])) 1000 (fnOf Tryz.prog 114) .unit (keepS 79 [4,8,11]) (codeS Tryz.prog 114) bl0_p (startS Tryz.prog 114 [f.sv,V4.sv c,I64 len,I64 line]) [] =bl0_t f c len line:=by kernel_rfl
def bl1_p:Plan:=.fork (.fork (.fork (.lit (.all)) (.lit (.all))) (.lit (.all))) (.fork (.fork (.fork (.lit (.all)) (.lit (.all))) (.lit (.all))) (.fork (.fork (.lit (.all)) (.lit (.all))) (.lit (.all))))
noncomputable def bl1_t(f:Fw):Tree Stop:=let y0:Tree Stop:=.leaf (.done (.tuple [.agg (nilC fw0),.int .i64 2]));let y1:=capsV f.ma f.queue;let y2:=f.queue.getD 0 dBk; .node (f.moving) (.req (few2 f.queue.length) (.req (okPl f.queue y1 f.mo.1.2.2.2.2) (.node (decide (f.mo.1.2.2.2.2≤crL f.queue 0)) (.node (decide (gL f.queue y1 f.mo.1.2.2.2.2 0=f.mo.1.2.2.2.2)) (.leaf (.done (.tuple [.agg (Fw.cells {f with queue:=(plB f.queue (gL f.queue y1 f.mo.1.2.2.2.2))}),.int .i64 0]))) y0) y0))) (.node (decide ((↑f.queue.length:Int)>1)) (.req (decide (0< (↑f.queue.length:Int))) (.req (few2 f.queue.length) (.req (okPl f.queue y1 y2.2.2.1) (.node (decide (y2.2.2.1≤crL f.queue 0)) (.node (decide (gL f.queue y1 y2.2.2.1 0=y2.2.2.1)) (.leaf (.done (.tuple [.agg (Fw.cells {f with queue:=(plB f.queue (gL f.queue y1 y2.2.2.1))}),.int .i64 0]))) y0) y0)))) (.req (few2 f.queue.length) (.req (okPl f.queue y1 0) (.node (decide (0≤crL f.queue 0)) (.node (decide (gL f.queue y1 0 0=0)) (.leaf (.done (.tuple [.agg (Fw.cells {f with queue:=(plB f.queue (gL f.queue y1 0))}),.int .i64 0]))) y0) y0))))
theorem bl1(f:Fw):segR (Env.of Tryz.prog (sumOf [fCapsR,fPlaR])) 1000 (fnOf Tryz.prog 114) .unit (keepS 79 [4,8,11]) itemsB bl1_p (slotsS 79 [(4,.ptr 0 0),(8,.ptr 1 0),(11,LB f.queue)]) [some (.cells f.cells),some (.cells (nilC fw0)),none,none] =bl1_t f:=by kernel_rfl
end Go.Proofs.YtnkaepnblikcdaaGreat
namespace Go.Sx
open Go.RowKit
theorem setT_flat{β:Type}:∀ (d:Nat) (t:Tb β) (i:Nat) (v:Option β),(∃t',∀ (α:Type) (k:Tb β→Tree α),setT d t i v k=k t')∨∃n,∀ (α:Type) (k:Tb β→Tree α),setT d t i v k=.fail n
 |0,t,i,v=>.inr ⟨3,fun _ _=>rfl⟩
 |d+1,.e,0,v=>.inl ⟨_,fun _ _=>rfl⟩
 |d+1,.n l u r,0,v=>.inl ⟨_,fun _ _=>rfl⟩
 |d+1,.e,j+1,v=>by
  by_cases hj:j % 2=0
  ·have e:∀ (α:Type) (k:Tb β→Tree α),setT (d+1) .e (j+1) v k=setT d .e (j / 2) v fun l=>k (.n l none .e):=fun α k=>by
    change Tb.pick j (fun i=>setT d .e i v fun l=>k (.n l none .e)) (fun i=>setT d .e i v fun r=>k (.n .e none r))=_
    rw[Tb.pick_even hj]
   rcases setT_flat d .e (j / 2) v with⟨t',h⟩|⟨n,h⟩
   ·exact .inl ⟨_,fun α k=>by rw[e,h]⟩
   ·exact .inr ⟨n,fun α k=>by rw[e,h]⟩
  ·have e:∀ (α:Type) (k:Tb β→Tree α),setT (d+1) .e (j+1) v k=setT d .e (j / 2) v fun r=>k (.n .e none r):=fun α k=>by
    change Tb.pick j (fun i=>setT d .e i v fun l=>k (.n l none .e)) (fun i=>setT d .e i v fun r=>k (.n .e none r))=_
    rw[Tb.pick_odd hj]
   rcases setT_flat d .e (j / 2) v with⟨t',h⟩|⟨n,h⟩
   ·exact .inl ⟨_,fun α k=>by rw[e,h]⟩
   ·exact .inr ⟨n,fun α k=>by rw[e,h]⟩
 |d+1,.n l u r,j+1,v=>by
  by_cases hj:j % 2=0
  ·have e:∀ (α:Type) (k:Tb β→Tree α),setT (d+1) (.n l u r) (j+1) v k=setT d l (j / 2) v fun l=>k (.n l u r):=fun α k=>by
    change Tb.pick j (fun i=>setT d l i v fun l=>k (.n l u r)) (fun i=>setT d r i v fun r=>k (.n l u r))=_
    rw[Tb.pick_even hj]
   rcases setT_flat d l (j / 2) v with⟨t',h⟩|⟨n,h⟩
   ·exact .inl ⟨_,fun α k=>by rw[e,h]⟩
   ·exact .inr ⟨n,fun α k=>by rw[e,h]⟩
  ·have e:∀ (α:Type) (k:Tb β→Tree α),setT (d+1) (.n l u r) (j+1) v k=setT d r (j / 2) v fun r=>k (.n l u r):=fun α k=>by
    change Tb.pick j (fun i=>setT d l i v fun l=>k (.n l u r)) (fun i=>setT d r i v fun r=>k (.n l u r))=_
    rw[Tb.pick_odd hj]
   rcases setT_flat d r (j / 2) v with⟨t',h⟩|⟨n,h⟩
   ·exact .inl ⟨_,fun α k=>by rw[e,h]⟩
   ·exact .inr ⟨n,fun α k=>by rw[e,h]⟩
section
variable {α:Type} {Φ:α→Prop}
theorem setT_says{β:Type}{d:Nat}{t:Tb β}{i:Nat}{v:Option β}{k:Tb β→Tree α}(h:∀t',TbSet t i v t'→(k t').says Φ):(setT d t i v k).says Φ:=by
 rcases setT_flat d t i v with⟨t',h1⟩|⟨n,h1⟩
 ·rw[h1]
  obtain⟨t2,g1,g2⟩:=holds_setT (L:=fun x=>x=t') d t i v .leaf (by rw[h1];exact rfl)
  obtain rfl:t2=t':=g2
  exact h _ g1
 ·rw[h1];trivial
theorem Mem.set_says{m:Mem}{id:Nat}{b:Option Box}{k:Mem→Tree α}(h:∀m',MSet m id b m'→(k m').says Φ):(m.set id b k).says Φ:=
 setT_says fun tb htb=>h _ ⟨htb,rfl⟩
end
theorem not_frozen{w:World}{g o:Nat}{arr:Array Value}{e:TypeId}{fr:Nat×Nat}(hg:w.heap[g]? =some (.cells arr e fr))(hu:unfrozen arr fr)(hl:o<arr.size):w.frozen? ⟨g,o,none⟩=false:=by
 have:=hu o hl
 simp only[World.frozen?,hg]
 by_cases h2:fr.1≤o
 ·have h3:¬o<fr.2:=fun h3=>this ⟨h2,h3⟩
  simp[h3]
 ·simp[h2]
inductive Wk (nz:Bool) (boxes:List (Option Box)) (fz:List Nat):SV→SV→Prop where
 |same (x:SV):Wk nz boxes fz x x
 |top (x:SV):Wk nz boxes fz x .top
 |nil (h:nz=true):Wk nz boxes fz .nilS (.row boxes.length)
 |frz {id:Nat} {t:Ty} {l:List t.T} (hid:id∈fz) (hb:boxes[id]? =some (some (.rows t l))):Wk nz boxes fz (.row id) (.list t l)
def WkL(nz:Bool)(boxes:List (Option Box))(fz:List Nat):List SV→List SV→Prop
 |[],[] =>True
 |x::xs,y::ys=>Wk nz boxes fz x y∧WkL nz boxes fz xs ys
 |_,_=>False
def WkK(nz:Bool)(boxes:List (Option Box))(fz:List Nat):List (Nat×SV)→List (Nat×SV)→Prop
 |[],[] =>True
 |x::xs,y::ys=>x.1=y.1∧Wk nz boxes fz x.2 y.2∧WkK nz boxes fz xs ys
 |_,_=>False
inductive WkB (nz:Bool) (boxes:List (Option Box)) (fz:List Nat):Box→Box→Prop where
 |same (B:Box):WkB nz boxes fz B B
 |cells {cs ds:List SV} (h:WkL nz boxes fz cs ds):WkB nz boxes fz (.cells cs) (.cells ds)
def WkBs(nz:Bool)(boxes:List (Option Box))(fz:List Nat):Nat→List (Option Box)→List (Option Box)→Prop
 |_,[],[] =>nz=false
 |_,[],some (.rows _ [])::[] =>True
 |i,_::bs,none::bs'=>WkBs nz boxes fz (i+1) bs bs'
 |i,some B::bs,some B'::bs'=>i∉fz∧WkB nz boxes fz B B'∧WkBs nz boxes fz (i+1) bs bs'
 |_,_,_=>False
section
variable {nz:Bool} {boxes:List (Option Box)} {fz:List Nat}
theorem WkL.length:∀{l l':List SV},WkL nz boxes fz l l'→l'.length=l.length
 |[],[],_=>rfl
 |x::xs,y::ys,h=>by simp[WkL.length h.2]
theorem WkL.get:∀{l l':List SV},WkL nz boxes fz l l'→∀{i:Nat} {y:SV},l'[i]? =some y→∃x,l[i]? =some x∧Wk nz boxes fz x y
 |[],[],_,i,y,h=>by simp at h
 |x::xs,z::ys,h,0,y,hy=>by
  simp at hy;subst hy
  exact⟨x,rfl,h.1⟩
 |x::xs,z::ys,h,i+1,y,hy=>by
  simpa using WkL.get h.2 (i:=i) (y:=y) (by simpa using hy)
theorem WkK.lookup:∀{ks ks':List (Nat×SV)},WkK nz boxes fz ks ks'→∀i,Wk nz boxes fz ((ks.lookup i).getD .top) ((ks'.lookup i).getD .top)
 |[],[],_,i=>.same _
 |x::xs,y::ys,h,i=>by
  obtain⟨h1,h2,h3⟩:=h
  obtain⟨a,x⟩:=x
  obtain⟨b,y⟩:=y
  dsimp only at h1 h2
  subst h1
  simp only[List.lookup]
  cases(i==a)with
  |true=>exact h2
  |false=>exact WkK.lookup h3 i
theorem slotsS_wk{n:Nat}{ks ks':List (Nat×SV)}(h:WkK nz boxes fz ks ks'):WkL nz boxes fz (slotsS n ks) (slotsS n ks'):=by
 unfold slotsS
 induction List.range n with
 |nil=>trivial
 |cons i l ih=>exact⟨h.lookup i,ih⟩
theorem WkBs.len:∀{i:Nat} {bs bs':List (Option Box)},WkBs nz boxes fz i bs bs'→bs.length≤bs'.length
 |_,[],[],_=>Nat.le_refl _
 |_,[],some (.rows _ [])::[],_=>by simp
 |i,_::bs,none::bs',h=>by simpa using WkBs.len (i:=i+1) (bs:=bs) (bs':=bs') h
 |i,some B::bs,some B'::bs',h=>by simpa using WkBs.len (i:=i+1) h.2.2
theorem WkBs.len2(hz:nz=true):∀{i:Nat} {bs bs':List (Option Box)},WkBs nz boxes fz i bs bs'→bs.length<bs'.length
 |_,[],[],h=>by rw[show nz=false from h]at hz;cases hz
 |_,[],some (.rows _ [])::[],_=>by simp
 |i,_::bs,none::bs',h=>by simpa using WkBs.len2 hz (i:=i+1) (bs:=bs) (bs':=bs') h
 |i,some B::bs,some B'::bs',h=>by simpa using WkBs.len2 hz (i:=i+1) h.2.2
theorem WkBs.get:∀{i:Nat} {bs bs':List (Option Box)},WkBs nz boxes fz i bs bs'→∀{j:Nat} {B':Box},(bs'[j]?).join=some B'→(∃B,(bs[j]?).join=some B∧i+j∉fz∧WkB nz boxes fz B B')∨(j=bs.length∧∃t,B'=.rows t [])
 |_,[],[],_,j,B',h=>by simp at h
 |_,[],some (.rows t [])::[],_,0,B',h=>by
  simp at h;subst h
  exact .inr ⟨rfl,t,rfl⟩
 |_,[],some (.rows t [])::[],_,j+1,B',h=>by simp at h
 |i,_::bs,none::bs',h,0,B',hj=>by simp at hj
 |i,x::bs,none::bs',h,j+1,B',hj=>by
  have:=WkBs.get (i:=i+1) (bs:=bs) (bs':=bs') h (j:=j) (B':=B') (by simpa using hj)
  simpa[Nat.add_assoc,Nat.add_comm 1 j]using this
 |i,some B::bs,some C::bs',h,0,B',hj=>by
  simp at hj;subst hj
  exact .inl ⟨B,rfl,by simpa using h.1,h.2.1⟩
 |i,some B::bs,some C::bs',h,j+1,B',hj=>by
  have:=WkBs.get (i:=i+1) h.2.2 (j:=j) (B':=B') (by simpa using hj)
  simpa[Nat.add_assoc,Nat.add_comm 1 j]using this
theorem SRelD.weak{ds:List Deferred}{slots slots':List SV}{boxes':List (Option Box)}{fr fr':Fr}{m m':Mem}(hc:Canon slots boxes fr m)(hc':Canon slots' boxes' fr' m')(hs:WkL nz boxes fz slots slots')(hb:WkBs nz boxes fz 0 boxes boxes'){w0:World}{R0:RSet}{ρ:Rho}{w:World}{a:Act}(h:SRelD ds w0 R0 ρ w fr m a):
  SRelD ds w0 R0 (upd ρ boxes.length (0,0,0)) w fr' m' a∧∀b,RO w0 R0 ρ w m b→RO w0 R0 (upd ρ boxes.length (0,0,0)) w m' b:=by
 obtain⟨h1,h2,h3⟩:=h
 have hlen:=hb.len
 have hn:m.next=boxes.length:=hc.next
 have hn':m'.next=boxes'.length:=hc'.next
 -- where each box comes from
 have hg:∀id B',m'.get id=some B'→(∃B,m.get id=some B∧id≠boxes.length∧id∉fz∧WkB nz boxes fz B B')∨(id=boxes.length∧∃t,B'=.rows t []):=fun id B' hB=>by
  rw[hc'.box]at hB
  rcases hb.get hB with⟨B,k1,k2,k3⟩|k
  ·refine .inl ⟨B,by rw[hc.box];exact k1,fun e=>?_,by simpa using k2,k3⟩
   subst e
   simp at k1
  ·exact .inr k
 have hsol:∀{B B':Box} {r:Nat×Nat×Nat},WkB nz boxes fz B B'→(solid r B'↔solid r B):=fun hw=>by
  cases hw with
  |same=>exact Iff.rfl
  |cells=>exact Iff.rfl
 have hro:∀b,RO w0 R0 ρ w m b→RO w0 R0 (upd ρ boxes.length (0,0,0)) w m' b:=fun b hb2=>by
  rcases hb2 with hb2|⟨k1,k2,k3,k4⟩
  ·exact .inl hb2
  ·refine .inr ⟨k1,k2,fun id B' hB hs'=>?_,k4⟩
   rcases hg id B' hB with⟨B,g1,g2,g3,g4⟩|⟨rfl,t,rfl⟩
   ·rw[upd_other _ _ g2]at hs' ⊢
    exact k3 id B g1 ((hsol g4).1 hs')
   ·rw[upd_same]at hs';exact absurd hs' (Nat.lt_irrefl _)
 have e:Ext (RO w0 R0 ρ w m) ρ m.next w (RO w0 R0 (upd ρ boxes.length (0,0,0)) w m') (upd ρ boxes.length (0,0,0)) m'.next w:=⟨by omega,fun id hid=>upd_other _ _ (by omega),fun b hb2=>⟨hro b hb2,rfl⟩⟩
 have hval:∀ (x y:SV) (v:Value),Wk nz boxes fz x y→Rep (RO w0 R0 ρ w m) ρ m.next w x v→Rep (RO w0 R0 (upd ρ boxes.length (0,0,0)) w m') (upd ρ boxes.length (0,0,0)) m'.next w y v:=by
  intro x y v hw hr
  cases hw with
  |same=>exact Rep.mono e _ _ hr
  |top=>trivial
  |nil hz=>
   rw[show v=_ from hr]
   have hx:=hb.len2 hz
   exact⟨by omega,none,by rw[upd_same],fun h0=>by rw[upd_same]at h0;exact absurd h0 (Nat.lt_irrefl _)⟩
  |frz hid hb1=>
   rename_i id t l
   obtain⟨_,a,hu,ha⟩:=hr
   have hgid:m.get id=some (.rows t l):=by rw[hc.box,hb1];rfl
   obtain⟨b1,b2,hp⟩:=h1.box id _ hgid
   refine⟨a,(ρ id).2.2,by rw[hu,b1],b2,fun h0=>?_⟩
   have h0:0< (ρ id).2.2:=Nat.lt_of_lt_of_le h0 b2
   obtain⟨arr,el,fr,k1,k2,k3,k4⟩:=hp h0
   refine⟨(ρ id).1,0,ha h0,.inr ⟨h1.lo id _ hgid h0,h1.hi id _ hgid h0,fun id' B' hB hs' heq=>?_,h1.hid.2 id _ hgid h0⟩,fun i hi=>?_⟩
   ·rcases hg id' B' hB with⟨B,g1,g2,g3,g4⟩|⟨rfl,t,rfl⟩
    ·rw[upd_other _ _ g2]at hs' heq
     have:=h1.inj id' id B _ g1 hgid ((hsol g4).1 hs') h0 heq
     subst this
     exact g3 hid
    ·rw[upd_same]at hs';exact absurd hs' (Nat.lt_irrefl _)
   ·obtain⟨cs,c1,c2,c3⟩:=k4 i hi
    refine⟨cs,c1,fun j hj=>?_,RepD.mono e.keep _ _ _ c3⟩
    rw[cell_of_row w _ _ arr el fr k1,Nat.zero_add]
    exact c2 j hj
 have hvalL:∀ (xs ys:List SV) (vs:List Value),WkL nz boxes fz xs ys→RepL (RO w0 R0 ρ w m) ρ m.next w xs vs→RepL (RO w0 R0 (upd ρ boxes.length (0,0,0)) w m') (upd ρ boxes.length (0,0,0)) m'.next w ys vs:=by
  intro xs
  induction xs with
  |nil=>
   intro ys vs hw hr
   cases ys with
   |nil=>exact hr
   |cons _ _=>exact hw.elim
  |cons x xs ih=>
   intro ys vs hw hr
   cases ys with
   |nil=>exact hw.elim
   |cons y ys=>
    obtain⟨u,us,rfl,r1,r2⟩:=hr
    exact⟨u,us,rfl,hval x y u hw.1 r1,ih ys us hw.2 r2⟩
 refine⟨⟨⟨h1.below,fun id B' hB=>?_,fun id B' hB hs'=>?_,fun id B' hB hs'=>?_,fun id id' B' C' hB hC hs1 hs2 heq=>?_,fun id B' hB=>?_,h1.hid.1,fun id B' hB hs'=>?_⟩,⟨?_,fun t=>?_⟩,h3⟩,hro⟩
 ·rw[hn']
  rw[hc'.box]at hB
  rcases Nat.lt_or_ge id boxes'.length with k|k
  ·exact k
  ·rw[List.getElem?_eq_none k]at hB;cases hB
 ·rcases hg id B' hB with⟨B,g1,g2,g3,g4⟩|⟨rfl,t,rfl⟩
  ·rw[upd_other _ _ g2]at hs' ⊢;exact h1.lo id B g1 ((hsol g4).1 hs')
  ·rw[upd_same]at hs';exact absurd hs' (Nat.lt_irrefl _)
 ·rcases hg id B' hB with⟨B,g1,g2,g3,g4⟩|⟨rfl,t,rfl⟩
  ·rw[upd_other _ _ g2]at hs' ⊢;exact h1.hi id B g1 ((hsol g4).1 hs')
  ·rw[upd_same]at hs';exact absurd hs' (Nat.lt_irrefl _)
 ·rcases hg id B' hB with⟨B,g1,g2,g3,g4⟩|⟨rfl,t,rfl⟩
  ·rcases hg id' C' hC with⟨C,g1',g2',g3',g4'⟩|⟨rfl,t',rfl⟩
   ·rw[upd_other _ _ g2]at hs1 heq;rw[upd_other _ _ g2']at hs2 heq
    exact h1.inj id id' B C g1 g1' ((hsol g4).1 hs1) ((hsol g4').1 hs2) heq
   ·rw[upd_same]at hs2;exact absurd hs2 (Nat.lt_irrefl _)
  ·rw[upd_same]at hs1;exact absurd hs1 (Nat.lt_irrefl _)
 ·rcases hg id B' hB with⟨B,g1,g2,g3,g4⟩|⟨rfl,t,rfl⟩
  ·rw[upd_other _ _ g2]
   cases g4 with
   |same=>exact BoxRel.mono e _ (fun _=>rfl) (h1.box id _ g1)
   |cells hw=>
    obtain⟨arr,el,fr2,k1,k2,k3⟩:=h1.box id _ g1
    exact⟨arr,el,fr2,k1,k2,hvalL _ _ _ hw k3⟩
  ·rw[upd_same]
   exact⟨rfl,Nat.le_refl _,fun h0=>absurd h0 (Nat.lt_irrefl _)⟩
 ·rcases hg id B' hB with⟨B,g1,g2,g3,g4⟩|⟨rfl,t,rfl⟩
  ·rw[upd_other _ _ g2]at hs' ⊢;exact h1.hid.2 id B g1 ((hsol g4).1 hs')
  ·rw[upd_same]at hs';exact absurd hs' (Nat.lt_irrefl _)
 ·rw[hc'.size,hs.length,←hc.size];exact h2.1
 ·rw[hc'.get t,List.getD_eq_getElem?_getD]
  cases hx:slots'[t]? with
  |none=>
   have ht:slots'.length≤t:=by simpa using hx
   have:a.tmps.getD t Go.undef=Go.undef:=by
    rw[Array.getD_eq_getD_getElem?,Array.getElem?_eq_none (by rw[←h2.1,hc.size,←hs.length];exact ht)]
    rfl
   rw[this];exact rfl
  |some y=>
   obtain⟨x,hx1,hw⟩:=hs.get hx
   refine hval x y _ hw ?_
   have:=h2.2 t
   rw[hc.get t,List.getD_eq_getElem?_getD,hx1]at this
   exact this
end
theorem runsR_weak{P:Program}(nz:Bool){fn:Func}{v:SV}{items:List Item}{slots slots':List SV}{boxes boxes':List (Option Box)}(fz:List Nat)(hs:WkL nz boxes fz slots slots')(hb:WkBs nz boxes fz 0 boxes boxes')(h:RunsR P fn v items slots' boxes'):RunsR P fn v items slots boxes:=by
 intro fr m hc w0 R0 ρ w a hS b cs
 obtain⟨fr',m',hc'⟩:=Canon.of (slots:=slots') (boxes:=boxes')
 obtain⟨h1,h2⟩:=SRelD.weak hc hc' hs hb hS
 obtain⟨ρ',w',a',todo,u,q1,q2,q3,q4,q5,q6⟩:=h fr' m' hc' w0 R0 _ w a h1 b cs
 exact⟨ρ',w',a',todo,u,q1,q2,fun b hb2=>q3 b (h2 b hb2),q4,q5,q6⟩
end Go.Sx
