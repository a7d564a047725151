/-
  What the statement needs: an evaluator of the model, contracts of the functions that it reaches, and the plain law.
-/
import Derived.Test.YtnkaepnblikcdaaGreatVT3
import Derived.Lib.Mul64
set_option maxRecDepth 100000
set_option linter.unusedVariables false
set_option linter.unusedSimpArgs false
open Go.IntKind (i64 u64)
namespace Go.Sx
open Go.RowKit
noncomputable def cap1(m:Mem)(v:SV):SV:=match v with
 |.ptr id off=>match m.get id with
  |some (.cells cs)=>match cs with
   |[.int k n] =>.eptr (.int k) [n] 0 off
   |_=>.ptr id off
  |_=>.ptr id off
 |v=>v
noncomputable def capL(m:Mem):List SV→List SV
 |[] =>[]
 |x::xs=>cap1 m x::capL m xs
noncomputable def capF(m:Mem)(v:SV):SV:=match v with
 |.fn f a b=>.fn f (capL m a) (capL m b)
 |v=>cap1 m v
noncomputable def capFL(m:Mem):List SV→List SV
 |[] =>[]
 |x::xs=>capF m x::capFL m xs
noncomputable def capA(m:Mem)(v:SV):SV:=match v with
 |.agg cs=>.agg (capFL m cs)
 |.tuple cs=>.tuple (capFL m cs)
 |v=>capF m v
section
variable {w0:World} {R0:RSet} {ρ:Rho} {w:World} {m:Mem}
theorem cap1_rep(h:MRel w0 R0 ρ w m){v:SV}{u:Value}(hv:Rep (RO w0 R0 ρ w m) ρ m.next w v u)(hd:(cap1 m v).data=true):Rep (RO w0 R0 ρ w ⟨0,.e⟩) ρ 0 w (cap1 m v) u:=by
 have hro:=h.bare.2
 unfold cap1 at hd ⊢
 split at hd
 ·rename_i id off
  split at hd
  ·rename_i cs hg
   split at hd
   ·rename_i k n
    obtain⟨arr,e,fr,k1,k2,k3⟩:=h.box id _ hg
    obtain⟨c,us,hc,h1,h2⟩:=k3
    refine⟨(ρ id).1,0,?_,Nat.zero_lt_one,.inr ⟨h.lo id _ hg trivial,h.hi id _ hg trivial,(fun id B hB=>by cases hB),h.hid.2 id _ hg trivial⟩,fun i hi=>?_⟩
    ·rw[hv.2]
     show _=Value.pointer (some ⟨_,0+(0*1+off),none⟩)
     rw[Nat.zero_mul,Nat.zero_add,Nat.zero_add]
    have hi0:i<1:=hi
    obtain rfl:i=0:=by omega
    refine⟨[.int k n],rfl,fun j hj=>?_,rfl⟩
    have hj0:j<1:=hj
    obtain rfl:j=0:=by omega
    have h2:us=[] :=h2
    have h1:c=.int k n:=h1
    subst h1 h2
    rw[cell_of_row w _ _ arr e fr k1]
    have:arr=#[.int k n] :=by
     apply Array.ext'
     rw[hc]
    rw[this];rfl
   ·cases hd
  ·cases hd
 ·exact Rep.data hro _ _ hd hv
theorem capL_rep(h:MRel w0 R0 ρ w m):∀{cs:List SV} {us:List Value},RepL (RO w0 R0 ρ w m) ρ m.next w cs us→dataL (capL m cs)=true→RepL (RO w0 R0 ρ w ⟨0,.e⟩) ρ 0 w (capL m cs) us
 |[],_,hr,_=>hr
 |x::xs,us,hr,hd=>by
  obtain⟨u,us',rfl,h2,h3⟩:=hr
  unfold capL at hd ⊢
  rw[dataL_cons]at hd
  cases h4:(cap1 m x).data with
  |false=>rw[h4]at hd;cases hd
  |true=>rw[h4]at hd;exact⟨u,us',rfl,cap1_rep h h2 h4,capL_rep h h3 hd⟩
theorem capF_rep(h:MRel w0 R0 ρ w m){v:SV}{u:Value}(hv:Rep (RO w0 R0 ρ w m) ρ m.next w v u)(hd:(capF m v).data=true):Rep (RO w0 R0 ρ w ⟨0,.e⟩) ρ 0 w (capF m v) u:=by
 unfold capF at hd ⊢
 split at hd
 ·rename_i f a b
  obtain⟨vs,us,h1,h2,h3⟩:=hv
  rw[data_fn]at hd
  cases h4:dataL (capL m a)with
  |false=>rw[h4]at hd;cases hd
  |true=>rw[h4]at hd;exact⟨vs,us,h1,capL_rep h h2 h4,capL_rep h h3 hd⟩
 ·exact cap1_rep h hv hd
theorem capFL_rep(h:MRel w0 R0 ρ w m):∀{cs:List SV} {us:List Value},RepL (RO w0 R0 ρ w m) ρ m.next w cs us→dataL (capFL m cs)=true→RepL (RO w0 R0 ρ w ⟨0,.e⟩) ρ 0 w (capFL m cs) us
 |[],_,hr,_=>hr
 |x::xs,us,hr,hd=>by
  obtain⟨u,us',rfl,h2,h3⟩:=hr
  unfold capFL at hd ⊢
  rw[dataL_cons]at hd
  cases h4:(capF m x).data with
  |false=>rw[h4]at hd;cases hd
  |true=>rw[h4]at hd;exact⟨u,us',rfl,capF_rep h h2 h4,capFL_rep h h3 hd⟩
theorem capA_rep(h:MRel w0 R0 ρ w m){v:SV}{u:Value}(hv:Rep (RO w0 R0 ρ w m) ρ m.next w v u)(hd:(capA m v).data=true):Rep (RO w0 R0 ρ w ⟨0,.e⟩) ρ 0 w (capA m v) u:=by
 unfold capA at hd ⊢
 split at hd
 ·obtain⟨vs,h1,h2⟩:=hv
  exact⟨vs,h1,capFL_rep h h2 (by rw[←data_agg];exact hd)⟩
 ·obtain⟨vs,h1,h2⟩:=hv
  exact⟨vs,h1,capFL_rep h h2 (by rw[←data_tuple];exact hd)⟩
 ·exact capF_rep h hv hd
end
theorem scall_cap{P:Program}{E:Env}(hK:Known P E){n:Nat}{f:FuncId}{args:List SV}{p:Plan}{v:SV}(hd:dataL args=true)(hvd:v.data=true)(h:(execFn E n f args p).holds fun x=>capA x.2 x.1=v):SCall P f args v:=by
 intro m w0 R0 ρ w vs hm hvs
 unfold execFn at h
 split at h
 ·rename_i fn hfn
  have hf:=hK.e.fn f fn hfn
  split at h
  ·rename_i body hb
   split at h
   ·rename_i hn
    obtain⟨fr,h1,h2,h3,h4⟩:=make_holds h
    obtain⟨out,h5,h6⟩:=exec_ok hK.e hK.s hK.mix n _ _ _ _ _ _ h1
    cases out with
    |stop it fr' m'=>exact h5.elim
    |pan v fr' m'=>exact h5.elim
    |ret p' fr' mc=>
     dsimp only at h5
     obtain⟨v',h7,h8⟩:=results_holds hK.e h5
     have h7:capA mc v'=v:=h7
     subst h7
     rw[callFunc_enter hf hb hn]
     obtain⟨o1,o2⟩:=own_mem hm ρ
     have hfr:=frame_rel h2 h3 h4 (RepL.data (R':=RO w (RS w0 R0 ρ w m) ρ w ⟨0,.e⟩) (ρ':=ρ) (n':=0) o2 args vs hd hvs)
     refine Calls.mono (calls_of_reach hf hb h6 h8 o1 hfr) fun e w' ⟨u,he,ρ',g1,g2,g3⟩=>⟨u,he,?_⟩
     have hst:=Hand.start hm g1.bare.1
     obtain⟨k1,k2⟩:=hst.finish hm g1.bare.1
     exact⟨ρ,k1,k2,Rep.data (fun b hb=>hst.ro b (.inr hb)) _ u hvd (capA_rep g1 g3 hvd)⟩
   ·exact h.elim
  ·exact h.elim
 ·exact h.elim
noncomputable def Tree.capT:Tree (SV×Mem)→Tree SV
 |.leaf x=>.leaf (capA x.2 x.1)
 |.node b t f=>.node b t.capT f.capT
 |.req b t=>.req b t.capT
 |.fail n=>.fail n
theorem Tree.capT_holds{L:SV→Prop}:∀t:Tree (SV×Mem),t.capT.holds L→t.holds fun x=>L (capA x.2 x.1)
 |.leaf _,h=>h
 |.node _ t f,h=>⟨fun hb=>capT_holds t (h.1 hb),fun hb=>capT_holds f (h.2 hb)⟩
 |.req _ t,h=>⟨h.1,capT_holds t h.2⟩
 |.fail _,h=>h.elim
theorem scall_cE{P:Program}{E:Env}(hK:Known P E)(n:Nat)(p:Plan){f:FuncId}{args:List SV}{v:SV}{t:Tree SV}
  (ht:(execFn E n f args p).capT=t) (h:t.holds fun x=>x=v) (hd:dataL args=true) (hv:v.data=true):SCall P f args v:=
 scall_cap (n:=n) (p:=p) hK hd hv (Tree.capT_holds _ (by rw[ht];exact h))
end Go.Sx
namespace Go.Proofs.YtnkaepnblikcdaaGreat
open Go.Sx
def fIvl:Fact:=factBII 183 fun b i t=>.leaf (I64 (ivl b i t))
def fIvlR:Fact:=factBII 178 fun b i t=>.leaf (I64 (ivl b i t))
theorem o_ivl:fIvl.ok Tryz.prog:=factBII_ok (s_ivl)
theorem o_ivlR:fIvlR.ok Tryz.prog:=factBII_ok (s_ivlR)
def madeM(m:Mo):V4:=match validB m.1&&inR m.2.1 0 (dom m.1.1)with
 |true=>at4 m.1.1 m.2.1
 |false=>z4
def endedM(m:Mo):Bool:=validB m.1&&decide (m.2.1=dom m.1.1)
theorem madeM_yes{m:Mo}(h:validB m.1=true∧0≤m.2.1∧m.2.1≤dom m.1.1):madeM m=at4 m.1.1 m.2.1:=by
 unfold madeM;rw[show(validB m.1&&inR m.2.1 0 (dom m.1.1))=true by rw[Bool.and_eq_true,inR_iff];exact h]
theorem madeM_no{m:Mo}(h:¬(validB m.1=true∧0≤m.2.1∧m.2.1≤dom m.1.1)):madeM m=z4:=by
 unfold madeM
 cases q:validB m.1&&inR m.2.1 0 (dom m.1.1)with
 |false=>rfl
 |true=>rw[Bool.and_eq_true,inR_iff]at q;exact absurd q h
theorem endedM_iff{m:Mo}:endedM m=true↔validB m.1=true∧m.2.1=dom m.1.1:=by simp only[endedM,Bool.and_eq_true,decide_eq_true_eq]
def startM(b:Bk)(t:Int):Mo:=(b,0,ivl b 1 t)
def m0:Mo:=(((0,0,0,0),0,0,0,0),0,0)
def okS(b:Bk)(t:Int):Bool:=validB b&&inR t 1 1048576
theorem okS_iff{b:Bk}{t:Int}:okS b t=true↔validB b=true∧1≤t∧t≤1048576:=by simp only[okS,Bool.and_eq_true,inR_iff]
def startV(b:Bk)(t:Int):SV:=match okS b t with
 |true=>.tuple [Mo.sv (startM b t),I64 0]
 |false=>.tuple [Mo.sv m0,I64 1]
theorem startV_yes{b:Bk}{t:Int}(h:okS b t=true):startV b t=.tuple [Mo.sv (startM b t),I64 0] :=by unfold startV;rw[h]
theorem startV_no{b:Bk}{t:Int}(h:okS b t=false):startV b t=.tuple [Mo.sv m0,I64 1] :=by unfold startV;rw[h]
def runsM(m:Mo)(t:Int):Bool:=validB m.1&& (inR m.2.1 0 (dom m.1.1-1)&&inR m.2.2 1 (ivl m.1 (m.2.1+1) t))
theorem runsM_iff{m:Mo}{t:Int}:runsM m t=true↔validB m.1=true∧(0≤m.2.1∧m.2.1≤dom m.1.1-1)∧1≤m.2.2∧m.2.2≤ivl m.1 (m.2.1+1) t:=by simp only[runsM,Bool.and_eq_true,inR_iff]
def tickM(m:Mo)(t:Int):Mo:=match runsM m t with
 |true=>if 1<m.2.2 then(m.1,m.2.1,m.2.2-1)else(m.1,m.2.1+1,if m.2.1+1=dom m.1.1 then 0 else ivl m.1 (m.2.1+2) t)
 |false=>m
def tickP(m:Mo)(t:Int):V4:=match runsM m t with
 |true=>if 1<m.2.2 then z4 else pul m.1.1 (m.2.1+1)
 |false=>z4
def tickS(m:Mo)(t:Int):SV:=.tuple [Mo.sv (tickM m t),V4.sv (tickP m t)]
theorem tickS_no{m:Mo}{t:Int}(h:runsM m t=false):tickS m t=.tuple [Mo.sv m,V4.sv z4] :=by unfold tickS tickM tickP;rw[h]
theorem tickS_one{m:Mo}{t:Int}(h:runsM m t=true)(h1:1<m.2.2):tickS m t=.tuple [Mo.sv (m.1,m.2.1,m.2.2-1),V4.sv z4] :=by unfold tickS tickM tickP;rw[h];simp only[if_pos h1]
theorem tickS_two{m:Mo}{t:Int}(h:runsM m t=true)(h1:¬1<m.2.2):tickS m t=.tuple [Mo.sv (m.1,m.2.1+1,if m.2.1+1=dom m.1.1 then 0 else ivl m.1 (m.2.1+2) t),V4.sv (pul m.1.1 (m.2.1+1))] :=by unfold tickS tickM tickP;rw[h];simp only[if_neg h1]
theorem ivl_bnd(b:Bk)(i t:Int):0≤ivl b i t∧ivl b i t≤4296015872:=by
 unfold ivl
 split
 ·rename_i c
  have p:=isq_pos (n:=sqv b i) c.1
  have q:=isq_lt (sqv b i)
  have h0:0≤(t+isq (sqv b i)-1) / isq (sqv b i):=Int.ediv_nonneg (by omega) (by omega)
  have h1:(t+isq (sqv b i)-1) / isq (sqv b i)≤t+isq (sqv b i)-1:=Int.ediv_le_self _ (by omega)
  omega
 ·omega
theorem valid_dom{b:Bk}(h:validB b=true):1≤dom b.1∧dom b.1≤16777216:=⟨dom_pos (validB_iff.1 h).1.1,(dom_range _).2⟩
theorem ivl_pos{b:Bk}{i t:Int}(h:1≤ivl b i t):1≤t∧t≤1048576:=by
 unfold ivl at h
 split at h
 ·rename_i c;exact c.2
 ·omega
theorem s_made(m:Mo):SCall Tryz.prog 205 [Mo.sv m] (V4.sv (madeM m)):=
 scall_v mix [fVld,fDom,fAt] ⟨o_vld,o_dom,o_at,trivial⟩ 1000 (.fork (.ln 11 (.lit .all)) (.ln 3 (.fork (.ln 7 (.lit .all)) (.ln 7 (.fork .all .all)))))
  (t:=.node (!validB m.1) (.leaf (.agg [.int .i64 0,.int .i64 0,.int .i64 0,.int .i64 0])) (.node (decide (m.2.1<0)) (.leaf (.agg [.int .i64 0,.int .i64 0,.int .i64 0,.int .i64 0])) (.node (decide (m.2.1>dom m.1.1)) (.leaf (.agg [.int .i64 0,.int .i64 0,.int .i64 0,.int .i64 0])) (.leaf (.agg [.int .i64 (at4 m.1.1 m.2.1).1,.int .i64 (at4 m.1.1 m.2.1).2.1,.int .i64 (at4 m.1.1 m.2.1).2.2.1,.int .i64 (at4 m.1.1 m.2.1).2.2.2])))))
  (by kernel_rfl) (by simp only[Tree.holds,sL,ne_eq,beq_iff_eq,bne_iff_ne,eq_self,beq_eq_false_iff_ne,bne_eq_false_iff_eq,implies_true];(repeat' (first|apply And.intro|intro _));all_goals first|(rw[madeM_no (by first|omega|grind)];rfl)|(rw[madeM_yes (by first|omega|grind)];rfl)) (by kernel_rfl) (by rfl)
theorem s_madeR(m:Mo):SCall Tryz.prog 132 [Mo.sv m] (V4.sv (madeM m)):=
 scall_v mix [fVldR,fDomR,fAtR] ⟨o_vldR,o_domR,o_atR,trivial⟩ 1000 (.fork (.ln 11 (.lit .all)) (.ln 3 (.fork (.ln 7 (.lit .all)) (.ln 7 (.fork .all .all)))))
  (t:=.node (!validB m.1) (.leaf (.agg [.int .i64 0,.int .i64 0,.int .i64 0,.int .i64 0])) (.node (decide (m.2.1<0)) (.leaf (.agg [.int .i64 0,.int .i64 0,.int .i64 0,.int .i64 0])) (.node (decide (m.2.1>dom m.1.1)) (.leaf (.agg [.int .i64 0,.int .i64 0,.int .i64 0,.int .i64 0])) (.leaf (.agg [.int .i64 (at4 m.1.1 m.2.1).1,.int .i64 (at4 m.1.1 m.2.1).2.1,.int .i64 (at4 m.1.1 m.2.1).2.2.1,.int .i64 (at4 m.1.1 m.2.1).2.2.2])))))
  (by kernel_rfl) (by simp only[Tree.holds,sL,ne_eq,beq_iff_eq,bne_iff_ne,eq_self,beq_eq_false_iff_ne,bne_eq_false_iff_eq,implies_true];(repeat' (first|apply And.intro|intro _));all_goals first|(rw[madeM_no (by first|omega|grind)];rfl)|(rw[madeM_yes (by first|omega|grind)];rfl)) (by kernel_rfl) (by rfl)
theorem s_ended(m:Mo):SCall Tryz.prog 166 [Mo.sv m] (.bool (endedM m)):=
 scall_v mix [fVld,fDom] ⟨o_vld,o_dom,trivial⟩ 1000 (.fork (.ln 6 (.lit .all)) (.ln 6 (.lit .all)))
  (t:=.node (validB m.fst)
 (.leaf (SV.bool (m.snd.fst==dom m.fst.fst)))
 (.leaf (SV.bool false)))
   (by kernel_rfl) (by simp only[Tree.holds,sL,ne_eq,beq_iff_eq,bne_iff_ne,eq_self,beq_eq_false_iff_ne,bne_eq_false_iff_eq,implies_true];(repeat' (first|apply And.intro|intro _));all_goals(refine holds_bool ?_;rw[endedM_iff];(try simp only[sL,ne_eq,beq_iff_eq,bne_iff_ne,eq_self,beq_eq_false_iff_ne,bne_eq_false_iff_eq,implies_true]); first|omega|grind)) (by kernel_rfl) (by kernel_rfl)
theorem s_endedR(m:Mo):SCall Tryz.prog 173 [Mo.sv m] (.bool (endedM m)):=
 scall_v mix [fVldR,fDomR] ⟨o_vldR,o_domR,trivial⟩ 1000 (.fork (.ln 6 (.lit .all)) (.ln 6 (.lit .all)))
  (t:=.node (validB m.fst)
 (.leaf (SV.bool (m.snd.fst==dom m.fst.fst)))
 (.leaf (SV.bool false)))
   (by kernel_rfl) (by simp only[Tree.holds,sL,ne_eq,beq_iff_eq,bne_iff_ne,eq_self,beq_eq_false_iff_ne,bne_eq_false_iff_eq,implies_true];(repeat' (first|apply And.intro|intro _));all_goals(refine holds_bool ?_;rw[endedM_iff];(try simp only[sL,ne_eq,beq_iff_eq,bne_iff_ne,eq_self,beq_eq_false_iff_ne,bne_eq_false_iff_eq,implies_true]); first|omega|grind)) (by kernel_rfl) (by kernel_rfl)
theorem s_at1(t:Int):SCall Tryz.prog 229 [I64 t] (.agg [.fn 276 [] [.eptr (.int .i64) [t] 0 0]]):=
 scall_cE (hB (l:=[]) (k:=[]) (j:=[]) (i:=[]) ([] :List Nat) ([] :List Nat) ([] :List Nat) ([] :List Nat) (trivial) noneOk noneOk noneOk) 1000 (.all)
  (t:=.leaf (SV.agg [SV.fn 276 [] [SV.eptr (Ty.int IntKind.i64) [t] 0 0]]))
  (by kernel_rfl) (by exact rfl) (by kernel_rfl) (by kernel_rfl)
def fAt1:Fact:=factI 229 fun t=>.leaf (.agg [.fn 276 [] [.eptr (.int .i64) [t] 0 0]])
theorem o_at1:fAt1.ok Tryz.prog:=factI_ok s_at1
theorem s_start(b:Bk)(t:Int):SCall Tryz.prog 174 [Bk.sv b,I64 t] (startV b t):=
 scall_v mix [fVld,fDom,fIvl,fAt1] ⟨o_vld,o_dom,o_ivl,o_at1,trivial⟩ 1000 (.fork (.ln 3 (.lit .all)) (.lit (.fork (.ln 4 (.fork .all (.fork .all .all))) (.ln 4 (.lit .all)))))
  (t:=let y0:Tree SV:=.leaf (.tuple [.agg [.int .i64 0,.int .i64 0,.int .i64 0,.int .i64 0,.int .i64 0,.int .i64 0,.int .i64 0,.int .i64 0,.int .i64 0,.int .i64 0],.int .i64 1]);.node (!validB b) y0 (.node (decide (t≥1)) (.node (!decide (t≤1048576)) y0 (.node (0==dom b.1) (.leaf (.tuple [.agg [.int .i64 b.1.1,.int .i64 b.1.2.1,.int .i64 b.1.2.2.1,.int .i64 b.1.2.2.2,.int .i64 b.2.1,.int .i64 b.2.2.1,.int .i64 b.2.2.2.1,.int .i64 b.2.2.2.2,.int .i64 0,.int .i64 0],.int .i64 0])) (.leaf (.tuple [.agg [.int .i64 b.1.1,.int .i64 b.1.2.1,.int .i64 b.1.2.2.1,.int .i64 b.1.2.2.2,.int .i64 b.2.1,.int .i64 b.2.2.1,.int .i64 b.2.2.2.1,.int .i64 b.2.2.2.2,.int .i64 0,.int .i64 (ivl b 1 t)],.int .i64 0])))) y0))
  (by kernel_rfl) (by
   have dp:∀b:Bk,validB b=true→1≤dom b.1∧dom b.1≤16777216:=fun _ h=>valid_dom h
   simp only[Tree.holds,sL,ne_eq,beq_iff_eq,bne_iff_ne,eq_self,beq_eq_false_iff_ne,bne_eq_false_iff_eq,implies_true];(repeat' (first|apply And.intro|intro _));
   all_goals first
    |(rw[startV_no (Bool.eq_false_iff.2 (by rw[ne_eq,okS_iff];first|omega|grind))];rfl)
    |(rw[startV_yes (okS_iff.2 (by first|omega|grind))];rfl)
    |(exfalso;grind)) (by kernel_rfl) (by unfold startV;split<;>rfl)
theorem s_startR(b:Bk)(t:Int):SCall Tryz.prog 85 [Bk.sv b,I64 t] (startV b t):=
 scall_v mix [fVldR,fDomR,fIvlR] ⟨o_vldR,o_domR,o_ivlR,trivial⟩ 1000 (.fork (.ln 6 (.lit .all)) (.lit (.lit (.fork (.ln 3 (.lit .all)) (.ln 3 (.fork .all .all))))))
  (t:=let y0:Tree SV:=.leaf (.tuple [.agg [.int .i64 0,.int .i64 0,.int .i64 0,.int .i64 0,.int .i64 0,.int .i64 0,.int .i64 0,.int .i64 0,.int .i64 0,.int .i64 0],.int .i64 1]);.node (decide (t<1)) y0 (.node (decide (t>1048576)) y0 (.node (!validB b) y0 (.leaf (.tuple [.agg [.int .i64 b.1.1,.int .i64 b.1.2.1,.int .i64 b.1.2.2.1,.int .i64 b.1.2.2.2,.int .i64 b.2.1,.int .i64 b.2.2.1,.int .i64 b.2.2.2.1,.int .i64 b.2.2.2.2,.int .i64 0,.int .i64 (ivl b 1 t)],.int .i64 0])))))
  (by kernel_rfl) (by
   have dp:∀b:Bk,validB b=true→1≤dom b.1∧dom b.1≤16777216:=fun _ h=>valid_dom h
   simp only[Tree.holds,sL,ne_eq,beq_iff_eq,bne_iff_ne,eq_self,beq_eq_false_iff_ne,bne_eq_false_iff_eq,implies_true];(repeat' (first|apply And.intro|intro _));
   all_goals first
    |(rw[startV_no (Bool.eq_false_iff.2 (by rw[ne_eq,okS_iff];first|omega|grind))];rfl)
    |(rw[startV_yes (okS_iff.2 (by first|omega|grind))];rfl)
    |(exfalso;grind)) (by kernel_rfl) (by unfold startV;split<;>rfl)
theorem s_tick(m:Mo)(t:Int):SCall Tryz.prog 165 [Mo.sv m,I64 t] (tickS m t):=
 scall_v mix [fVld,fDom,fIvl,fPul,fAt1] ⟨o_vld,o_dom,o_ivl,o_pul,o_at1,trivial⟩ 1000 (.fork (.lit (.lit (.fork (.ln 4 (.lit .all)) (.lit (.lit (.fork (.ln 14 (.lit .all)) (.ln 3 (.fork (.ln 10 (.lit .all)) (.ln 7 (.fork (.lit (.lit (.lit .all))) (.fork (.ln 13 (.fork .all (.fork .all (.fork .all .all)))) (.ln 13 (.lit .all))))))))))))) (.ln 7 (.lit .all)))
  (t:=let y0:Tree SV:=.leaf (.tuple [.agg [.int .i64 m.1.1.1,.int .i64 m.1.1.2.1,.int .i64 m.1.1.2.2.1,.int .i64 m.1.1.2.2.2,.int .i64 m.1.2.1,.int .i64 m.1.2.2.1,.int .i64 m.1.2.2.2.1,.int .i64 m.1.2.2.2.2,.int .i64 m.2.1,.int .i64 m.2.2],.agg [.int .i64 0,.int .i64 0,.int .i64 0,.int .i64 0]]);let y1:=i64.wrap (m.2.1+1);let y2:=pul m.1.1 y1;.node (decide (t≥1)) (.node (!decide (t≤1048576)) y0 (.node (!validB m.1) y0 (.node (decide (m.2.1<0)) y0 (.node (decide (m.2.1≥dom m.1.1)) y0 (.node (decide (m.2.2≥1)) (.node (!decide (m.2.2≤ivl m.1 y1 t)) y0 (.node (decide (i64.wrap (m.2.2-1)>0)) (.leaf (.tuple [.agg [.int .i64 m.1.1.1,.int .i64 m.1.1.2.1,.int .i64 m.1.1.2.2.1,.int .i64 m.1.1.2.2.2,.int .i64 m.1.2.1,.int .i64 m.1.2.2.1,.int .i64 m.1.2.2.2.1,.int .i64 m.1.2.2.2.2,.int .i64 m.2.1,.int .i64 (i64.wrap (m.2.2-1))],.agg [.int .i64 0,.int .i64 0,.int .i64 0,.int .i64 0]])) (.node (i64.wrap (m.2.1+1)==dom m.1.1) (.leaf (.tuple [.agg [.int .i64 m.1.1.1,.int .i64 m.1.1.2.1,.int .i64 m.1.1.2.2.1,.int .i64 m.1.1.2.2.2,.int .i64 m.1.2.1,.int .i64 m.1.2.2.1,.int .i64 m.1.2.2.2.1,.int .i64 m.1.2.2.2.2,.int .i64 y1,.int .i64 0],.agg [.int .i64 y2.1,.int .i64 y2.2.1,.int .i64 y2.2.2.1,.int .i64 y2.2.2.2]])) (.leaf (.tuple [.agg [.int .i64 m.1.1.1,.int .i64 m.1.1.2.1,.int .i64 m.1.1.2.2.1,.int .i64 m.1.1.2.2.2,.int .i64 m.1.2.1,.int .i64 m.1.2.2.1,.int .i64 m.1.2.2.2.1,.int .i64 m.1.2.2.2.2,.int .i64 y1,.int .i64 (ivl m.1 (i64.wrap (i64.wrap (m.2.1+1)+1)) t)],.agg [.int .i64 y2.1,.int .i64 y2.2.1,.int .i64 y2.2.2.1,.int .i64 y2.2.2.2]]))))) y0))))) y0)
  (by kernel_rfl) (by
   have dp:∀b:Bk,validB b=true→1≤dom b.1∧dom b.1≤16777216:=fun _ h=>valid_dom h
   have iv:=ivl_bnd m.1 (m.2.1+1) t
   have ip:=ivl_pos (b:=m.1) (i:=m.2.1+1) (t:=t)
   have dr:=dom_range m.1.1
   have hw1:0≤m.2.1∧m.2.1≤dom m.1.1-1→i64.wrap (m.2.1+1)=m.2.1+1:=fun h=>w64 (by omega) (by omega)
   have hw2:1≤m.2.2∧m.2.2≤4296015872→i64.wrap (m.2.2-1)=m.2.2-1:=fun h=>w64 (by omega) (by omega)
   have hw3:0≤m.2.1∧m.2.1≤dom m.1.1-1→i64.wrap (m.2.1+1+1)=m.2.1+2:=fun h=>(w64 (x:=m.2.1+1+1) (by omega) (by omega)).trans (by omega)
   simp only[Tree.holds,sL,ne_eq,beq_iff_eq,bne_iff_ne,eq_self,beq_eq_false_iff_ne,bne_eq_false_iff_eq,implies_true];(repeat' (first|apply And.intro|intro _));
   all_goals first
    |(rw[tickS_no (Bool.eq_false_iff.2 (by rw[ne_eq,runsM_iff];grind))];rfl)
    |(rw[tickS_one (runsM_iff.2 (by grind)) (by grind)]
      simp only[Mo.sv,V4.sv,I64,z4,SV.tuple.injEq,SV.agg.injEq,List.cons.injEq,SV.int.injEq,SV.bool.injEq,true_and,and_true,eq_self]
      (repeat' apply And.intro)<;>first|rfl|grind)
    |(have r:runsM m t=true:=runsM_iff.2 (by grind)
      have r2:¬1<m.2.2:=by grind
      have r3:=hw1 (runsM_iff.1 r).2.1
      rw[tickS_two r r2]
      simp only[r3,hw3 (runsM_iff.1 r).2.1,Mo.sv,V4.sv,I64,SV.tuple.injEq,SV.agg.injEq,List.cons.injEq,SV.int.injEq,SV.bool.injEq,true_and,and_true,eq_self]
      (repeat' apply And.intro)<;>first|rfl|grind)
    |(exfalso;grind)) (by kernel_rfl) (by rfl)
theorem s_tickR(m:Mo)(t:Int):SCall Tryz.prog 171 [Mo.sv m,I64 t] (tickS m t):=
 scall_v mix [fVldR,fDomR,fIvlR,fPulR] ⟨o_vldR,o_domR,o_ivlR,o_pulR,trivial⟩ 1000 (.fork (.ln 11 (.lit .all)) (.lit (.lit (.fork (.ln 8 (.lit .all)) (.ln 4 (.fork (.ln 3 (.lit .all)) (.fork (.fork (.lit (.lit (.lit .all))) (.lit (.fork (.ln 8 (.fork .all (.fork .all (.fork (.ln 7 (.fork .all .all)) (.ln 7 (.lit .all)))))) (.ln 9 (.fork .all (.fork (.ln 7 (.fork .all .all)) (.ln 7 (.lit .all)))))))) (.fork (.ln 4 (.fork (.ln 3 (.fork (.ln 10 (.fork (.lit (.lit (.lit .all))) (.lit (.fork (.ln 8 (.fork .all (.fork .all (.fork (.ln 7 (.fork .all .all)) (.ln 7 (.lit .all)))))) (.ln 9 (.fork .all (.fork (.ln 7 (.fork .all .all)) (.ln 7 (.lit .all))))))))) (.ln 13 (.lit .all)))) (.ln 17 (.lit .all)))) (.ln 22 (.lit .all))))))))))
  (t:=let y1:Tree SV:=.leaf (.tuple [.agg [.int .i64 m.1.1.1,.int .i64 m.1.1.2.1,.int .i64 m.1.1.2.2.1,.int .i64 m.1.1.2.2.2,.int .i64 m.1.2.1,.int .i64 m.1.2.2.1,.int .i64 m.1.2.2.2.1,.int .i64 m.1.2.2.2.2,.int .i64 m.2.1,.int .i64 m.2.2],.agg [.int .i64 0,.int .i64 0,.int .i64 0,.int .i64 0]]);let y3:=i64.wrap (m.2.1+1);let y4:=pul m.1.1 y3;let y2:Tree SV:=.leaf (.tuple [.agg [.int .i64 m.1.1.1,.int .i64 m.1.1.2.1,.int .i64 m.1.1.2.2.1,.int .i64 m.1.1.2.2.2,.int .i64 m.1.2.1,.int .i64 m.1.2.2.1,.int .i64 m.1.2.2.2.1,.int .i64 m.1.2.2.2.2,.int .i64 y3,.int .i64 (ivl m.1 (i64.wrap (i64.wrap (m.2.1+1)+1)) t)],.agg [.int .i64 y4.1,.int .i64 y4.2.1,.int .i64 y4.2.2.1,.int .i64 y4.2.2.2]]);let y0:Tree SV:=.node (decide (i64.wrap (m.2.2-1)>0)) (.leaf (.tuple [.agg [.int .i64 m.1.1.1,.int .i64 m.1.1.2.1,.int .i64 m.1.1.2.2.1,.int .i64 m.1.1.2.2.2,.int .i64 m.1.2.1,.int .i64 m.1.2.2.1,.int .i64 m.1.2.2.2.1,.int .i64 m.1.2.2.2.2,.int .i64 m.2.1,.int .i64 (i64.wrap (m.2.2-1))],.agg [.int .i64 0,.int .i64 0,.int .i64 0,.int .i64 0]])) (.node (validB m.1) (.node (!i64.wrap (m.2.1+1)==dom m.1.1) y2 (.leaf (.tuple [.agg [.int .i64 m.1.1.1,.int .i64 m.1.1.2.1,.int .i64 m.1.1.2.2.1,.int .i64 m.1.1.2.2.2,.int .i64 m.1.2.1,.int .i64 m.1.2.2.1,.int .i64 m.1.2.2.2.1,.int .i64 m.1.2.2.2.2,.int .i64 y3,.int .i64 (i64.wrap (m.2.2-1))],.agg [.int .i64 y4.1,.int .i64 y4.2.1,.int .i64 y4.2.2.1,.int .i64 y4.2.2.2]]))) y2);.node (decide (t<1)) y1 (.node (decide (t>1048576)) y1 (.node (!validB m.1) y1 (.node (m.2.1==dom m.1.1) (.node (!m.2.2==0) y1 (.node (validB m.1) (.node (m.2.1==dom m.1.1) y1 y0) y0)) (.node (decide (m.2.1≥0)) (.node (decide (m.2.1<dom m.1.1)) (.node (decide (m.2.2≥1)) (.node (!decide (m.2.2≤ivl m.1 y3 t)) y1 (.node (validB m.1) (.node (m.2.1==dom m.1.1) y1 y0) y0)) y1) y1) y1)))))
  (by kernel_rfl) (by
   have dp:∀b:Bk,validB b=true→1≤dom b.1∧dom b.1≤16777216:=fun _ h=>valid_dom h
   have iv:=ivl_bnd m.1 (m.2.1+1) t
   have ip:=ivl_pos (b:=m.1) (i:=m.2.1+1) (t:=t)
   have dr:=dom_range m.1.1
   have hw1:0≤m.2.1∧m.2.1≤dom m.1.1-1→i64.wrap (m.2.1+1)=m.2.1+1:=fun h=>w64 (by omega) (by omega)
   have hw2:1≤m.2.2∧m.2.2≤4296015872→i64.wrap (m.2.2-1)=m.2.2-1:=fun h=>w64 (by omega) (by omega)
   have hw3:0≤m.2.1∧m.2.1≤dom m.1.1-1→i64.wrap (m.2.1+1+1)=m.2.1+2:=fun h=>(w64 (x:=m.2.1+1+1) (by omega) (by omega)).trans (by omega)
   simp only[Tree.holds,sL,ne_eq,beq_iff_eq,bne_iff_ne,eq_self,beq_eq_false_iff_ne,bne_eq_false_iff_eq,implies_true];(repeat' (first|apply And.intro|intro _));
   all_goals first
    |(rw[tickS_no (Bool.eq_false_iff.2 (by rw[ne_eq,runsM_iff];grind))];rfl)
    |(rw[tickS_one (runsM_iff.2 (by grind)) (by grind)]
      simp only[Mo.sv,V4.sv,I64,z4,SV.tuple.injEq,SV.agg.injEq,List.cons.injEq,SV.int.injEq,SV.bool.injEq,true_and,and_true,eq_self]
      (repeat' apply And.intro)<;>first|rfl|grind)
    |(have r:runsM m t=true:=runsM_iff.2 (by grind)
      have r2:¬1<m.2.2:=by grind
      have r3:=hw1 (runsM_iff.1 r).2.1
      rw[tickS_two r r2]
      simp only[r3,hw3 (runsM_iff.1 r).2.1,Mo.sv,V4.sv,I64,SV.tuple.injEq,SV.agg.injEq,List.cons.injEq,SV.int.injEq,SV.bool.injEq,true_and,and_true,eq_self]
      (repeat' apply And.intro)<;>first|rfl|grind)
    |(exfalso;grind)) (by kernel_rfl) (by rfl)
def fMade:Fact:=factMo 205 fun m=>.leaf (V4.sv (madeM m))
def fMadeR:Fact:=factMo 132 fun m=>.leaf (V4.sv (madeM m))
theorem o_made:fMade.ok Tryz.prog:=factMo_ok (s_made)
theorem o_madeR:fMadeR.ok Tryz.prog:=factMo_ok (s_madeR)
def fEnded:Fact:=factMo 166 fun m=>.leaf (.bool (endedM m))
def fEndedR:Fact:=factMo 173 fun m=>.leaf (.bool (endedM m))
theorem o_ended:fEnded.ok Tryz.prog:=factMo_ok (s_ended)
theorem o_endedR:fEndedR.ok Tryz.prog:=factMo_ok (s_endedR)
def fTick:Fact:=factMoI 165 fun m t=>.leaf (tickS m t)
def fTickR:Fact:=factMoI 171 fun m t=>.leaf (tickS m t)
theorem o_tick:fTick.ok Tryz.prog:=factMoI_ok (s_tick)
theorem o_tickR:fTickR.ok Tryz.prog:=factMoI_ok (s_tickR)
def fStart:Fact:=factBI 174 fun b t=>.node (okS b t) (.leaf (.tuple [Mo.sv (startM b t),I64 0])) (.leaf (.tuple [Mo.sv m0,I64 1]))
def fStartR:Fact:=factBI 85 fun b t=>.node (okS b t) (.leaf (.tuple [Mo.sv (startM b t),I64 0])) (.leaf (.tuple [Mo.sv m0,I64 1]))
theorem o_start:fStart.ok Tryz.prog:=factBI_ok (fun b t=>⟨fun h=>startV_yes h▸s_start b t,fun h=>startV_no h▸s_start b t⟩)
theorem o_startR:fStartR.ok Tryz.prog:=factBI_ok (fun b t=>⟨fun h=>startV_yes h▸s_startR b t,fun h=>startV_no h▸s_startR b t⟩)
theorem ediv_rng{a b M:Int}(hb:1≤b)(hM:0≤M)(h: -M≤a∧a≤M): -M≤a / b∧a / b≤M:=by
 constructor
 ·refine Int.le_ediv_of_mul_le (by omega) ?_
  have:M*1≤M*b:=Int.mul_le_mul_of_nonneg_left hb hM
  rw[Int.neg_mul];omega
 ·by_cases ha:0≤a
  ·have:=Int.ediv_le_self b ha;omega
  ·have:=Int.ediv_neg_of_neg_of_pos (a:=a) (b:=b) (by omega) (by omega);omega
theorem fl_tdiv{a b:Int}(hb:1≤b):a.tdiv b=if a<0∧a.tmod b≠0 then a / b+1 else a / b:=by
 rw[Int.tdiv_eq_ediv]
 have hs:b.sign=1:=Int.sign_eq_one_of_pos (by omega)
 have hd:b ∣ a↔a.tmod b=0:=⟨Int.tmod_eq_zero_of_dvd,Int.dvd_of_tmod_eq_zero⟩
 rw[hs]
 by_cases h1:0≤a∨b ∣ a
 ·rw[if_pos h1,if_neg (by rw[hd]at h1;omega)];omega
 ·rw[if_neg h1,if_pos (by rw[hd]at h1;omega)]
def rnd(a b:Int):Int:=if b-a % b≤a % b then a / b+1 else a / b
theorem rnd_rng{a b M:Int}(hb:1≤b)(hM:0≤M)(h: -M≤a∧a≤M): -M≤rnd a b∧rnd a b≤M+1:=by
 have:=ediv_rng hb hM h
 unfold rnd;split<;>omega
theorem mod_rng{a b:Int}(hb:1≤b):0≤a % b∧a % b<b:=⟨Int.emod_nonneg _ (by omega),Int.emod_lt_of_pos _ (by omega)⟩
theorem sub_mul{a b:Int}:a-a / b*b=a % b:=by rw[Int.emod_def,Int.mul_comm]
def cla(n lo hi:Int):Int:=if n<lo then lo else if n>hi then hi else n
theorem cla_rng{n lo hi:Int}(h:lo≤hi):lo≤cla n lo hi∧cla n lo hi≤hi:=by unfold cla;(repeat' split)<;>omega
theorem wu64{x:Int}(h0:0≤x)(h1:x≤9223372036854775807):u64.wrap x=x:=by
 have h2:IntKind.wrap .u64 x=if false&&decide (x % 18446744073709551616≥9223372036854775808)then x % 18446744073709551616-18446744073709551616 else x % 18446744073709551616:=rfl
 rw[h2]
 simp only[Bool.false_and,Bool.false_eq_true,if_false]
 omega
theorem s_flo(a b:Int)(h:(inR b 1 4611686018427387904&&inR a (-4611686018427387904) 4611686018427387904)=true):SCall Tryz.prog 225 [I64 a,I64 b] (.tuple [I64 (a / b),I64 0]):=
 scall_v mix [] trivial 1000 (.fork .all (.fork (.lit (.lit (.fork .all (.fork (.ln 5 (.fork .all .all)) (.ln 5 (.lit .all)))))) (.ln 3 (.fork (.ln 5 (.fork .all .all)) (.ln 5 (.lit .all))))))
  (t:=let y1:Tree SV:=.leaf (.tuple [.int .i64 (i64.wrap (a.tdiv b)),.int .i64 0]);let y0:Tree SV:=.req (!b==0) (.req (!b==0) (.node (a.tmod b != 0) (.node (!decide (a<0)==decide (b<0)) (.leaf (.tuple [.int .i64 (i64.wrap (i64.wrap (a.tdiv b)-1)),.int .i64 0])) y1) y1));.node (b==0) (.leaf (.tuple [.int .i64 0,.int .i64 4])) (.node (a== -9223372036854775808) (.node (b== -1) (.leaf (.tuple [.int .i64 0,.int .i64 3])) y0) y0))
  (by kernel_rfl) (by
   rw[Bool.and_eq_true,inR_iff,inR_iff]at h
   have r:=ediv_rng h.1.1 (by omega) h.2
   have e:=fl_tdiv (a:=a) h.1.1
   have k1:i64.wrap (a / b)=a / b:=w64 (by omega) (by omega)
   have k2:i64.wrap (a / b+1)=a / b+1:=w64 (by omega) (by omega)
   have k3:i64.wrap (a / b+1-1)=a / b:=(w64 (by omega) (by omega)).trans (by omega)
   have hb0:decide (b<0)=false:=decide_eq_false (by omega)
   have hb1:(b==0)=false:=by simp;omega
   have hb2:(b== -1)=false:=by simp;omega
   have ha0:(a== -9223372036854775808)=false:=by simp;omega
   by_cases ha:a<0<;>by_cases hm:a.tmod b=0
   all_goals simp only[Tree.holds,hb0,hb1,hb2,ha0,ha,hm,decide_true,decide_false,Bool.true_eq_false,Bool.false_eq_true,false_implies,true_implies,true_and,and_true,Bool.not_false,bne_self_eq_false,bne_iff_ne,ne_eq,not_true_eq_false,not_false_eq_true,bne_eq_false_iff_eq,eq_self,beq_self_eq_true,Bool.not_true,show(false==false)=true from rfl,show(true==false)=false from rfl,false_and,and_false]at e ⊢
   all_goals simp only[e,if_true,if_false,k1,k2,k3,I64]
) (by kernel_rfl) (by kernel_rfl)
theorem s_floR(a b:Int)(h:(inR b 1 4611686018427387904&&inR a (-4611686018427387904) 4611686018427387904)=true):SCall Tryz.prog 235 [I64 a,I64 b] (.tuple [I64 (a / b),I64 0]):=
 scall_v mix [] trivial 1000 (.fork .all (.fork (.lit (.lit (.fork .all (.fork (.ln 5 (.fork .all .all)) (.ln 5 (.lit .all)))))) (.ln 3 (.fork (.ln 5 (.fork .all .all)) (.ln 5 (.lit .all))))))
  (t:=let y1:Tree SV:=.leaf (.tuple [.int .i64 (i64.wrap (a.tdiv b)),.int .i64 0]);let y0:Tree SV:=.req (!b==0) (.req (!b==0) (.node (a.tmod b != 0) (.node (!decide (a<0)==decide (b<0)) (.leaf (.tuple [.int .i64 (i64.wrap (i64.wrap (a.tdiv b)-1)),.int .i64 0])) y1) y1));.node (b==0) (.leaf (.tuple [.int .i64 0,.int .i64 4])) (.node (a== -9223372036854775808) (.node (b== -1) (.leaf (.tuple [.int .i64 0,.int .i64 3])) y0) y0))
  (by kernel_rfl) (by
   rw[Bool.and_eq_true,inR_iff,inR_iff]at h
   have r:=ediv_rng h.1.1 (by omega) h.2
   have e:=fl_tdiv (a:=a) h.1.1
   have k1:i64.wrap (a / b)=a / b:=w64 (by omega) (by omega)
   have k2:i64.wrap (a / b+1)=a / b+1:=w64 (by omega) (by omega)
   have k3:i64.wrap (a / b+1-1)=a / b:=(w64 (by omega) (by omega)).trans (by omega)
   have hb0:decide (b<0)=false:=decide_eq_false (by omega)
   have hb1:(b==0)=false:=by simp;omega
   have hb2:(b== -1)=false:=by simp;omega
   have ha0:(a== -9223372036854775808)=false:=by simp;omega
   by_cases ha:a<0<;>by_cases hm:a.tmod b=0
   all_goals simp only[Tree.holds,hb0,hb1,hb2,ha0,ha,hm,decide_true,decide_false,Bool.true_eq_false,Bool.false_eq_true,false_implies,true_implies,true_and,and_true,Bool.not_false,bne_self_eq_false,bne_iff_ne,ne_eq,not_true_eq_false,not_false_eq_true,bne_eq_false_iff_eq,eq_self,beq_self_eq_true,Bool.not_true,show(false==false)=true from rfl,show(true==false)=false from rfl,false_and,and_false]at e ⊢
   all_goals simp only[e,if_true,if_false,k1,k2,k3,I64]
) (by kernel_rfl) (by kernel_rfl)
def fFlo:Fact:=factII 225 fun a b=>.req (inR b 1 4611686018427387904&&inR a (-4611686018427387904) 4611686018427387904) (.leaf (.tuple [I64 (a / b),I64 0]))
def fFloR:Fact:=factII 235 fun a b=>.req (inR b 1 4611686018427387904&&inR a (-4611686018427387904) 4611686018427387904) (.leaf (.tuple [I64 (a / b),I64 0]))
theorem o_flo:fFlo.ok Tryz.prog:=factII_ok (fun a b h=>s_flo a b h)
theorem o_floR:fFloR.ok Tryz.prog:=factII_ok (fun a b h=>s_floR a b h)
theorem s_rnd(a b:Int)(h:(inR b 1 4611686018427387904&&inR a (-4611686018427387904) 4611686018427387904)=true):SCall Tryz.prog 208 [I64 a,I64 b] (.tuple [I64 (rnd a b),I64 0]):=
 scall_v mix [fFlo] ⟨o_flo,trivial⟩ 1000 (.lit (.fork (.ln 5 (.fork (.ln 4 (.lit .all)) (.lit (.lit (.fork (.ln 7 (.fork .all .all)) (.ln 7 (.lit .all))))))) (.ln 8 (.fork (.ln 7 (.fork .all .all)) (.ln 7 (.lit .all))))))
  (t:=let y1:=a-i64.wrap (a / b*b);let y2:Tree SV:=.leaf (.tuple [.int .i64 (i64.wrap (a / b+1)),.int .i64 0]);let y0:Tree SV:=.node (decide (b<0)) (.node (decide (i64.wrap y1≤i64.wrap (b-i64.wrap y1))) y2 (.leaf (.tuple [.int .i64 (a / b),.int .i64 0]))) (.leaf (.tuple [.int .i64 (a / b),.int .i64 0]));.req (inR b 1 4611686018427387904&&inR a (-4611686018427387904) 4611686018427387904) (.node (decide (b>0)) (.node (decide (i64.wrap y1≥i64.wrap (b-i64.wrap y1))) y2 y0) y0))
  (by kernel_rfl) (by
   rw[Bool.and_eq_true,inR_iff,inR_iff]at h
   have r:=ediv_rng h.1.1 (by omega) h.2
   have q:=mod_rng (a:=a) h.1.1
   have e:=sub_mul (a:=a) (b:=b)
   have k0:i64.wrap (a / b*b)=a / b*b:=w64 (by omega) (by omega)
   have k1:i64.wrap (a % b)=a % b:=w64 (by omega) (by omega)
   have k2:i64.wrap (a / b+1)=a / b+1:=w64 (by omega) (by omega)
   have k3:i64.wrap (b-a % b)=b-a % b:=w64 (by omega) (by omega)
   have k4:u64.wrap (a % b)=a % b:=wu64 (by omega) (by omega)
   have k5:u64.wrap b=b:=wu64 (by omega) (by omega)
   have k6:u64.wrap (b-a % b)=b-a % b:=wu64 (by omega) (by omega)
   have hh:(inR b 1 4611686018427387904&&inR a (-4611686018427387904) 4611686018427387904)=true:=by rw[Bool.and_eq_true,inR_iff,inR_iff];exact h
   simp only[hh,k0,e,k1,k2,k3,k4,k5,k6,Tree.holds,ge_iff_le,sL,ne_eq,beq_iff_eq,bne_iff_ne,eq_self,beq_eq_false_iff_ne,bne_eq_false_iff_eq,implies_true];(repeat' (first|apply And.intro|intro _));
   all_goals first
    |omega
    |(exfalso;omega)
    |(unfold rnd;rw[if_pos (by omega)];rfl)
    |(unfold rnd;rw[if_neg (by omega)];rfl)) (by kernel_rfl) (by kernel_rfl)
def fRnd:Fact:=factII 208 fun a b=>.req (inR b 1 4611686018427387904&&inR a (-4611686018427387904) 4611686018427387904) (.leaf (.tuple [I64 (rnd a b),I64 0]))
theorem o_rnd:fRnd.ok Tryz.prog:=factII_ok (fun a b h=>s_rnd a b h)
theorem s_cla(a b c:Int)(h:decide (b≤c)=true):SCall Tryz.prog 224 [I64 a,I64 b,I64 c] (I64 (cla a b c)):=
 scall_v mix [] trivial 1000 (.all)
  (t:=.leaf (SV.int IntKind.i64 (if(if c<a then c else a)>b then if c<a then c else a else b)))
  (by kernel_rfl) (by
   rw[decide_eq_true_eq]at h
   refine sv_int ?_
   unfold cla;(repeat' split)<;>omega) (by kernel_rfl) (by kernel_rfl)
theorem s_claR(a b c:Int)(h:decide (b≤c)=true):SCall Tryz.prog 234 [I64 a,I64 b,I64 c] (I64 (cla a b c)):=
 scall_v mix [] trivial 1000 (.all)
  (t:=.leaf (SV.int IntKind.i64 (if(if c<a then c else a)>b then if c<a then c else a else b)))
  (by kernel_rfl) (by
   rw[decide_eq_true_eq]at h
   refine sv_int ?_
   unfold cla;(repeat' split)<;>omega) (by kernel_rfl) (by kernel_rfl)
def fCla:Fact:=factIII 224 fun a b c=>.req (decide (b≤c)) (.leaf (I64 (cla a b c)))
def fClaR:Fact:=factIII 234 fun a b c=>.req (decide (b≤c)) (.leaf (I64 (cla a b c)))
theorem o_cla:fCla.ok Tryz.prog:=factIII_ok (fun a b c h=>s_cla a b c h)
theorem o_claR:fClaR.ok Tryz.prog:=factIII_ok (fun a b c h=>s_claR a b c h)
theorem s_claG(a b c:Int):SCall Tryz.prog 236 [I64 a,I64 b,I64 c] (I64 (cla a b c)):=
 scall_v mix [] trivial 1000 (.fork (.all) (.fork (.all) (.all)))
  (t:=.node (decide (a<b))
 (.leaf (SV.int IntKind.i64 b))
 (.node (decide (a>c))
  (.leaf (SV.int IntKind.i64 c))
  (.leaf (SV.int IntKind.i64 a))))
   (by kernel_rfl) (by
    simp only[Tree.holds,cla,I64];grind) (by kernel_rfl) (by kernel_rfl)
def fClaG:Fact:=factIII 236 fun a b c=>.leaf (I64 (cla a b c))
theorem o_claG:fClaG.ok Tryz.prog:=factIII_ok s_claG
abbrev V3:=Int×Int×Int
def V3.sv(v:V3):SV:=.agg [I64 v.1,I64 v.2.1,I64 v.2.2]
def axM(m:Ma)(i:Int):Ax:=if i=0 then m.x else if i=1 then m.y else if i=2 then m.z else m.e
def stOk(m:Ma)(p:Int):Bool:=m.ok&&inR p (-1073741824) 1073741824
theorem stOk_iff{m:Ma}{p:Int}:stOk m p=true↔m.ok=true∧-1073741824≤p∧p≤1073741824:=by simp only[stOk,Bool.and_eq_true,inR_iff]
def unOk(m:Ma)(p:Int):Bool:=m.ok&&inR p (-70368744177664) 70368744177664
theorem unOk_iff{m:Ma}{p:Int}:unOk m p=true↔m.ok=true∧-70368744177664≤p∧p≤70368744177664:=by simp only[unOk,Bool.and_eq_true,inR_iff]
def stepsN(a:Ax)(p:Int):Int:=rnd (p*a.num) a.den
def unitsN(a:Ax)(p:Int):Int:=rnd (p*a.den) a.num
def errI(b:Bool)(n:Int):SV:=match b with
 |true=>.tuple [I64 n,I64 0]
 |false=>.tuple [I64 0,I64 1]
theorem errI_yes{b:Bool}{n:Int}(h:b=true):errI b n=.tuple [I64 n,I64 0] :=by rw[h];rfl
theorem errI_no{b:Bool}{n:Int}(h:b=false):errI b n=.tuple [I64 0,I64 1] :=by rw[h];rfl
theorem mul_rng{p n A B:Int}(hA:0≤A)(hp: -A≤p∧p≤A)(hn:0≤n∧n≤B): -(A*B)≤p*n∧p*n≤A*B:=by
 have h1:p*n≤A*n:=Int.mul_le_mul_of_nonneg_right hp.2 hn.1
 have h2:A*n≤A*B:=Int.mul_le_mul_of_nonneg_left hn.2 hA
 have h3:(-A)*n≤p*n:=Int.mul_le_mul_of_nonneg_right hp.1 hn.1
 rw[Int.neg_mul]at h3
 omega
theorem st_rng{a:Ax}{p:Int}(h:a.ok=true)(hp: -1073741824≤p∧p≤1073741824):(-70368744177664≤p*a.num∧p*a.num≤70368744177664)∧-70368744177664≤stepsN a p∧stepsN a p≤70368744177665:=by
 rw[Ax.ok_iff]at h
 have:=mul_rng (A:=1073741824) (B:=65536) (by omega) hp (n:=a.num) (by omega)
 exact⟨this,rnd_rng (M:=70368744177664) (by omega) (by omega) this⟩
theorem un_rng{a:Ax}{p M:Int}(h:a.ok=true)(hM:0≤M)(hp: -M≤p∧p≤M):(-(M*65536)≤p*a.den∧p*a.den≤M*65536)∧-(M*65536)≤unitsN a p∧unitsN a p≤M*65536+1:=by
 rw[Ax.ok_iff]at h
 have:=mul_rng (A:=M) (B:=65536) (by omega) hp (n:=a.den) (by omega)
 exact⟨this,rnd_rng (M:=M*65536) (by omega) (by omega) this⟩
def core(xy:Bool)(c:V4):V4:=match xy with
 |true=>(c.1+c.2.1,c.1-c.2.1,c.2.2.1,c.2.2.2)
 |false=>c
def motV(m:Ma)(v:V3)(e:Int):V4:=core m.xy (stepsN m.x v.1,stepsN m.y v.2.1,stepsN m.z v.2.2,stepsN m.e e)
def motOk(m:Ma)(v:V3)(e:Int):Bool:=stOk m v.1&& (stOk m v.2.1&& (stOk m v.2.2&&stOk m e))
def insB(m:Ma)(v:V3):Bool:=m.ok&& (inR v.1 m.x.min m.x.max&& (inR v.2.1 m.y.min m.y.max&&inR v.2.2 m.z.min m.z.max))
def unco(xy:Bool)(p:V4):V4:=match xy with
 |true=>((p.1+p.2.1) / 2,(p.1-p.2.1) / 2,p.2.2.1,p.2.2.2)
 |false=>p
def posV(m:Ma)(p:V4):V4:=(unitsN m.x (unco m.xy p).1,unitsN m.y (unco m.xy p).2.1,unitsN m.z (unco m.xy p).2.2.1,unitsN m.e (unco m.xy p).2.2.2)
def factMII(f:FuncId)(h:Ma→Int→Int→Tree SV):Fact:=⟨f,fun args=>match args with
 |[.agg [.int .i64 a0,.int .i64 a1,.int .i64 a2,.int .i64 a3,.int .i64 a4,.int .i64 a5,.int .i64 a6,.int .i64 b0,.int .i64 b1,.int .i64 b2,.int .i64 b3,.int .i64 b4,.int .i64 b5,.int .i64 b6,.int .i64 c0,.int .i64 c1,.int .i64 c2,.int .i64 c3,.int .i64 c4,.int .i64 c5,.int .i64 c6,.int .i64 d0,.int .i64 d1,.int .i64 d2,.int .i64 d3,.int .i64 d4,.int .i64 d5,.int .i64 d6,.bool xy,.int .i64 t],.int .i64 i,.int .i64 p] =>some (h ⟨⟨a0,a1,a2,a3,a4,a5,a6⟩,⟨b0,b1,b2,b3,b4,b5,b6⟩,⟨c0,c1,c2,c3,c4,c5,c6⟩,⟨d0,d1,d2,d3,d4,d5,d6⟩,xy,t⟩ i p)
 |_=>none⟩
theorem factMII_ok{P:Program}{f:FuncId}{h:Ma→Int→Int→Tree SV}(k:∀m i p,(h m i p).says (SCall P f [m.sv,I64 i,I64 p])):(factMII f h).ok P:=fun args t ht=>by
 simp only[factMII]at ht
 split at ht
 ·injection ht with ht;subst ht;exact k ⟨⟨_,_,_,_,_,_,_⟩,⟨_,_,_,_,_,_,_⟩,⟨_,_,_,_,_,_,_⟩,⟨_,_,_,_,_,_,_⟩,_,_⟩ _ _
 ·cases ht
def factMV4(f:FuncId)(h:Ma→V4→Tree SV):Fact:=⟨f,fun args=>match args with
 |[.agg [.int .i64 a0,.int .i64 a1,.int .i64 a2,.int .i64 a3,.int .i64 a4,.int .i64 a5,.int .i64 a6,.int .i64 b0,.int .i64 b1,.int .i64 b2,.int .i64 b3,.int .i64 b4,.int .i64 b5,.int .i64 b6,.int .i64 c0,.int .i64 c1,.int .i64 c2,.int .i64 c3,.int .i64 c4,.int .i64 c5,.int .i64 c6,.int .i64 d0,.int .i64 d1,.int .i64 d2,.int .i64 d3,.int .i64 d4,.int .i64 d5,.int .i64 d6,.bool xy,.int .i64 t],.agg [.int .i64 x,.int .i64 y,.int .i64 z,.int .i64 w]] =>some (h ⟨⟨a0,a1,a2,a3,a4,a5,a6⟩,⟨b0,b1,b2,b3,b4,b5,b6⟩,⟨c0,c1,c2,c3,c4,c5,c6⟩,⟨d0,d1,d2,d3,d4,d5,d6⟩,xy,t⟩ (x,y,z,w))
 |_=>none⟩
theorem factMV4_ok{P:Program}{f:FuncId}{h:Ma→V4→Tree SV}(k:∀m v,(h m v).says (SCall P f [m.sv,V4.sv v])):(factMV4 f h).ok P:=fun args t ht=>by
 simp only[factMV4]at ht
 split at ht
 ·injection ht with ht;subst ht;exact k ⟨⟨_,_,_,_,_,_,_⟩,⟨_,_,_,_,_,_,_⟩,⟨_,_,_,_,_,_,_⟩,⟨_,_,_,_,_,_,_⟩,_,_⟩ (_,_,_,_)
 ·cases ht
theorem s_st0(m:Ma)(p:Int):SCall Tryz.prog 135 [m.sv,I64 0,I64 p] (errI (stOk m p) (stepsN m.x p)):=
 scall_v mix [fMaOk,fRnd] ⟨o_maOk,o_rnd,trivial⟩ 1000 (.fork (.ln 9 (.lit .all)) (.ln 7 (.fork (.ln 5 (.fork .all .all)) (.ln 5 (.lit .all)))))
  (t:=.node (!m.ok) (.leaf (.tuple [.int .i64 0,.int .i64 1])) (.node (decide (p≥-1073741824)) (.node (!decide (p≤1073741824)) (.leaf (.tuple [.int .i64 0,.int .i64 1])) (.req true (.req (true) (.req (inR m.x.den 1 4611686018427387904&&inR (i64.wrap (p*m.x.num)) (-4611686018427387904) 4611686018427387904) (.leaf (.tuple [.int .i64 (rnd (i64.wrap (p*m.x.num)) m.x.den),.int .i64 0])))))) (.leaf (.tuple [.int .i64 0,.int .i64 1]))))
  (by kernel_rfl) (by
   simp only[Tree.holds,sL,ne_eq,beq_iff_eq,bne_iff_ne,eq_self,beq_eq_false_iff_ne,bne_eq_false_iff_eq,implies_true];(repeat' (first|apply And.intro|intro _));
   all_goals first
    |(rw[errI_no (Bool.eq_false_iff.2 (by rw[ne_eq,stOk_iff];first|omega|grind))];rfl)
    |(have hk:=stOk_iff.1 (show stOk m p=true by rw[stOk_iff];first|omega|grind)
      have hx:m.x.ok=true:=by have:=Ma.ok_iff m;grind
      have r:=st_rng hx hk.2
      have ho:=(Ax.ok_iff _).1 hx
      have w:=w64 (x:=p*m.x.num) (by omega) (by omega)
      first
      |(rw[errI_yes (stOk_iff.2 hk),w];rfl)
      |(rw[w,inR_iff];omega)
      |(rw[inR_iff];omega))) (by kernel_rfl) (by unfold errI;split<;>rfl)
theorem s_un0(m:Ma)(p:Int):SCall Tryz.prog 192 [m.sv,I64 0,I64 p] (errI (unOk m p) (unitsN m.x p)):=
 scall_v mix [fMaOk,fRnd] ⟨o_maOk,o_rnd,trivial⟩ 1000 (.fork (.ln 9 (.lit .all)) (.ln 7 (.fork (.ln 5 (.fork .all .all)) (.ln 5 (.lit .all)))))
  (t:=.node (!m.ok) (.leaf (.tuple [.int .i64 0,.int .i64 1])) (.node (decide (p≥-70368744177664)) (.node (!decide (p≤70368744177664)) (.leaf (.tuple [.int .i64 0,.int .i64 1])) (.req true (.req (true) (.req (inR m.x.num 1 4611686018427387904&&inR (i64.wrap (p*m.x.den)) (-4611686018427387904) 4611686018427387904) (.leaf (.tuple [.int .i64 (rnd (i64.wrap (p*m.x.den)) m.x.num),.int .i64 0])))))) (.leaf (.tuple [.int .i64 0,.int .i64 1]))))
  (by kernel_rfl) (by
   simp only[Tree.holds,sL,ne_eq,beq_iff_eq,bne_iff_ne,eq_self,beq_eq_false_iff_ne,bne_eq_false_iff_eq,implies_true];(repeat' (first|apply And.intro|intro _));
   all_goals first
    |(rw[errI_no (Bool.eq_false_iff.2 (by rw[ne_eq,unOk_iff];first|omega|grind))];rfl)
    |(have hk:=unOk_iff.1 (show unOk m p=true by rw[unOk_iff];first|omega|grind)
      have hx:m.x.ok=true:=by have:=Ma.ok_iff m;grind
      have r:=un_rng hx (by omega) hk.2
      have ho:=(Ax.ok_iff _).1 hx
      have w:=w64 (x:=p*m.x.den) (by omega) (by omega)
      first
      |(rw[errI_yes (unOk_iff.2 hk),w];rfl)
      |(rw[w,inR_iff];omega)
      |(rw[inR_iff];omega))) (by kernel_rfl) (by unfold errI;split<;>rfl)
theorem s_st1(m:Ma)(p:Int):SCall Tryz.prog 135 [m.sv,I64 1,I64 p] (errI (stOk m p) (stepsN m.y p)):=
 scall_v mix [fMaOk,fRnd] ⟨o_maOk,o_rnd,trivial⟩ 1000 (.fork (.ln 9 (.lit .all)) (.ln 7 (.fork (.ln 5 (.fork .all .all)) (.ln 5 (.lit .all)))))
  (t:=.node (!m.ok) (.leaf (.tuple [.int .i64 0,.int .i64 1])) (.node (decide (p≥-1073741824)) (.node (!decide (p≤1073741824)) (.leaf (.tuple [.int .i64 0,.int .i64 1])) (.req true (.req (true) (.req (inR m.y.den 1 4611686018427387904&&inR (i64.wrap (p*m.y.num)) (-4611686018427387904) 4611686018427387904) (.leaf (.tuple [.int .i64 (rnd (i64.wrap (p*m.y.num)) m.y.den),.int .i64 0])))))) (.leaf (.tuple [.int .i64 0,.int .i64 1]))))
  (by kernel_rfl) (by
   simp only[Tree.holds,sL,ne_eq,beq_iff_eq,bne_iff_ne,eq_self,beq_eq_false_iff_ne,bne_eq_false_iff_eq,implies_true];(repeat' (first|apply And.intro|intro _));
   all_goals first
    |(rw[errI_no (Bool.eq_false_iff.2 (by rw[ne_eq,stOk_iff];first|omega|grind))];rfl)
    |(have hk:=stOk_iff.1 (show stOk m p=true by rw[stOk_iff];first|omega|grind)
      have hx:m.y.ok=true:=by have:=Ma.ok_iff m;grind
      have r:=st_rng hx hk.2
      have ho:=(Ax.ok_iff _).1 hx
      have w:=w64 (x:=p*m.y.num) (by omega) (by omega)
      first
      |(rw[errI_yes (stOk_iff.2 hk),w];rfl)
      |(rw[w,inR_iff];omega)
      |(rw[inR_iff];omega))) (by kernel_rfl) (by unfold errI;split<;>rfl)
theorem s_un1(m:Ma)(p:Int):SCall Tryz.prog 192 [m.sv,I64 1,I64 p] (errI (unOk m p) (unitsN m.y p)):=
 scall_v mix [fMaOk,fRnd] ⟨o_maOk,o_rnd,trivial⟩ 1000 (.fork (.ln 9 (.lit .all)) (.ln 7 (.fork (.ln 5 (.fork .all .all)) (.ln 5 (.lit .all)))))
  (t:=.node (!m.ok) (.leaf (.tuple [.int .i64 0,.int .i64 1])) (.node (decide (p≥-70368744177664)) (.node (!decide (p≤70368744177664)) (.leaf (.tuple [.int .i64 0,.int .i64 1])) (.req true (.req (true) (.req (inR m.y.num 1 4611686018427387904&&inR (i64.wrap (p*m.y.den)) (-4611686018427387904) 4611686018427387904) (.leaf (.tuple [.int .i64 (rnd (i64.wrap (p*m.y.den)) m.y.num),.int .i64 0])))))) (.leaf (.tuple [.int .i64 0,.int .i64 1]))))
  (by kernel_rfl) (by
   simp only[Tree.holds,sL,ne_eq,beq_iff_eq,bne_iff_ne,eq_self,beq_eq_false_iff_ne,bne_eq_false_iff_eq,implies_true];(repeat' (first|apply And.intro|intro _));
   all_goals first
    |(rw[errI_no (Bool.eq_false_iff.2 (by rw[ne_eq,unOk_iff];first|omega|grind))];rfl)
    |(have hk:=unOk_iff.1 (show unOk m p=true by rw[unOk_iff];first|omega|grind)
      have hx:m.y.ok=true:=by have:=Ma.ok_iff m;grind
      have r:=un_rng hx (by omega) hk.2
      have ho:=(Ax.ok_iff _).1 hx
      have w:=w64 (x:=p*m.y.den) (by omega) (by omega)
      first
      |(rw[errI_yes (unOk_iff.2 hk),w];rfl)
      |(rw[w,inR_iff];omega)
      |(rw[inR_iff];omega))) (by kernel_rfl) (by unfold errI;split<;>rfl)
theorem s_st2(m:Ma)(p:Int):SCall Tryz.prog 135 [m.sv,I64 2,I64 p] (errI (stOk m p) (stepsN m.z p)):=
 scall_v mix [fMaOk,fRnd] ⟨o_maOk,o_rnd,trivial⟩ 1000 (.fork (.ln 9 (.lit .all)) (.ln 7 (.fork (.ln 5 (.fork .all .all)) (.ln 5 (.lit .all)))))
  (t:=.node (!m.ok) (.leaf (.tuple [.int .i64 0,.int .i64 1])) (.node (decide (p≥-1073741824)) (.node (!decide (p≤1073741824)) (.leaf (.tuple [.int .i64 0,.int .i64 1])) (.req true (.req (true) (.req (inR m.z.den 1 4611686018427387904&&inR (i64.wrap (p*m.z.num)) (-4611686018427387904) 4611686018427387904) (.leaf (.tuple [.int .i64 (rnd (i64.wrap (p*m.z.num)) m.z.den),.int .i64 0])))))) (.leaf (.tuple [.int .i64 0,.int .i64 1]))))
  (by kernel_rfl) (by
   simp only[Tree.holds,sL,ne_eq,beq_iff_eq,bne_iff_ne,eq_self,beq_eq_false_iff_ne,bne_eq_false_iff_eq,implies_true];(repeat' (first|apply And.intro|intro _));
   all_goals first
    |(rw[errI_no (Bool.eq_false_iff.2 (by rw[ne_eq,stOk_iff];first|omega|grind))];rfl)
    |(have hk:=stOk_iff.1 (show stOk m p=true by rw[stOk_iff];first|omega|grind)
      have hx:m.z.ok=true:=by have:=Ma.ok_iff m;grind
      have r:=st_rng hx hk.2
      have ho:=(Ax.ok_iff _).1 hx
      have w:=w64 (x:=p*m.z.num) (by omega) (by omega)
      first
      |(rw[errI_yes (stOk_iff.2 hk),w];rfl)
      |(rw[w,inR_iff];omega)
      |(rw[inR_iff];omega))) (by kernel_rfl) (by unfold errI;split<;>rfl)
theorem s_un2(m:Ma)(p:Int):SCall Tryz.prog 192 [m.sv,I64 2,I64 p] (errI (unOk m p) (unitsN m.z p)):=
 scall_v mix [fMaOk,fRnd] ⟨o_maOk,o_rnd,trivial⟩ 1000 (.fork (.ln 9 (.lit .all)) (.ln 7 (.fork (.ln 5 (.fork .all .all)) (.ln 5 (.lit .all)))))
  (t:=.node (!m.ok) (.leaf (.tuple [.int .i64 0,.int .i64 1])) (.node (decide (p≥-70368744177664)) (.node (!decide (p≤70368744177664)) (.leaf (.tuple [.int .i64 0,.int .i64 1])) (.req true (.req (true) (.req (inR m.z.num 1 4611686018427387904&&inR (i64.wrap (p*m.z.den)) (-4611686018427387904) 4611686018427387904) (.leaf (.tuple [.int .i64 (rnd (i64.wrap (p*m.z.den)) m.z.num),.int .i64 0])))))) (.leaf (.tuple [.int .i64 0,.int .i64 1]))))
  (by kernel_rfl) (by
   simp only[Tree.holds,sL,ne_eq,beq_iff_eq,bne_iff_ne,eq_self,beq_eq_false_iff_ne,bne_eq_false_iff_eq,implies_true];(repeat' (first|apply And.intro|intro _));
   all_goals first
    |(rw[errI_no (Bool.eq_false_iff.2 (by rw[ne_eq,unOk_iff];first|omega|grind))];rfl)
    |(have hk:=unOk_iff.1 (show unOk m p=true by rw[unOk_iff];first|omega|grind)
      have hx:m.z.ok=true:=by have:=Ma.ok_iff m;grind
      have r:=un_rng hx (by omega) hk.2
      have ho:=(Ax.ok_iff _).1 hx
      have w:=w64 (x:=p*m.z.den) (by omega) (by omega)
      first
      |(rw[errI_yes (unOk_iff.2 hk),w];rfl)
      |(rw[w,inR_iff];omega)
      |(rw[inR_iff];omega))) (by kernel_rfl) (by unfold errI;split<;>rfl)
theorem s_st3(m:Ma)(p:Int):SCall Tryz.prog 135 [m.sv,I64 3,I64 p] (errI (stOk m p) (stepsN m.e p)):=
 scall_v mix [fMaOk,fRnd] ⟨o_maOk,o_rnd,trivial⟩ 1000 (.fork (.ln 9 (.lit .all)) (.ln 7 (.fork (.ln 5 (.fork .all .all)) (.ln 5 (.lit .all)))))
  (t:=.node (!m.ok) (.leaf (.tuple [.int .i64 0,.int .i64 1])) (.node (decide (p≥-1073741824)) (.node (!decide (p≤1073741824)) (.leaf (.tuple [.int .i64 0,.int .i64 1])) (.req true (.req (true) (.req (inR m.e.den 1 4611686018427387904&&inR (i64.wrap (p*m.e.num)) (-4611686018427387904) 4611686018427387904) (.leaf (.tuple [.int .i64 (rnd (i64.wrap (p*m.e.num)) m.e.den),.int .i64 0])))))) (.leaf (.tuple [.int .i64 0,.int .i64 1]))))
  (by kernel_rfl) (by
   simp only[Tree.holds,sL,ne_eq,beq_iff_eq,bne_iff_ne,eq_self,beq_eq_false_iff_ne,bne_eq_false_iff_eq,implies_true];(repeat' (first|apply And.intro|intro _));
   all_goals first
    |(rw[errI_no (Bool.eq_false_iff.2 (by rw[ne_eq,stOk_iff];first|omega|grind))];rfl)
    |(have hk:=stOk_iff.1 (show stOk m p=true by rw[stOk_iff];first|omega|grind)
      have hx:m.e.ok=true:=by have:=Ma.ok_iff m;grind
      have r:=st_rng hx hk.2
      have ho:=(Ax.ok_iff _).1 hx
      have w:=w64 (x:=p*m.e.num) (by omega) (by omega)
      first
      |(rw[errI_yes (stOk_iff.2 hk),w];rfl)
      |(rw[w,inR_iff];omega)
      |(rw[inR_iff];omega))) (by kernel_rfl) (by unfold errI;split<;>rfl)
theorem s_un3(m:Ma)(p:Int):SCall Tryz.prog 192 [m.sv,I64 3,I64 p] (errI (unOk m p) (unitsN m.e p)):=
 scall_v mix [fMaOk,fRnd] ⟨o_maOk,o_rnd,trivial⟩ 1000 (.fork (.ln 9 (.lit .all)) (.ln 7 (.fork (.ln 5 (.fork .all .all)) (.ln 5 (.lit .all)))))
  (t:=.node (!m.ok) (.leaf (.tuple [.int .i64 0,.int .i64 1])) (.node (decide (p≥-70368744177664)) (.node (!decide (p≤70368744177664)) (.leaf (.tuple [.int .i64 0,.int .i64 1])) (.req true (.req (true) (.req (inR m.e.num 1 4611686018427387904&&inR (i64.wrap (p*m.e.den)) (-4611686018427387904) 4611686018427387904) (.leaf (.tuple [.int .i64 (rnd (i64.wrap (p*m.e.den)) m.e.num),.int .i64 0])))))) (.leaf (.tuple [.int .i64 0,.int .i64 1]))))
  (by kernel_rfl) (by
   simp only[Tree.holds,sL,ne_eq,beq_iff_eq,bne_iff_ne,eq_self,beq_eq_false_iff_ne,bne_eq_false_iff_eq,implies_true];(repeat' (first|apply And.intro|intro _));
   all_goals first
    |(rw[errI_no (Bool.eq_false_iff.2 (by rw[ne_eq,unOk_iff];first|omega|grind))];rfl)
    |(have hk:=unOk_iff.1 (show unOk m p=true by rw[unOk_iff];first|omega|grind)
      have hx:m.e.ok=true:=by have:=Ma.ok_iff m;grind
      have r:=un_rng hx (by omega) hk.2
      have ho:=(Ax.ok_iff _).1 hx
      have w:=w64 (x:=p*m.e.den) (by omega) (by omega)
      first
      |(rw[errI_yes (unOk_iff.2 hk),w];rfl)
      |(rw[w,inR_iff];omega)
      |(rw[inR_iff];omega))) (by kernel_rfl) (by unfold errI;split<;>rfl)
def factCoI(f:FuncId)(h:Co→Int→Tree SV):Fact:=⟨f,fun args=>match args with
 |[.agg [.int .i64 a0,.int .i64 a1,.int .i64 a2,.int .i64 a3,.int .i64 a4,.int .i64 a5],.int .i64 i] =>some (h ⟨a0,a1,a2,a3,a4,a5⟩ i)
 |_=>none⟩
theorem factCoI_ok{P:Program}{f:FuncId}{h:Co→Int→Tree SV}(k:∀c i,(h c i).says (SCall P f [c.sv,I64 i])):(factCoI f h).ok P:=fun args t ht=>by
 simp only[factCoI]at ht
 split at ht
 ·injection ht with ht;subst ht;exact k ⟨_,_,_,_,_,_⟩ _
 ·cases ht
def factGuT(f:FuncId)(h:Gu→Tree SV):Fact:=⟨f,fun args=>match args with
 |[.agg [.int .i64 a0,.int .i64 a1,.int .i64 a2,.int .i64 a3,.int .i64 a4,.int .i64 a5,.int .i64 a6,.int .i64 a7,.int .i64 a8,.int .i64 a9,.bool d]] =>some (h ⟨a0,a1,a2,a3,a4,a5,a6,a7,a8,a9,d⟩)
 |_=>none⟩
def factGu3(f:FuncId)(h:Gu→Int→Int→Int→Tree SV):Fact:=⟨f,fun args=>match args with
 |[.agg [.int .i64 a0,.int .i64 a1,.int .i64 a2,.int .i64 a3,.int .i64 a4,.int .i64 a5,.int .i64 a6,.int .i64 a7,.int .i64 a8,.int .i64 a9,.bool d],.int .i64 r,.int .i64 t,.int .i64 u] =>some (h ⟨a0,a1,a2,a3,a4,a5,a6,a7,a8,a9,d⟩ r t u)
 |_=>none⟩
theorem factGu3_ok{P:Program}{f:FuncId}{h:Gu→Int→Int→Int→Tree SV}(k:∀g r t u,(h g r t u).says (SCall P f [g.sv,I64 r,I64 t,I64 u])):(factGu3 f h).ok P:=fun args t ht=>by
 simp only[factGu3]at ht
 split at ht
 ·injection ht with ht;subst ht;exact k ⟨_,_,_,_,_,_,_,_,_,_,_⟩ _ _ _
 ·cases ht
def Co.zero:Co:=⟨0,0,0,0,0,0⟩
def aimOk(c:Co)(t:Int):Bool:=c.ok&&inR t 0 400000
theorem aimOk_iff{c:Co}{t:Int}:aimOk c t=true↔c.ok=true∧0≤t∧t≤400000:=by simp only[aimOk,Bool.and_eq_true,inR_iff]
def Co.aim(c:Co)(t:Int):Co:=⟨t,c.kp,c.ki,c.scale,0,c.limit⟩
def aimS(c:Co)(t:Int):SV:=match aimOk c t with
 |true=>.tuple [Co.sv (c.aim t),I64 0]
 |false=>.tuple [Co.sv Co.zero,I64 1]
theorem aimS_yes{c:Co}{t:Int}(h:aimOk c t=true):aimS c t=.tuple [Co.sv (c.aim t),I64 0] :=by unfold aimS;rw[h]
theorem aimS_no{c:Co}{t:Int}(h:aimOk c t=false):aimS c t=.tuple [Co.sv Co.zero,I64 1] :=by unfold aimS;rw[h]
def Co.acc(c:Co)(r:Int):Int:=cla (c.sum+c.ki*(c.target-r)) 0 c.limit
def coLive(c:Co)(r:Int):Bool:=c.ok&&inR r (-1073741824) 1073741824
theorem coLive_iff{c:Co}{r:Int}:coLive c r=true↔c.ok=true∧-1073741824≤r∧r≤1073741824:=by simp only[coLive,Bool.and_eq_true,inR_iff]
def Co.step(c:Co)(r:Int):Co:=match coLive c r with
 |true=>⟨c.target,c.kp,c.ki,c.scale,if c.target=0 then 0 else c.acc r,c.limit⟩
 |false=>c
def Co.duty(c:Co)(r:Int):Int:=match coLive c r with
 |true=>if c.target=0 then 0 else cla ((c.kp*(c.target-r)+c.acc r) / c.scale) 0 255
 |false=>0
def coS(c:Co)(r:Int):SV:=.tuple [Co.sv (c.step r),I64 (c.duty r)]
theorem coS_no{c:Co}{r:Int}(h:coLive c r=false):coS c r=.tuple [Co.sv c,I64 0] :=by unfold coS Co.step Co.duty;rw[h]
theorem coS_off{c:Co}{r:Int}(h:coLive c r=true)(h0:c.target=0):coS c r=.tuple [Co.sv ⟨c.target,c.kp,c.ki,c.scale,0,c.limit⟩,I64 0] :=by unfold coS Co.step Co.duty;rw[h];simp only[if_pos h0]
theorem coS_on{c:Co}{r:Int}(h:coLive c r=true)(h0:¬c.target=0):coS c r=.tuple [Co.sv ⟨c.target,c.kp,c.ki,c.scale,c.acc r,c.limit⟩,I64 (cla ((c.kp*(c.target-r)+c.acc r) / c.scale) 0 255)] :=by unfold coS Co.step Co.duty;rw[h];simp only[if_neg h0]
theorem co_rng{c:Co}{r:Int}(h:coLive c r=true):(-1125899906842624*2≤c.ki*(c.target-r)∧c.ki*(c.target-r)≤1125899906842624*2)∧(-1125899906842624*2≤c.kp*(c.target-r)∧c.kp*(c.target-r)≤1125899906842624*2)∧0≤c.acc r∧c.acc r≤1099511627776:=by
 rw[coLive_iff,Co.ok_iff]at h
 have e:∀k:Int,0≤k∧k≤1048576→-1125899906842624*2≤k*(c.target-r)∧k*(c.target-r)≤1125899906842624*2:=fun k hk=>by
  have h1:k*(c.target-r)≤k*2147483648:=Int.mul_le_mul_of_nonneg_left (by omega) hk.1
  have h3:k*(-2147483648)≤k*(c.target-r):=Int.mul_le_mul_of_nonneg_left (by omega) hk.1
  omega
 refine⟨e _ h.1.2.2.1,e _ h.1.2.1,?_⟩
 have:=cla_rng (n:=c.sum+c.ki*(c.target-r)) (lo:=0) (hi:=c.limit) (by omega)
 unfold Co.acc;omega
def Gu.zero:Gu:=⟨0,0,0,0,0,0,0,0,0,0,false⟩
def Gu.touch(g:Gu):Gu:=match g.ok with
 |true=>{g with quiet:=0}
 |false=>g
def Gu.stop(g:Gu):Gu:=match g.ok with
 |true=>{g with fault:=4}
 |false=>g
def Gu.resE(g:Gu)(r:Int):Int:=match g.ok with
 |true=>if g.fault=0 then 14 else if r<g.low then 16 else if g.high<r then 16 else 0
 |false=>1
def Gu.rest(g:Gu)(r:Int):Gu:=⟨g.low,g.high,g.watch,g.rise,g.band,r,0,g.idle,0,0,g.door⟩
def Gu.cnt(g:Gu)(r:Int):Int:=if g.base+g.rise≤r then 1 else g.count+1
def Gu.bas(g:Gu)(r:Int):Int:=if g.base+g.rise≤r then r else g.base
def Gu.way(g:Gu)(r t u:Int):Nat:=match g.ok with
 |false=>0
 |true=>if g.fault=0 then
   if r<g.low then 1 else if g.high<r then 2 else if g.idle≤g.quiet+1 then 3 else if g.door=true then 4
   else if cla u 0 255=0 then 5 else if cla t (-1073741824) 1073741824-g.band≤r then 5 else if g.watch≤g.cnt r then 6 else 7
  else 0
def Gu.step(g:Gu)(r t u:Int):Gu:=match g.way r t u with
 |0=>g
 |1=>{g with fault:=1}
 |2=>{g with fault:=2}
 |3=>{g with quiet:=g.idle,base:=r,count:=0}
 |4=>{g with quiet:=g.quiet+1,base:=r,count:=0}
 |5=>{g with quiet:=g.quiet+1,base:=r,count:=0}
 |6=>{g with quiet:=g.quiet+1,base:=g.bas r,count:=g.watch,fault:=3}
 |_=>{g with quiet:=g.quiet+1,base:=g.bas r,count:=g.cnt r}
def Gu.duty(g:Gu)(r t u:Int):Int:=match g.way r t u with
 |5=>cla u 0 255
 |7=>cla u 0 255
 |_=>0
def guS(g:Gu)(r t u:Int):SV:=.tuple [Gu.sv (g.step r t u),I64 (g.duty r t u)]
theorem s_aim(c:Co)(t:Int):SCall Tryz.prog 217 [c.sv,I64 t] (aimS c t):=
 scall_v mix [fCoOk] ⟨o_coOk,trivial⟩ 1000 (.fork (.ln 5 (.lit .all)) (.lit (.lit (.fork (.lit (.lit (.lit .all))) (.lit (.lit (.fork .all .all)))))))
  (t:=.node (!c.ok) (.leaf (.tuple [.agg [.int .i64 0,.int .i64 0,.int .i64 0,.int .i64 0,.int .i64 0,.int .i64 0],.int .i64 1])) (.node (decide (t<0)) (.leaf (.tuple [.agg [.int .i64 0,.int .i64 0,.int .i64 0,.int .i64 0,.int .i64 0,.int .i64 0],.int .i64 1])) (.node (decide (t>400000)) (.leaf (.tuple [.agg [.int .i64 0,.int .i64 0,.int .i64 0,.int .i64 0,.int .i64 0,.int .i64 0],.int .i64 1])) (.leaf (.tuple [.agg [.int .i64 t,.int .i64 c.kp,.int .i64 c.ki,.int .i64 c.scale,.int .i64 0,.int .i64 c.limit],.int .i64 0])))))
  (by kernel_rfl) (by
   simp only[Tree.holds,sL,ne_eq,beq_iff_eq,bne_iff_ne,eq_self,beq_eq_false_iff_ne,bne_eq_false_iff_eq,implies_true];(repeat' (first|apply And.intro|intro _));
   all_goals first
    |(rw[aimS_no (Bool.eq_false_iff.2 (by rw[ne_eq,aimOk_iff];first|omega|grind))];rfl)
    |(rw[aimS_yes (aimOk_iff.2 (by first|omega|grind))];rfl)) (by kernel_rfl) (by unfold aimS;split<;>rfl)
theorem s_coS(c:Co)(r:Int):SCall Tryz.prog 162 [c.sv,I64 r] (coS c r):=
 scall_v mix [fCoOk,fCla,fFlo] ⟨o_coOk,o_cla,o_flo,trivial⟩ 1000 (.fork (.ln 5 (.lit .all)) (.lit (.lit (.fork (.lit (.lit (.lit .all))) (.lit (.lit (.fork .all (.fork .all .all))))))))
  (t:=let y0:Tree SV:=.leaf (.tuple [.agg [.int .i64 c.target,.int .i64 c.kp,.int .i64 c.ki,.int .i64 c.scale,.int .i64 c.sum,.int .i64 c.limit],.int .i64 0]);let y1:=i64.wrap (c.sum+i64.wrap (c.ki*i64.wrap (c.target-r)));let y2:=i64.wrap (c.kp*i64.wrap (c.target-r))+cla y1 0 c.limit;.node (!c.ok) y0 (.node (decide (r < -1073741824)) y0 (.node (decide (r>1073741824)) y0 (.node (c.target==0) (.leaf (.tuple [.agg [.int .i64 c.target,.int .i64 c.kp,.int .i64 c.ki,.int .i64 c.scale,.int .i64 0,.int .i64 c.limit],.int .i64 0])) (.req (decide (0≤c.limit)) (.req (inR c.scale 1 4611686018427387904&&inR (i64.wrap y2) (-4611686018427387904) 4611686018427387904) (.req true (.leaf (.tuple [.agg [.int .i64 c.target,.int .i64 c.kp,.int .i64 c.ki,.int .i64 c.scale,.int .i64 (cla y1 0 c.limit),.int .i64 c.limit],.int .i64 (cla (i64.wrap y2 / c.scale) 0 255)])))))))))
  (by kernel_rfl) (by
   have z:=co_rng (c:=c) (r:=r)
   have li:=coLive_iff (c:=c) (r:=r)
   have ci:=Co.ok_iff c
   simp only[Tree.holds,sL,ne_eq,beq_iff_eq,bne_iff_ne,eq_self,beq_eq_false_iff_ne,bne_eq_false_iff_eq,implies_true];(repeat' (first|apply And.intro|intro _));
   all_goals first
    |(rw[coS_no (Bool.eq_false_iff.2 (by rw[ne_eq,coLive_iff];first|omega|grind))];rfl)
    |(have hl:coLive c r=true:=coLive_iff.2 (by first|omega|grind)
      have hc:=ci.1 (li.1 hl).1
      have hr:=li.1 hl
      have z:=z hl
      have w1:=w64 (x:=c.target-r) (by omega) (by omega)
      have w2:=w64 (x:=c.ki*(c.target-r)) (by omega) (by omega)
      have w3:=w64 (x:=c.kp*(c.target-r)) (by omega) (by omega)
      have w4:=w64 (x:=c.sum+c.ki*(c.target-r)) (by omega) (by omega)
      have w5:=w64 (x:=c.kp*(c.target-r)+c.acc r) (by omega) (by omega)
      have e:cla (c.sum+c.ki*(c.target-r)) 0 c.limit=c.acc r:=rfl
      (try simp only[w1,w2,w3,w4,e,w5])
      first
      |(rw[inR_iff];omega)
      |omega
      |(rw[coS_off hl (by assumption)];rfl)
      |(rw[coS_on hl (by assumption)];rfl))) (by kernel_rfl) (by kernel_rfl)
theorem s_coSR(c:Co)(r:Int):SCall Tryz.prog 167 [c.sv,I64 r] (coS c r):=
 scall_v mix [fCoOkR,fClaR,fFloR] ⟨o_coOkR,o_claR,o_floR,trivial⟩ 1000 (.fork (.ln 5 (.lit .all)) (.lit (.lit (.fork (.lit (.lit (.lit .all))) (.lit (.lit (.fork .all (.fork .all .all))))))))
  (t:=let y0:Tree SV:=.leaf (.tuple [.agg [.int .i64 c.target,.int .i64 c.kp,.int .i64 c.ki,.int .i64 c.scale,.int .i64 c.sum,.int .i64 c.limit],.int .i64 0]);let y1:=i64.wrap (c.sum+i64.wrap (c.ki*i64.wrap (c.target-r)));let y2:=i64.wrap (c.kp*i64.wrap (c.target-r))+cla y1 0 c.limit;.node (!c.ok) y0 (.node (decide (r < -1073741824)) y0 (.node (decide (r>1073741824)) y0 (.node (c.target==0) (.leaf (.tuple [.agg [.int .i64 c.target,.int .i64 c.kp,.int .i64 c.ki,.int .i64 c.scale,.int .i64 0,.int .i64 c.limit],.int .i64 0])) (.req (decide (0≤c.limit)) (.req (inR c.scale 1 4611686018427387904&&inR (i64.wrap y2) (-4611686018427387904) 4611686018427387904) (.req true (.leaf (.tuple [.agg [.int .i64 c.target,.int .i64 c.kp,.int .i64 c.ki,.int .i64 c.scale,.int .i64 (cla y1 0 c.limit),.int .i64 c.limit],.int .i64 (cla (i64.wrap y2 / c.scale) 0 255)])))))))))
  (by kernel_rfl) (by
   have z:=co_rng (c:=c) (r:=r)
   have li:=coLive_iff (c:=c) (r:=r)
   have ci:=Co.ok_iff c
   simp only[Tree.holds,sL,ne_eq,beq_iff_eq,bne_iff_ne,eq_self,beq_eq_false_iff_ne,bne_eq_false_iff_eq,implies_true];(repeat' (first|apply And.intro|intro _));
   all_goals first
    |(rw[coS_no (Bool.eq_false_iff.2 (by rw[ne_eq,coLive_iff];first|omega|grind))];rfl)
    |(have hl:coLive c r=true:=coLive_iff.2 (by first|omega|grind)
      have hc:=ci.1 (li.1 hl).1
      have hr:=li.1 hl
      have z:=z hl
      have w1:=w64 (x:=c.target-r) (by omega) (by omega)
      have w2:=w64 (x:=c.ki*(c.target-r)) (by omega) (by omega)
      have w3:=w64 (x:=c.kp*(c.target-r)) (by omega) (by omega)
      have w4:=w64 (x:=c.sum+c.ki*(c.target-r)) (by omega) (by omega)
      have w5:=w64 (x:=c.kp*(c.target-r)+c.acc r) (by omega) (by omega)
      have e:cla (c.sum+c.ki*(c.target-r)) 0 c.limit=c.acc r:=rfl
      (try simp only[w1,w2,w3,w4,e,w5])
      first
      |(rw[inR_iff];omega)
      |omega
      |(rw[coS_off hl (by assumption)];rfl)
      |(rw[coS_on hl (by assumption)];rfl))) (by kernel_rfl) (by kernel_rfl)
theorem s_gstep(g:Gu)(r t u:Int):SCall Tryz.prog 163 [g.sv,I64 r,I64 t,I64 u] (guS g r t u):=
 scall_v mix [fGuOk,fCla] ⟨o_guOk,o_cla,trivial⟩ 1000 (.fork (.ln 3 (.lit .all)) (.ln 3 (.fork .all (.fork (.lit .all) (.fork (.fork .all .all) (.fork .all (.fork .all (.fork (.ln 6 (.lit .all)) (.ln 6 (.fork .all (.fork (.fork .all .all) (.fork .all .all))))))))))))
  (t:=let y0:Tree SV:=.leaf (.tuple [.agg [.int .i64 g.low,.int .i64 g.high,.int .i64 g.watch,.int .i64 g.rise,.int .i64 g.band,.int .i64 g.base,.int .i64 g.count,.int .i64 g.idle,.int .i64 g.quiet,.int .i64 g.fault,.bool g.door],.int .i64 0]);let y2:=i64.wrap (g.quiet+1);let y1:Tree SV:=.leaf (.tuple [.agg [.int .i64 g.low,.int .i64 g.high,.int .i64 g.watch,.int .i64 g.rise,.int .i64 g.band,.int .i64 r,.int .i64 0,.int .i64 g.idle,.int .i64 y2,.int .i64 g.fault,.bool g.door],.int .i64 (cla u 0 255)]);.node (!g.ok) y0 (.node (g.fault != 0) y0 (.node (decide (r<g.low)) (.leaf (.tuple [.agg [.int .i64 g.low,.int .i64 g.high,.int .i64 g.watch,.int .i64 g.rise,.int .i64 g.band,.int .i64 g.base,.int .i64 g.count,.int .i64 g.idle,.int .i64 g.quiet,.int .i64 1,.bool g.door],.int .i64 0])) (.node (decide (r>g.high)) (.node (g.fault==0) (.leaf (.tuple [.agg [.int .i64 g.low,.int .i64 g.high,.int .i64 g.watch,.int .i64 g.rise,.int .i64 g.band,.int .i64 g.base,.int .i64 g.count,.int .i64 g.idle,.int .i64 g.quiet,.int .i64 2,.bool g.door],.int .i64 0])) y0) (.node (decide (i64.wrap (g.quiet+1)≥g.idle)) (.leaf (.tuple [.agg [.int .i64 g.low,.int .i64 g.high,.int .i64 g.watch,.int .i64 g.rise,.int .i64 g.band,.int .i64 r,.int .i64 0,.int .i64 g.idle,.int .i64 g.idle,.int .i64 g.fault,.bool g.door],.int .i64 0])) (.req true (.req (true) (.node (g.door) (.leaf (.tuple [.agg [.int .i64 g.low,.int .i64 g.high,.int .i64 g.watch,.int .i64 g.rise,.int .i64 g.band,.int .i64 r,.int .i64 0,.int .i64 g.idle,.int .i64 y2,.int .i64 g.fault,.bool g.door],.int .i64 0])) (.node (cla u 0 255==0) y1 (.node (decide (r≥i64.wrap (cla t (-1073741824) 1073741824-g.band))) y1 (.node (decide (r≥i64.wrap (g.base+g.rise))) (.node (decide (1≥g.watch)) (.leaf (.tuple [.agg [.int .i64 g.low,.int .i64 g.high,.int .i64 g.watch,.int .i64 g.rise,.int .i64 g.band,.int .i64 r,.int .i64 g.watch,.int .i64 g.idle,.int .i64 y2,.int .i64 3,.bool g.door],.int .i64 0])) (.leaf (.tuple [.agg [.int .i64 g.low,.int .i64 g.high,.int .i64 g.watch,.int .i64 g.rise,.int .i64 g.band,.int .i64 r,.int .i64 1,.int .i64 g.idle,.int .i64 y2,.int .i64 g.fault,.bool g.door],.int .i64 (cla u 0 255)]))) (.node (decide (i64.wrap (g.count+1)≥g.watch)) (.leaf (.tuple [.agg [.int .i64 g.low,.int .i64 g.high,.int .i64 g.watch,.int .i64 g.rise,.int .i64 g.band,.int .i64 g.base,.int .i64 g.watch,.int .i64 g.idle,.int .i64 y2,.int .i64 3,.bool g.door],.int .i64 0])) (.leaf (.tuple [.agg [.int .i64 g.low,.int .i64 g.high,.int .i64 g.watch,.int .i64 g.rise,.int .i64 g.band,.int .i64 g.base,.int .i64 (i64.wrap (g.count+1)),.int .i64 g.idle,.int .i64 y2,.int .i64 g.fault,.bool g.door],.int .i64 (cla u 0 255)]))))))))))))))
  (by kernel_rfl) (by
   have cu:=cla_rng (n:=u) (lo:=0) (hi:=255) (by omega)
   have ct:=cla_rng (n:=t) (lo:= -1073741824) (hi:=1073741824) (by omega)
   cases hok:g.ok with
   |false=>simp only[Tree.holds,hok,sL,ne_eq,beq_iff_eq,bne_iff_ne,eq_self,beq_eq_false_iff_ne,bne_eq_false_iff_eq,implies_true];unfold guS Gu.step Gu.duty Gu.way;rw[hok];rfl
   |true=>
    have o:=(Gu.ok_iff g).1 hok
    have w1:=w64 (x:=g.quiet+1) (by omega) (by omega)
    have w2:=w64 (x:=g.count+1) (by omega) (by omega)
    have w3:=w64 (x:=g.base+g.rise) (by omega) (by omega)
    have w4:=w64 (x:=cla t (-1073741824) 1073741824-g.band) (by omega) (by omega)
    have w5:i64.wrap (0+1)=1:=by decide
    simp only[Tree.holds,hok,w1,w2,w3,w4,w5,sL,ne_eq,beq_iff_eq,bne_iff_ne,eq_self,beq_eq_false_iff_ne,bne_eq_false_iff_eq,implies_true];(repeat' (first|apply And.intro|intro _));
    all_goals first
     |omega
     |(have hw:g.way r t u=0:=by(unfold Gu.way;simp only[hok];simp (config:={zetaDelta:=false}) only[Gu.cnt];grind)
       unfold guS Gu.step Gu.duty
       (simp only[hw,Gu.sv,Gu.cells,I64,Gu.bas,Gu.cnt,SV.tuple.injEq,SV.agg.injEq,List.cons.injEq,SV.int.injEq,SV.bool.injEq,true_and,and_true,eq_self])<;>(first|rfl|((repeat' apply And.intro)<;>first|rfl|omega|(unfold cla;(repeat' split)<;>omega)|grind)))
     |(have hw:g.way r t u=1:=by(unfold Gu.way;simp only[hok];simp (config:={zetaDelta:=false}) only[Gu.cnt];grind)
       unfold guS Gu.step Gu.duty
       (simp only[hw,Gu.sv,Gu.cells,I64,Gu.bas,Gu.cnt,SV.tuple.injEq,SV.agg.injEq,List.cons.injEq,SV.int.injEq,SV.bool.injEq,true_and,and_true,eq_self])<;>(first|rfl|((repeat' apply And.intro)<;>first|rfl|omega|(unfold cla;(repeat' split)<;>omega)|grind)))
     |(have hw:g.way r t u=2:=by(unfold Gu.way;simp only[hok];simp (config:={zetaDelta:=false}) only[Gu.cnt];grind)
       unfold guS Gu.step Gu.duty
       (simp only[hw,Gu.sv,Gu.cells,I64,Gu.bas,Gu.cnt,SV.tuple.injEq,SV.agg.injEq,List.cons.injEq,SV.int.injEq,SV.bool.injEq,true_and,and_true,eq_self])<;>(first|rfl|((repeat' apply And.intro)<;>first|rfl|omega|(unfold cla;(repeat' split)<;>omega)|grind)))
     |(have hw:g.way r t u=3:=by(unfold Gu.way;simp only[hok];simp (config:={zetaDelta:=false}) only[Gu.cnt];grind)
       unfold guS Gu.step Gu.duty
       (simp only[hw,Gu.sv,Gu.cells,I64,Gu.bas,Gu.cnt,SV.tuple.injEq,SV.agg.injEq,List.cons.injEq,SV.int.injEq,SV.bool.injEq,true_and,and_true,eq_self])<;>(first|rfl|((repeat' apply And.intro)<;>first|rfl|omega|(unfold cla;(repeat' split)<;>omega)|grind)))
     |(have hw:g.way r t u=4:=by(unfold Gu.way;simp only[hok];simp (config:={zetaDelta:=false}) only[Gu.cnt];grind)
       unfold guS Gu.step Gu.duty
       (simp only[hw,Gu.sv,Gu.cells,I64,Gu.bas,Gu.cnt,SV.tuple.injEq,SV.agg.injEq,List.cons.injEq,SV.int.injEq,SV.bool.injEq,true_and,and_true,eq_self])<;>(first|rfl|((repeat' apply And.intro)<;>first|rfl|omega|(unfold cla;(repeat' split)<;>omega)|grind)))
     |(have hw:g.way r t u=5:=by(unfold Gu.way;simp only[hok];simp (config:={zetaDelta:=false}) only[Gu.cnt];grind)
       unfold guS Gu.step Gu.duty
       (simp only[hw,Gu.sv,Gu.cells,I64,Gu.bas,Gu.cnt,SV.tuple.injEq,SV.agg.injEq,List.cons.injEq,SV.int.injEq,SV.bool.injEq,true_and,and_true,eq_self])<;>(first|rfl|((repeat' apply And.intro)<;>first|rfl|omega|(unfold cla;(repeat' split)<;>omega)|grind)))
     |(have hw:g.way r t u=6:=by(unfold Gu.way;simp only[hok];simp (config:={zetaDelta:=false}) only[Gu.cnt];grind)
       unfold guS Gu.step Gu.duty
       (simp only[hw,Gu.sv,Gu.cells,I64,Gu.bas,Gu.cnt,SV.tuple.injEq,SV.agg.injEq,List.cons.injEq,SV.int.injEq,SV.bool.injEq,true_and,and_true,eq_self])<;>(first|rfl|((repeat' apply And.intro)<;>first|rfl|omega|(unfold cla;(repeat' split)<;>omega)|grind)))
     |(have hw:g.way r t u=7:=by(unfold Gu.way;simp only[hok];simp (config:={zetaDelta:=false}) only[Gu.cnt];grind)
       unfold guS Gu.step Gu.duty
       (simp only[hw,Gu.sv,Gu.cells,I64,Gu.bas,Gu.cnt,SV.tuple.injEq,SV.agg.injEq,List.cons.injEq,SV.int.injEq,SV.bool.injEq,true_and,and_true,eq_self])<;>(first|rfl|((repeat' apply And.intro)<;>first|rfl|omega|(unfold cla;(repeat' split)<;>omega)|grind)))
) (by kernel_rfl) (by kernel_rfl)
theorem s_gstepR(g:Gu)(r t u:Int):SCall Tryz.prog 168 [g.sv,I64 r,I64 t,I64 u] (guS g r t u):=
 scall_v mix [fGuOkR,fClaG] ⟨o_guOkR,o_claG,trivial⟩ 1000 (.fork (.ln 3 (.lit .all)) (.ln 3 (.fork .all (.fork (.ln 5 (.fork .all .all)) (.ln 4 (.fork (.fork .all .all) (.fork (.ln 13 (.fork (.lit (.lit (.lit .all))) (.lit (.lit (.fork .all .all))))) (.lit (.lit (.fork (.ln 10 (.fork (.lit (.lit (.lit .all))) (.lit (.lit (.fork .all .all))))) (.lit (.lit (.fork (.ln 7 (.fork (.lit (.lit (.lit .all))) (.lit (.lit (.fork .all .all))))) (.ln 6 (.fork (.fork (.lit (.lit (.lit .all))) (.lit (.lit (.fork .all .all)))) (.fork (.fork .all .all) (.fork .all .all)))))))))))))))))
  (t:=let y1:Tree SV:=.node (decide (r<g.low)) (.leaf (.tuple [.agg [.int .i64 g.low,.int .i64 g.high,.int .i64 g.watch,.int .i64 g.rise,.int .i64 g.band,.int .i64 g.base,.int .i64 g.count,.int .i64 g.idle,.int .i64 g.quiet,.int .i64 1,.bool g.door],.int .i64 0])) (.leaf (.tuple [.agg [.int .i64 g.low,.int .i64 g.high,.int .i64 g.watch,.int .i64 g.rise,.int .i64 g.band,.int .i64 g.base,.int .i64 g.count,.int .i64 g.idle,.int .i64 g.quiet,.int .i64 2,.bool g.door],.int .i64 0]));let y3:Tree SV:=.leaf (.tuple [.agg [.int .i64 g.low,.int .i64 g.high,.int .i64 g.watch,.int .i64 g.rise,.int .i64 g.band,.int .i64 g.base,.int .i64 g.count,.int .i64 g.idle,.int .i64 g.quiet,.int .i64 g.fault,.bool g.door],.int .i64 0]);let y4:=i64.wrap (g.quiet+1);let y2:Tree SV:=.leaf (.tuple [.agg [.int .i64 g.low,.int .i64 g.high,.int .i64 g.watch,.int .i64 g.rise,.int .i64 g.band,.int .i64 r,.int .i64 0,.int .i64 g.idle,.int .i64 (cla y4 0 g.idle),.int .i64 g.fault,.bool g.door],.int .i64 0]);let y0:Tree SV:=.node (decide (i64.wrap (g.quiet+1)≥g.idle)) y2 (.node (g.door) y2 (.leaf (.tuple [.agg [.int .i64 g.low,.int .i64 g.high,.int .i64 g.watch,.int .i64 g.rise,.int .i64 g.band,.int .i64 r,.int .i64 0,.int .i64 g.idle,.int .i64 (cla y4 0 g.idle),.int .i64 g.fault,.bool g.door],.int .i64 (cla u 0 255)])));.node (!g.ok) y3 (.node (g.fault != 0) y3 (.node (decide (r<g.low)) y1 (.node (decide (r>g.high)) y1 (.node (decide (i64.wrap (g.quiet+1)≥g.idle)) y0 (.node (g.door) y0 (.node (cla u 0 255==0) y0 (.node (decide (r≥i64.wrap (cla t (-1073741824) 1073741824-g.band))) y0 (.node (decide (r≥i64.wrap (g.base+g.rise))) (.node (decide (1≥g.watch)) (.leaf (.tuple [.agg [.int .i64 g.low,.int .i64 g.high,.int .i64 g.watch,.int .i64 g.rise,.int .i64 g.band,.int .i64 r,.int .i64 g.watch,.int .i64 g.idle,.int .i64 y4,.int .i64 3,.bool g.door],.int .i64 0])) (.leaf (.tuple [.agg [.int .i64 g.low,.int .i64 g.high,.int .i64 g.watch,.int .i64 g.rise,.int .i64 g.band,.int .i64 r,.int .i64 1,.int .i64 g.idle,.int .i64 y4,.int .i64 g.fault,.bool g.door],.int .i64 (cla u 0 255)]))) (.node (decide (i64.wrap (g.count+1)≥g.watch)) (.leaf (.tuple [.agg [.int .i64 g.low,.int .i64 g.high,.int .i64 g.watch,.int .i64 g.rise,.int .i64 g.band,.int .i64 g.base,.int .i64 g.watch,.int .i64 g.idle,.int .i64 y4,.int .i64 3,.bool g.door],.int .i64 0])) (.leaf (.tuple [.agg [.int .i64 g.low,.int .i64 g.high,.int .i64 g.watch,.int .i64 g.rise,.int .i64 g.band,.int .i64 g.base,.int .i64 (i64.wrap (g.count+1)),.int .i64 g.idle,.int .i64 y4,.int .i64 g.fault,.bool g.door],.int .i64 (cla u 0 255)]))))))))))))
  (by kernel_rfl) (by
   have cu:=cla_rng (n:=u) (lo:=0) (hi:=255) (by omega)
   have ct:=cla_rng (n:=t) (lo:= -1073741824) (hi:=1073741824) (by omega)
   cases hok:g.ok with
   |false=>simp only[Tree.holds,hok,sL,ne_eq,beq_iff_eq,bne_iff_ne,eq_self,beq_eq_false_iff_ne,bne_eq_false_iff_eq,implies_true];unfold guS Gu.step Gu.duty Gu.way;rw[hok];rfl
   |true=>
    have o:=(Gu.ok_iff g).1 hok
    have w1:=w64 (x:=g.quiet+1) (by omega) (by omega)
    have w2:=w64 (x:=g.count+1) (by omega) (by omega)
    have w3:=w64 (x:=g.base+g.rise) (by omega) (by omega)
    have w4:=w64 (x:=cla t (-1073741824) 1073741824-g.band) (by omega) (by omega)
    have w5:i64.wrap (0+1)=1:=by decide
    simp only[Tree.holds,hok,w1,w2,w3,w4,w5,sL,ne_eq,beq_iff_eq,bne_iff_ne,eq_self,beq_eq_false_iff_ne,bne_eq_false_iff_eq,implies_true];(repeat' (first|apply And.intro|intro _));
    all_goals first
     |omega
     |(have hw:g.way r t u=0:=by(unfold Gu.way;simp only[hok];simp (config:={zetaDelta:=false}) only[Gu.cnt];grind)
       unfold guS Gu.step Gu.duty
       (simp only[hw,Gu.sv,Gu.cells,I64,Gu.bas,Gu.cnt,SV.tuple.injEq,SV.agg.injEq,List.cons.injEq,SV.int.injEq,SV.bool.injEq,true_and,and_true,eq_self])<;>(first|rfl|((repeat' apply And.intro)<;>first|rfl|omega|(unfold cla;(repeat' split)<;>omega)|grind)))
     |(have hw:g.way r t u=1:=by(unfold Gu.way;simp only[hok];simp (config:={zetaDelta:=false}) only[Gu.cnt];grind)
       unfold guS Gu.step Gu.duty
       (simp only[hw,Gu.sv,Gu.cells,I64,Gu.bas,Gu.cnt,SV.tuple.injEq,SV.agg.injEq,List.cons.injEq,SV.int.injEq,SV.bool.injEq,true_and,and_true,eq_self])<;>(first|rfl|((repeat' apply And.intro)<;>first|rfl|omega|(unfold cla;(repeat' split)<;>omega)|grind)))
     |(have hw:g.way r t u=2:=by(unfold Gu.way;simp only[hok];simp (config:={zetaDelta:=false}) only[Gu.cnt];grind)
       unfold guS Gu.step Gu.duty
       (simp only[hw,Gu.sv,Gu.cells,I64,Gu.bas,Gu.cnt,SV.tuple.injEq,SV.agg.injEq,List.cons.injEq,SV.int.injEq,SV.bool.injEq,true_and,and_true,eq_self])<;>(first|rfl|((repeat' apply And.intro)<;>first|rfl|omega|(unfold cla;(repeat' split)<;>omega)|grind)))
     |(have hw:g.way r t u=3:=by(unfold Gu.way;simp only[hok];simp (config:={zetaDelta:=false}) only[Gu.cnt];grind)
       unfold guS Gu.step Gu.duty
       (simp only[hw,Gu.sv,Gu.cells,I64,Gu.bas,Gu.cnt,SV.tuple.injEq,SV.agg.injEq,List.cons.injEq,SV.int.injEq,SV.bool.injEq,true_and,and_true,eq_self])<;>(first|rfl|((repeat' apply And.intro)<;>first|rfl|omega|(unfold cla;(repeat' split)<;>omega)|grind)))
     |(have hw:g.way r t u=4:=by(unfold Gu.way;simp only[hok];simp (config:={zetaDelta:=false}) only[Gu.cnt];grind)
       unfold guS Gu.step Gu.duty
       (simp only[hw,Gu.sv,Gu.cells,I64,Gu.bas,Gu.cnt,SV.tuple.injEq,SV.agg.injEq,List.cons.injEq,SV.int.injEq,SV.bool.injEq,true_and,and_true,eq_self])<;>(first|rfl|((repeat' apply And.intro)<;>first|rfl|omega|(unfold cla;(repeat' split)<;>omega)|grind)))
     |(have hw:g.way r t u=5:=by(unfold Gu.way;simp only[hok];simp (config:={zetaDelta:=false}) only[Gu.cnt];grind)
       unfold guS Gu.step Gu.duty
       (simp only[hw,Gu.sv,Gu.cells,I64,Gu.bas,Gu.cnt,SV.tuple.injEq,SV.agg.injEq,List.cons.injEq,SV.int.injEq,SV.bool.injEq,true_and,and_true,eq_self])<;>(first|rfl|((repeat' apply And.intro)<;>first|rfl|omega|(unfold cla;(repeat' split)<;>omega)|grind)))
     |(have hw:g.way r t u=6:=by(unfold Gu.way;simp only[hok];simp (config:={zetaDelta:=false}) only[Gu.cnt];grind)
       unfold guS Gu.step Gu.duty
       (simp only[hw,Gu.sv,Gu.cells,I64,Gu.bas,Gu.cnt,SV.tuple.injEq,SV.agg.injEq,List.cons.injEq,SV.int.injEq,SV.bool.injEq,true_and,and_true,eq_self])<;>(first|rfl|((repeat' apply And.intro)<;>first|rfl|omega|(unfold cla;(repeat' split)<;>omega)|grind)))
     |(have hw:g.way r t u=7:=by(unfold Gu.way;simp only[hok];simp (config:={zetaDelta:=false}) only[Gu.cnt];grind)
       unfold guS Gu.step Gu.duty
       (simp only[hw,Gu.sv,Gu.cells,I64,Gu.bas,Gu.cnt,SV.tuple.injEq,SV.agg.injEq,List.cons.injEq,SV.int.injEq,SV.bool.injEq,true_and,and_true,eq_self])<;>(first|rfl|((repeat' apply And.intro)<;>first|rfl|omega|(unfold cla;(repeat' split)<;>omega)|grind)))
) (by kernel_rfl) (by kernel_rfl)
def fCoS:Fact:=factCoI 162 fun c r=>.leaf (coS c r)
def fCoSR:Fact:=factCoI 167 fun c r=>.leaf (coS c r)
theorem o_coS:fCoS.ok Tryz.prog:=factCoI_ok (s_coS)
theorem o_coSR:fCoSR.ok Tryz.prog:=factCoI_ok (s_coSR)
def fGst:Fact:=factGu3 163 fun g r t u=>.leaf (guS g r t u)
def fGstR:Fact:=factGu3 168 fun g r t u=>.leaf (guS g r t u)
theorem o_gst:fGst.ok Tryz.prog:=factGu3_ok (s_gstep)
theorem o_gstR:fGstR.ok Tryz.prog:=factGu3_ok (s_gstepR)
end Go.Proofs.YtnkaepnblikcdaaGreat
namespace Go.Proofs.YtnkaepnblikcdaaGreat.Gc
open Go.Sx
structure C where
 code:Int
 has:Int
 x:Int
 y:Int
 z:Int
 e:Int
 f:Int
 s:Int
def C.cells(c:C):List SV:=[I64 c.code,I64 c.has,I64 c.x,I64 c.y,I64 c.z,I64 c.e,I64 c.f,I64 c.s]
def C.sv(c:C):SV:=.agg c.cells
def oneS(k:Int):Prop:=k=4∨k=1104∨k=1109∨k=1140∨k=1190∨k=1106
def none0(k:Int):Prop:=k=28∨k=1024∨k=1025∨k=1107∨k=1112∨k=1999
instance (k:Int):Decidable (oneS k):=by unfold oneS;infer_instance
instance (k:Int):Decidable (none0 k):=by unfold none0;infer_instance
def may(k:Int):Int:=if k=0 then 23 else if k=1 then 31 else if oneS k then 32 else 0
def allW(k:Int):Bool:=decide (oneS k)||decide (none0 k)
def okC(k:Int):Bool:=decide (k=0)||(decide (k=1)||(decide (oneS k)||decide (none0 k)))
def lo(k:Int)(w:Int):Int:=if w=4 then 1 else if w≠5 then -1073741824 else 0
def hi(k:Int)(w:Int):Int:=if w=4 then 1048576 else if w≠5 then 1073741824 else if k=4 then 1048576 else if k=1106 then 255 else 400000
def C.num(c:C)(w:Int):Int:=if w=0 then c.x else if w=1 then c.y else if w=2 then c.z else if w=3 then c.e else if w=4 then c.f else c.s
def bit(h i:Int):Int:=i64.wrap ↑(BitVec.ofInt 64 (h.fdiv (2 ^ min i.toNat 64)) &&&BitVec.ofInt 64 1).toNat
def andNot(h m:Int):Int:=i64.wrap ↑(BitVec.ofInt 64 h &&& ~~~BitVec.ofInt 64 m).toNat
def okW(c:C)(i:Int):Bool:=if bit c.has i=0 then c.num i==0 else inR (c.num i) (lo c.code i) (hi c.code i)
def rest(c:C):Nat→Bool
 |0=>true
 |n+1=>okW c (5-n)&&rest c n
def C.pre(c:C):Bool:=okC c.code&& (andNot c.has (may c.code)==0&&!(allW c.code&&!(c.has==may c.code)))
def C.valid(c:C):Bool:=c.pre&&rest c 6
end Go.Proofs.YtnkaepnblikcdaaGreat.Gc
namespace Go.Proofs.YtnkaepnblikcdaaGreat
open Go.Sx
def V3.cells(v:V3):List SV:=[I64 v.1,I64 v.2.1,I64 v.2.2]
structure Fw where
 ma:Ma
 mode:Int
 homed:Bool
 pos:V4
 loc:V3
 e:Int
 feed:Int
 queue:List Bk
 lines:List Int
 mo:Mo
 moving:Bool
 active:Int
 back:Bool
 ret:V4
 dwell:Int
 waits:Int
 c0:Co
 c1:Co
 g0:Gu
 g1:Gu
 fan:Int
 line:Int
 ticks:Int
 cold:Int
 r0:Int
 r1:Int
def Fw.cells(f:Fw):List SV:=[I64 f.ma.x.num,I64 f.ma.x.den,I64 f.ma.x.speed,I64 f.ma.x.accel,I64 f.ma.x.jerk,I64 f.ma.x.min,I64 f.ma.x.max,I64 f.ma.y.num,I64 f.ma.y.den,I64 f.ma.y.speed,
 I64 f.ma.y.accel,I64 f.ma.y.jerk,I64 f.ma.y.min,I64 f.ma.y.max,I64 f.ma.z.num,I64 f.ma.z.den,I64 f.ma.z.speed,I64 f.ma.z.accel,I64 f.ma.z.jerk,I64 f.ma.z.min,
 I64 f.ma.z.max,I64 f.ma.e.num,I64 f.ma.e.den,I64 f.ma.e.speed,I64 f.ma.e.accel,I64 f.ma.e.jerk,I64 f.ma.e.min,I64 f.ma.e.max,.bool f.ma.xy,I64 f.ma.ticks,
 I64 f.mode,.bool f.homed,I64 f.pos.1,I64 f.pos.2.1,I64 f.pos.2.2.1,I64 f.pos.2.2.2,I64 f.loc.1,I64 f.loc.2.1,I64 f.loc.2.2,I64 f.e,
 I64 f.feed,LB f.queue,LI f.lines,I64 f.mo.1.1.1,I64 f.mo.1.1.2.1,I64 f.mo.1.1.2.2.1,I64 f.mo.1.1.2.2.2,I64 f.mo.1.2.1,I64 f.mo.1.2.2.1,I64 f.mo.1.2.2.2.1,
 I64 f.mo.1.2.2.2.2,I64 f.mo.2.1,I64 f.mo.2.2,.bool f.moving,I64 f.active,.bool f.back,I64 f.ret.1,I64 f.ret.2.1,I64 f.ret.2.2.1,I64 f.ret.2.2.2,
 I64 f.dwell,I64 f.waits,I64 f.c0.target,I64 f.c0.kp,I64 f.c0.ki,I64 f.c0.scale,I64 f.c0.sum,I64 f.c0.limit,I64 f.c1.target,I64 f.c1.kp,
 I64 f.c1.ki,I64 f.c1.scale,I64 f.c1.sum,I64 f.c1.limit,I64 f.g0.low,I64 f.g0.high,I64 f.g0.watch,I64 f.g0.rise,I64 f.g0.band,I64 f.g0.base,
 I64 f.g0.count,I64 f.g0.idle,I64 f.g0.quiet,I64 f.g0.fault,.bool f.g0.door,I64 f.g1.low,I64 f.g1.high,I64 f.g1.watch,I64 f.g1.rise,I64 f.g1.band,
 I64 f.g1.base,I64 f.g1.count,I64 f.g1.idle,I64 f.g1.quiet,I64 f.g1.fault,.bool f.g1.door,I64 f.fan,I64 f.line,I64 f.ticks,I64 f.cold,
 I64 f.r0,I64 f.r1]
def Fw.sv(f:Fw):SV:=.agg f.cells
inductive NilL:SV→SV→Prop where
 |same (x:SV):NilL x x
 |nil (t:Ty):NilL .nilS (.list t [])
def NilLs:List SV→List SV→Prop
 |[],[] =>True
 |x::xs,y::ys=>NilL x y∧NilLs xs ys
 |_,_=>False
theorem NilLs.refl:∀l:List SV,NilLs l l
 |[] =>trivial
 |x::l=>⟨.same x,NilLs.refl l⟩
theorem NilLs.append:∀{a b c d:List SV},NilLs a b→NilLs c d→NilLs (a++c) (b++d)
 |[],[],_,_,_,h=>h
 |x::xs,y::ys,_,_,h,k=>⟨h.1,h.2.append k⟩
theorem NilL.rep{R:Nat→Prop}{ρ:Rho}{n:Nat}{w:World}{x y:SV}{v:Value}(h:NilL x y)(hr:Rep R ρ n w x v):Rep R ρ n w y v:=by
 cases h with
 |same=>exact hr
 |nil t=>exact⟨none,0,by rw[show v=_ from hr];rfl,Nat.le_refl _,fun h=>absurd h (Nat.lt_irrefl _)⟩
theorem NilLs.rep{R:Nat→Prop}{ρ:Rho}{n:Nat}{w:World}:∀{xs ys:List SV} {vs:List Value},NilLs xs ys→RepL R ρ n w xs vs→RepL R ρ n w ys vs
 |[],[],_,_,hr=>hr
 |x::xs,y::ys,_,h,hr=>by
  obtain⟨u,us,rfl,h1,h2⟩:=hr
  exact⟨u,us,rfl,h.1.rep h1,h.2.rep h2⟩
theorem scall_nil{P:Program}{f:FuncId}{cs ds:List SV}{rest:List SV}{v:SV}(hn:NilLs cs ds)(h:SCall P f (.agg ds::rest) v):SCall P f (.agg cs::rest) v:=by
 intro m w0 R0 ρ w vs hm hvs
 obtain⟨u,us,rfl,⟨ws,h1,h2⟩,h3⟩:=hvs
 exact h m w0 R0 ρ w _ hm ⟨u,us,rfl,⟨ws,h1,hn.rep h2⟩,h3⟩
def tkI:List SV→Option (Int×List SV)
 |.int .i64 a0::r=>some (a0,r)
 |_=>none
theorem tkI_eq{l r:List SV}{x:Int}(h:tkI l=some (x,r)):NilLs l ([I64 x] ++r):=by
 unfold tkI at h
 split at h
 ·cases h;exact NilLs.refl _
 ·cases h
def tkT:List SV→Option (Bool×List SV)
 |.bool b::r=>some (b,r)
 |_=>none
theorem tkT_eq{l r:List SV}{x:Bool}(h:tkT l=some (x,r)):NilLs l ([SV.bool x] ++r):=by
 unfold tkT at h
 split at h
 ·cases h;exact NilLs.refl _
 ·cases h
def tkV4:List SV→Option (V4×List SV)
 |.int .i64 a0::.int .i64 a1::.int .i64 a2::.int .i64 a3::r=>some ((a0,a1,a2,a3),r)
 |_=>none
theorem tkV4_eq{l r:List SV}{x:V4}(h:tkV4 l=some (x,r)):NilLs l (V4.cells x++r):=by
 unfold tkV4 at h
 split at h
 ·cases h;exact NilLs.refl _
 ·cases h
def tkV3:List SV→Option (V3×List SV)
 |.int .i64 a0::.int .i64 a1::.int .i64 a2::r=>some ((a0,a1,a2),r)
 |_=>none
theorem tkV3_eq{l r:List SV}{x:V3}(h:tkV3 l=some (x,r)):NilLs l (V3.cells x++r):=by
 unfold tkV3 at h
 split at h
 ·cases h;exact NilLs.refl _
 ·cases h
def tkMo:List SV→Option (Mo×List SV)
 |.int .i64 a0::.int .i64 a1::.int .i64 a2::.int .i64 a3::.int .i64 a4::.int .i64 a5::.int .i64 a6::.int .i64 a7::.int .i64 a8::.int .i64 a9::r=>some ((((a0,a1,a2,a3),a4,a5,a6,a7),a8,a9),r)
 |_=>none
theorem tkMo_eq{l r:List SV}{x:Mo}(h:tkMo l=some (x,r)):NilLs l (Mo.cells x++r):=by
 unfold tkMo at h
 split at h
 ·cases h;exact NilLs.refl _
 ·cases h
def tkCo:List SV→Option (Co×List SV)
 |.int .i64 a0::.int .i64 a1::.int .i64 a2::.int .i64 a3::.int .i64 a4::.int .i64 a5::r=>some (⟨a0,a1,a2,a3,a4,a5⟩,r)
 |_=>none
theorem tkCo_eq{l r:List SV}{x:Co}(h:tkCo l=some (x,r)):NilLs l (Co.cells x++r):=by
 unfold tkCo at h
 split at h
 ·cases h;exact NilLs.refl _
 ·cases h
def tkGu:List SV→Option (Gu×List SV)
 |.int .i64 a0::.int .i64 a1::.int .i64 a2::.int .i64 a3::.int .i64 a4::.int .i64 a5::.int .i64 a6::.int .i64 a7::.int .i64 a8::.int .i64 a9::.bool d::r=>some (⟨a0,a1,a2,a3,a4,a5,a6,a7,a8,a9,d⟩,r)
 |_=>none
theorem tkGu_eq{l r:List SV}{x:Gu}(h:tkGu l=some (x,r)):NilLs l (Gu.cells x++r):=by
 unfold tkGu at h
 split at h
 ·cases h;exact NilLs.refl _
 ·cases h
def tkAx:List SV→Option (Ax×List SV)
 |.int .i64 a0::.int .i64 a1::.int .i64 a2::.int .i64 a3::.int .i64 a4::.int .i64 a5::.int .i64 a6::r=>some (⟨a0,a1,a2,a3,a4,a5,a6⟩,r)
 |_=>none
theorem tkAx_eq{l r:List SV}{x:Ax}(h:tkAx l=some (x,r)):NilLs l (Ax.cells x++r):=by
 unfold tkAx at h
 split at h
 ·cases h;exact NilLs.refl _
 ·cases h
def tkQ:List SV→Option (List Bk×List SV)
 |.list (.pair (.pair (.int .i64) (.pair (.int .i64) (.pair (.int .i64) (.int .i64)))) (.pair (.int .i64) (.pair (.int .i64) (.pair (.int .i64) (.int .i64))))) l::r=>some (l,r)
 |.nilS::r=>some ([],r)
 |_=>none
theorem tkQ_eq{l r:List SV}{x:List Bk}(h:tkQ l=some (x,r)):NilLs l ([LB x] ++r):=by
 unfold tkQ at h
 split at h
 ·cases h;exact NilLs.refl _
 ·cases h;exact⟨.nil _,NilLs.refl _⟩
 ·cases h
def tkL:List SV→Option (List Int×List SV)
 |.list (.int .i64) l::r=>some (l,r)
 |.nilS::r=>some ([],r)
 |_=>none
theorem tkL_eq{l r:List SV}{x:List Int}(h:tkL l=some (x,r)):NilLs l ([LI x] ++r):=by
 unfold tkL at h
 split at h
 ·cases h;exact NilLs.refl _
 ·cases h;exact⟨.nil _,NilLs.refl _⟩
 ·cases h
theorem NilL.trans{x y z:SV}(h:NilL x y)(k:NilL y z):NilL x z:=by
 cases h with
 |same=>exact k
 |nil t=>cases k;exact .nil t
theorem NilLs.trans:∀{a b c:List SV},NilLs a b→NilLs b c→NilLs a c
 |[],[],[],_,_=>trivial
 |_::_,_::_,_::_,h,k=>⟨h.1.trans k.1,NilLs.trans h.2 k.2⟩
def tkMa(l:List SV):Option (Ma×List SV):=
 match tkAx l with
 |none=>none
 |some (x,l1)=>
   match tkAx l1 with
   |none=>none
   |some (y,l2)=>
     match tkAx l2 with
     |none=>none
     |some (z,l3)=>
       match tkAx l3 with
       |none=>none
       |some (e,l4)=>
         match tkT l4 with
         |none=>none
         |some (b,l5)=>
           match tkI l5 with
           |none=>none
           |some (t,l6)=>
             some (⟨x,y,z,e,b,t⟩,l6)
theorem tkMa_eq{l r:List SV}{x:Ma}(h:tkMa l=some (x,r)):NilLs l (Ma.cells x++r):=by
 unfold tkMa at h
 split at h
 ·cases h
 rename_i x l1 h1
 split at h
 ·cases h
 rename_i y l2 h2
 split at h
 ·cases h
 rename_i z l3 h3
 split at h
 ·cases h
 rename_i e l4 h4
 split at h
 ·cases h
 rename_i b l5 h5
 split at h
 ·cases h
 rename_i t l6 h6
 cases h
 have k6:=tkI_eq h6
 have k5:=NilLs.trans (tkT_eq h5) (NilLs.append (NilLs.refl _) k6)
 have k4:=NilLs.trans (tkAx_eq h4) (NilLs.append (NilLs.refl _) k5)
 have k3:=NilLs.trans (tkAx_eq h3) (NilLs.append (NilLs.refl _) k4)
 have k2:=NilLs.trans (tkAx_eq h2) (NilLs.append (NilLs.refl _) k3)
 have k1:=NilLs.trans (tkAx_eq h1) (NilLs.append (NilLs.refl _) k2)
 exact k1
def tkFw(l:List SV):Option (Fw×List SV):=
 match tkMa l with
 |none=>none
 |some (y0,l1)=>
   match tkI l1 with
   |none=>none
   |some (y1,l2)=>
     match tkT l2 with
     |none=>none
     |some (y2,l3)=>
       match tkV4 l3 with
       |none=>none
       |some (y3,l4)=>
         match tkV3 l4 with
         |none=>none
         |some (y4,l5)=>
           match tkI l5 with
           |none=>none
           |some (y5,l6)=>
             match tkI l6 with
             |none=>none
             |some (y6,l7)=>
               match tkQ l7 with
               |none=>none
               |some (y7,l8)=>
                 match tkL l8 with
                 |none=>none
                 |some (y8,l9)=>
                   match tkMo l9 with
                   |none=>none
                   |some (y9,l10)=>
                     match tkT l10 with
                     |none=>none
                     |some (y10,l11)=>
                       match tkI l11 with
                       |none=>none
                       |some (y11,l12)=>
                         match tkT l12 with
                         |none=>none
                         |some (y12,l13)=>
                           match tkV4 l13 with
                           |none=>none
                           |some (y13,l14)=>
                             match tkI l14 with
                             |none=>none
                             |some (y14,l15)=>
                               match tkI l15 with
                               |none=>none
                               |some (y15,l16)=>
                                 match tkCo l16 with
                                 |none=>none
                                 |some (y16,l17)=>
                                   match tkCo l17 with
                                   |none=>none
                                   |some (y17,l18)=>
                                     match tkGu l18 with
                                     |none=>none
                                     |some (y18,l19)=>
                                       match tkGu l19 with
                                       |none=>none
                                       |some (y19,l20)=>
                                         match tkI l20 with
                                         |none=>none
                                         |some (y20,l21)=>
                                           match tkI l21 with
                                           |none=>none
                                           |some (y21,l22)=>
                                             match tkI l22 with
                                             |none=>none
                                             |some (y22,l23)=>
                                               match tkI l23 with
                                               |none=>none
                                               |some (y23,l24)=>
                                                 match tkI l24 with
                                                 |none=>none
                                                 |some (y24,l25)=>
                                                   match tkI l25 with
                                                   |none=>none
                                                   |some (y25,l26)=>
                                                     some (⟨y0,y1,y2,y3,y4,y5,y6,y7,y8,y9,y10,y11,y12,y13,y14,y15,y16,y17,y18,y19,y20,y21,y22,y23,y24,y25⟩,l26)
theorem tkFw_eq{l r:List SV}{x:Fw}(h:tkFw l=some (x,r)):NilLs l (Fw.cells x++r):=by
 unfold tkFw at h
 split at h
 ·cases h
 rename_i y0 l1 h1
 split at h
 ·cases h
 rename_i y1 l2 h2
 split at h
 ·cases h
 rename_i y2 l3 h3
 split at h
 ·cases h
 rename_i y3 l4 h4
 split at h
 ·cases h
 rename_i y4 l5 h5
 split at h
 ·cases h
 rename_i y5 l6 h6
 split at h
 ·cases h
 rename_i y6 l7 h7
 split at h
 ·cases h
 rename_i y7 l8 h8
 split at h
 ·cases h
 rename_i y8 l9 h9
 split at h
 ·cases h
 rename_i y9 l10 h10
 split at h
 ·cases h
 rename_i y10 l11 h11
 split at h
 ·cases h
 rename_i y11 l12 h12
 split at h
 ·cases h
 rename_i y12 l13 h13
 split at h
 ·cases h
 rename_i y13 l14 h14
 split at h
 ·cases h
 rename_i y14 l15 h15
 split at h
 ·cases h
 rename_i y15 l16 h16
 split at h
 ·cases h
 rename_i y16 l17 h17
 split at h
 ·cases h
 rename_i y17 l18 h18
 split at h
 ·cases h
 rename_i y18 l19 h19
 split at h
 ·cases h
 rename_i y19 l20 h20
 split at h
 ·cases h
 rename_i y20 l21 h21
 split at h
 ·cases h
 rename_i y21 l22 h22
 split at h
 ·cases h
 rename_i y22 l23 h23
 split at h
 ·cases h
 rename_i y23 l24 h24
 split at h
 ·cases h
 rename_i y24 l25 h25
 split at h
 ·cases h
 rename_i y25 l26 h26
 cases h
 have k26:=tkI_eq h26
 have k25:=NilLs.trans (tkI_eq h25) (NilLs.append (NilLs.refl _) k26)
 have k24:=NilLs.trans (tkI_eq h24) (NilLs.append (NilLs.refl _) k25)
 have k23:=NilLs.trans (tkI_eq h23) (NilLs.append (NilLs.refl _) k24)
 have k22:=NilLs.trans (tkI_eq h22) (NilLs.append (NilLs.refl _) k23)
 have k21:=NilLs.trans (tkI_eq h21) (NilLs.append (NilLs.refl _) k22)
 have k20:=NilLs.trans (tkGu_eq h20) (NilLs.append (NilLs.refl _) k21)
 have k19:=NilLs.trans (tkGu_eq h19) (NilLs.append (NilLs.refl _) k20)
 have k18:=NilLs.trans (tkCo_eq h18) (NilLs.append (NilLs.refl _) k19)
 have k17:=NilLs.trans (tkCo_eq h17) (NilLs.append (NilLs.refl _) k18)
 have k16:=NilLs.trans (tkI_eq h16) (NilLs.append (NilLs.refl _) k17)
 have k15:=NilLs.trans (tkI_eq h15) (NilLs.append (NilLs.refl _) k16)
 have k14:=NilLs.trans (tkV4_eq h14) (NilLs.append (NilLs.refl _) k15)
 have k13:=NilLs.trans (tkT_eq h13) (NilLs.append (NilLs.refl _) k14)
 have k12:=NilLs.trans (tkI_eq h12) (NilLs.append (NilLs.refl _) k13)
 have k11:=NilLs.trans (tkT_eq h11) (NilLs.append (NilLs.refl _) k12)
 have k10:=NilLs.trans (tkMo_eq h10) (NilLs.append (NilLs.refl _) k11)
 have k9:=NilLs.trans (tkL_eq h9) (NilLs.append (NilLs.refl _) k10)
 have k8:=NilLs.trans (tkQ_eq h8) (NilLs.append (NilLs.refl _) k9)
 have k7:=NilLs.trans (tkI_eq h7) (NilLs.append (NilLs.refl _) k8)
 have k6:=NilLs.trans (tkI_eq h6) (NilLs.append (NilLs.refl _) k7)
 have k5:=NilLs.trans (tkV3_eq h5) (NilLs.append (NilLs.refl _) k6)
 have k4:=NilLs.trans (tkV4_eq h4) (NilLs.append (NilLs.refl _) k5)
 have k3:=NilLs.trans (tkT_eq h3) (NilLs.append (NilLs.refl _) k4)
 have k2:=NilLs.trans (tkI_eq h2) (NilLs.append (NilLs.refl _) k3)
 have k1:=NilLs.trans (tkMa_eq h1) (NilLs.append (NilLs.refl _) k2)
 exact k1
def asFw(l:List SV):Option Fw:=match tkFw l with
 |some (f,r)=>match r with
  |[] =>some f
  |_=>none
 |none=>none
theorem asFw_nil{l:List SV}{f:Fw}(h:asFw l=some f):NilLs l f.cells:=by
 unfold asFw at h
 split at h
 ·split at h
  ·rename_i h1
   injection h with h;subst h
   have:=tkFw_eq h1
   rwa [List.append_nil]at this
  ·cases h
 ·cases h
def factFw(f:FuncId)(h:Fw→List SV→Option (Tree SV)):Fact:=⟨f,fun args=>match args with
 |.agg l::rest=>match asFw l with
  |some x=>h x rest
  |none=>none
 |_=>none⟩
theorem says_mono{P:Program}{f:FuncId}{a b:List SV}(h:∀v,SCall P f a v→SCall P f b v):∀t:Tree SV,t.says (SCall P f a)→t.says (SCall P f b)
 |.leaf v,k=>h v k
 |.node _ t u,k=>⟨fun hb=>says_mono h t (k.1 hb),fun hb=>says_mono h u (k.2 hb)⟩
 |.req _ t,k=>fun hb=>says_mono h t (k hb)
 |.fail _,_=>trivial
theorem factFw_ok{P:Program}{f:FuncId}{h:Fw→List SV→Option (Tree SV)}(k:∀x rest t,h x rest=some t→t.says (SCall P f (x.sv::rest))):(factFw f h).ok P:=fun args t ht=>by
 simp only[factFw]at ht
 split at ht
 ·split at ht
  ·rename_i hx
   exact says_mono (fun v hv=>scall_nil (asFw_nil hx) hv) t (k _ _ _ ht)
  ·cases ht
 ·cases ht
def factF1(f:FuncId)(h:Fw→Tree SV):Fact:=factFw f fun x rest=>match rest with
 |[] =>some (h x)
 |_=>none
theorem factF1_ok{P:Program}{f:FuncId}{h:Fw→Tree SV}(k:∀x,(h x).says (SCall P f [x.sv])):(factF1 f h).ok P:=factFw_ok fun x rest t ht=>by
 split at ht
 ·injection ht with ht;subst ht;exact k x
 ·cases ht
def partsB(f:Fw):Bool:=f.ma.ok&& (f.c0.ok&& (f.c1.ok&& (f.g0.ok&&f.g1.ok)))
theorem partsB_iff{f:Fw}:partsB f=true↔f.ma.ok=true∧f.c0.ok=true∧f.c1.ok=true∧f.g0.ok=true∧f.g1.ok=true:=by simp only[partsB,Bool.and_eq_true]
def far(n:Int):Bool:=inR n (-16777216) 16777216
def modeB(f:Fw):Bool:=inR f.mode 1 3
def numsB(f:Fw):Bool:=far f.loc.1&& (far f.loc.2.1&& (far f.loc.2.2&& (far f.e&& (inR f.feed 0 1048576&& (inR f.dwell 0 1048576&& (inR f.waits 0 3&& (inR f.fan 0 255&& (inR f.line 0 1099511627776&& (inR f.active 0 1099511627776&& (inR f.ticks 0 1099511627776&&inR f.cold 0 400000))))))))))
theorem numsB_iff{f:Fw}:numsB f=true↔(-16777216≤f.loc.1∧f.loc.1≤16777216)∧(-16777216≤f.loc.2.1∧f.loc.2.1≤16777216)∧(-16777216≤f.loc.2.2∧f.loc.2.2≤16777216)∧(-16777216≤f.e∧f.e≤16777216)∧(0≤f.feed∧f.feed≤1048576)∧(0≤f.dwell∧f.dwell≤1048576)∧(0≤f.waits∧f.waits≤3)∧(0≤f.fan∧f.fan≤255)∧(0≤f.line∧f.line≤1099511627776)∧(0≤f.active∧f.active≤1099511627776)∧(0≤f.ticks∧f.ticks≤1099511627776)∧0≤f.cold∧f.cold≤400000:=by simp only[numsB,far,Bool.and_eq_true,inR_iff]
def modNumB(f:Fw):Bool:=modeB f&&numsB f
theorem modNumB_iff{f:Fw}:modNumB f=true↔(1≤f.mode∧f.mode≤3)∧numsB f=true:=by simp only[modNumB,modeB,Bool.and_eq_true,inR_iff]
theorem s_parts(f:Fw):SCall Tryz.prog 86 [f.sv] (.bool (partsB f)):=
 scall_v mix [fMaOk,fCoOk,fGuOk] ⟨o_maOk,o_coOk,o_guOk,trivial⟩ 1000 (.fork (.ln 4 (.fork (.ln 4 (.fork (.ln 4 (.fork (.ln 3 (.lit .all)) (.ln 3 (.lit .all)))) (.ln 8 (.lit .all)))) (.ln 13 (.lit .all)))) (.ln 18 (.lit .all)))
  (t:=.node (f.ma.ok)
 (.req (true) (.node (f.c0.ok)
   (.req (true) (.node (f.c1.ok)
     (.req (true) (.node (f.g0.ok)
       (.req (true) (.leaf (SV.bool f.g1.ok)))
       (.leaf (SV.bool false))))
     (.leaf (SV.bool false))))
   (.leaf (SV.bool false))))
 (.leaf (SV.bool false)))
   (by kernel_rfl) (by simp only[Tree.holds,sL,ne_eq,beq_iff_eq,bne_iff_ne,eq_self,beq_eq_false_iff_ne,bne_eq_false_iff_eq,implies_true];(repeat' (first|apply And.intro|intro _));all_goals(refine holds_bool ?_;rw[partsB_iff];(try simp only[sL,ne_eq,beq_iff_eq,bne_iff_ne,eq_self,beq_eq_false_iff_ne,bne_eq_false_iff_eq,implies_true]); first|omega|grind)) (by kernel_rfl) (by kernel_rfl)
theorem s_partsR(c d:Co)(g h:Gu):SCall Tryz.prog 68 [.agg (c.cells++d.cells),.agg (g.cells++h.cells)] (.bool (c.ok&& (d.ok&& (g.ok&&h.ok)))):=
 scall_v mix [fCoOkR,fGuOkR] ⟨o_coOkR,o_guOkR,trivial⟩ 1000 (.fork (.ln 3 (.fork (.ln 3 (.fork (.lit (.lit (.lit .all))) (.lit (.lit (.lit .all))))) (.ln 6 (.lit .all)))) (.ln 10 (.lit .all)))
  (t:=.req (true) (.node (c.ok)
 (.req (true) (.node (d.ok)
   (.req (true) (.node (g.ok)
     (.req (true) (.leaf (SV.bool h.ok)))
     (.leaf (SV.bool false))))
   (.leaf (SV.bool false))))
 (.leaf (SV.bool false))))
  (by kernel_rfl) (by simp only[Tree.holds,sL,ne_eq,beq_iff_eq,bne_iff_ne,eq_self,beq_eq_false_iff_ne,bne_eq_false_iff_eq,implies_true];(repeat' (first|apply And.intro|intro _));all_goals(simp_all)) (by kernel_rfl) (by kernel_rfl)
theorem s_nums(f:Fw):SCall Tryz.prog 87 [f.sv] (.bool (modNumB f)):=
 scall_v mix [] trivial 1000 (.fork (.ln 3 (.fork (.ln 3 (.fork .all (.fork (.ln 3 (.fork (.ln 16 (.lit .all)) (.ln 3 (.fork (.ln 5 (.fork (.ln 10 (.lit .all)) (.ln 3 (.fork (.ln 5 (.fork (.ln 4 (.lit .all)) (.lit (.lit (.fork (.ln 5 (.fork .all (.fork (.ln 3 (.fork (.ln 14 (.lit .all)) (.lit (.lit (.fork (.ln 5 (.fork (.ln 9 (.lit .all)) (.lit (.lit (.fork (.ln 5 (.fork (.ln 4 (.lit .all)) (.lit (.lit (.fork (.ln 5 (.fork .all (.fork (.ln 3 (.fork (.lit (.lit (.fork (.ln 4 (.fork (.lit (.lit (.fork (.ln 4 (.fork (.lit (.lit (.fork (.ln 3 (.lit .all)) (.ln 3 (.lit .all))))) (.lit (.lit (.lit .all))))) (.ln 7 (.lit .all))))) (.ln 6 (.lit .all)))) (.ln 11 (.lit .all))))) (.ln 10 (.lit .all)))) (.ln 14 (.lit .all))))) (.ln 5 (.lit .all))))))) (.ln 10 (.lit .all))))))) (.ln 15 (.lit .all))))))) (.ln 18 (.lit .all))))) (.ln 5 (.lit .all))))))) (.ln 10 (.lit .all)))))) (.ln 16 (.lit .all)))))) (.ln 20 (.lit .all))))) (.ln 4 (.fork (.ln 3 (.fork (.ln 16 (.lit .all)) (.ln 3 (.fork (.ln 5 (.fork (.ln 10 (.lit .all)) (.ln 3 (.fork (.ln 5 (.fork (.ln 4 (.lit .all)) (.lit (.lit (.fork (.ln 5 (.fork .all (.fork (.ln 3 (.fork (.ln 14 (.lit .all)) (.lit (.lit (.fork (.ln 5 (.fork (.ln 9 (.lit .all)) (.lit (.lit (.fork (.ln 5 (.fork (.ln 4 (.lit .all)) (.lit (.lit (.fork (.ln 5 (.fork .all (.fork (.ln 3 (.fork (.lit (.lit (.fork (.ln 4 (.fork (.lit (.lit (.fork (.ln 4 (.fork (.lit (.lit (.fork (.ln 3 (.lit .all)) (.ln 3 (.lit .all))))) (.lit (.lit (.lit .all))))) (.ln 7 (.lit .all))))) (.ln 6 (.lit .all)))) (.ln 11 (.lit .all))))) (.ln 10 (.lit .all)))) (.ln 14 (.lit .all))))) (.ln 5 (.lit .all))))))) (.ln 10 (.lit .all))))))) (.ln 15 (.lit .all))))))) (.ln 18 (.lit .all))))) (.ln 5 (.lit .all))))))) (.ln 10 (.lit .all)))))) (.ln 16 (.lit .all)))))) (.ln 20 (.lit .all)))))) (.ln 8 (.fork (.ln 3 (.fork (.ln 16 (.lit .all)) (.ln 3 (.fork (.ln 5 (.fork (.ln 10 (.lit .all)) (.ln 3 (.fork (.ln 5 (.fork (.ln 4 (.lit .all)) (.lit (.lit (.fork (.ln 5 (.fork .all (.fork (.ln 3 (.fork (.ln 14 (.lit .all)) (.lit (.lit (.fork (.ln 5 (.fork (.ln 9 (.lit .all)) (.lit (.lit (.fork (.ln 5 (.fork (.ln 4 (.lit .all)) (.lit (.lit (.fork (.ln 5 (.fork .all (.fork (.ln 3 (.fork (.lit (.lit (.fork (.ln 4 (.fork (.lit (.lit (.fork (.ln 4 (.fork (.lit (.lit (.fork (.ln 3 (.lit .all)) (.ln 3 (.lit .all))))) (.lit (.lit (.lit .all))))) (.ln 7 (.lit .all))))) (.ln 6 (.lit .all)))) (.ln 11 (.lit .all))))) (.ln 10 (.lit .all)))) (.ln 14 (.lit .all))))) (.ln 5 (.lit .all))))))) (.ln 10 (.lit .all))))))) (.ln 15 (.lit .all))))))) (.ln 18 (.lit .all))))) (.ln 5 (.lit .all))))))) (.ln 10 (.lit .all)))))) (.ln 16 (.lit .all)))))) (.ln 20 (.lit .all)))))
  (t:=let y1:Tree SV:=.leaf (.bool false);let y0:Tree SV:=.node (decide (f.loc.1≥-16777216)) (.node (!decide (f.loc.1≤16777216)) y1 (.node (decide (f.loc.2.1≥-16777216)) (.node (!decide (f.loc.2.1≤16777216)) y1 (.node (decide (f.loc.2.2≥-16777216)) (.node (!decide (f.loc.2.2≤16777216)) y1 (.node (decide (f.e≥-16777216)) (.node (!decide (f.e≤16777216)) y1 (.node (decide (f.feed≥0)) (.node (!decide (f.feed≤1048576)) y1 (.node (decide (f.dwell≥0)) (.node (!decide (f.dwell≤1048576)) y1 (.node (decide (f.waits≥0)) (.node (!decide (f.waits≤3)) y1 (.node (decide (f.fan≥0)) (.node (!decide (f.fan≤255)) y1 (.node (decide (f.line≥0)) (.node (decide (f.line≤1099511627776)) (.node (decide (f.active≥0)) (.node (decide (f.active≤1099511627776)) (.node (decide (f.ticks≥0)) (.node (decide (f.ticks≤1099511627776)) (.node (decide (f.cold≥0)) (.leaf (.bool (decide (f.cold≤400000)))) y1) y1) y1) y1) y1) y1) y1)) y1)) y1)) y1)) y1)) y1)) y1)) y1)) y1;.node (f.mode != 1) (.node (f.mode != 2) (.node (f.mode != 3) y1 y0) y0) y0)
  (by kernel_rfl) (by simp only[Tree.holds,sL,ne_eq,beq_iff_eq,bne_iff_ne,eq_self,beq_eq_false_iff_ne,bne_eq_false_iff_eq,implies_true];(repeat' (first|apply And.intro|intro _));all_goals(refine holds_bool ?_;rw[modNumB_iff,numsB_iff];(try simp only[sL,ne_eq,beq_iff_eq,bne_iff_ne,eq_self,beq_eq_false_iff_ne,bne_eq_false_iff_eq,implies_true]); first|omega|grind)) (by kernel_rfl) (by kernel_rfl)
theorem s_numsR(f:Fw):SCall Tryz.prog 91 [f.sv] (.bool (numsB f)):=
 scall_v mix [] trivial 1000 (.fork (.ln 3 (.fork (.ln 3 (.fork (.ln 4 (.fork (.ln 3 (.fork (.ln 4 (.fork (.lit (.lit (.fork (.ln 4 (.fork (.ln 3 (.fork (.lit (.lit (.fork (.ln 4 (.fork (.lit (.lit (.fork (.ln 4 (.fork (.lit (.lit (.fork (.ln 4 (.fork (.lit (.lit (.fork (.ln 4 (.fork (.lit (.fork (.lit (.lit (.fork (.ln 4 (.fork (.lit (.lit (.fork (.ln 4 (.fork (.lit (.lit (.fork (.ln 3 (.lit .all)) (.ln 3 (.lit .all))))) (.lit (.lit (.lit .all))))) (.ln 7 (.lit .all))))) (.ln 6 (.lit .all)))) (.ln 11 (.lit .all))))) (.ln 10 (.lit .all)))) (.ln 12 (.lit .all)))) (.ln 4 (.fork (.ln 12 (.lit .all)) (.ln 12 (.lit .all))))))) (.ln 3 (.fork (.ln 12 (.lit .all)) (.ln 12 (.lit .all)))))) (.ln 8 (.fork (.ln 12 (.lit .all)) (.ln 12 (.lit .all))))))) (.ln 7 (.fork (.ln 12 (.lit .all)) (.ln 12 (.lit .all)))))) (.ln 12 (.fork (.ln 12 (.lit .all)) (.ln 12 (.lit .all))))))) (.ln 11 (.fork (.ln 12 (.lit .all)) (.ln 12 (.lit .all)))))) (.ln 16 (.fork (.ln 12 (.lit .all)) (.ln 12 (.lit .all))))))) (.ln 15 (.fork (.ln 12 (.lit .all)) (.ln 12 (.lit .all)))))) (.ln 19 (.fork (.ln 12 (.lit .all)) (.ln 12 (.lit .all)))))) (.ln 4 (.fork (.ln 3 (.fork (.lit (.lit (.fork (.ln 4 (.fork (.lit (.lit (.fork (.ln 4 (.fork (.lit (.lit (.fork (.ln 4 (.fork (.lit (.lit (.fork (.ln 17 (.lit .all)) (.ln 17 (.lit .all))))) (.ln 16 (.lit .all)))) (.ln 21 (.lit .all))))) (.ln 20 (.lit .all)))) (.ln 25 (.lit .all))))) (.ln 24 (.lit .all)))) (.ln 29 (.lit .all))))) (.ln 28 (.lit .all)))) (.ln 32 (.lit .all))))))) (.ln 3 (.fork (.ln 3 (.fork (.lit (.lit (.fork (.ln 4 (.fork (.lit (.lit (.fork (.ln 4 (.fork (.lit (.lit (.fork (.ln 4 (.fork (.lit (.lit (.fork (.ln 17 (.lit .all)) (.ln 17 (.lit .all))))) (.ln 16 (.lit .all)))) (.ln 21 (.lit .all))))) (.ln 20 (.lit .all)))) (.ln 25 (.lit .all))))) (.ln 24 (.lit .all)))) (.ln 29 (.lit .all))))) (.ln 28 (.lit .all)))) (.ln 32 (.lit .all)))))) (.ln 8 (.fork (.ln 3 (.fork (.lit (.lit (.fork (.ln 4 (.fork (.lit (.lit (.fork (.ln 4 (.fork (.lit (.lit (.fork (.ln 4 (.fork (.lit (.lit (.fork (.ln 17 (.lit .all)) (.ln 17 (.lit .all))))) (.ln 16 (.lit .all)))) (.ln 21 (.lit .all))))) (.ln 20 (.lit .all)))) (.ln 25 (.lit .all))))) (.ln 24 (.lit .all)))) (.ln 29 (.lit .all))))) (.ln 28 (.lit .all)))) (.ln 32 (.lit .all)))))) (.ln 8 (.fork (.ln 3 (.fork (.lit (.lit (.fork (.ln 4 (.fork (.lit (.lit (.fork (.ln 4 (.fork (.lit (.lit (.fork (.ln 4 (.fork (.lit (.lit (.fork (.ln 17 (.lit .all)) (.ln 17 (.lit .all))))) (.ln 16 (.lit .all)))) (.ln 21 (.lit .all))))) (.ln 20 (.lit .all)))) (.ln 25 (.lit .all))))) (.ln 24 (.lit .all)))) (.ln 29 (.lit .all))))) (.ln 28 (.lit .all)))) (.ln 32 (.lit .all)))))) (.ln 13 (.fork (.ln 3 (.fork (.lit (.lit (.fork (.ln 4 (.fork (.lit (.lit (.fork (.ln 4 (.fork (.lit (.lit (.fork (.ln 4 (.fork (.lit (.lit (.fork (.ln 17 (.lit .all)) (.ln 17 (.lit .all))))) (.ln 16 (.lit .all)))) (.ln 21 (.lit .all))))) (.ln 20 (.lit .all)))) (.ln 25 (.lit .all))))) (.ln 24 (.lit .all)))) (.ln 29 (.lit .all))))) (.ln 28 (.lit .all)))) (.ln 32 (.lit .all)))))) (.ln 13 (.fork (.ln 3 (.fork (.lit (.lit (.fork (.ln 4 (.fork (.lit (.lit (.fork (.ln 4 (.fork (.lit (.lit (.fork (.ln 4 (.fork (.lit (.lit (.fork (.ln 17 (.lit .all)) (.ln 17 (.lit .all))))) (.ln 16 (.lit .all)))) (.ln 21 (.lit .all))))) (.ln 20 (.lit .all)))) (.ln 25 (.lit .all))))) (.ln 24 (.lit .all)))) (.ln 29 (.lit .all))))) (.ln 28 (.lit .all)))) (.ln 32 (.lit .all)))))) (.ln 17 (.fork (.ln 3 (.fork (.lit (.lit (.fork (.ln 4 (.fork (.lit (.lit (.fork (.ln 4 (.fork (.lit (.lit (.fork (.ln 4 (.fork (.lit (.lit (.fork (.ln 17 (.lit .all)) (.ln 17 (.lit .all))))) (.ln 16 (.lit .all)))) (.ln 21 (.lit .all))))) (.ln 20 (.lit .all)))) (.ln 25 (.lit .all))))) (.ln 24 (.lit .all)))) (.ln 29 (.lit .all))))) (.ln 28 (.lit .all)))) (.ln 32 (.lit .all)))))
  (t:=let y1:Tree SV:=.leaf (.bool false);let y0:Tree SV:=.node (decide (f.feed≥0)) (.node (decide (f.feed≤1048576)) (.node (decide (f.dwell≥0)) (.node (decide (f.dwell≤1048576)) (.node (decide (f.waits≥0)) (.node (decide (f.waits≤3)) (.node (decide (f.fan≥0)) (.node (decide (f.fan≤255)) (.node (decide (f.cold≥0)) y1 y1) y1) y1) y1) y1) y1) y1) y1) y1;let y2:Tree SV:=.node (decide (f.e≤16777216)) y1 y1;.node (decide (f.loc.1≥-16777216)) (.node (decide (f.loc.1≤16777216)) (.node (decide (f.loc.2.1≥-16777216)) (.node (decide (f.loc.2.1≤16777216)) (.node (decide (f.loc.2.2≥-16777216)) (.node (decide (f.loc.2.2≤16777216)) (.node (decide (f.e≥-16777216)) (.node (decide (f.feed≥0)) (.node (decide (f.feed≤1048576)) (.node (decide (f.dwell≥0)) (.node (decide (f.dwell≤1048576)) (.node (decide (f.waits≥0)) (.node (decide (f.waits≤3)) (.node (decide (f.fan≥0)) (.node (decide (f.fan≤255)) (.node (decide (f.cold≥0)) (.node (decide (f.e≤16777216)) (.node (decide (f.cold≤400000)) (.node (decide (f.line≥0)) (.node (decide (f.line≤1099511627776)) (.node (decide (f.active≥0)) (.node (decide (f.active≤1099511627776)) (.node (decide (f.ticks≥0)) (.leaf (.bool (decide (f.ticks≤1099511627776)))) y1) y1) y1) y1) y1) y1) y1) y2) y2) y2) y2) y2) y2) y2) y2) y2) y0) y0) y0) y0) y0) y0) y0)
  (by kernel_rfl) (by simp only[Tree.holds,sL,ne_eq,beq_iff_eq,bne_iff_ne,eq_self,beq_eq_false_iff_ne,bne_eq_false_iff_eq,implies_true];(repeat' (first|apply And.intro|intro _));all_goals(refine holds_bool ?_;rw[numsB_iff];(try simp only[sL,ne_eq,beq_iff_eq,bne_iff_ne,eq_self,beq_eq_false_iff_ne,bne_eq_false_iff_eq,implies_true]); first|omega|grind)) (by kernel_rfl) (by kernel_rfl)
theorem s_near(c:V4):SCall Tryz.prog 184 [V4.sv c] (.bool (near4 c)):=
 scall_v mix [] trivial 1000 (.go (.lit (.fork (.ln 3 (.fork .all (.go (.lit (.fork (.ln 3 (.fork .all (.go (.lit (.fork (.ln 3 (.fork .all (.go (.lit (.fork (.ln 3 (.fork .all (.go (.lit .all)))) (.ln 3 (.lit .all))))))) (.ln 3 (.lit .all))))))) (.ln 3 (.lit .all))))))) (.ln 3 (.lit .all)))))
  (t:=.req (true) (.node (decide (c.1≥-16777216)) (.node (!decide (c.1≤16777216)) (.leaf (.bool false)) (.req true (.node (decide (c.2.1≥-16777216)) (.node (!decide (c.2.1≤16777216)) (.leaf (.bool false)) (.req true (.node (decide (c.2.2.1≥-16777216)) (.node (!decide (c.2.2.1≤16777216)) (.leaf (.bool false)) (.req true (.node (decide (c.2.2.2≥-16777216)) (.node (!decide (c.2.2.2≤16777216)) (.leaf (.bool false)) (.leaf (.bool true))) (.leaf (.bool false))))) (.leaf (.bool false))))) (.leaf (.bool false))))) (.leaf (.bool false))))
  (by kernel_rfl) (by simp only[Tree.holds,sL,ne_eq,beq_iff_eq,bne_iff_ne,eq_self,beq_eq_false_iff_ne,bne_eq_false_iff_eq,implies_true];(repeat' (first|apply And.intro|intro _));all_goals(refine holds_bool ?_;rw[near4_iff];(try simp only[sL,ne_eq,beq_iff_eq,bne_iff_ne,eq_self,beq_eq_false_iff_ne,bne_eq_false_iff_eq,implies_true]); first|omega|grind)) (by kernel_rfl) (by kernel_rfl)
theorem s_nearR(c:V4):SCall Tryz.prog 92 [V4.sv c] (.bool (near4 c)):=
 scall_v mix [] trivial 1000 (.go (.lit (.fork (.ln 3 (.fork .all (.go (.lit (.fork (.ln 3 (.fork .all (.go (.lit (.fork (.ln 3 (.fork .all (.go (.lit (.fork (.ln 3 (.fork .all (.go (.lit .all)))) (.ln 3 (.lit .all))))))) (.ln 3 (.lit .all))))))) (.ln 3 (.lit .all))))))) (.ln 3 (.lit .all)))))
  (t:=.req (true) (.node (decide (c.1≥-16777216)) (.node (!decide (c.1≤16777216)) (.leaf (.bool false)) (.req true (.node (decide (c.2.1≥-16777216)) (.node (!decide (c.2.1≤16777216)) (.leaf (.bool false)) (.req true (.node (decide (c.2.2.1≥-16777216)) (.node (!decide (c.2.2.1≤16777216)) (.leaf (.bool false)) (.req true (.node (decide (c.2.2.2≥-16777216)) (.node (!decide (c.2.2.2≤16777216)) (.leaf (.bool false)) (.leaf (.bool true))) (.leaf (.bool false))))) (.leaf (.bool false))))) (.leaf (.bool false))))) (.leaf (.bool false))))
  (by kernel_rfl) (by simp only[Tree.holds,sL,ne_eq,beq_iff_eq,bne_iff_ne,eq_self,beq_eq_false_iff_ne,bne_eq_false_iff_eq,implies_true];(repeat' (first|apply And.intro|intro _));all_goals(refine holds_bool ?_;rw[near4_iff];(try simp only[sL,ne_eq,beq_iff_eq,bne_iff_ne,eq_self,beq_eq_false_iff_ne,bne_eq_false_iff_eq,implies_true]); first|omega|grind)) (by kernel_rfl) (by kernel_rfl)
def big4(c:V4):Bool:=in4 1152921504606846976 c
theorem big4_iff{c:V4}:big4 c=true↔(-1152921504606846976≤c.1∧c.1≤1152921504606846976)∧(-1152921504606846976≤c.2.1∧c.2.1≤1152921504606846976)∧(-1152921504606846976≤c.2.2.1∧c.2.2.1≤1152921504606846976)∧-1152921504606846976≤c.2.2.2∧c.2.2.2≤1152921504606846976:=in4_iff
theorem madeM_rng(m:Mo):in4 562949970198528 (madeM m)=true:=by
 rw[in4_iff]
 by_cases h:validB m.1=true∧0≤m.2.1∧m.2.1≤dom m.1.1
 ·rw[madeM_yes h];have:=at4_abs m.1.1 m.2.1;omega
 ·rw[madeM_no h];decide
def fParts:Fact:=factF1 86 fun f=>.leaf (.bool (partsB f))
theorem o_parts:fParts.ok Tryz.prog:=factF1_ok (fun f=>s_parts f)
def fNums:Fact:=factF1 87 fun f=>.leaf (.bool (modNumB f))
theorem o_nums:fNums.ok Tryz.prog:=factF1_ok (fun f=>s_nums f)
def fNumsR:Fact:=factF1 91 fun f=>.leaf (.bool (numsB f))
theorem o_numsR:fNumsR.ok Tryz.prog:=factF1_ok (fun f=>s_numsR f)
def fNear:Fact:=factV 184 fun c=>.leaf (.bool (near4 c))
def fNearR:Fact:=factV 92 fun c=>.leaf (.bool (near4 c))
theorem o_near:fNear.ok Tryz.prog:=factV_ok (s_near)
theorem o_nearR:fNearR.ok Tryz.prog:=factV_ok (s_nearR)
def wadd4(a b:V4):V4:=(i64.wrap (a.1+b.1),i64.wrap (a.2.1+b.2.1),i64.wrap (a.2.2.1+b.2.2.1),i64.wrap (a.2.2.2+b.2.2.2))
def wsub4(a b:V4):V4:=(i64.wrap (a.1-b.1),i64.wrap (a.2.1-b.2.1),i64.wrap (a.2.2.1-b.2.2.1),i64.wrap (a.2.2.2-b.2.2.2))
theorem wadd4_eq{a b:V4}(ha:big4 a=true)(hb:big4 b=true):wadd4 a b=add4 a b:=by
 rw[big4_iff]at ha hb
 unfold wadd4 add4
 rw[w64 (x:=a.1+b.1) (by omega) (by omega),w64 (x:=a.2.1+b.2.1) (by omega) (by omega),w64 (x:=a.2.2.1+b.2.2.1) (by omega) (by omega),w64 (x:=a.2.2.2+b.2.2.2) (by omega) (by omega)]
theorem wsub4_eq{a b:V4}(ha:big4 a=true)(hb:big4 b=true):wsub4 a b=sub4 a b:=by
 rw[big4_iff]at ha hb
 unfold wsub4 sub4
 rw[w64 (x:=a.1-b.1) (by omega) (by omega),w64 (x:=a.2.1-b.2.1) (by omega) (by omega),w64 (x:=a.2.2.1-b.2.2.1) (by omega) (by omega),w64 (x:=a.2.2.2-b.2.2.2) (by omega) (by omega)]
theorem s_pls(a b:V4):SCall Tryz.prog 137 [V4.sv a,V4.sv b] (V4.sv (wadd4 a b)):=
 scall_v mix [] trivial 1000 (.go (.lit (.go (.lit (.go (.lit (.go (.lit (.go (.lit (.all)))))))))))
  (t:=.req (true) (.req true (.req (true) (.req true (.req (true) (.req true (.req (true) (.req true (.req (true) (.req true (.req (true) (.req true (.leaf (.agg [.int .i64 (i64.wrap (a.1+b.1)),.int .i64 (i64.wrap (a.2.1+b.2.1)),.int .i64 (i64.wrap (a.2.2.1+b.2.2.1)),.int .i64 (i64.wrap (a.2.2.2+b.2.2.2))]))))))))))))))
  (by kernel_rfl) (by simp only[Tree.holds,sL,ne_eq,beq_iff_eq,bne_iff_ne,eq_self,beq_eq_false_iff_ne,bne_eq_false_iff_eq,implies_true];exact rfl) (by kernel_rfl) (by kernel_rfl)
theorem s_plsR(a b:V4):SCall Tryz.prog 172 [V4.sv a,V4.sv b] (V4.sv (wadd4 a b)):=
 scall_v mix [] trivial 1000 (.go (.lit (.go (.lit (.go (.lit (.go (.lit (.go (.lit (.all)))))))))))
  (t:=.req (true) (.req true (.req (true) (.req true (.req (true) (.req true (.req (true) (.req true (.req (true) (.req true (.req (true) (.req true (.leaf (.agg [.int .i64 (i64.wrap (a.1+b.1)),.int .i64 (i64.wrap (a.2.1+b.2.1)),.int .i64 (i64.wrap (a.2.2.1+b.2.2.1)),.int .i64 (i64.wrap (a.2.2.2+b.2.2.2))]))))))))))))))
  (by kernel_rfl) (by simp only[Tree.holds,sL,ne_eq,beq_iff_eq,bne_iff_ne,eq_self,beq_eq_false_iff_ne,bne_eq_false_iff_eq,implies_true];exact rfl) (by kernel_rfl) (by kernel_rfl)
def fPls:Fact:=factVV 137 fun a b=>.leaf (V4.sv (wadd4 a b))
def fPlsR:Fact:=factVV 172 fun a b=>.leaf (V4.sv (wadd4 a b))
theorem o_pls:fPls.ok Tryz.prog:=factVV_ok (fun a b=>s_pls a b)
theorem o_plsR:fPlsR.ok Tryz.prog:=factVV_ok (fun a b=>s_plsR a b)
theorem s_mns(a b:V4):SCall Tryz.prog 209 [V4.sv a,V4.sv b] (V4.sv (wsub4 a b)):=
 scall_v mix [] trivial 1000 (.go (.lit (.go (.lit (.go (.lit (.go (.lit (.go (.lit (.all)))))))))))
  (t:=.req (true) (.req true (.req (true) (.req true (.req (true) (.req true (.req (true) (.req true (.req (true) (.req true (.req (true) (.req true (.leaf (.agg [.int .i64 (i64.wrap (a.1-b.1)),.int .i64 (i64.wrap (a.2.1-b.2.1)),.int .i64 (i64.wrap (a.2.2.1-b.2.2.1)),.int .i64 (i64.wrap (a.2.2.2-b.2.2.2))]))))))))))))))
  (by kernel_rfl) (by simp only[Tree.holds,sL,ne_eq,beq_iff_eq,bne_iff_ne,eq_self,beq_eq_false_iff_ne,bne_eq_false_iff_eq,implies_true];exact rfl) (by kernel_rfl) (by kernel_rfl)
theorem s_mnsR(a b:V4):SCall Tryz.prog 111 [V4.sv a,V4.sv b] (V4.sv (wsub4 a b)):=
 scall_v mix [] trivial 1000 (.go (.lit (.go (.lit (.go (.lit (.go (.lit (.go (.lit (.all)))))))))))
  (t:=.req (true) (.req true (.req (true) (.req true (.req (true) (.req true (.req (true) (.req true (.req (true) (.req true (.req (true) (.req true (.leaf (.agg [.int .i64 (i64.wrap (a.1-b.1)),.int .i64 (i64.wrap (a.2.1-b.2.1)),.int .i64 (i64.wrap (a.2.2.1-b.2.2.1)),.int .i64 (i64.wrap (a.2.2.2-b.2.2.2))]))))))))))))))
  (by kernel_rfl) (by simp only[Tree.holds,sL,ne_eq,beq_iff_eq,bne_iff_ne,eq_self,beq_eq_false_iff_ne,bne_eq_false_iff_eq,implies_true];exact rfl) (by kernel_rfl) (by kernel_rfl)
def fMns:Fact:=factVV 209 fun a b=>.leaf (V4.sv (wsub4 a b))
def fMnsR:Fact:=factVV 111 fun a b=>.leaf (V4.sv (wsub4 a b))
theorem o_mns:fMns.ok Tryz.prog:=factVV_ok (fun a b=>s_mns a b)
theorem o_mnsR:fMnsR.ok Tryz.prog:=factVV_ok (fun a b=>s_mnsR a b)
def m0B(m:Mo):Bool:=inR m.1.1.1 0 0&& (inR m.1.1.2.1 0 0&& (inR m.1.1.2.2.1 0 0&& (inR m.1.1.2.2.2 0 0&& (inR m.1.2.1 0 0&& (inR m.1.2.2.1 0 0&& (inR m.1.2.2.2.1 0 0&& (inR m.1.2.2.2.2 0 0&& (inR m.2.1 0 0&&inR m.2.2 0 0))))))))
theorem m0B_iff{m:Mo}:m0B m=true↔m.1.1.1=0∧m.1.1.2.1=0∧m.1.1.2.2.1=0∧m.1.1.2.2.2=0∧m.1.2.1=0∧m.1.2.2.1=0∧m.1.2.2.2.1=0∧m.1.2.2.2.2=0∧m.2.1=0∧m.2.2=0:=by
 have z:∀n:Int,inR n 0 0=true↔n=0:=fun n=>by rw[inR_iff];omega
 simp only[m0B,Bool.and_eq_true,z]
def stillB(f:Fw):Bool:=m0B f.mo&&inR f.active 0 0
theorem stillB_iff{f:Fw}:stillB f=true↔m0B f.mo=true∧f.active=0:=by
 have z:∀n:Int,inR n 0 0=true↔n=0:=fun n=>by rw[inR_iff];omega
 simp only[stillB,Bool.and_eq_true,z]
def movesB(f:Fw):Bool:=match f.moving with
 |true=>runsM f.mo f.ma.ticks
 |false=>stillB f
theorem movesB_on{f:Fw}(h:f.moving=true):movesB f=runsM f.mo f.ma.ticks:=by unfold movesB;rw[h]
theorem movesB_off{f:Fw}(h:f.moving=false):movesB f=stillB f:=by unfold movesB;rw[h]
def begin4(f:Fw):V4:=match f.moving with
 |true=>sub4 f.pos (madeM f.mo)
 |false=>f.pos
theorem begin4_on{f:Fw}(h:f.moving=true):begin4 f=sub4 f.pos (madeM f.mo):=by unfold begin4;rw[h]
theorem begin4_off{f:Fw}(h:f.moving=false):begin4 f=f.pos:=by unfold begin4;rw[h]
theorem s_moves(f:Fw):SCall Tryz.prog 88 [f.sv] (.bool (movesB f)):=
 scall_v mix [fVld,fDom,fIvl] ⟨o_vld,o_dom,o_ivl,trivial⟩ 1000 (.fork (.fork (.lit (.lit (.lit .all))) (.lit (.lit (.lit .all)))) (.fork (.ln 9 (.lit .all)) (.ln 7 (.fork (.ln 5 (.fork .all (.fork (.lit (.lit (.lit .all))) (.lit (.lit (.lit .all)))))) (.ln 5 (.lit .all))))))
  (t:=.node (!f.moving) (.node (f.mo.1.1.1==0&& (f.mo.1.1.2.1==0&& (f.mo.1.1.2.2.1==0&& (f.mo.1.1.2.2.2==0&&true)))&& (f.mo.1.2.1==0&& (f.mo.1.2.2.1==0&& (f.mo.1.2.2.2.1==0&& (f.mo.1.2.2.2.2==0&&true))))&& (f.mo.2.1==0&& (f.mo.2.2==0&&true))) (.leaf (.bool (f.active==0))) (.leaf (.bool false))) (.node (!validB f.mo.1) (.leaf (.bool false)) (.node (decide (f.mo.2.1≥0)) (.node (!decide (f.mo.2.1≤i64.wrap (dom f.mo.1.1-1))) (.leaf (.bool false)) (.node (decide (f.mo.2.2≥1)) (.leaf (.bool (decide (f.mo.2.2≤ivl f.mo.1 (i64.wrap (f.mo.2.1+1)) f.ma.ticks)))) (.leaf (.bool false)))) (.leaf (.bool false)))))
  (by kernel_rfl) (by
   have iv:=ivl_bnd f.mo.1 (f.mo.2.1+1) f.ma.ticks
   have dr:=dom_range f.mo.1.1
   have w1:=w64 (x:=dom f.mo.1.1-1) (by omega) (by omega)
   have w2:0≤f.mo.2.1∧f.mo.2.1≤dom f.mo.1.1-1→i64.wrap (f.mo.2.1+1)=f.mo.2.1+1:=fun h=>w64 (by omega) (by omega)
   have rm:=runsM_iff (m:=f.mo) (t:=f.ma.ticks)
   have st:=stillB_iff (f:=f)
   have m0:=m0B_iff (m:=f.mo)
   cases hm:f.moving
   ·rw[movesB_off hm]
    simp only[Tree.holds,hm,sL,ne_eq,beq_iff_eq,bne_iff_ne,eq_self,beq_eq_false_iff_ne,bne_eq_false_iff_eq,implies_true];(repeat' (first|apply And.intro|intro _));
    all_goals(refine holds_bool ?_;rw[st,m0];(try simp only[sL,ne_eq,beq_iff_eq,bne_iff_ne,eq_self,beq_eq_false_iff_ne,bne_eq_false_iff_eq,implies_true]);first|omega|grind)
   ·rw[movesB_on hm]
    simp only[Tree.holds,hm,w1,sL,ne_eq,beq_iff_eq,bne_iff_ne,eq_self,beq_eq_false_iff_ne,bne_eq_false_iff_eq,implies_true];(repeat' (first|apply And.intro|intro _));
    all_goals(refine holds_bool ?_;rw[rm];(try simp only[sL,ne_eq,beq_iff_eq,bne_iff_ne,eq_self,beq_eq_false_iff_ne,bne_eq_false_iff_eq,implies_true]);first|omega|grind)) (by kernel_rfl) (by kernel_rfl)
theorem s_begin(f:Fw)(h:big4 f.pos=true):SCall Tryz.prog 136 [f.sv] (V4.sv (begin4 f)):=
 scall_v mix [fMns,fMade] ⟨o_mns,o_made,trivial⟩ 1000 (.fork (.all) (.all))
  (t:=.node (!f.moving) (.leaf (.agg [.int .i64 f.pos.1,.int .i64 f.pos.2.1,.int .i64 f.pos.2.2.1,.int .i64 f.pos.2.2.2])) (.leaf (.agg [.int .i64 (wsub4 f.pos (madeM f.mo)).1,.int .i64 (wsub4 f.pos (madeM f.mo)).2.1,.int .i64 (wsub4 f.pos (madeM f.mo)).2.2.1,.int .i64 (wsub4 f.pos (madeM f.mo)).2.2.2])))
  (by kernel_rfl) (by
   have mr:=in4_iff.1 (madeM_rng f.mo)
   have hb:big4 (madeM f.mo)=true:=big4_iff.2 (by omega)
   cases hm:f.moving
   ·rw[begin4_off hm]
    simp only[Tree.holds,hm,sL,ne_eq,beq_iff_eq,bne_iff_ne,eq_self,beq_eq_false_iff_ne,bne_eq_false_iff_eq,implies_true];first|rfl|(intros;rfl)
   ·rw[begin4_on hm]
    simp only[Tree.holds,hm,sL,ne_eq,beq_iff_eq,bne_iff_ne,eq_self,beq_eq_false_iff_ne,bne_eq_false_iff_eq,implies_true]
    rw[wsub4_eq h hb];rfl) (by kernel_rfl) (by kernel_rfl)
def fMoves:Fact:=factF1 88 fun f=>.leaf (.bool (movesB f))
theorem o_moves:fMoves.ok Tryz.prog:=factF1_ok (fun f=>s_moves f)
def fBegin:Fact:=factF1 136 fun f=>.req (big4 f.pos) (.leaf (V4.sv (begin4 f)))
theorem o_begin:fBegin.ok Tryz.prog:=factF1_ok (fun f h=>s_begin f h)
def qp0_p:Plan:=.fork (.ln 17 (.lit .all)) (.ln 7 (.fork (.ln 9 (.lit .all)) (.ln 4 (.fork (.ln 4 (.lit .all)) (.ln 4 (.fork .all (.fork .all (.fork .all .all))))))))
noncomputable def qp0_t(f:Fw):Tree Stop:= .node (decide ((↑f.queue.length:Int)>32)) (.leaf (.done (.bool false))) (.node ((↑f.lines.length:Int) !=(↑f.queue.length:Int)) (.leaf (.done (.bool false))) (.node (!near4 f.pos) (.leaf (.done (.bool false))) (.node (!near4 f.ret) (.leaf (.done (.bool false))) (.req (big4 f.pos) (.node (!near4 (begin4 f)) (.leaf (.done (.bool false))) (.node (!near4 (wadd4 (begin4 f) f.mo.1.1)) (.leaf (.done (.bool false))) (.leaf (.at (loopOf Tryz.prog 89 0) 75 (slotsS 75 [(1,.ptr 0 0),(3,.ptr 1 0),(46,.list tyBk f.queue),(47,.int .i64 (↑f.queue.length:Int)),(48,.int .i64 0)]) [some (.cells (Fw.cells f)),some (.cells [.int .i64 (wadd4 (begin4 f) f.mo.1.1).1,.int .i64 (wadd4 (begin4 f) f.mo.1.1).2.1,.int .i64 (wadd4 (begin4 f) f.mo.1.1).2.2.1,.int .i64 (wadd4 (begin4 f) f.mo.1.1).2.2.2])]))))))))
theorem qp0(f:Fw):segR (Env.of Tryz.prog (sumOf [fNear,fBegin,fPls,fVld])) 1000 (fnOf Tryz.prog 89) .unit (keepS 75 [1,3,46,47,48]) (codeS Tryz.prog 89) qp0_p (startS Tryz.prog 89 [f.sv]) [] =qp0_t f:=by kernel_rfl
def qp1_p:Plan:=.fork (.fork (.ln 11 (.lit .all)) (.ln 5 (.fork (.ln 5 (.fork (.ln 3 (.lit .all)) (.ln 3 (.fork .all .all)))) (.ln 9 (.lit .all))))) .all
noncomputable def qp1_t(f:Fw)(p:V4)(n i:Int):Tree Stop:= .node (decide (i<n)) (.req (decide (0≤i)&&decide (i< (↑f.queue.length:Int))) (.node (!validB (f.queue.getD i.toNat dBk)) (.leaf (.done (.bool false))) (.req (decide (0≤i)&&decide (i< (↑f.lines.length:Int))) (.node (decide (f.lines.getD i.toNat 0≥0)) (.node (!decide (f.lines.getD i.toNat 0≤1099511627776)) (.leaf (.done (.bool false))) (.node (!near4 (wadd4 p (f.queue.getD i.toNat dBk).1)) (.leaf (.done (.bool false))) (.leaf (.at (loopOf Tryz.prog 89 0) 75 (slotsS 75 [(1,.ptr 0 0),(3,.ptr 1 0),(46,.list tyBk f.queue),(47,.int .i64 n),(48,.int .i64 (i64.wrap (i+1)))]) [some (.cells (Fw.cells f)),some (.cells [.int .i64 (wadd4 p (f.queue.getD i.toNat dBk).1).1,.int .i64 (wadd4 p (f.queue.getD i.toNat dBk).1).2.1,.int .i64 (wadd4 p (f.queue.getD i.toNat dBk).1).2.2.1,.int .i64 (wadd4 p (f.queue.getD i.toNat dBk).1).2.2.2])])))) (.leaf (.done (.bool false))))))) (.leaf (.done (.bool true)))
theorem qp1(f:Fw)(p:V4)(n i:Int):segR (Env.of Tryz.prog (sumOf [fNear,fBegin,fPls,fVld])) 1000 (fnOf Tryz.prog 89) .unit (keepS 75 [1,3,46,47,48]) (loopOf Tryz.prog 89 0) qp1_p (slotsS 75 [(1,.ptr 0 0),(3,.ptr 1 0),(46,LB f.queue),(47,I64 n),(48,I64 i)]) [some (.cells f.cells),some (.cells p.cells)] =qp1_t f p n i:=by kernel_rfl
def posAt(p:V4)(q:List Bk):Nat→V4
 |0=>p
 |i+1=>add4 (posAt p q i) (q.getD i dBk).1
def blkOK(p:V4)(q:List Bk)(ls:List Int)(i:Nat):Bool:=validB (q.getD i dBk)&& (inR (ls.getD i 0) 0 1099511627776&&near4 (posAt p q (i+1)))
theorem blkOK_iff{p:V4}{q:List Bk}{ls:List Int}{i:Nat}:blkOK p q ls i=true↔validB (q.getD i dBk)=true∧(0≤ls.getD i 0∧ls.getD i 0≤1099511627776)∧near4 (posAt p q (i+1))=true:=by simp only[blkOK,Bool.and_eq_true,inR_iff]
def queue0(f:Fw):V4:=add4 (begin4 f) f.mo.1.1
def queuedB(f:Fw):Bool:=decide (f.queue.length≤32)&& (decide (f.lines.length=f.queue.length)&& (near4 f.pos&& (near4 f.ret&& (near4 (begin4 f)&& (near4 (queue0 f)&& (List.range f.queue.length).all fun i=>blkOK (queue0 f) f.queue f.lines i)))))
theorem queuedB_iff{f:Fw}:queuedB f=true↔f.queue.length≤32∧f.lines.length=f.queue.length∧near4 f.pos=true∧near4 f.ret=true∧near4 (begin4 f)=true∧near4 (queue0 f)=true∧∀i,i<f.queue.length→blkOK (queue0 f) f.queue f.lines i=true:=by
 simp only[queuedB,Bool.and_eq_true,decide_eq_true_eq,List.all_eq_true,List.mem_range]
theorem near_big{c:V4}(h:near4 c=true):big4 c=true:=by rw[near4_iff]at h;exact big4_iff.2 (by omega)
theorem moves_cnt{f:Fw}(h:movesB f=true):near4 f.mo.1.1=true:=by
 cases hm:f.moving with
 |true=>
  rw[movesB_on hm,runsM_iff]at h
  have:=(okC_iff.1 (validB_iff.1 h.1).1.1).1
  exact near4_iff.2 this
 |false=>
  rw[movesB_off hm,stillB_iff,m0B_iff]at h
  rw[near4_iff];omega
theorem fsQ:allOk Tryz.prog [fNear,fBegin,fPls,fVld] :=⟨o_near,o_begin,o_pls,o_vld,trivial⟩
section
variable {f:Fw}
noncomputable abbrev RQ(f:Fw)(v:Bool)(p:V4)(i:Nat):Prop:=RunsR Tryz.prog (fnOf Tryz.prog 89) (.bool v) (loopOf Tryz.prog 89 0) (slotsS 75 [(1,.ptr 0 0),(3,.ptr 1 0),(46,LB f.queue),(47,I64 f.queue.length),(48,I64 i)]) [some (.cells f.cells),some (.cells p.cells)]
theorem qp_loop(hl:f.lines.length=f.queue.length)(hlen:f.queue.length≤32){p:V4}{v:Bool}(hv:v=true↔∀i,i<f.queue.length→blkOK p f.queue f.lines i=true):∀ (k i:Nat),i+k=f.queue.length→near4 (posAt p f.queue i)=true→(∀t,t<i→blkOK p f.queue f.lines t=true)→RQ f v (posAt p f.queue i) i
 |0,i,hi,hn,hp=>by
  unfold RQ
  refine runsR_seg (kW fsQ) (n:=1000) (hint:=.unit) (keep:=keepS 75 [1,3,46,47,48]) (p:=qp1_p) rfl ?_
  erw [qp1 f (posAt p f.queue i) f.queue.length i]
  unfold qp1_t
  refine⟨fun c=>absurd (of_decide_eq_true c) (by omega),fun _=>?_⟩
  rw[hv.2 fun t ht=>hp t (by omega)]
  exact rfl
 |k+1,i,hi,hn,hp=>by
  have bad:¬blkOK p f.queue f.lines i=true→v=false:=fun c=>by
   cases v with
   |false=>rfl
   |true=>exact absurd (hv.1 rfl i (by omega)) c
  have nx:blkOK p f.queue f.lines i=true→RQ f v (posAt p f.queue (i+1)) (i+1):=fun ok=>qp_loop hl hlen hv k (i+1) (by omega) (blkOK_iff.1 ok).2.2 fun t ht=>by
   rcases Nat.lt_or_ge t i with c|c
   ·exact hp t c
   ·rw[show t=i by omega];exact ok
  have t0:(i:Int).toNat=i:=by omega
  have w1:i64.wrap ((i:Int)+1)=((i+1:Nat):Int):=by rw[w64 (by omega) (by omega)];omega
  have b1:=near_big hn
  have ps:validB (f.queue.getD i dBk)=true→wadd4 (posAt p f.queue i) (f.queue.getD i dBk).1=posAt p f.queue (i+1):=fun c=>wadd4_eq b1 (near_big (near4_iff.2 (okC_iff.1 (validB_iff.1 c).1.1).1))
  have dlt:decide ((i:Int)<f.queue.length)=true:=decide_eq_true (by omega)
  unfold RQ at nx ⊢
  refine runsR_seg (kW fsQ) (n:=1000) (hint:=.unit) (keep:=keepS 75 [1,3,46,47,48]) (p:=qp1_p) rfl ?_
  erw [qp1 f (posAt p f.queue i) f.queue.length i]
  unfold qp1_t
  have bi:=@blkOK_iff p f.queue f.lines i
  simp only[dlt,t0,w1,Tree.holds,Bool.and_eq_true,decide_eq_true_eq,decide_eq_false_iff_not,Bool.true_eq_false,false_implies,true_implies,true_and,and_true,not_false_eq_true,Bool.not_eq_true',Bool.not_eq_false']
  refine⟨by omega,fun c=>?_,fun c=>⟨by omega,fun d=>⟨fun g=>?_,fun g=>⟨fun n=>?_,fun n=>?_⟩⟩,fun d=>?_⟩⟩
  ·rw[bad fun o=>by rw[(bi.1 o).1]at c;cases c]
  ·rw[bad fun o=>by have:=(bi.1 o).2.1;omega]
  ·rw[ps c]at n;rw[bad fun o=>by rw[(bi.1 o).2.2]at n;cases n]
  ·rw[ps c]at n ⊢;exact⟨slotsS_len _ _,nx (bi.2 ⟨c,by omega,n⟩)⟩
  ·rw[bad fun o=>by have:=(bi.1 o).2.1;omega]
theorem s_queued(f:Fw)(h:movesB f=true):SCall Tryz.prog 89 [f.sv] (.bool (queuedB f)):=by
 have qi:=@queuedB_iff f
 have nc:=moves_cnt h
 refine scallR_loops rfl rfl (by kernel_rfl) (runsR_seg (kW fsQ) (n:=1000) (hint:=.unit) (keep:=keepS 75 [1,3,46,47,48]) (p:=qp0_p) (boxes:=[]) rfl ?_)
 have q:=qp0 f
 unfold startS codeS at q
 erw [q]
 unfold qp0_t
 have bad:∀{P:Prop},(queuedB f=true→P)→¬P→queuedB f=false:=fun {P} k n=>by
  cases hq:queuedB f with
  |false=>rfl
  |true=>exact absurd (k hq) n
 simp only[Tree.holds,Bool.and_eq_true,decide_eq_true_eq,decide_eq_false_iff_not,bne_iff_ne,bne_eq_false_iff_eq,ne_eq,Bool.not_eq_true',Bool.not_eq_false']
 refine⟨fun a=>?_,fun a=>⟨fun b=>?_,fun b=>⟨fun c=>?_,fun c=>⟨fun d=>?_,fun d=>⟨near_big c,fun g=>?_,fun g=>?_⟩⟩⟩⟩⟩
 ·rw[bad (fun k=>(qi.1 k).1) (by omega)]
 ·rw[bad (fun k=>(qi.1 k).2.1) (by omega)]
 ·rw[bad (fun k=>(qi.1 k).2.2.1) (by rw[c];exact Bool.false_ne_true)]
 ·rw[bad (fun k=>(qi.1 k).2.2.2.1) (by rw[d];exact Bool.false_ne_true)]
 ·rw[bad (fun k=>(qi.1 k).2.2.2.2.1) (by rw[g];exact Bool.false_ne_true)]
 ·have e:wadd4 (begin4 f) f.mo.1.1=queue0 f:=wadd4_eq (near_big g) (near_big nc)
  rw[e]
  refine⟨fun i=>?_,fun i=>⟨slotsS_len _ _,?_⟩⟩
  ·rw[bad (fun k=>(qi.1 k).2.2.2.2.2.1) (by rw[i];exact Bool.false_ne_true)]
  ·have:=qp_loop (f:=f) (p:=queue0 f) (v:=queuedB f) (by omega) (by omega) ⟨fun k=>(qi.1 k).2.2.2.2.2.2,fun k=>qi.2 ⟨by omega,by omega,c,d,g,i,k⟩⟩ f.queue.length 0 (by omega) i (fun t ht=>absurd ht (Nat.not_lt_zero _))
   exact this
end
def goal4(f:Fw):V4:=posAt (queue0 f) f.queue f.queue.length
theorem queue0_off{f:Fw}(h:movesB f=true)(hm:f.moving=false):queue0 f=begin4 f:=by
 rw[movesB_off hm,stillB_iff,m0B_iff]at h
 unfold queue0 add4
 rw[h.1.1,h.1.2.1,h.1.2.2.1,h.1.2.2.2.1]
 simp
section
variable {f:Fw}
end
def vldM(m:Mo)(t:Int):Bool:=inR t 1 1048576&& (validB m.1&& (if m.2.1=dom m.1.1 then inR m.2.2 0 0 else inR m.2.1 0 (dom m.1.1-1)&&inR m.2.2 1 (ivl m.1 (m.2.1+1) t)))
theorem vldM_iff{m:Mo}{t:Int}:vldM m t=true↔(1≤t∧t≤1048576)∧validB m.1=true∧((m.2.1=dom m.1.1∧m.2.2=0)∨(¬m.2.1=dom m.1.1∧(0≤m.2.1∧m.2.1≤dom m.1.1-1)∧1≤m.2.2∧m.2.2≤ivl m.1 (m.2.1+1) t)):=by
 simp only[vldM,Bool.and_eq_true,inR_iff]
 by_cases h:m.2.1=dom m.1.1
 ·simp only[h,if_true,inR_iff]
  constructor
  ·intro ⟨a,b,c⟩;exact⟨a,b,.inl ⟨trivial,by omega⟩⟩
  ·rintro ⟨a,b,⟨_,c⟩|⟨c,_⟩⟩
   ·exact⟨a,b,by omega⟩
   ·exact absurd trivial c
 ·simp only[h,if_false,Bool.and_eq_true,inR_iff]
  constructor
  ·intro ⟨a,b,c⟩;exact⟨a,b,.inr ⟨not_false,c⟩⟩
  ·rintro ⟨a,b,⟨c,_⟩|⟨_,c⟩⟩
   ·exact absurd c (by trivial)
   ·exact⟨a,b,c⟩
def rest4(f:Fw):V4:=match f.moving with
 |true=>sub4 f.mo.1.1 (madeM f.mo)
 |false=>z4
theorem rest4_on{f:Fw}(h:f.moving=true):rest4 f=sub4 f.mo.1.1 (madeM f.mo):=by unfold rest4;rw[h]
theorem rest4_off{f:Fw}(h:f.moving=false):rest4 f=z4:=by unfold rest4;rw[h]
def motB(f:Fw):Bool:=movesB f&&near4 (begin4 f)
theorem motB_iff{f:Fw}:motB f=true↔movesB f=true∧near4 (begin4 f)=true:=by simp only[motB,Bool.and_eq_true]
theorem made_big(m:Mo):big4 (madeM m)=true:=by
 have mr:=in4_iff.1 (madeM_rng m)
 exact big4_iff.2 (by omega)
theorem s_vldM(m:Mo)(t:Int):SCall Tryz.prog 186 [Mo.sv m,I64 t] (.bool (vldM m t)):=
 scall_v mix [fVldR,fDomR,fIvlR] ⟨o_vldR,o_domR,o_ivlR,trivial⟩ 1000 (.fork (.ln 7 (.lit .all)) (.lit (.lit (.fork (.ln 4 (.lit .all)) (.ln 4 (.fork .all (.fork .all (.fork (.ln 4 (.fork (.ln 3 (.fork (.ln 9 (.lit .all)) (.ln 9 (.lit .all)))) (.ln 13 (.lit .all)))) (.ln 18 (.lit .all))))))))))
  (t:=.node (decide (t<1)) (.leaf (.bool false)) (.node (decide (t>1048576)) (.leaf (.bool false)) (.node (!validB m.1) (.leaf (.bool false)) (.node (m.2.1==dom m.1.1) (.leaf (.bool (m.2.2==0))) (.node (decide (m.2.1≥0)) (.node (decide (m.2.1<dom m.1.1)) (.node (decide (m.2.2≥1)) (.leaf (.bool (decide (m.2.2≤ivl m.1 (i64.wrap (m.2.1+1)) t)))) (.leaf (.bool false))) (.leaf (.bool false))) (.leaf (.bool false)))))))
  (by kernel_rfl) (by
   have iv:=ivl_bnd m.1 (m.2.1+1) t
   have dr:=dom_range m.1.1
   have w1:0≤m.2.1∧m.2.1≤dom m.1.1-1→i64.wrap (m.2.1+1)=m.2.1+1:=fun h=>w64 (by omega) (by omega)
   simp only[Tree.holds,sL,ne_eq,beq_iff_eq,bne_iff_ne,eq_self,beq_eq_false_iff_ne,bne_eq_false_iff_eq,implies_true];(repeat' (first|apply And.intro|intro _));
   all_goals(refine holds_bool ?_;rw[vldM_iff];(try simp only[sL,ne_eq,beq_iff_eq,bne_iff_ne,eq_self,beq_eq_false_iff_ne,bne_eq_false_iff_eq,implies_true]);first|omega|grind)) (by kernel_rfl) (by kernel_rfl)
def fVldM:Fact:=factMoI 186 fun m t=>.leaf (.bool (vldM m t))
theorem o_vldM:fVldM.ok Tryz.prog:=factMoI_ok s_vldM
theorem s_rest(f:Fw)(h:movesB f=true):SCall Tryz.prog 187 [f.sv] (V4.sv (rest4 f)):=
 scall_v mix [fMnsR,fMadeR] ⟨o_mnsR,o_madeR,trivial⟩ 1000 (.fork (.all) (.all))
  (t:=.node (!f.moving) (.leaf (.agg [.int .i64 0,.int .i64 0,.int .i64 0,.int .i64 0])) (.leaf (.agg [.int .i64 (wsub4 f.mo.1.1 (madeM f.mo)).1,.int .i64 (wsub4 f.mo.1.1 (madeM f.mo)).2.1,.int .i64 (wsub4 f.mo.1.1 (madeM f.mo)).2.2.1,.int .i64 (wsub4 f.mo.1.1 (madeM f.mo)).2.2.2])))
  (by kernel_rfl) (by
   cases hm:f.moving
   ·rw[rest4_off hm]
    simp only[Tree.holds,hm,sL,ne_eq,beq_iff_eq,bne_iff_ne,eq_self,beq_eq_false_iff_ne,bne_eq_false_iff_eq,implies_true];first|rfl|(intros;rfl)
   ·rw[rest4_on hm]
    simp only[Tree.holds,hm,sL,ne_eq,beq_iff_eq,bne_iff_ne,eq_self,beq_eq_false_iff_ne,bne_eq_false_iff_eq,implies_true]
    rw[wsub4_eq (near_big (moves_cnt h)) (made_big _)];rfl) (by kernel_rfl) (by kernel_rfl)
theorem s_motn(f:Fw)(h:near4 f.pos=true):SCall Tryz.prog 93 [f.sv] (.bool (motB f)):=
 scall_v mix [fVldM,fEndedR,fMadeR,fMnsR,fNearR] ⟨o_vldM,o_endedR,o_madeR,o_mnsR,o_nearR,trivial⟩ 1000 (.fork (.fork (.lit (.lit (.lit .all))) (.lit (.lit (.lit .all)))) (.fork (.ln 4 (.fork (.ln 6 (.lit .all)) (.ln 6 (.lit .all)))) (.ln 11 (.lit .all))))
  (t:=.node (!f.moving) (.node (f.mo.1.1.1==0&& (f.mo.1.1.2.1==0&& (f.mo.1.1.2.2.1==0&& (f.mo.1.1.2.2.2==0&&true)))&& (f.mo.1.2.1==0&& (f.mo.1.2.2.1==0&& (f.mo.1.2.2.2.1==0&& (f.mo.1.2.2.2.2==0&&true))))&& (f.mo.2.1==0&& (f.mo.2.2==0&&true))) (.leaf (.bool (f.active==0))) (.leaf (.bool false))) (.node (vldM f.mo f.ma.ticks) (.node (!endedM f.mo) (.leaf (.bool (near4 (wsub4 f.pos (madeM f.mo))))) (.leaf (.bool false))) (.leaf (.bool false))))
  (by kernel_rfl) (by
   have ei:=endedM_iff (m:=f.mo)
   have vi:=vldM_iff (m:=f.mo) (t:=f.ma.ticks)
   have ip:=ivl_pos (b:=f.mo.1) (i:=f.mo.2.1+1) (t:=f.ma.ticks)
   cases hm:f.moving
   ·have e:motB f=stillB f:=by unfold motB;rw[movesB_off hm,begin4_off hm,h,Bool.and_true]
    rw[e]
    simp only[Tree.holds,hm,sL,ne_eq,beq_iff_eq,bne_iff_ne,eq_self,beq_eq_false_iff_ne,bne_eq_false_iff_eq,implies_true];(repeat' (first|apply And.intro|intro _));
    all_goals(refine holds_bool ?_;rw[stillB_iff,m0B_iff];(try simp only[sL,ne_eq,beq_iff_eq,bne_iff_ne,eq_self,beq_eq_false_iff_ne,bne_eq_false_iff_eq,implies_true]);first|omega|grind)
   ·have e:motB f=true↔runsM f.mo f.ma.ticks=true∧near4 (sub4 f.pos (madeM f.mo))=true:=by rw[motB_iff,movesB_on hm,begin4_on hm]
    have hw:wsub4 f.pos (madeM f.mo)=sub4 f.pos (madeM f.mo):=wsub4_eq (near_big h) (made_big _)
    simp only[Tree.holds,hm,hw,sL,ne_eq,beq_iff_eq,bne_iff_ne,eq_self,beq_eq_false_iff_ne,bne_eq_false_iff_eq,implies_true];(repeat' (first|apply And.intro|intro _));
    all_goals(refine holds_bool ?_;rw[e,runsM_iff];(try simp only[sL,ne_eq,beq_iff_eq,bne_iff_ne,eq_self,beq_eq_false_iff_ne,bne_eq_false_iff_eq,implies_true]);first|omega|grind)) (by kernel_rfl) (by kernel_rfl)
def fRest:Fact:=factF1 187 fun f=>.req (movesB f) (.leaf (V4.sv (rest4 f)))
theorem o_rest:fRest.ok Tryz.prog:=factF1_ok (fun f h=>s_rest f h)
def qr0_p:Plan:=.fork (.ln 7 (.lit .all)) (.ln 7 (.fork .all (.fork .all .all)))
noncomputable def qr0_t(f:Fw):Tree Stop:= .node (decide ((↑f.queue.length:Int)>32)) (.leaf (.done (.bool false))) (.node ((↑f.lines.length:Int) !=(↑f.queue.length:Int)) (.leaf (.done (.bool false))) (.req (movesB f) (.node (!near4 (wadd4 f.pos (rest4 f))) (.leaf (.done (.bool false))) (.leaf (.at (loopOf Tryz.prog 94 0) 60 (slotsS 60 [(1,.ptr 0 0),(3,.ptr 1 0),(4,.int .i64 0)]) [some (.cells (Fw.cells f)),some (.cells [.int .i64 (wadd4 f.pos (rest4 f)).1,.int .i64 (wadd4 f.pos (rest4 f)).2.1,.int .i64 (wadd4 f.pos (rest4 f)).2.2.1,.int .i64 (wadd4 f.pos (rest4 f)).2.2.2])])))))
theorem qr0(f:Fw):segR (Env.of Tryz.prog (sumOf [fNearR,fRest,fPlsR,fVldR])) 1000 (fnOf Tryz.prog 94) .unit (keepS 60 [1,3,4]) (codeS Tryz.prog 94) qr0_p (startS Tryz.prog 94 [f.sv]) [] =qr0_t f:=by kernel_rfl
def qr1_p:Plan:=.fork (.fork (.ln 7 (.lit .all)) (.ln 5 (.fork (.ln 5 (.fork .all (.fork .all .all))) (.ln 5 (.lit .all))))) .all
noncomputable def qr1_t(f:Fw)(p:V4)(i:Int):Tree Stop:= .node (decide (i< (↑f.queue.length:Int))) (.req (decide (0≤i)&&decide (i< (↑f.queue.length:Int))) (.node (!validB (f.queue.getD i.toNat dBk)) (.leaf (.done (.bool false))) (.req (decide (0≤i)&&decide (i< (↑f.lines.length:Int))) (.node (decide (f.lines.getD i.toNat 0≥0)) (.node (!decide (f.lines.getD i.toNat 0≤1099511627776)) (.leaf (.done (.bool false))) (.req (decide (0≤i)&&decide (i< (↑f.queue.length:Int))) (.node (!near4 (wadd4 p (f.queue.getD i.toNat dBk).1)) (.leaf (.done (.bool false))) (.leaf (.at (loopOf Tryz.prog 94 0) 60 (slotsS 60 [(1,.ptr 0 0),(3,.ptr 1 0),(4,.int .i64 (i64.wrap (i+1)))]) [some (.cells (Fw.cells f)),some (.cells [.int .i64 (wadd4 p (f.queue.getD i.toNat dBk).1).1,.int .i64 (wadd4 p (f.queue.getD i.toNat dBk).1).2.1,.int .i64 (wadd4 p (f.queue.getD i.toNat dBk).1).2.2.1,.int .i64 (wadd4 p (f.queue.getD i.toNat dBk).1).2.2.2])]))))) (.leaf (.done (.bool false))))))) (.leaf (.done (.bool true)))
theorem qr1(f:Fw)(p:V4)(i:Int):segR (Env.of Tryz.prog (sumOf [fNearR,fRest,fPlsR,fVldR])) 1000 (fnOf Tryz.prog 94) .unit (keepS 60 [1,3,4]) (loopOf Tryz.prog 94 0) qr1_p (slotsS 60 [(1,.ptr 0 0),(3,.ptr 1 0),(4,I64 i)]) [some (.cells f.cells),some (.cells p.cells)] =qr1_t f p i:=by kernel_rfl
theorem v4_ext{a b:V4}(h1:a.1=b.1)(h2:a.2.1=b.2.1)(h3:a.2.2.1=b.2.2.1)(h4:a.2.2.2=b.2.2.2):a=b:=Prod.ext h1 (Prod.ext h2 (Prod.ext h3 h4))
theorem rest_queue0{f:Fw}(h:movesB f=true):add4 f.pos (rest4 f)=queue0 f:=by
 cases hm:f.moving with
 |true=>
  rw[rest4_on hm]
  unfold queue0
  rw[begin4_on hm]
  exact v4_ext (by simp only[add4,sub4];omega) (by simp only[add4,sub4];omega) (by simp only[add4,sub4];omega) (by simp only[add4,sub4];omega)
 |false=>
  rw[rest4_off hm,queue0_off h hm,begin4_off hm]
  exact v4_ext (by simp only[add4,z4];omega) (by simp only[add4,z4];omega) (by simp only[add4,z4];omega) (by simp only[add4,z4];omega)
theorem rest_big{f:Fw}(h:movesB f=true):big4 (rest4 f)=true:=by
 have c:=near4_iff.1 (moves_cnt h)
 have m:=in4_iff.1 (madeM_rng f.mo)
 cases hm:f.moving with
 |true=>rw[rest4_on hm,big4_iff];simp only[sub4];omega
 |false=>rw[rest4_off hm];decide
def queueR(f:Fw):Bool:=decide (f.queue.length≤32)&& (decide (f.lines.length=f.queue.length)&& (near4 (queue0 f)&& (List.range f.queue.length).all fun i=>blkOK (queue0 f) f.queue f.lines i))
theorem queueR_iff{f:Fw}:queueR f=true↔f.queue.length≤32∧f.lines.length=f.queue.length∧near4 (queue0 f)=true∧∀i,i<f.queue.length→blkOK (queue0 f) f.queue f.lines i=true:=by
 simp only[queueR,Bool.and_eq_true,decide_eq_true_eq,List.all_eq_true,List.mem_range]
theorem fsQR:allOk Tryz.prog [fNearR,fRest,fPlsR,fVldR] :=⟨o_nearR,o_rest,o_plsR,o_vldR,trivial⟩
section
variable {f:Fw}
noncomputable abbrev RQR(f:Fw)(v:Bool)(p:V4)(i:Nat):Prop:=RunsR Tryz.prog (fnOf Tryz.prog 94) (.bool v) (loopOf Tryz.prog 94 0) (slotsS 60 [(1,.ptr 0 0),(3,.ptr 1 0),(4,I64 i)]) [some (.cells f.cells),some (.cells p.cells)]
theorem qr_loop(hl:f.lines.length=f.queue.length)(hlen:f.queue.length≤32){p:V4}{v:Bool}(hv:v=true↔∀i,i<f.queue.length→blkOK p f.queue f.lines i=true):∀ (k i:Nat),i+k=f.queue.length→near4 (posAt p f.queue i)=true→(∀t,t<i→blkOK p f.queue f.lines t=true)→RQR f v (posAt p f.queue i) i
 |0,i,hi,hn,hp=>by
  unfold RQR
  refine runsR_seg (kW fsQR) (n:=1000) (hint:=.unit) (keep:=keepS 60 [1,3,4]) (p:=qr1_p) rfl ?_
  erw [qr1 f (posAt p f.queue i) i]
  unfold qr1_t
  refine⟨fun c=>absurd (of_decide_eq_true c) (by omega),fun _=>?_⟩
  rw[hv.2 fun t ht=>hp t (by omega)]
  exact rfl
 |k+1,i,hi,hn,hp=>by
  have bad:¬blkOK p f.queue f.lines i=true→v=false:=fun c=>by
   cases v with
   |false=>rfl
   |true=>exact absurd (hv.1 rfl i (by omega)) c
  have nx:blkOK p f.queue f.lines i=true→RQR f v (posAt p f.queue (i+1)) (i+1):=fun ok=>qr_loop hl hlen hv k (i+1) (by omega) (blkOK_iff.1 ok).2.2 fun t ht=>by
   rcases Nat.lt_or_ge t i with c|c
   ·exact hp t c
   ·rw[show t=i by omega];exact ok
  have t0:(i:Int).toNat=i:=by omega
  have w1:i64.wrap ((i:Int)+1)=((i+1:Nat):Int):=by rw[w64 (by omega) (by omega)];omega
  have b1:=near_big hn
  have ps:validB (f.queue.getD i dBk)=true→wadd4 (posAt p f.queue i) (f.queue.getD i dBk).1=posAt p f.queue (i+1):=fun c=>wadd4_eq b1 (near_big (near4_iff.2 (okC_iff.1 (validB_iff.1 c).1.1).1))
  have dlt:decide ((i:Int)<f.queue.length)=true:=decide_eq_true (by omega)
  unfold RQR at nx ⊢
  refine runsR_seg (kW fsQR) (n:=1000) (hint:=.unit) (keep:=keepS 60 [1,3,4]) (p:=qr1_p) rfl ?_
  erw [qr1 f (posAt p f.queue i) i]
  unfold qr1_t
  have bi:=@blkOK_iff p f.queue f.lines i
  simp only[dlt,t0,w1,Tree.holds,Bool.and_eq_true,decide_eq_true_eq,decide_eq_false_iff_not,Bool.true_eq_false,false_implies,true_implies,true_and,and_true,not_false_eq_true,Bool.not_eq_true',Bool.not_eq_false']
  refine⟨by omega,fun c=>?_,fun c=>⟨by omega,fun d=>⟨fun g=>?_,fun g=>⟨by omega,fun n=>?_,fun n=>?_⟩⟩,fun d=>?_⟩⟩
  ·rw[bad fun o=>by rw[(bi.1 o).1]at c;cases c]
  ·rw[bad fun o=>by have:=(bi.1 o).2.1;omega]
  ·rw[ps c]at n;rw[bad fun o=>by rw[(bi.1 o).2.2]at n;cases n]
  ·rw[ps c]at n ⊢;exact⟨slotsS_len _ _,nx (bi.2 ⟨c,by omega,n⟩)⟩
  ·rw[bad fun o=>by have:=(bi.1 o).2.1;omega]
theorem s_queueR(f:Fw)(h:(movesB f&&near4 f.pos)=true):SCall Tryz.prog 94 [f.sv] (.bool (queueR f)):=by
 rw[Bool.and_eq_true]at h
 have qi:=@queueR_iff f
 refine scallR_loops rfl rfl (by kernel_rfl) (runsR_seg (kW fsQR) (n:=1000) (hint:=.unit) (keep:=keepS 60 [1,3,4]) (p:=qr0_p) (boxes:=[]) rfl ?_)
 have q:=qr0 f
 unfold startS codeS at q
 erw [q]
 unfold qr0_t
 have bad:∀{P:Prop},(queueR f=true→P)→¬P→queueR f=false:=fun {P} k n=>by
  cases hq:queueR f with
  |false=>rfl
  |true=>exact absurd (k hq) n
 have e:wadd4 f.pos (rest4 f)=queue0 f:=by rw[wadd4_eq (near_big h.2) (rest_big h.1),rest_queue0 h.1]
 rw[e]
 simp only[h.1,Tree.holds,Bool.and_eq_true,decide_eq_true_eq,decide_eq_false_iff_not,bne_iff_ne,bne_eq_false_iff_eq,ne_eq,Bool.not_eq_true',Bool.not_eq_false',true_and]
 refine⟨fun a=>?_,fun a=>⟨fun b=>?_,fun b=>⟨fun i=>?_,fun i=>⟨slotsS_len _ _,?_⟩⟩⟩⟩
 ·rw[bad (fun k=>(qi.1 k).1) (by omega)]
 ·rw[bad (fun k=>(qi.1 k).2.1) (by omega)]
 ·rw[bad (fun k=>(qi.1 k).2.2.1) (by rw[i];exact Bool.false_ne_true)]
 ·exact qr_loop (f:=f) (p:=queue0 f) (v:=queueR f) (by omega) (by omega) ⟨fun k=>(qi.1 k).2.2.2,fun k=>qi.2 ⟨by omega,by omega,i,k⟩⟩ f.queue.length 0 (by omega) i (fun t ht=>absurd ht (Nat.not_lt_zero _))
end
def fQueued:Fact:=factF1 89 fun f=>.req (movesB f) (.leaf (.bool (queuedB f)))
theorem o_queued:fQueued.ok Tryz.prog:=factF1_ok (fun f h=>s_queued f h)
def fMotn:Fact:=factF1 93 fun f=>.req (near4 f.pos) (.leaf (.bool (motB f)))
theorem o_motn:fMotn.ok Tryz.prog:=factF1_ok (fun f h=>s_motn f h)
def fQueueR:Fact:=factF1 94 fun f=>.req (movesB f&&near4 f.pos) (.leaf (.bool (queueR f)))
theorem o_queueR:fQueueR.ok Tryz.prog:=factF1_ok (fun f h=>s_queueR f h)
def parts4(c d:Co)(g h:Gu):Bool:=c.ok&& (d.ok&& (g.ok&&h.ok))
def fPartsR:Fact:=⟨68,fun args=>match args with
 |[.agg [.int .i64 a0,.int .i64 a1,.int .i64 a2,.int .i64 a3,.int .i64 a4,.int .i64 a5,.int .i64 a6,.int .i64 a7,.int .i64 a8,.int .i64 a9,.int .i64 a10,.int .i64 a11],.agg [.int .i64 g0,.int .i64 g1,.int .i64 g2,.int .i64 g3,.int .i64 g4,.int .i64 g5,.int .i64 g6,.int .i64 g7,.int .i64 g8,.int .i64 g9,.bool d,.int .i64 h0,.int .i64 h1,.int .i64 h2,.int .i64 h3,.int .i64 h4,.int .i64 h5,.int .i64 h6,.int .i64 h7,.int .i64 h8,.int .i64 h9,.bool u]] =>some (.leaf (.bool (parts4 ⟨a0,a1,a2,a3,a4,a5⟩ ⟨a6,a7,a8,a9,a10,a11⟩ ⟨g0,g1,g2,g3,g4,g5,g6,g7,g8,g9,d⟩ ⟨h0,h1,h2,h3,h4,h5,h6,h7,h8,h9,u⟩)))
 |_=>none⟩
def endB(f:Fw):Bool:=(!(f.mode==3)&&f.homed)||(!f.moving&&f.queue.isEmpty)
def validF(f:Fw):Bool:=partsB f&& (modNumB f&& (movesB f&& (queuedB f&&endB f)))
theorem validF_iff{f:Fw}:validF f=true↔partsB f=true∧modNumB f=true∧movesB f=true∧queuedB f=true∧endB f=true:=by simp only[validF,Bool.and_eq_true]
theorem endB_iff{f:Fw}:endB f=true↔(¬f.mode=3∧f.homed=true)∨(f.moving=false∧f.queue.length=0):=by
 simp only[endB,Bool.or_eq_true,Bool.and_eq_true,Bool.not_eq_true',beq_eq_false_iff_ne,ne_eq,List.isEmpty_iff,List.length_eq_zero_iff]
theorem queuedR_iff{f:Fw}:queuedB f=true↔near4 f.pos=true∧near4 f.ret=true∧near4 (begin4 f)=true∧queueR f=true:=by
 rw[queuedB_iff,queueR_iff]
 constructor
 ·rintro ⟨a,b,c,d,e,g,h⟩;exact⟨c,d,e,a,b,g,h⟩
 ·rintro ⟨c,d,e,a,b,g,h⟩;exact⟨a,b,c,d,e,g,h⟩
def idleB(f:Fw):Bool:=!f.moving&& (f.queue.isEmpty&&f.dwell==0)
theorem idleB_iff{f:Fw}:idleB f=true↔f.moving=false∧f.queue.length=0∧f.dwell=0:=by
 simp only[idleB,Bool.and_eq_true,Bool.not_eq_true',beq_iff_eq,List.isEmpty_iff,List.length_eq_zero_iff]
theorem o_partsR:fPartsR.ok Tryz.prog:=fun args t ht=>by
 simp only[fPartsR]at ht
 split at ht
 ·injection ht with ht;subst ht;exact s_partsR ⟨_,_,_,_,_,_⟩ ⟨_,_,_,_,_,_⟩ ⟨_,_,_,_,_,_,_,_,_,_,_⟩ ⟨_,_,_,_,_,_,_,_,_,_,_⟩
 ·cases ht
theorem s_valid(f:Fw):SCall Tryz.prog 31 [f.sv] (.bool (validF f)):=
 scall_v mix [fParts,fNums,fMoves,fQueued] ⟨o_parts,o_nums,o_moves,o_queued,trivial⟩ 1000 (.fork (.ln 11 (.lit .all)) (.ln 3 (.fork (.ln 7 (.lit .all)) (.ln 3 (.fork (.ln 3 (.lit .all)) (.ln 3 (.fork .all (.fork (.lit (.lit (.fork (.ln 4 (.lit .all)) (.ln 3 (.fork (.ln 5 (.lit .all)) (.ln 5 (.lit .all))))))) (.ln 6 (.fork (.ln 5 (.lit .all)) (.ln 5 (.lit .all))))))))))))
  (t:=.node (!partsB f) (.leaf (.bool false)) (.node (!modNumB f) (.leaf (.bool false)) (.node (!movesB f) (.leaf (.bool false)) (.req (movesB f) (.node (!queuedB f) (.leaf (.bool false)) (.node (f.mode != 3) (.node (f.homed) (.leaf (.bool true)) (.node (!f.moving) (.leaf (.bool ((↑f.queue.length:Int)==0))) (.leaf (.bool false)))) (.node (!f.moving) (.leaf (.bool ((↑f.queue.length:Int)==0))) (.leaf (.bool false)))))))))
  (by kernel_rfl) (by
   have vi:=validF_iff (f:=f)
   have ei:=endB_iff (f:=f)
   simp only[Tree.holds,sL,ne_eq,beq_iff_eq,bne_iff_ne,eq_self,beq_eq_false_iff_ne,bne_eq_false_iff_eq,implies_true];(repeat' (first|apply And.intro|intro _));
   all_goals first
    |assumption
    |(refine holds_bool ?_;rw[vi,ei];(try simp only[sL,ne_eq,beq_iff_eq,bne_iff_ne,eq_self,beq_eq_false_iff_ne,bne_eq_false_iff_eq,implies_true]);first|omega|grind)) (by kernel_rfl) (by kernel_rfl)
theorem s_validR(f:Fw):SCall Tryz.prog 32 [f.sv] (.bool (validF f)):=
 scall_v mix [fMaOkR,fPartsR,fNumsR,fNearR,fMotn,fQueueR] ⟨o_maOkR,o_partsR,o_numsR,o_nearR,o_motn,o_queueR,trivial⟩ 1000 (.fork (.ln 15 (.lit .all)) (.ln 6 (.fork (.ln 8 (.lit .all)) (.lit (.lit (.fork (.ln 5 (.fork (.ln 3 (.lit .all)) (.ln 3 (.fork .all (.fork (.ln 12 (.lit .all)) (.ln 4 (.fork (.ln 7 (.lit .all)) (.ln 3 (.fork (.ln 3 (.lit .all)) (.ln 3 (.fork .all (.fork (.ln 3 (.fork (.ln 4 (.lit .all)) (.ln 3 (.fork (.ln 5 (.lit .all)) (.ln 5 (.lit .all)))))) (.ln 7 (.fork (.ln 5 (.lit .all)) (.ln 5 (.lit .all)))))))))))))))) (.ln 9 (.lit .all))))))))
  (t:=.node (!f.ma.ok) (.leaf (.bool false)) (.node (!parts4 f.c0 f.c1 f.g0 f.g1) (.leaf (.bool false)) (.node (decide (f.mode≥1)) (.node (!decide (f.mode≤3)) (.leaf (.bool false)) (.node (!numsB f) (.leaf (.bool false)) (.node (!near4 f.pos) (.leaf (.bool false)) (.node (!near4 f.ret) (.leaf (.bool false)) (.req (near4 f.pos) (.node (!motB f) (.leaf (.bool false)) (.req (movesB f&&near4 f.pos) (.node (!queueR f) (.leaf (.bool false)) (.node (f.homed) (.node (f.mode != 3) (.leaf (.bool true)) (.node (!f.moving) (.leaf (.bool ((↑f.queue.length:Int)==0))) (.leaf (.bool false)))) (.node (!f.moving) (.leaf (.bool ((↑f.queue.length:Int)==0))) (.leaf (.bool false)))))))))))) (.leaf (.bool false)))))
  (by kernel_rfl) (by
   have vi:=validF_iff (f:=f)
   have ei:=endB_iff (f:=f)
   have pi:=partsB_iff (f:=f)
   have p4:parts4 f.c0 f.c1 f.g0 f.g1=true↔f.c0.ok=true∧f.c1.ok=true∧f.g0.ok=true∧f.g1.ok=true:=by simp only[parts4,Bool.and_eq_true]
   have mi:=modNumB_iff (f:=f)
   have mo:=motB_iff (f:=f)
   have qi:=queuedR_iff (f:=f)
   simp only[Tree.holds,sL,ne_eq,beq_iff_eq,bne_iff_ne,eq_self,beq_eq_false_iff_ne,bne_eq_false_iff_eq,implies_true];(repeat' (first|apply And.intro|intro _));
   all_goals first
    |assumption
    |(exact(mo.1 (by assumption)).1)
    |(refine holds_bool ?_;rw[vi,ei];(try simp only[sL,ne_eq,beq_iff_eq,bne_iff_ne,eq_self,beq_eq_false_iff_ne,bne_eq_false_iff_eq,implies_true]);first|omega|grind)) (by kernel_rfl) (by kernel_rfl)
def fValid:Fact:=factF1 31 fun f=>.leaf (.bool (validF f))
theorem o_valid:fValid.ok Tryz.prog:=factF1_ok (fun f=>s_valid f)
def fValidR:Fact:=factF1 32 fun f=>.leaf (.bool (validF f))
theorem o_validR:fValidR.ok Tryz.prog:=factF1_ok (fun f=>s_validR f)
theorem s_idle(f:Fw):SCall Tryz.prog 65 [f.sv] (.bool (idleB f)):=
 scall_v mix [] trivial 1000 (.fork (.ln 4 (.fork (.lit (.lit (.lit .all))) (.lit (.lit (.lit .all))))) (.ln 7 (.lit .all)))
  (t:=.node (!f.moving)
 (.node ((↑f.queue.length:Int)==0)
  (.leaf (SV.bool (f.dwell==0)))
  (.leaf (SV.bool false)))
 (.leaf (SV.bool false)))
   (by kernel_rfl) (by simp only[Tree.holds,sL,ne_eq,beq_iff_eq,bne_iff_ne,eq_self,beq_eq_false_iff_ne,bne_eq_false_iff_eq,implies_true];(repeat' (first|apply And.intro|intro _));all_goals(refine holds_bool ?_;rw[idleB_iff];(try simp only[sL,ne_eq,beq_iff_eq,bne_iff_ne,eq_self,beq_eq_false_iff_ne,bne_eq_false_iff_eq,implies_true]); first|omega|grind)) (by kernel_rfl) (by kernel_rfl)
def fIdle:Fact:=factF1 65 fun f=>.leaf (.bool (idleB f))
theorem o_idle:fIdle.ok Tryz.prog:=factF1_ok (fun f=>s_idle f)
def IdleB(f:Fw):Bool:=validF f&&idleB f
theorem IdleB_iff{f:Fw}:IdleB f=true↔validF f=true∧idleB f=true:=by simp only[IdleB,Bool.and_eq_true]
theorem s_Idle(f:Fw):SCall Tryz.prog 20 [f.sv] (.bool (IdleB f)):=
 scall_v mix [fValid,fIdle] ⟨o_valid,o_idle,trivial⟩ 1000 (.fork (.lit (.lit (.all))) (.lit (.lit (.all))))
  (t:=.node (validF f)
 (.leaf (SV.bool (idleB f)))
 (.leaf (SV.bool false)))
   (by kernel_rfl) (by simp only[Tree.holds,sL,ne_eq,beq_iff_eq,bne_iff_ne,eq_self,beq_eq_false_iff_ne,bne_eq_false_iff_eq,implies_true];(repeat' (first|apply And.intro|intro _));all_goals(refine holds_bool ?_;rw[IdleB_iff];(try simp only[sL,ne_eq,beq_iff_eq,bne_iff_ne,eq_self,beq_eq_false_iff_ne,bne_eq_false_iff_eq,implies_true]); first|omega|grind)) (by kernel_rfl) (by kernel_rfl)
def fIdleX:Fact:=factF1 20 fun f=>.leaf (.bool (IdleB f))
theorem o_idleX:fIdleX.ok Tryz.prog:=factF1_ok (fun f=>s_Idle f)
theorem scall_val{P:Program}{f:FuncId}{args:List SV}{v v':SV}(h:SCall P f args v)(hv:∀ (R:Nat→Prop) (ρ:Rho) (n:Nat) (w:World) (u:Value),Rep R ρ n w v u→Rep R ρ n w v' u):SCall P f args v':=by
 intro m w0 R0 ρ w vs hm hvs
 refine OpPost.mono (fun u w' hu=>?_) (h m w0 R0 ρ w vs hm hvs)
 obtain⟨ρ',g1,g2,g3⟩:=hu
 exact⟨ρ',g1,g2,hv _ _ _ _ _ g3⟩
theorem nil_tuple{cs ds rest:List SV}(hn:NilLs cs ds)(R:Nat→Prop)(ρ:Rho)(n:Nat)(w:World)(u:Value)(h:Rep R ρ n w (.tuple (.agg cs::rest)) u):Rep R ρ n w (.tuple (.agg ds::rest)) u:=by
 obtain⟨vs,h1,x,xs,h2,⟨ws,h3,h4⟩,h5⟩:=h
 exact⟨vs,h1,x,xs,h2,⟨ws,h3,hn.rep h4⟩,h5⟩
def newOk(m:Ma)(c d:Co)(g h:Gu)(cold:Int):Bool:=m.ok&& (c.ok&& (d.ok&& (g.ok&& (h.ok&& (inR cold 0 400000&& (inR g.fault 0 0&&inR h.fault 0 0))))))
theorem newOk_iff{m:Ma}{c d:Co}{g h:Gu}{cold:Int}:newOk m c d g h cold=true↔m.ok=true∧c.ok=true∧d.ok=true∧g.ok=true∧h.ok=true∧(0≤cold∧cold≤400000)∧g.fault=0∧h.fault=0:=by
 have z:∀n:Int,inR n 0 0=true↔n=0:=fun n=>by rw[inR_iff];omega
 simp only[newOk,Bool.and_eq_true,inR_iff,z]
def a0:Ax:=⟨0,0,0,0,0,0,0⟩
def ma0:Ma:=⟨a0,a0,a0,a0,false,0⟩
def fw0:Fw:=⟨ma0,0,false,z4,(0,0,0),0,0,[],[],m0,false,0,false,z4,0,0,Co.zero,Co.zero,Gu.zero,Gu.zero,0,0,0,0,0,0⟩
def newF(m:Ma)(c d:Co)(g h:Gu)(cold:Int):Fw:={fw0 with ma:=m,mode:=1,c0:=c,c1:=d,g0:=g,g1:=h,cold:=cold}
def nilC(f:Fw):List SV:=f.cells.take 41++(.nilS::.nilS::f.cells.drop 43)
def newS(m:Ma)(c d:Co)(g h:Gu)(cold:Int):SV:=match newOk m c d g h cold with
 |true=>.tuple [.agg (nilC (newF m c d g h cold)),I64 0]
 |false=>.tuple [.agg (nilC fw0),I64 1]
theorem newS_yes{m:Ma}{c d:Co}{g h:Gu}{cold:Int}(k:newOk m c d g h cold=true):newS m c d g h cold=.tuple [.agg (nilC (newF m c d g h cold)),I64 0] :=by unfold newS;rw[k]
theorem newS_no{m:Ma}{c d:Co}{g h:Gu}{cold:Int}(k:newOk m c d g h cold=false):newS m c d g h cold=.tuple [.agg (nilC fw0),I64 1] :=by unfold newS;rw[k]
theorem s_new(m:Ma)(c d:Co)(g h:Gu)(cold:Int):SCall Tryz.prog 61 [m.sv,.agg (c.cells++d.cells),.agg (g.cells++h.cells),I64 cold] (newS m c d g h cold):=
 scall_v mix [fParts] ⟨o_parts,trivial⟩ 1000 (.fork (.ln 13 (.lit .all)) (.lit (.fork (.ln 5 (.fork (.ln 9 (.lit .all)) (.ln 4 (.fork (.ln 4 (.lit .all)) (.ln 4 (.fork .all .all)))))) (.ln 15 (.lit .all)))))
  (t:=.node (!partsB (Fw.mk m 1 false (0,0,0,0) (0,0,0) 0 0 [] [] (((0,0,0,0),0,0,0,0),0,0) false 0 false (0,0,0,0) 0 0 c d g h 0 0 0 cold 0 0)) (.leaf (.tuple [.agg (nilC fw0),.int .i64 1])) (.node (decide (cold≥0)) (.node (!decide (cold≤400000)) (.leaf (.tuple [.agg (nilC fw0),.int .i64 1])) (.req true (.node (g.fault != 0) (.leaf (.tuple [.agg (nilC fw0),.int .i64 1])) (.req true (.node (h.fault != 0) (.leaf (.tuple [.agg (nilC fw0),.int .i64 1])) (.leaf (.tuple [.agg [.int .i64 m.x.num,.int .i64 m.x.den,.int .i64 m.x.speed,.int .i64 m.x.accel,.int .i64 m.x.jerk,.int .i64 m.x.min,.int .i64 m.x.max,.int .i64 m.y.num,.int .i64 m.y.den,.int .i64 m.y.speed,.int .i64 m.y.accel,.int .i64 m.y.jerk,.int .i64 m.y.min,.int .i64 m.y.max,.int .i64 m.z.num,.int .i64 m.z.den,.int .i64 m.z.speed,.int .i64 m.z.accel,.int .i64 m.z.jerk,.int .i64 m.z.min,.int .i64 m.z.max,.int .i64 m.e.num,.int .i64 m.e.den,.int .i64 m.e.speed,.int .i64 m.e.accel,.int .i64 m.e.jerk,.int .i64 m.e.min,.int .i64 m.e.max,.bool m.xy,.int .i64 m.ticks,.int .i64 1,.bool false,.int .i64 0,.int .i64 0,.int .i64 0,.int .i64 0,.int .i64 0,.int .i64 0,.int .i64 0,.int .i64 0,.int .i64 0,SV.nilS,SV.nilS,.int .i64 0,.int .i64 0,.int .i64 0,.int .i64 0,.int .i64 0,.int .i64 0,.int .i64 0,.int .i64 0,.int .i64 0,.int .i64 0,.bool false,.int .i64 0,.bool false,.int .i64 0,.int .i64 0,.int .i64 0,.int .i64 0,.int .i64 0,.int .i64 0,.int .i64 c.target,.int .i64 c.kp,.int .i64 c.ki,.int .i64 c.scale,.int .i64 c.sum,.int .i64 c.limit,.int .i64 d.target,.int .i64 d.kp,.int .i64 d.ki,.int .i64 d.scale,.int .i64 d.sum,.int .i64 d.limit,.int .i64 g.low,.int .i64 g.high,.int .i64 g.watch,.int .i64 g.rise,.int .i64 g.band,.int .i64 g.base,.int .i64 g.count,.int .i64 g.idle,.int .i64 g.quiet,.int .i64 g.fault,.bool g.door,.int .i64 h.low,.int .i64 h.high,.int .i64 h.watch,.int .i64 h.rise,.int .i64 h.band,.int .i64 h.base,.int .i64 h.count,.int .i64 h.idle,.int .i64 h.quiet,.int .i64 h.fault,.bool h.door,.int .i64 0,.int .i64 0,.int .i64 0,.int .i64 cold,.int .i64 0,.int .i64 0],.int .i64 0]))))))) (.leaf (.tuple [.agg (nilC fw0),.int .i64 1]))))
  (by kernel_rfl) (by
   simp only[partsB,parts4]
   simp only[Tree.holds,sL,ne_eq,beq_iff_eq,bne_iff_ne,eq_self,beq_eq_false_iff_ne,bne_eq_false_iff_eq,implies_true];(repeat' (first|apply And.intro|intro _));
   all_goals first|(rw[newS_no (Bool.eq_false_iff.2 (by rw[ne_eq,newOk_iff];grind))];rfl)|(rw[newS_yes (newOk_iff.2 (by grind))];rfl)) (by kernel_rfl) (by unfold newS;split<;>rfl)
def allQ.{u}{β:Type u}(p:β→Prop):List β→Prop
 |[] =>True
 |x::l=>p x∧allQ p l
theorem allQ.all.{u}{β:Type u}{p:β→Prop}:∀{l:List β},allQ p l→∀x∈l,p x
 |[],_=>fun x hx=>by cases hx
 |y::l,h=>fun x hx=>by
  cases hx with
  |head=>exact h.1
  |tail _ hx=>exact h.2.all x hx
theorem MRel.weak{w0:World}{R0:RSet}{ρ:Rho}{w:World}{m m2:Mem}{id:Nat}{cs cs2:List SV}(h:MRel w0 R0 ρ w m)(hB:m.get id=some (.cells cs))(hn:NilLs cs cs2)(h2:MSet m id (some (.cells cs2)) m2):MRel w0 R0 ρ w m2∧MExt w0 R0 ρ w m ρ w m2:=by
 have hg:∀k B,m2.get k=some B→∃C,m.get k=some C∧(solid (ρ k) B→solid (ρ k) C):=fun k B hk=>by
  rw[h2.1 k]at hk
  split at hk
  ·rename_i hki;subst hki;exact⟨_,hB,fun _=>trivial⟩
  ·exact⟨B,hk,fun x=>x⟩
 have hro:∀b,RO w0 R0 ρ w m b→RO w0 R0 ρ w m2 b:=fun b hb=>by
  rcases hb with hb|⟨k1,k2,k3,k4⟩
  ·exact .inl hb
  ·exact .inr ⟨k1,k2,fun k B hk hs=>by
    obtain⟨C,hC,hs'⟩:=hg k B hk
    exact k3 k C hC (hs' hs),k4⟩
 have e:MExt w0 R0 ρ w m ρ w m2:=⟨by rw[h2.2];exact Nat.le_refl _,fun _ _=>rfl,fun b hb=>⟨hro b hb,rfl⟩⟩
 refine⟨⟨h.below,fun k B hk=>?_,fun k B hk hs=>?_,fun k B hk hs=>?_,fun k k' B B' hk hk' hs hs' heq=>?_,fun k B hk=>?_,h.hid.1,fun k B hk hs=>?_⟩,e⟩
 ·obtain⟨C,hC,_⟩:=hg k B hk;rw[h2.2];exact h.lt k C hC
 ·obtain⟨C,hC,hs'⟩:=hg k B hk;exact h.lo k C hC (hs' hs)
 ·obtain⟨C,hC,hs'⟩:=hg k B hk;exact h.hi k C hC (hs' hs)
 ·obtain⟨C,hC,c1⟩:=hg k B hk
  obtain⟨C',hC',c2⟩:=hg k' B' hk'
  exact h.inj k k' C C' hC hC' (c1 hs) (c2 hs') heq
 ·rw[h2.1 k]at hk
  split at hk
  ·rename_i hki
   subst hki
   injection hk with hk;subst hk
   obtain⟨arr,el,fr,k1,k2,k3⟩:=h.box k _ hB
   exact⟨arr,el,fr,k1,k2,hn.rep (RepL.mono e _ _ k3)⟩
  ·exact BoxRel.mono e _ (fun _=>rfl) (h.box k B hk)
 ·obtain⟨C,hC,hs'⟩:=hg k B hk;exact h.hid.2 k C hC (hs' hs)
theorem mem_put{w0:World}{R0:RSet}{ρ:Rho}{w:World}{m:Mem}(h:MRel w0 R0 ρ w m){id:Nat}{B C:Box}(hB:m.get id=some B):∃m2,MSet m id (some C) m2:=by
 obtain⟨m2,hn,hg⟩:=memOf m.next ((List.range m.next).map fun k=>if k=id then some C else m.get k)
 refine⟨m2,fun k=>?_,hn⟩
 rw[hg k,List.getElem?_map]
 by_cases hk:k<m.next
 ·rw[List.getElem?_range hk];rfl
 ·have hki:¬k=id:=fun e=>by subst e;exact hk (h.lt k B hB)
  rw[List.getElem?_eq_none (by simpa using hk),if_neg hki]
  cases hx:m.get k with
  |none=>rfl
  |some D=>exact absurd (h.lt k D hx) hk
theorem bcall_in{P:Program}{f:FuncId}{args cs x:List SV}{v:SV}{C:Box}(hn:NilLs cs x)(h:BCall P f args (.cells x) (false,v,C)):BCall P f args (.cells cs) (false,v,C):=by
 intro m m' id hB hm' w0 R0 ρ w vs hm hvs
 obtain⟨m2,h2⟩:=mem_put (C:=.cells x) hm hB
 obtain⟨a,e⟩:=MRel.weak hm hB hn h2
 have hm2:MSet m2 id (some C) m':=⟨fun k=>by rw[hm'.1 k,h2.1 k];split<;>rfl,hm'.2.trans h2.2.symm⟩
 refine OpPost.mono (fun u w' hu=>?_) (h m2 m' id (by rw[h2.1,if_pos rfl]) hm2 w0 R0 ρ w vs a (RepL.mono e _ _ hvs))
 obtain⟨ρ',g1,g2,g3⟩:=hu
 exact⟨ρ',g1,e.trans g2,g3⟩
theorem bcall_out{P:Program}{f:FuncId}{args cs x:List SV}{v:SV}{B:Box}(hn:NilLs cs x)(h:BCall P f args B (false,v,.cells cs)):BCall P f args B (false,v,.cells x):=by
 intro m m' id hB hm' w0 R0 ρ w vs hm hvs
 obtain⟨m1,h1⟩:=mem_put (C:=.cells cs) hm hB
 refine OpPost.mono (fun u w' hu=>?_) (h m m1 id hB h1 w0 R0 ρ w vs hm hvs)
 obtain⟨ρ',g1,g2,g3⟩:=hu
 obtain⟨a,e⟩:=MRel.weak g1 (by rw[h1.1,if_pos rfl]) hn (m2:=m') ⟨fun k=>by rw[hm'.1 k,h1.1 k];split<;>rfl,hm'.2.trans h1.2.symm⟩
 exact⟨ρ',a,g2.trans e,Rep.mono e _ _ g3⟩
def FCall(P:Program)(f:FuncId)(rest:List SV)(x:Fw)(r:SV×Fw):Prop:=BCall P f rest (.cells x.cells) (false,r.1,.cells r.2.cells)
inductive endsAt (v:SV) (y:Fw):StopX→Prop where
 |mk (cs:List SV) (hn:NilLs cs y.cells) (hd:dataL cs=true):endsAt v y (.fin (.ret v [some (.cells cs)]))
theorem ends{v u:SV}{y:Fw}{cs:List SV}(h:u=v)(hn:NilLs cs y.cells)(hd:dataL cs=true):endsAt v y (.fin (.ret u [some (.cells cs)])):=by subst h;exact .mk cs hn hd
theorem fw_data(f:Fw):dataL f.cells=true:=rfl
theorem fcall_runs{P:Program}{f:FuncId}{rest cs:List SV}{x y:Fw}{v:SV}(hf:fnOk P f (.ptr 0 0::rest)=true)(hd:dataL rest=true)(hv:v.data=true)(hc:dataL cs=true)(hn:NilLs cs y.cells)(h:RunsX P (fnOf P f) [] 1 (.ret v [some (.cells cs)]) (codeS P f) (startS P f (.ptr 0 0::rest)) [some (.cells x.cells)]):FCall P f rest x (v,y):=
 bcall_out hn (bcall_one hf h rfl hd (fw_data x) hc hv)
theorem endsAt_one{v:SV}{y:Fw}:∀t:Tree StopX,t.holds (endsAt v y)→∃cs,NilLs cs y.cells∧dataL cs=true∧t.holds fun o=>match o with
   |.fin r'=>r'=.ret v [some (.cells cs)]
   |.at items' size slots' boxes'=>slots'.length=size∧False
 |.leaf o,h=>by
  have h:endsAt v y o:=h
  cases h with
  |mk cs hn hd=>exact⟨cs,hn,hd,rfl⟩
 |.node b t f,h=>by
  cases b with
  |true=>
   obtain⟨cs,h1,h2,h3⟩:=endsAt_one t (h.1 rfl)
   exact⟨cs,h1,h2,fun _=>h3,fun hb=>by cases hb⟩
  |false=>
   obtain⟨cs,h1,h2,h3⟩:=endsAt_one f (h.2 rfl)
   exact⟨cs,h1,h2,fun hb=>(by cases hb),fun _=>h3⟩
 |.req b t,h=>by
  obtain⟨cs,h1,h2,h3⟩:=endsAt_one t h.2
  exact⟨cs,h1,h2,h.1,h3⟩
 |.fail _,h=>h.elim
theorem fcall_v{P:Program}{E:Env}(hK:Known P E)(n:Nat)(p:Plan){keep:List Item→List Bool}{f:FuncId}{rest:List SV}{x y:Fw}{v:SV}{t:Tree StopX}(ht:segX E n (fnOf P f) 1 keep (codeS P f) p (startS P f (.ptr 0 0::rest)) [some (.cells x.cells)] =t)(h:t.holds (endsAt v y))(hf:fnOk P f (.ptr 0 0::rest)=true)(hd:dataL rest=true)(hv:v.data=true):FCall P f rest x (v,y):=by
 obtain⟨cs,h1,h2,h3⟩:=endsAt_one t h
 refine fcall_runs (cs:=cs) hf hd hv h2 h1 (runsX_seg hK (n:=n) (keep:=keep) (p:=p) (Nat.le_refl _) ?_)
 rw[ht]
 exact Tree.holds_mono (fun o ho=>by
  cases o with
  |fin r=>exact ho
  |«at» i s l b=>exact ho.2.elim) t h3
def okT:Tree (SV×Fw)→Tree (Bool×SV×Box)
 |.leaf x=>.leaf (false,x.1,.cells x.2.cells)
 |.node b t f=>.node b (okT t) (okT f)
 |.req b t=>.req b (okT t)
 |.fail n=>.fail n
def bfact(f:FuncId)(h:Fw→List SV→Option (Tree (SV×Fw))):BFact:=⟨f,fun args B=>match B with
 |.cells cs=>match asFw cs with
  |some x=>match h x args with
   |some t=>some (okT t)
   |none=>none
  |none=>none
 |_=>none⟩
theorem okT_says{P:Program}{f:FuncId}{args cs:List SV}{x:Fw}(hn:NilLs cs x.cells):∀t:Tree (SV×Fw),t.says (FCall P f args x)→(okT t).says (BCall P f args (.cells cs))
 |.leaf _,k=>bcall_in hn k
 |.node _ t u,k=>⟨fun hb=>okT_says hn t (k.1 hb),fun hb=>okT_says hn u (k.2 hb)⟩
 |.req _ t,k=>fun hb=>okT_says hn t (k hb)
 |.fail _,_=>trivial
theorem bfact_ok{P:Program}{f:FuncId}{h:Fw→List SV→Option (Tree (SV×Fw))}(k:∀x rest t,h x rest=some t→t.says (FCall P f rest x)):(bfact f h).ok P:=fun args B t ht=>by
 simp only[bfact]at ht
 split at ht
 ·split at ht
  ·rename_i hx
   split at ht
   ·rename_i t' ht'
    injection ht with ht;subst ht
    exact okT_says (asFw_nil hx) t' (k _ _ _ ht')
   ·cases ht
  ·cases ht
 ·cases ht
def cloBn_p:Plan:=.lit (.all)
noncomputable def cloBn_t(cap:Nat):Tree Stop:= .req (true) (.leaf (.done (.list tyBk [])))
theorem cloBn(cap:Nat):segR (Env.of Tryz.prog (sumOf [])) 1000 (fnOf Tryz.prog 175) tyBk (keepS 8 []) (codeS Tryz.prog 175) cloBn_p (startS Tryz.prog 175 [.raw (.slice none 0 cap)]) [] =cloBn_t cap:=by kernel_rfl
def cloBs_p:Plan:=.lit (.lit (.all))
noncomputable def cloBs_t(a:Addr)(cap:Nat):Tree Stop:= .req (true) (.leaf (.done (.list tyBk [])))
theorem cloBs(a:Addr)(cap:Nat):segR (Env.of Tryz.prog (sumOf [])) 1000 (fnOf Tryz.prog 175) tyBk (keepS 8 []) (codeS Tryz.prog 175) cloBs_p (startS Tryz.prog 175 [.raw (.slice (some a) 0 cap)]) [] =cloBs_t a cap:=by kernel_rfl
def cloBc_p:Plan:=.lit (.lit (.all))
noncomputable def cloBc_t(b:Ty.T tyBk)(l:List (Ty.T tyBk)):Tree Stop:= .req (!(b::l).isEmpty) (.req (decide ((0+(b::l).length)*64≤140737488355328)) (.leaf (.done (.list tyBk (b::l)))))
theorem cloBc(b:Ty.T tyBk)(l:List (Ty.T tyBk)):segR (Env.of Tryz.prog (sumOf [])) 1000 (fnOf Tryz.prog 175) tyBk (keepS 8 []) (codeS Tryz.prog 175) cloBc_p (startS Tryz.prog 175 [.list tyBk (b::l)]) [] =cloBc_t b l:=by kernel_rfl
def cloIn_p:Plan:=.lit (.all)
noncomputable def cloIn_t(cap:Nat):Tree Stop:= .req (true) (.leaf (.done (.list (Ty.int IntKind.i64) [])))
theorem cloIn(cap:Nat):segR (Env.of Tryz.prog (sumOf [])) 1000 (fnOf Tryz.prog 176) (.int .i64) (keepS 8 []) (codeS Tryz.prog 176) cloIn_p (startS Tryz.prog 176 [.raw (.slice none 0 cap)]) [] =cloIn_t cap:=by kernel_rfl
def cloIs_p:Plan:=.lit (.lit (.all))
noncomputable def cloIs_t(a:Addr)(cap:Nat):Tree Stop:= .req (true) (.leaf (.done (.list (Ty.int IntKind.i64) [])))
theorem cloIs(a:Addr)(cap:Nat):segR (Env.of Tryz.prog (sumOf [])) 1000 (fnOf Tryz.prog 176) (.int .i64) (keepS 8 []) (codeS Tryz.prog 176) cloIs_p (startS Tryz.prog 176 [.raw (.slice (some a) 0 cap)]) [] =cloIs_t a cap:=by kernel_rfl
def cloIc_p:Plan:=.lit (.lit (.all))
noncomputable def cloIc_t(b:Ty.T (.int .i64))(l:List (Ty.T (.int .i64))):Tree Stop:= .req (!(b::l).isEmpty) (.req (decide ((0+(b::l).length)*8≤140737488355328)) (.leaf (.done (.list (Ty.int IntKind.i64) (b::l)))))
theorem cloIc(b:Ty.T (.int .i64))(l:List (Ty.T (.int .i64))):segR (Env.of Tryz.prog (sumOf [])) 1000 (fnOf Tryz.prog 176) (.int .i64) (keepS 8 []) (codeS Tryz.prog 176) cloIc_p (startS Tryz.prog 176 [.list (.int .i64) (b::l)]) [] =cloIc_t b l:=by kernel_rfl
end Go.Proofs.YtnkaepnblikcdaaGreat
namespace Go.Sx
open Go.RowKit
section
variable {w0:World} {R0:RSet} {ρ:Rho} {w:World} {m mc m':Mem} {ρc:Rho} {w':World}
end
end Go.Sx
namespace Go.Proofs.YtnkaepnblikcdaaGreat
open Go.Sx
theorem clone_of{P:Program}{f:FuncId}{t:Ty}(hn:∀cap,SCall P f [.raw (.slice none 0 cap)] (.list t []))(hs:∀a cap,SCall P f [.raw (.slice (some a) 0 cap)] (.list t []))(l:List t.T)
  (hc:∀b r,l=b::r→SCall P f [.list t (b::r)] (.list t (b::r))):SCall P f [.list t l] (.list t l):=by
 cases l with
 |cons b r=>exact hc b r rfl
 |nil=>
  intro m w0 R0 ρ w vs hm hvs
  obtain⟨u,us,rfl,h1,h2⟩:=hvs
  rw[show us=[]from h2]
  obtain⟨a,cap,hxv,_,_⟩:=h1
  injection hxv with hxv
  subst hxv
  cases a with
  |none=>exact hn cap m w0 R0 ρ w [_] hm ⟨_,[],rfl,rfl,rfl⟩
  |some a=>exact hs a cap m w0 R0 ρ w [_] hm ⟨_,[],rfl,rfl,rfl⟩
theorem nil_list{P:Program}{f:FuncId}{t:Ty}{v:SV}(h:SCall P f [.list t []] v):SCall P f [.nilS] v:=by
 intro m w0 R0 ρ w vs hm hvs
 obtain⟨u,us,rfl,h1,h2⟩:=hvs
 refine h m w0 R0 ρ w _ hm ⟨u,us,rfl,?_,h2⟩
 exact⟨none,0,by rw[show u=_ from h1];rfl,Nat.le_refl _,fun h=>absurd h (Nat.lt_irrefl _)⟩
def few2(n:Nat):Bool:=decide ((n:Int)≤100000)
theorem few2_iff{n:Nat}:few2 n=true↔n≤100000:=by simp only[few2,decide_eq_true_eq];omega
theorem s_cloB(l:List Bk)(h:few2 l.length=true):SCall Tryz.prog 175 [LB l] (LB l):=by
 have h:=few2_iff.1 h
 refine clone_of (t:=tyBk) (fun cap=>?_) (fun a cap=>?_) l (fun b r hl=>?_)
 ·refine scallR_loops rfl rfl (by kernel_rfl) (runsR_seg k0 (n:=1000) (hint:=tyBk) (keep:=keepS 8 []) (p:=cloBn_p) (boxes:=[]) rfl ?_)
  have e:=cloBn cap
  unfold startS codeS at e
  erw [e]
  exact⟨rfl,rfl⟩
 ·refine scallR_loops rfl rfl (by kernel_rfl) (runsR_seg k0 (n:=1000) (hint:=tyBk) (keep:=keepS 8 []) (p:=cloBs_p) (boxes:=[]) rfl ?_)
  have e:=cloBs a cap
  unfold startS codeS at e
  erw [e]
  exact⟨rfl,rfl⟩
 ·subst hl
  refine scallR_loops rfl rfl (by kernel_rfl) (runsR_seg k0 (n:=1000) (hint:=tyBk) (keep:=keepS 8 []) (p:=cloBc_p) (boxes:=[]) rfl ?_)
  have e:=cloBc b r
  unfold startS codeS at e
  erw [e]
  refine⟨rfl,?_,rfl⟩
  rw[decide_eq_true_eq]
  have h:(List.length (α:=Ty.T tyBk) (b::r):Nat)≤100000:=h
  omega
theorem s_cloI(l:List Int)(h:few2 l.length=true):SCall Tryz.prog 176 [LI l] (LI l):=by
 have h:=few2_iff.1 h
 refine clone_of (t:=.int .i64) (fun cap=>?_) (fun a cap=>?_) l (fun b r hl=>?_)
 ·refine scallR_loops rfl rfl (by kernel_rfl) (runsR_seg k0 (n:=1000) (hint:=.int .i64) (keep:=keepS 8 []) (p:=cloIn_p) (boxes:=[]) rfl ?_)
  have e:=cloIn cap
  unfold startS codeS at e
  erw [e]
  exact⟨rfl,rfl⟩
 ·refine scallR_loops rfl rfl (by kernel_rfl) (runsR_seg k0 (n:=1000) (hint:=.int .i64) (keep:=keepS 8 []) (p:=cloIs_p) (boxes:=[]) rfl ?_)
  have e:=cloIs a cap
  unfold startS codeS at e
  erw [e]
  exact⟨rfl,rfl⟩
 ·subst hl
  refine scallR_loops rfl rfl (by kernel_rfl) (runsR_seg k0 (n:=1000) (hint:=.int .i64) (keep:=keepS 8 []) (p:=cloIc_p) (boxes:=[]) rfl ?_)
  have e:=cloIc b r
  unfold startS codeS at e
  erw [e]
  refine⟨rfl,?_,rfl⟩
  rw[decide_eq_true_eq]
  have h:(List.length (α:=Ty.T (.int .i64)) (b::r):Nat)≤100000:=h
  omega
def fCloB:Fact:=⟨175,fun args=>match args with
 |[.list (.pair (.pair (.int .i64) (.pair (.int .i64) (.pair (.int .i64) (.int .i64)))) (.pair (.int .i64) (.pair (.int .i64) (.pair (.int .i64) (.int .i64))))) l] =>some (.req (few2 (List.length l)) (.leaf (LB l)))
 |[.nilS] =>some (.leaf (LB []))
 |_=>none⟩
def fCloI:Fact:=⟨176,fun args=>match args with
 |[.list (.int .i64) l] =>some (.req (few2 (List.length l)) (.leaf (LI l)))
 |[.nilS] =>some (.leaf (LI []))
 |_=>none⟩
theorem o_cloB:fCloB.ok Tryz.prog:=fun args t ht=>by
 simp only[fCloB]at ht
 split at ht
 ·injection ht with ht;subst ht;exact s_cloB _
 ·injection ht with ht;subst ht
  exact nil_list (t:=tyBk) (s_cloB [] rfl)
 ·cases ht
theorem o_cloI:fCloI.ok Tryz.prog:=fun args t ht=>by
 simp only[fCloI]at ht
 split at ht
 ·injection ht with ht;subst ht;exact s_cloI _
 ·injection ht with ht;subst ht
  exact nil_list (t:=.int .i64) (s_cloI [] rfl)
 ·cases ht
def len8:List UInt8:=[0,1,2,2,3,3,3,3,4,4,4,4,4,4,4,4,5,5,5,5,5,5,5,5,5,5,5,5,5,5,5,5,6,6,6,6,6,6,6,6,6,6,6,6,6,6,6,6,6,6,6,6,6,6,6,6,6,6,6,6,6,6,6,6,7,7,7,7,7,7,7,7,7,7,7,7,7,7,7,7,7,7,7,7,7,7,7,7,7,7,7,7,7,7,7,7,7,7,7,7,7,7,7,7,7,7,7,7,7,7,7,7,7,7,7,7,7,7,7,7,7,7,7,7,7,7,7,7,8,8,8,8,8,8,8,8,8,8,8,8,8,8,8,8,8,8,8,8,8,8,8,8,8,8,8,8,8,8,8,8,8,8,8,8,8,8,8,8,8,8,8,8,8,8,8,8,8,8,8,8,8,8,8,8,8,8,8,8,8,8,8,8,8,8,8,8,8,8,8,8,8,8,8,8,8,8,8,8,8,8,8,8,8,8,8,8,8,8,8,8,8,8,8,8,8,8,8,8,8,8,8,8,8,8,8,8,8,8,8,8,8,8,8,8,8,8,8,8,8,8,8,8,8,8,8,8]
def U64(n:Int):SV:=.int .u64 n
def lenB(x:Int):Int:=(len8.getD x.toNat 0).toNat
def lenV(x:Int):Int:=
 if x≥4294967296 then
  if x / 4294967296≥65536 then
   if x / 4294967296 / 65536≥256 then 56+lenB (x / 4294967296 / 65536 / 256)else 48+lenB (x / 4294967296 / 65536)
  else if x / 4294967296≥256 then 40+lenB (x / 4294967296 / 256)else 32+lenB (x / 4294967296)
 else if x≥65536 then
  if x / 65536≥256 then 24+lenB (x / 65536 / 256)else 16+lenB (x / 65536)
 else if x≥256 then 8+lenB (x / 256)else lenB x
def okU(x:Int):Bool:=inR x 0 18446744073709551615
def factU(f:FuncId)(h:Int→Tree SV):Fact:=⟨f,fun args=>match args with
 |[.int .u64 a] =>some (h a)
 |_=>none⟩
theorem factU_ok{P:Program}{f:FuncId}{h:Int→Tree SV}(k:∀a,(h a).says (SCall P f [U64 a])):(factU f h).ok P:=fun args t ht=>by
 simp only[factU]at ht
 split at ht
 ·injection ht with ht;subst ht;exact k _
 ·cases ht
def factUU(f:FuncId)(h:Int→Int→Tree SV):Fact:=⟨f,fun args=>match args with
 |[.int .u64 a,.int .u64 b] =>some (h a b)
 |_=>none⟩
theorem factUU_ok{P:Program}{f:FuncId}{h:Int→Int→Tree SV}(k:∀a b,(h a b).says (SCall P f [U64 a,U64 b])):(factUU f h).ok P:=fun args t ht=>by
 simp only[factUU]at ht
 split at ht
 ·injection ht with ht;subst ht;exact k _ _
 ·cases ht
def factUUU(f:FuncId)(h:Int→Int→Int→Tree SV):Fact:=⟨f,fun args=>match args with
 |[.int .u64 a,.int .u64 b,.int .u64 c] =>some (h a b c)
 |_=>none⟩
theorem factUUU_ok{P:Program}{f:FuncId}{h:Int→Int→Int→Tree SV}(k:∀a b c,(h a b c).says (SCall P f [U64 a,U64 b,U64 c])):(factUUU f h).ok P:=fun args t ht=>by
 simp only[factUUU]at ht
 split at ht
 ·injection ht with ht;subst ht;exact k _ _ _
 ·cases ht
theorem len8_spec:((List.range 256).all fun k=>Nat.ble (len8.getD k 0).toNat 8&& (Nat.beq k 0||(Nat.ble (2 ^ ((len8.getD k 0).toNat-1)) k&& (Nat.blt k (2 ^ (len8.getD k 0).toNat)&&Nat.ble 1 (len8.getD k 0).toNat))))=true:=by kernel_rfl
theorem lenB_spec{x:Int}(h0:1≤x)(h1:x<256):∃t:Nat,lenB x=t∧1≤t∧t≤8∧(2:Int) ^ (t-1)≤x∧x<2 ^ t:=by
 have h:=List.all_eq_true.1 len8_spec x.toNat (List.mem_range.2 (by omega))
 simp only[Bool.and_eq_true,Bool.or_eq_true,Nat.ble_eq,Nat.beq_eq_true_eq,Nat.blt_eq]at h
 obtain⟨h2,h3⟩:=h
 rcases h3 with h3|⟨h3,h4,h5⟩
 ·have:=Nat.eq_of_beq_eq_true h3;omega
 ·refine⟨_,rfl,h5,h2,?_,?_⟩
  ·have:((2 ^ ((len8.getD x.toNat 0).toNat-1):Nat):Int)≤(x.toNat:Int):=Int.ofNat_le.2 h3
   rw[Int.toNat_of_nonneg (by omega)]at this
   simpa using this
  ·have:((x.toNat:Nat):Int)< ((2 ^ ((len8.getD x.toNat 0).toNat):Nat):Int):=Int.ofNat_lt.2 h4
   rw[Int.toNat_of_nonneg (by omega)]at this
   simpa using this
theorem len_up{x:Int}{e t:Nat}(ht:1≤t)(h1:(2:Int) ^ (t-1)≤x / 2 ^ e)(h2:x / 2 ^ e<2 ^ t):(2:Int) ^ (e+t-1)≤x∧x<2 ^ (e+t):=by
 have hp:(0:Int)<2 ^ e:=pow_pos' e
 constructor
 ·rw[Int.le_ediv_iff_mul_le hp]at h1
  rw[show e+t-1=(t-1)+e by omega,Int.pow_add];exact h1
 ·rw[Int.ediv_lt_iff_lt_mul hp]at h2
  rw[show e+t=t+e by omega,Int.pow_add];exact h2
theorem lenV_spec{x:Int}(h0:1≤x)(h1:x<18446744073709551616):∃n:Nat,lenV x=n∧1≤n∧n≤64∧(2:Int) ^ (n-1)≤x∧x<2 ^ n:=by
 have go:∀ (e:Nat) (k:Int),e≤56→k=x / 2 ^ e→1≤k→k<256→∃n:Nat,(e:Int)+lenB k=n∧1≤n∧n≤64∧(2:Int) ^ (n-1)≤x∧x<2 ^ n:=fun e k he hk k1 k2=>by
  obtain⟨t,e1,e2,e3,e4,e5⟩:=lenB_spec k1 k2
  rw[hk]at e4 e5
  obtain⟨u1,u2⟩:=len_up e2 e4 e5
  exact⟨e+t,by rw[e1];simp,by omega,by omega,u1,u2⟩
 unfold lenV
 (repeat' split)
 ·exact go 56 _ (by omega) (by rw[show(2:Int) ^ 56=72057594037927936 by decide];omega) (by omega) (by omega)
 ·exact go 48 _ (by omega) (by rw[show(2:Int) ^ 48=281474976710656 by decide];omega) (by omega) (by omega)
 ·exact go 40 _ (by omega) (by rw[show(2:Int) ^ 40=1099511627776 by decide];omega) (by omega) (by omega)
 ·exact go 32 _ (by omega) (by rw[show(2:Int) ^ 32=4294967296 by decide]) (by omega) (by omega)
 ·exact go 24 _ (by omega) (by rw[show(2:Int) ^ 24=16777216 by decide];omega) (by omega) (by omega)
 ·exact go 16 _ (by omega) (by rw[show(2:Int) ^ 16=65536 by decide]) (by omega) (by omega)
 ·exact go 8 _ (by omega) (by rw[show(2:Int) ^ 8=256 by decide]) (by omega) (by omega)
 ·have:=go 0 x (by omega) (by simp) (by omega) (by omega)
  simpa using this
theorem lenB_rng(x:Int):0≤lenB x∧lenB x≤255:=by unfold lenB;have:=(len8.getD x.toNat 0).toNat_lt;omega
theorem w8{x:Int}(h0:0≤x)(h1:x<256):IntKind.u8.wrap x=x:=by
 have h2:IntKind.wrap .u8 x=if false&&decide (x % 256≥128)then x % 256-256 else x % 256:=rfl
 rw[h2]
 simp only[Bool.false_and,Bool.false_eq_true,if_false]
 omega
theorem wU(x:Int):u64.wrap x=x % 18446744073709551616:=by
 have h2:IntKind.wrap .u64 x=if false&&decide (x % 18446744073709551616≥9223372036854775808)then x % 18446744073709551616-18446744073709551616 else x % 18446744073709551616:=rfl
 rw[h2]
 simp only[Bool.false_and,Bool.false_eq_true,if_false]
theorem and32{x:Int}(h0:0≤x)(h1:x<18446744073709551616):(((BitVec.ofInt 64 x &&&BitVec.ofInt 64 4294967295).toNat:Nat):Int)=x % 4294967296:=by
 obtain⟨m,rfl⟩:=Int.eq_ofNat_of_zero_le h0
 have e1:(BitVec.ofInt 64 (m:Int)).toNat=m:=by
  rw[BitVec.toNat_ofInt]
  have:((2 ^ 64:Nat):Int)=18446744073709551616:=rfl
  rw[this];omega
 have e2:(BitVec.ofInt 64 4294967295).toNat=2 ^ 32-1:=by decide
 rw[BitVec.toNat_and,e1,e2,Nat.and_two_pow_sub_one_eq_mod]
 omega
theorem s_len(x:Int)(h:okU x=true):SCall Tryz.prog 318 [U64 x] (I64 (lenV x)):=
 scall_v mix [] trivial 1000 (.fork (.fork (.fork (.all) (.all)) (.fork (.all) (.all))) (.fork (.fork (.all) (.all)) (.fork (.all) (.all))))
  (t:=.node (decide (x≥4294967296)) (.req true (.node (decide (x.fdiv 4294967296≥65536)) (.req true (.node (decide ((x.fdiv 4294967296).fdiv 65536≥256)) (.req true (.req (decide (0≤IntKind.u8.wrap (((x.fdiv 4294967296).fdiv 65536).fdiv 256))&&decide (IntKind.u8.wrap (((x.fdiv 4294967296).fdiv 65536).fdiv 256)<256)) (.leaf (.int .i64 (i64.wrap (56+i64.wrap (↑(len8.getD (IntKind.u8.wrap (((x.fdiv 4294967296).fdiv 65536).fdiv 256)).toNat 0).toNat:Int))))))) (.req (decide (0≤IntKind.u8.wrap ((x.fdiv 4294967296).fdiv 65536))&&decide (IntKind.u8.wrap ((x.fdiv 4294967296).fdiv 65536)<256)) (.leaf (.int .i64 (i64.wrap (48+i64.wrap (↑(len8.getD (IntKind.u8.wrap ((x.fdiv 4294967296).fdiv 65536)).toNat 0).toNat:Int)))))))) (.node (decide (x.fdiv 4294967296≥256)) (.req true (.req (decide (0≤IntKind.u8.wrap ((x.fdiv 4294967296).fdiv 256))&&decide (IntKind.u8.wrap ((x.fdiv 4294967296).fdiv 256)<256)) (.leaf (.int .i64 (i64.wrap (40+i64.wrap (↑(len8.getD (IntKind.u8.wrap ((x.fdiv 4294967296).fdiv 256)).toNat 0).toNat:Int))))))) (.req (decide (0≤IntKind.u8.wrap (x.fdiv 4294967296))&&decide (IntKind.u8.wrap (x.fdiv 4294967296)<256)) (.leaf (.int .i64 (i64.wrap (32+i64.wrap (↑(len8.getD (IntKind.u8.wrap (x.fdiv 4294967296)).toNat 0).toNat:Int))))))))) (.node (decide (x≥65536)) (.req true (.node (decide (x.fdiv 65536≥256)) (.req true (.req (decide (0≤IntKind.u8.wrap ((x.fdiv 65536).fdiv 256))&&decide (IntKind.u8.wrap ((x.fdiv 65536).fdiv 256)<256)) (.leaf (.int .i64 (i64.wrap (24+i64.wrap (↑(len8.getD (IntKind.u8.wrap ((x.fdiv 65536).fdiv 256)).toNat 0).toNat:Int))))))) (.req (decide (0≤IntKind.u8.wrap (x.fdiv 65536))&&decide (IntKind.u8.wrap (x.fdiv 65536)<256)) (.leaf (.int .i64 (i64.wrap (16+i64.wrap (↑(len8.getD (IntKind.u8.wrap (x.fdiv 65536)).toNat 0).toNat:Int)))))))) (.node (decide (x≥256)) (.req true (.req (decide (0≤IntKind.u8.wrap (x.fdiv 256))&&decide (IntKind.u8.wrap (x.fdiv 256)<256)) (.leaf (.int .i64 (i64.wrap (8+i64.wrap (↑(len8.getD (IntKind.u8.wrap (x.fdiv 256)).toNat 0).toNat:Int))))))) (.req (decide (0≤IntKind.u8.wrap x)&&decide (IntKind.u8.wrap x<256)) (.leaf (.int .i64 (i64.wrap (0+i64.wrap (↑(len8.getD (IntKind.u8.wrap x).toNat 0).toNat:Int)))))))))
  (by kernel_rfl) (by
   have r:=inR_iff.1 h
   have f1:∀y:Int,y.fdiv 4294967296=y / 4294967296:=fun y=>Int.fdiv_eq_ediv_of_nonneg _ (by omega)
   have f2:∀y:Int,y.fdiv 65536=y / 65536:=fun y=>Int.fdiv_eq_ediv_of_nonneg _ (by omega)
   have f3:∀y:Int,y.fdiv 256=y / 256:=fun y=>Int.fdiv_eq_ediv_of_nonneg _ (by omega)
   simp only[f1,f2,f3]
   have g:∀k:Int,0≤k→k<256→i64.wrap (((len8.getD (IntKind.u8.wrap k).toNat 0).toNat:Nat):Int)=lenB k:=fun k h0 h1=>by
    have:=lenB_rng k
    rw[w8 h0 h1];exact w64 (by have:((len8.getD k.toNat 0).toNat:Int)=lenB k:=rfl;omega) (by have:((len8.getD k.toNat 0).toNat:Int)=lenB k:=rfl;omega)
   simp only[Tree.holds,sL,ne_eq,beq_iff_eq,bne_iff_ne,eq_self,beq_eq_false_iff_ne,bne_eq_false_iff_eq,implies_true];(repeat' (first|apply And.intro|intro _));
   all_goals first
    |(rw[w8 (by omega) (by omega)];omega)
    |(rw[g _ (by omega) (by omega)]
      refine sv_int ?_
      have:=lenB_rng
      unfold lenV
      repeat first|rw[if_pos (by omega)] |rw[if_neg (by omega)]
      first
      |(rw[w64 (by have:=lenB_rng (x / 4294967296 / 65536 / 256);omega) (by have:=lenB_rng (x / 4294967296 / 65536 / 256);omega)])
      |(rw[w64 (by have:=lenB_rng (x / 4294967296 / 65536);omega) (by have:=lenB_rng (x / 4294967296 / 65536);omega)])
      |(rw[w64 (by have:=lenB_rng (x / 4294967296 / 256);omega) (by have:=lenB_rng (x / 4294967296 / 256);omega)])
      |(rw[w64 (by have:=lenB_rng (x / 4294967296);omega) (by have:=lenB_rng (x / 4294967296);omega)])
      |(rw[w64 (by have:=lenB_rng (x / 65536 / 256);omega) (by have:=lenB_rng (x / 65536 / 256);omega)])
      |(rw[w64 (by have:=lenB_rng (x / 65536);omega) (by have:=lenB_rng (x / 65536);omega)])
      |(rw[w64 (by have:=lenB_rng (x / 256);omega) (by have:=lenB_rng (x / 256);omega)])
      |(rw[w64 (by have:=lenB_rng x;omega) (by have:=lenB_rng x;omega)];omega))) (by kernel_rfl) (by kernel_rfl)
def fLen:Fact:=factU 318 fun x=>.req (okU x) (.leaf (I64 (lenV x)))
theorem o_len:fLen.ok Tryz.prog:=factU_ok fun x h=>s_len x h
def prodS(x y:Int):SV:=.tuple [U64 (x*y / 18446744073709551616),U64 (x*y % 18446744073709551616)]
theorem pair_u{a b c d:Int}(h:a=c)(k:b=d):SV.tuple [SV.int .u64 a,SV.int .u64 b] =SV.tuple [U64 c,U64 d] :=by subst h k;rfl
theorem s_mul(x y:Int)(hx:okU x=true)(hy:okU y=true):SCall Tryz.prog 331 [U64 x,U64 y] (prodS x y):=
 scall_v mix [] trivial 1000 (.all)
  (t:=let y1:=(↑(BitVec.ofInt 64 x &&&BitVec.ofInt 64 4294967295).toNat:Int);let y2:=(↑(BitVec.ofInt 64 y &&&BitVec.ofInt 64 4294967295).toNat:Int);let y0:=u64.wrap (u64.wrap (x.fdiv 4294967296*u64.wrap y2)+(u64.wrap (u64.wrap y1*u64.wrap y2)).fdiv 4294967296);.req (true) (.req true (.req (true) (.req true (.req (true) (.leaf (.tuple [.int .u64 (u64.wrap (u64.wrap (u64.wrap (x.fdiv 4294967296*y.fdiv 4294967296)+y0.fdiv 4294967296)+(u64.wrap (u64.wrap (↑(BitVec.ofInt 64 y0 &&&BitVec.ofInt 64 4294967295).toNat:Int)+u64.wrap (u64.wrap y1*y.fdiv 4294967296))).fdiv 4294967296)),.int .u64 (u64.wrap (x*y))])))))))
  (by kernel_rfl) (by
   have rx:=inR_iff.1 hx
   have ry:=inR_iff.1 hy
   obtain⟨X,rfl⟩:=Int.eq_ofNat_of_zero_le rx.1
   obtain⟨Y,rfl⟩:=Int.eq_ofNat_of_zero_le ry.1
   have f1:∀y:Int,y.fdiv 4294967296=y / 4294967296:=fun y=>Int.fdiv_eq_ediv_of_nonneg _ (by omega)
   simp only[Tree.holds,f1,and32 rx.1 (by omega),and32 ry.1 (by omega),true_and]
   obtain⟨k1,k2,k3,k4⟩:=Go.Lib.mul64_hi X Y (by omega) (by omega)
   have wN:∀n:Nat,n<18446744073709551616→u64.wrap (n:Int)=(n:Int):=fun n hn=>by rw[wU];omega
   have c1:(X:Int) % 4294967296=((X % 4294967296:Nat):Int):=by omega
   have c2:(Y:Int) % 4294967296=((Y % 4294967296:Nat):Int):=by omega
   have c3:(X:Int) / 4294967296=((X / 4294967296:Nat):Int):=by omega
   have c4:(Y:Int) / 4294967296=((Y / 4294967296:Nat):Int):=by omega
   have q1:=Nat.mul_le_mul (show X / 4294967296≤4294967295 by omega) (show Y % 4294967296≤4294967295 by omega)
   have q2:=Nat.mul_le_mul (show X % 4294967296≤4294967295 by omega) (show Y / 4294967296≤4294967295 by omega)
   have q3:=Nat.mul_le_mul (show X / 4294967296≤4294967295 by omega) (show Y / 4294967296≤4294967295 by omega)
   have q4:=Nat.mul_le_mul (show X % 4294967296≤4294967295 by omega) (show Y % 4294967296≤4294967295 by omega)
   simp only[c1,c2,c3,c4,←Int.natCast_mul,wN _ (show X % 4294967296<18446744073709551616 by omega),wN _ (show Y % 4294967296<18446744073709551616 by omega)]
   generalize ha:X / 4294967296*(Y % 4294967296)=a at *
   generalize hb:X % 4294967296*(Y / 4294967296)=b at *
   generalize hc:X / 4294967296*(Y / 4294967296)=c at *
   generalize hd:X % 4294967296*(Y % 4294967296)=d at *
   simp only[wN a (by omega),wN b (by omega),wN c (by omega),wN d (by omega)]
   have c5:((d:Nat):Int) / 4294967296=((d / 4294967296:Nat):Int):=by omega
   simp only[c5,←Int.natCast_add]
   have ea:=wN (a+d / 4294967296) (by omega)
   simp only[ea]
   have c6:=and32 (x:=((a+d / 4294967296:Nat):Int)) (by omega) (by omega)
   simp only[c6]
   refine pair_u ?_ ?_
   ·simp only[wU];omega
   ·rw[wU];omega) (by kernel_rfl) (by kernel_rfl)
def fMul:Fact:=factUU 331 fun x y=>.req (okU x) (.req (okU y) (.leaf (prodS x y)))
theorem o_mul:fMul.ok Tryz.prog:=factUU_ok (fun x y hx hy=>s_mul x y hx hy)
def siz(x:Int):Int:=if x<0 then -x else x
def ok63(x:Int):Bool:=inR x (-9223372036854775808) 9223372036854775807
theorem s_siz(x:Int)(h:ok63 x=true):SCall Tryz.prog 332 [I64 x] (U64 (siz x)):=
 scall_v mix [] trivial 1000 (.fork (.all) (.all))
  (t:=.node (decide (x<0))
 (.leaf (SV.int IntKind.u64 (u64.wrap (0-u64.wrap x))))
 (.leaf (SV.int IntKind.u64 (u64.wrap x))))
   (by kernel_rfl) (by
    have r:=inR_iff.1 h
    simp only[Tree.holds,sL,ne_eq,beq_iff_eq,bne_iff_ne,eq_self,beq_eq_false_iff_ne,bne_eq_false_iff_eq,implies_true]
    refine⟨fun hc=>?_,fun hc=>?_⟩<;>unfold siz U64<;>simp only[wU]
    ·rw[if_pos hc];congr 1;omega
    ·rw[if_neg hc];congr 1;omega) (by kernel_rfl) (by kernel_rfl)
def fSiz:Fact:=factI 332 fun x=>.req (ok63 x) (.leaf (U64 (siz x)))
theorem o_siz:fSiz.ok Tryz.prog:=factI_ok (fun x h=>s_siz x h)
theorem s_lz(x:Int)(h:(okU x&&decide (1≤x))=true):SCall Tryz.prog 337 [U64 x] (I64 (64-lenV x)):=
 scall_v mix [fLen] ⟨o_len,trivial⟩ 1000 (.all)
  (t:=.req (okU x) (.leaf (SV.int IntKind.i64 (i64.wrap (64-lenV x)))))
  (by kernel_rfl) (by
   rw[Bool.and_eq_true,decide_eq_true_eq]at h
   have r:=inR_iff.1 h.1
   obtain⟨n,e1,e2,e3,_⟩:=lenV_spec h.2 (by omega)
   refine⟨h.1,?_⟩
   rw[w64 (by omega) (by omega)];rfl) (by kernel_rfl) (by kernel_rfl)
def fLz:Fact:=factU 337 fun x=>.req (okU x&&decide (1≤x)) (.leaf (I64 (64-lenV x)))
theorem o_lz:fLz.ok Tryz.prog:=factU_ok fun x h=>s_lz x h
def dv0_p:Plan:=.fork (.all) (.fork (.all) (.fork (.all) (.all)))
noncomputable def dv0_t(h l y:Int):Tree Stop:=let y2:=u64.wrap (64-lenV y);let y0:=(↑(BitVec.ofInt 64 (u64.wrap (h*2 ^ min y2.toNat 64)) |||BitVec.ofInt 64 (l.fdiv (2 ^ min (u64.wrap (64-u64.wrap (64-lenV y))).toNat 64))).toNat:Int);let y1:=u64.wrap (y*2 ^ min y2.toNat 64);let y3:=decide (0≤u64.wrap (64-lenV y)); .node (y==0) (.fail 14) (.node (decide (y≤h)) (.fail 14) (.node (h==0) (.req (!y==0) (.req (!y==0) (.leaf (.done (.tuple [.int .u64 (u64.wrap (l.tdiv y)),.int .u64 (l.tmod y)]))))) (.req (okU y&&decide (1≤y)) (.req y3 (.req true (.req y3 (.req (decide (0≤u64.wrap (64-u64.wrap (64-lenV y)))) (.req y3 (.req true (.req (!y1.fdiv 4294967296==0) (.leaf (.at (loopOf Tryz.prog 333 0) 135 (slotsS 135 [(2,.int .u64 y1),(8,.int .u64 y2),(9,.int .u64 (y1.fdiv 4294967296)),(10,.int .u64 (u64.wrap (↑(BitVec.ofInt 64 y1 &&&BitVec.ofInt 64 4294967295).toNat:Int))),(11,.int .u64 (u64.wrap y0)),(13,.int .u64 ((u64.wrap (l*2 ^ min y2.toNat 64)).fdiv 4294967296)),(14,.int .u64 (u64.wrap (↑(BitVec.ofInt 64 (u64.wrap (l*2 ^ min y2.toNat 64)) &&&BitVec.ofInt 64 4294967295).toNat:Int))),(15,.int .u64 (u64.wrap ((u64.wrap y0).tdiv (y1.fdiv 4294967296)))),(16,.int .u64 (u64.wrap (u64.wrap y0-u64.wrap (u64.wrap ((u64.wrap y0).tdiv (y1.fdiv 4294967296))*y1.fdiv 4294967296))))]) []))))))))))))
theorem dv0(h l y:Int):segR (Env.of Tryz.prog (sumOf [fLz])) 1000 (fnOf Tryz.prog 333) .unit (keepS 135 [2,8,9,10,11,13,14,15,16]) (codeS Tryz.prog 333) dv0_p (startS Tryz.prog 333 [U64 h,U64 l,U64 y]) [] =dv0_t h l y:=by kernel_rfl
def dv1_p:Plan:=.fork (.ln 9 (.fork .all .all)) (.ln 8 (.fork (.fork .all .all) .all))
noncomputable def dv1_t(y s p1 p0 u v1 v0 q r:Int):Tree Stop:=let y1:=u64.wrap (u64.wrap (u*4294967296)+v1)-u64.wrap (u64.wrap (q-1)*y);let y0:Tree Stop:=.node (decide (u64.wrap (r+p1)≥4294967296)) (.req (!p1==0) (.leaf (.at (loopOf Tryz.prog 333 1) 135 (slotsS 135 [(2,.int .u64 y),(8,.int .u64 s),(9,.int .u64 p1),(10,.int .u64 p0),(11,.int .u64 u),(13,.int .u64 v1),(14,.int .u64 v0),(15,.int .u64 (u64.wrap (q-1))),(16,.int .u64 (u64.wrap (u64.wrap y1-u64.wrap (u64.wrap ((u64.wrap y1).tdiv p1)*p1)))),(17,.int .u64 (u64.wrap y1)),(18,.int .u64 (u64.wrap ((u64.wrap y1).tdiv p1)))]) []))) (.leaf (.at (loopOf Tryz.prog 333 0) 135 (slotsS 135 [(2,.int .u64 y),(8,.int .u64 s),(9,.int .u64 p1),(10,.int .u64 p0),(11,.int .u64 u),(13,.int .u64 v1),(14,.int .u64 v0),(15,.int .u64 (u64.wrap (q-1))),(16,.int .u64 (u64.wrap (r+p1)))]) []));let y2:=u64.wrap (u64.wrap (u*4294967296)+v1)-u64.wrap (q*y); .node (decide (q≥4294967296)) y0 (.node (decide (u64.wrap (q*p0)>u64.wrap (u64.wrap (4294967296*r)+v1))) y0 (.req (!p1==0) (.leaf (.at (loopOf Tryz.prog 333 1) 135 (slotsS 135 [(2,.int .u64 y),(8,.int .u64 s),(9,.int .u64 p1),(10,.int .u64 p0),(11,.int .u64 u),(13,.int .u64 v1),(14,.int .u64 v0),(15,.int .u64 q),(16,.int .u64 (u64.wrap (u64.wrap y2-u64.wrap (u64.wrap ((u64.wrap y2).tdiv p1)*p1)))),(17,.int .u64 (u64.wrap y2)),(18,.int .u64 (u64.wrap ((u64.wrap y2).tdiv p1)))]) []))))
theorem dv1(y s p1 p0 u v1 v0 q r:Int):segR (Env.of Tryz.prog (sumOf [])) 1000 (fnOf Tryz.prog 333) .unit (keepS 135 [2,8,9,10,14,15,16,17,18,11,13]) (loopOf Tryz.prog 333 0) dv1_p (slotsS 135 [(2,U64 y),(8,U64 s),(9,U64 p1),(10,U64 p0),(11,U64 u),(13,U64 v1),(14,U64 v0),(15,U64 q),(16,U64 r)]) [] =dv1_t y s p1 p0 u v1 v0 q r:=by kernel_rfl
def dv2_p:Plan:=.fork (.ln 9 (.fork .all .all)) (.ln 8 (.fork (.fork .all .all) .all))
noncomputable def dv2_t(y s p1 p0 u v1 v0 a t q r:Int):Tree Stop:=let y0:Tree Stop:=.node (decide (u64.wrap (r+p1)≥4294967296)) (.req (decide (0≤s)) (.leaf (.done (.tuple [.int .u64 (u64.wrap (u64.wrap (a*4294967296)+u64.wrap (q-1))),.int .u64 ((u64.wrap (u64.wrap (u64.wrap (t*4294967296)+v0)-u64.wrap (u64.wrap (q-1)*y))).fdiv (2 ^ min s.toNat 64))])))) (.leaf (.at (loopOf Tryz.prog 333 1) 135 (slotsS 135 [(2,.int .u64 y),(8,.int .u64 s),(9,.int .u64 p1),(10,.int .u64 p0),(11,.int .u64 u),(13,.int .u64 v1),(14,.int .u64 v0),(15,.int .u64 a),(16,.int .u64 (u64.wrap (r+p1))),(17,.int .u64 t),(18,.int .u64 (u64.wrap (q-1)))]) [])); .node (decide (q≥4294967296)) y0 (.node (decide (u64.wrap (q*p0)>u64.wrap (u64.wrap (4294967296*r)+v0))) y0 (.req (decide (0≤s)) (.leaf (.done (.tuple [.int .u64 (u64.wrap (u64.wrap (a*4294967296)+q)),.int .u64 ((u64.wrap (u64.wrap (u64.wrap (t*4294967296)+v0)-u64.wrap (q*y))).fdiv (2 ^ min s.toNat 64))])))))
theorem dv2(y s p1 p0 u v1 v0 a t q r:Int):segR (Env.of Tryz.prog (sumOf [])) 1000 (fnOf Tryz.prog 333) .unit (keepS 135 [2,8,9,10,14,15,16,17,18,11,13]) (loopOf Tryz.prog 333 1) dv2_p (slotsS 135 [(2,U64 y),(8,U64 s),(9,U64 p1),(10,U64 p0),(11,U64 u),(13,U64 v1),(14,U64 v0),(15,U64 a),(16,U64 r),(17,U64 t),(18,U64 q)]) [] =dv2_t y s p1 p0 u v1 v0 a t q r:=by kernel_rfl
theorem wN{n:Nat}(hn:n<18446744073709551616):u64.wrap (n:Int)=(n:Int):=by rw[wU];omega
theorem tdivN(a b:Nat):((a:Int).tdiv (b:Int))=((a / b:Nat):Int):=by
 rw[Int.tdiv_eq_ediv_of_nonneg (by omega)];rfl
theorem dig_wrap{U v Q Y R:Nat}(h:U*4294967296+v=Q*Y+R)(hR:R<18446744073709551616):u64.wrap (u64.wrap (u64.wrap ((U:Int)*4294967296)+(v:Int))-u64.wrap ((Q:Int)*(Y:Int)))=((R:Nat):Int):=by
 rw[←Int.natCast_mul Q Y]
 generalize Q*Y=b at h ⊢
 simp only[wU];omega
theorem rest_wrap{t p:Nat}(ht:t<18446744073709551616)(hp:0<p):u64.wrap ((t:Int).tdiv (p:Int))=((t / p:Nat):Int)∧u64.wrap ((t:Int)-u64.wrap (((t / p:Nat):Int)*(p:Int)))=((t-t / p*p:Nat):Int):=by
 have h1:t / p≤t:=Nat.div_le_self _ _
 have h2:=Nat.div_mul_le_self t p
 rw[tdivN,←Int.natCast_mul]
 generalize t / p*p=b at h2 ⊢
 generalize t / p=c at h1 ⊢
 simp only[wU];omega
theorem pred_wrap{q:Nat}(h:1≤q)(h2:q<18446744073709551616):u64.wrap ((q:Int)-1)=((q-1:Nat):Int):=by rw[wU];omega
section
variable {s p1 p0 Y U v1 v0:Nat}
noncomputable def sl1(s p1 p0 Y U v1 v0 q r:Nat):List SV:=slotsS 135 [(2,U64 Y),(8,U64 s),(9,U64 p1),(10,U64 p0),(11,U64 U),(13,U64 v1),(14,U64 v0),(15,U64 q),(16,U64 r)]
noncomputable def sl2(s p1 p0 Y U v1 v0 a t q r:Nat):List SV:=slotsS 135 [(2,U64 Y),(8,U64 s),(9,U64 p1),(10,U64 p0),(11,U64 U),(13,U64 v1),(14,U64 v0),(15,U64 a),(16,U64 r),(17,U64 t),(18,U64 q)]
theorem dv1_step{Q T:Nat}{res:SV}(hQ:(U*4294967296+v1) / Y=Q)(hT:(U*4294967296+v1) % Y=T)(hd:res.data=true)(hY:9223372036854775808≤Y∧Y<18446744073709551616)(e1:p1=Y / 4294967296)(e0:p0=Y % 4294967296)(hU:U<Y)(hv:v1<4294967296)
  (k:RunsR Tryz.prog (fnOf Tryz.prog 333) res (loopOf Tryz.prog 333 1) (sl2 s p1 p0 Y U v1 v0 Q T (T / p1) (T-T / p1*p1)) [])
  (q r:Nat) (h1:q*p1+r=U) (h2:Q≤q) (h3:q≤4294967297) (h4:r<4294967296)
  (ih:∀q' r':Nat,q'<q→q'*p1+r'=U→Q≤q'→r'<4294967296→RunsR Tryz.prog (fnOf Tryz.prog 333) res (loopOf Tryz.prog 333 0) (sl1 s p1 p0 Y U v1 v0 q' r') []):
  RunsR Tryz.prog (fnOf Tryz.prog 333) res (loopOf Tryz.prog 333 0) (sl1 s p1 p0 Y U v1 v0 q r) [] :=by
 have hp1:2147483648≤p1∧p1<4294967296:=by omega
 have hTY:T<Y:=by rw[←hT];exact Nat.mod_lt _ (by omega)
 have D:∀q':Nat,q'=Q→u64.wrap (u64.wrap (u64.wrap ((U:Int)*4294967296)+(v1:Int))-u64.wrap ((q':Int)*(Y:Int)))=((T:Nat):Int):=fun q' h=>by
  subst h;exact dig_wrap (by rw[←hQ,←hT,Nat.div_add_mod']) (by omega)
 obtain⟨R1,R2⟩:=rest_wrap (t:=T) (p:=p1) (by omega) (by omega)
 have wr:u64.wrap ((r:Int)+(p1:Int))=((r+p1:Nat):Int):=by rw[wU];omega
 have np:(!((p1:Int)==0))=true:=by simp;omega
 -- a step down
 have down:Q+1≤q→(q-1)*p1+(r+p1)=U∧Q≤q-1∧u64.wrap ((q:Int)-1)=((q-1:Nat):Int):=fun h=>by
  refine⟨?_,by omega,pred_wrap (by omega) (by omega)⟩
  obtain⟨q',rfl⟩:∃q',q=q'+1:=⟨q-1,by omega⟩
  rw[Nat.add_mul]at h1
  rw[Nat.add_sub_cancel];omega
 have wm:u64.wrap (4294967296*(r:Int))=((4294967296*r:Nat):Int):=by rw[wU];omega
 have wm2:u64.wrap (((4294967296*r:Nat):Int)+(v1:Int))=((4294967296*r+v1:Nat):Int):=by rw[wU];omega
 have wqp:q<4294967296→u64.wrap ((q:Int)*(p0:Int))=((q*p0:Nat):Int):=fun h=>by
  have:q*p0≤4294967295*4294967295:=Nat.mul_le_mul (by omega) (by omega)
  rw[←Int.natCast_mul];exact wN (by omega)
 have less:=dig_less (y:=Y) (u:=U) (u1:=v1) (q:=q) (rh:=r) (by omega) hU hv (by rw[←e1];exact h1)
 rw[hQ]at less
 have out:=dig_out (y:=Y) (u:=U) (u1:=v1) (q:=q) (rh:=r) (by omega) (by rw[←e1];exact h1) (by rw[hQ];exact h2)
 rw[hQ]at out
 have brk:Q+1≤q→4294967296≤r+p1→q-1=Q:=fun h hb=>by have:=dig_break (y:=Y) (u:=U) (u1:=v1) (q:=q-1) (rh:=r+p1) (by omega) (by rw[←e1];exact(down h).1) (by rw[hQ];exact(down h).2.1) (by omega) hb;rw[hQ]at this;exact this
 have stay:Q+1≤q→r+p1<4294967296→RunsR Tryz.prog (fnOf Tryz.prog 333) res (loopOf Tryz.prog 333 0) (sl1 s p1 p0 Y U v1 v0 (q-1) (r+p1)) [] :=fun h hr=>ih _ _ (by omega) (down h).1 (down h).2.1 hr
 refine runsR_seg k0 (n:=1000) (hint:=.unit) (keep:=keepS 135 [2,8,9,10,14,15,16,17,18,11,13]) (p:=dv1_p) hd ?_
 unfold sl1
 erw [dv1 Y s p1 p0 U v1 v0 q r]
 unfold dv1_t
 rw[wr]
 simp only[Tree.holds,decide_eq_true_eq,decide_eq_false_iff_not,np,true_and]
 unfold sl1 at stay
 unfold sl2 at k
 refine⟨fun c=>⟨fun b=>?_,fun b=>?_⟩,fun c=>?_⟩
 ·have hl:=less (.inl (by omega))
  rw[(down hl).2.2,D _ (brk hl (by omega)),R1,R2,brk hl (by omega)]
  exact⟨slotsS_len _ _,k⟩
 ·have hl:=less (.inl (by omega))
  rw[(down hl).2.2]
  exact⟨slotsS_len _ _,stay hl (by omega)⟩
 ·rw[wqp (by omega),wm,wm2]
  refine⟨fun d=>⟨fun b=>?_,fun b=>?_⟩,fun d=>?_⟩
  ·have hl:=less (.inr (by rw[←e0];omega))
   rw[(down hl).2.2,D _ (brk hl (by omega)),R1,R2,brk hl (by omega)]
   exact⟨slotsS_len _ _,k⟩
  ·have hl:=less (.inr (by rw[←e0];omega))
   rw[(down hl).2.2]
   exact⟨slotsS_len _ _,stay hl (by omega)⟩
  ·have ho:=out (by rw[←e0];omega)
   rw[D _ ho,R1,R2,ho]
   exact⟨slotsS_len _ _,k⟩
theorem dv1_loop{Q T:Nat}{res:SV}(hQ:(U*4294967296+v1) / Y=Q)(hT:(U*4294967296+v1) % Y=T)(hd:res.data=true)(hY:9223372036854775808≤Y∧Y<18446744073709551616)(e1:p1=Y / 4294967296)(e0:p0=Y % 4294967296)(hU:U<Y)(hv:v1<4294967296)
  (k:RunsR Tryz.prog (fnOf Tryz.prog 333) res (loopOf Tryz.prog 333 1) (sl2 s p1 p0 Y U v1 v0 Q T (T / p1) (T-T / p1*p1)) []):
  ∀ (n q r:Nat),q<n→q*p1+r=U→Q≤q→q≤4294967297→r<4294967296→RunsR Tryz.prog (fnOf Tryz.prog 333) res (loopOf Tryz.prog 333 0) (sl1 s p1 p0 Y U v1 v0 q r) []
 |0,q,r,hn,_,_,_,_=>by omega
 |n+1,q,r,hn,h1,h2,h3,h4=>dv1_step hQ hT hd hY e1 e0 hU hv k q r h1 h2 h3 h4 fun q' r' h g1 g2 g4=>dv1_loop hQ hT hd hY e1 e0 hU hv k n q' r' (by omega) g1 g2 (by omega) g4
noncomputable def dvR(s a q t:Nat):SV:=.tuple [U64 ((a*4294967296+q:Nat):Int),U64 ((t / 2 ^ s:Nat):Int)]
theorem dv2_step{Q T a t:Nat}(hQ:(t*4294967296+v0) / Y=Q)(hT:(t*4294967296+v0) % Y=T)(hs:s≤64)(hY:9223372036854775808≤Y∧Y<18446744073709551616)(e1:p1=Y / 4294967296)(e0:p0=Y % 4294967296)(ht:t<Y)(hv:v0<4294967296)(ha:a<4294967296)
  (q r:Nat) (h1:q*p1+r=t) (h2:Q≤q) (h3:q≤4294967297) (h4:r<4294967296)
  (ih:∀q' r':Nat,q'<q→q'*p1+r'=t→Q≤q'→r'<4294967296→RunsR Tryz.prog (fnOf Tryz.prog 333) (dvR s a Q T) (loopOf Tryz.prog 333 1) (sl2 s p1 p0 Y U v1 v0 a t q' r') []):
  RunsR Tryz.prog (fnOf Tryz.prog 333) (dvR s a Q T) (loopOf Tryz.prog 333 1) (sl2 s p1 p0 Y U v1 v0 a t q r) [] :=by
 have hp1:2147483648≤p1∧p1<4294967296:=by omega
 have hTY:T<Y:=by rw[←hT];exact Nat.mod_lt _ (by omega)
 have hQl:Q<4294967296:=by rw[←hQ];exact dig_lt (by omega) ht hv
 have D:∀q':Nat,q'=Q→u64.wrap (u64.wrap (u64.wrap ((t:Int)*4294967296)+(v0:Int))-u64.wrap ((q':Int)*(Y:Int)))=((T:Nat):Int):=fun q' h=>by
  subst h;exact dig_wrap (by rw[←hQ,←hT,Nat.div_add_mod']) (by omega)
 have wr:u64.wrap ((r:Int)+(p1:Int))=((r+p1:Nat):Int):=by rw[wU];omega
 have down:Q+1≤q→(q-1)*p1+(r+p1)=t∧Q≤q-1∧u64.wrap ((q:Int)-1)=((q-1:Nat):Int):=fun h=>by
  refine⟨?_,by omega,pred_wrap (by omega) (by omega)⟩
  obtain⟨q',rfl⟩:∃q',q=q'+1:=⟨q-1,by omega⟩
  rw[Nat.add_mul]at h1
  rw[Nat.add_sub_cancel];omega
 have wm:u64.wrap (4294967296*(r:Int))=((4294967296*r:Nat):Int):=by rw[wU];omega
 have wm2:u64.wrap (((4294967296*r:Nat):Int)+(v0:Int))=((4294967296*r+v0:Nat):Int):=by rw[wU];omega
 have wqp:q<4294967296→u64.wrap ((q:Int)*(p0:Int))=((q*p0:Nat):Int):=fun h=>by
  have:q*p0≤4294967295*4294967295:=Nat.mul_le_mul (by omega) (by omega)
  rw[←Int.natCast_mul];exact wN (by omega)
 have less:=dig_less (y:=Y) (u:=t) (u1:=v0) (q:=q) (rh:=r) (by omega) ht hv (by rw[←e1];exact h1)
 rw[hQ]at less
 have out:=dig_out (y:=Y) (u:=t) (u1:=v0) (q:=q) (rh:=r) (by omega) (by rw[←e1];exact h1) (by rw[hQ];exact h2)
 rw[hQ]at out
 have brk:Q+1≤q→4294967296≤r+p1→q-1=Q:=fun h hb=>by have:=dig_break (y:=Y) (u:=t) (u1:=v0) (q:=q-1) (rh:=r+p1) (by omega) (by rw[←e1];exact(down h).1) (by rw[hQ];exact(down h).2.1) (by omega) hb;rw[hQ]at this;exact this
 have stay:=fun(h:Q+1≤q) (hr:r+p1<4294967296)=>ih (q-1) (r+p1) (by omega) (down h).1 (down h).2.1 hr
 have fin:∀q':Nat,q'=Q→u64.wrap (u64.wrap ((a:Int)*4294967296)+(q':Int))=((a*4294967296+Q:Nat):Int):=fun q' h=>by
  subst h
  simp only[wU];omega
 have sh:(((T:Nat):Int)).fdiv (2 ^ min (s:Int).toNat 64)=((T / 2 ^ s:Nat):Int):=by
  rw[show min (s:Int).toNat 64=s by omega,Int.fdiv_eq_ediv_of_nonneg _ (Int.le_of_lt (pow_pos' s))]
  simp
 have n0:decide ((0:Int)≤(s:Int))=true:=decide_eq_true (by omega)
 refine runsR_seg k0 (n:=1000) (hint:=.unit) (keep:=keepS 135 [2,8,9,10,14,15,16,17,18,11,13]) (p:=dv2_p) rfl ?_
 unfold sl2
 erw [dv2 Y s p1 p0 U v1 v0 a t q r]
 unfold dv2_t
 rw[wr]
 simp only[Tree.holds,decide_eq_true_eq,decide_eq_false_iff_not,n0,true_and]
 unfold sl2 at stay
 unfold dvR at stay ⊢
 have p0':(0:Int)≤(s:Int):=by omega
 refine⟨fun c=>⟨fun b=>?_,fun b=>?_⟩,fun c=>?_⟩
 ·have hl:=less (.inl (by omega))
  rw[(down hl).2.2,D _ (brk hl (by omega)),sh,fin _ (brk hl (by omega))]
  rfl
 ·have hl:=less (.inl (by omega))
  rw[(down hl).2.2]
  exact⟨slotsS_len _ _,stay hl (by omega)⟩
 ·rw[wqp (by omega),wm,wm2]
  refine⟨fun d=>⟨fun b=>?_,fun b=>?_⟩,fun d=>?_⟩
  ·have hl:=less (.inr (by rw[←e0];omega))
   rw[(down hl).2.2,D _ (brk hl (by omega)),sh,fin _ (brk hl (by omega))]
   rfl
  ·have hl:=less (.inr (by rw[←e0];omega))
   rw[(down hl).2.2]
   exact⟨slotsS_len _ _,stay hl (by omega)⟩
  ·have ho:=out (by rw[←e0];omega)
   rw[D _ ho,sh,fin _ ho]
   rfl
theorem dv2_loop{Q T a t:Nat}(hQ:(t*4294967296+v0) / Y=Q)(hT:(t*4294967296+v0) % Y=T)(hs:s≤64)(hY:9223372036854775808≤Y∧Y<18446744073709551616)(e1:p1=Y / 4294967296)(e0:p0=Y % 4294967296)(ht:t<Y)(hv:v0<4294967296)(ha:a<4294967296):
  ∀ (n q r:Nat),q<n→q*p1+r=t→Q≤q→q≤4294967297→r<4294967296→RunsR Tryz.prog (fnOf Tryz.prog 333) (dvR s a Q T) (loopOf Tryz.prog 333 1) (sl2 s p1 p0 Y U v1 v0 a t q r) []
 |0,q,r,hn,_,_,_,_=>by omega
 |n+1,q,r,hn,h1,h2,h3,h4=>dv2_step hQ hT hs hY e1 e0 ht hv ha q r h1 h2 h3 h4 fun q' r' h g1 g2 g4=>dv2_loop hQ hT hs hY e1 e0 ht hv ha n q' r' (by omega) g1 g2 (by omega) g4
end
theorem or64N{a b e:Nat}(ha:a*2 ^ e<18446744073709551616)(hb:b<2 ^ e)(hb2:b<18446744073709551616):(((BitVec.ofInt 64 ((a*2 ^ e:Nat):Int) |||BitVec.ofInt 64 ((b:Nat):Int)).toNat:Nat):Int)=((a*2 ^ e+b:Nat):Int):=by
 have e1:∀m:Nat,m<18446744073709551616→(BitVec.ofInt 64 (m:Int)).toNat=m:=fun m hm=>by
  rw[BitVec.toNat_ofInt]
  have:((2 ^ 64:Nat):Int)=18446744073709551616:=rfl
  rw[this];omega
 rw[BitVec.toNat_or,e1 _ ha,e1 _ hb2,Nat.mul_comm a,←Nat.two_pow_add_eq_or_of_lt hb]
theorem s_div{H L Yn:Nat}(h1:H<Yn)(h2:L<18446744073709551616)(h3:Yn<18446744073709551616):SCall Tryz.prog 333 [U64 (H:Int),U64 (L:Int),U64 (Yn:Int)] (.tuple [U64 (((H*18446744073709551616+L) / Yn:Nat):Int),U64 (((H*18446744073709551616+L) % Yn:Nat):Int)]):=by
 refine scallR_loops rfl rfl (by kernel_rfl) (runsR_seg (kW (l:=[fLz]) ⟨o_lz,trivial⟩) (n:=1000) (hint:=.unit) (keep:=keepS 135 [2,8,9,10,11,13,14,15,16]) (p:=dv0_p) (boxes:=[]) rfl ?_)
 have e:=dv0 H L Yn
 unfold startS codeS at e
 erw [e]
 clear e
 unfold dv0_t
 have hy0:((Yn:Int)==0)=false:=by simp;omega
 have hyh:decide ((Yn:Int)≤(H:Int))=false:=decide_eq_false (by omega)
 simp only[Tree.holds,hy0,hyh,Bool.false_eq_true,false_implies,true_implies,true_and,Bool.not_false,and_true]
 refine⟨fun h0=>?_,fun h0=>?_⟩
 ·have h0:H=0:=by simpa using h0
  subst h0
  show SV.tuple _=_
  have hl:L / Yn≤L:=Nat.div_le_self _ _
  rw[tdivN,wN (by omega),Nat.zero_mul,Nat.zero_add,Int.tmod_eq_emod_of_nonneg (by omega)]
  rfl
 ·obtain⟨n,en,n1,n2,n3,n4⟩:=lenV_spec (x:=(Yn:Int)) (by omega) (by omega)
  obtain⟨s,hs⟩:∃s:Nat,s=64-n:=⟨_,rfl⟩
  have ws:u64.wrap (64-lenV (Yn:Int))=(s:Int):=by rw[en,wU];omega
  have ws2:u64.wrap (64-(s:Int))=((64-s:Nat):Int):=by rw[wU];omega
  have m1:min (s:Int).toNat 64=s:=by omega
  have m2:min ((64-s:Nat):Int).toNat 64=64-s:=by omega
  have hp:0<2 ^ s:=Nat.two_pow_pos s
  have pw:∀k:Nat,(2:Int) ^ k=((2 ^ k:Nat):Int):=fun k=>by simp
  -- the divisor, shifted
  have n3':2 ^ (n-1)≤Yn:=by rw[pw]at n3;omega
  have n4':Yn<2 ^ n:=by rw[pw]at n4;omega
  have y1:9223372036854775808≤Yn*2 ^ s:=by
   have:2 ^ (n-1)*2 ^ s≤Yn*2 ^ s:=Nat.mul_le_mul_right _ n3'
   rw[←Nat.pow_add,show n-1+s=63 by omega]at this
   exact this
  have y2:Yn*2 ^ s<18446744073709551616:=by
   have:Yn*2 ^ s<2 ^ n*2 ^ s:=Nat.mul_lt_mul_of_pos_right n4' hp
   rw[←Nat.pow_add,show n+s=64 by omega]at this
   exact this
  -- the upper half, shifted
  have l1:L / 2 ^ (64-s)<2 ^ s:=by
   rw[Nat.div_lt_iff_lt_mul (Nat.two_pow_pos _),←Nat.pow_add,show s+(64-s)=64 by omega];exact h2
  have l2:L / 2 ^ (64-s)≤L:=Nat.div_le_self _ _
  have u0:(H+1)*2 ^ s≤Yn*2 ^ s:=Nat.mul_le_mul_right _ h1
  rw[Nat.add_mul,Nat.one_mul]at u0
  have hU:H*2 ^ s+L / 2 ^ (64-s)<Yn*2 ^ s:=by omega
  have lo:L*2 ^ s=L / 2 ^ (64-s)*18446744073709551616+L*2 ^ s % 18446744073709551616:=by
   have:L / 2 ^ (64-s)=L*2 ^ s / 18446744073709551616:=by
    rw[show(18446744073709551616:Nat)=2 ^ (64-s)*2 ^ s by rw[←Nat.pow_add,show 64-s+s=64 by omega],Nat.mul_div_mul_right _ _ hp]
   rw[this];omega
  have wY:u64.wrap ((Yn:Int)*2 ^ s)=((Yn*2 ^ s:Nat):Int):=by rw[pw,←Int.natCast_mul];exact wN y2
  have wH:u64.wrap ((H:Int)*2 ^ s)=((H*2 ^ s:Nat):Int):=by rw[pw,←Int.natCast_mul];exact wN (by omega)
  have wL:u64.wrap ((L:Int)*2 ^ s)=((L*2 ^ s % 18446744073709551616:Nat):Int):=by rw[pw,←Int.natCast_mul,wU];omega
  have fL:((L:Nat):Int).fdiv (2 ^ (64-s))=((L / 2 ^ (64-s):Nat):Int):=by
   rw[Int.fdiv_eq_ediv_of_nonneg _ (Int.le_of_lt (pow_pos' _)),pw];rfl
  have oU:=or64N (a:=H) (b:=L / 2 ^ (64-s)) (e:=s) (by omega) l1 (by omega)
  have f32:∀m:Nat,((m:Nat):Int).fdiv 4294967296=((m / 4294967296:Nat):Int):=fun m=>by rw[Int.fdiv_eq_ediv_of_nonneg _ (by omega)];rfl
  have a32:∀m:Nat,m<18446744073709551616→u64.wrap ((((BitVec.ofInt 64 ((m:Nat):Int) &&&BitVec.ofInt 64 4294967295).toNat:Nat):Int))=((m % 4294967296:Nat):Int):=fun m hm=>by rw[and32 (by omega) (by omega),wU];omega
  have d0:decide ((0:Int)≤(s:Int))=true:=decide_eq_true (by omega)
  have d1:decide ((0:Int)≤((64-s:Nat):Int))=true:=decide_eq_true (by omega)
  have ok:(okU (Yn:Int)&&decide (1≤(Yn:Int)))=true:=by rw[Bool.and_eq_true,decide_eq_true_eq];exact⟨inR_iff.2 (by omega),by omega⟩
  generalize hYY:Yn*2 ^ s=Y at *
  generalize hUU:H*2 ^ s+L / 2 ^ (64-s)=U at *
  generalize hLL:L*2 ^ s % 18446744073709551616=LO at *
  have hLO:LO<18446744073709551616:=by omega
  have np:(!((Y / 4294967296:Nat):Int)==0)=true:=by simp;omega
  obtain⟨R1,R2⟩:=rest_wrap (t:=U) (p:=Y / 4294967296) (by omega) (by omega)
  have wU2:u64.wrap ((U:Nat):Int)=(U:Int):=wN (by omega)
  simp only[ws,ws2,m1,m2,wY,wH,wL,fL,oU,f32,a32 Y y2,a32 LO hLO,d0,d1,ok,np,wU2,R1,R2,true_and]
  refine⟨slotsS_len _ _,?_⟩
  have g1:=dig_first (y:=Y) (u:=U) (u1:=LO / 4294967296) y1 y2 hU (by omega)
  have hT:(U*4294967296+LO / 4294967296) % Y<Y:=Nat.mod_lt _ (by omega)
  have g2:=dig_first (y:=Y) (u:=(U*4294967296+LO / 4294967296) % Y) (u1:=LO % 4294967296) y1 y2 hT (by omega)
  have hQ1:(U*4294967296+LO / 4294967296) / Y<4294967296:=dig_lt (by omega) hU (by omega)
  have two:=two_digits (y:=Y) (u:=U) (u1:=LO / 4294967296) (u0:=LO % 4294967296) (by omega)
  have key:=dv2_loop (v1:=LO / 4294967296) (U:=U) (s:=s) rfl rfl (by omega) ⟨y1,y2⟩ rfl rfl hT (show LO % 4294967296<4294967296 by omega) hQ1 _ _ _ (Nat.lt_succ_self _) g2.1 g2.2.1 g2.2.2.1 g2.2.2.2
  have key2:=dv1_loop (v0:=LO % 4294967296) (s:=s) rfl rfl (by rfl) ⟨y1,y2⟩ rfl rfl hU (show LO / 4294967296<4294967296 by omega) key _ _ _ (Nat.lt_succ_self _) g1.1 g1.2.1 g1.2.2.1 g1.2.2.2
  have eN:U*18446744073709551616+(LO / 4294967296*4294967296+LO % 4294967296)=(H*18446744073709551616+L)*2 ^ s:=by
   rw[Nat.add_mul,lo,←hUU,Nat.mul_right_comm H,Nat.add_mul];omega
  rw[eN,←hYY,Nat.mul_div_mul_right _ _ hp,Nat.mul_mod_mul_right]at two
  have res:dvR s ((U*4294967296+LO / 4294967296) / Y) (((U*4294967296+LO / 4294967296) % Y*4294967296+LO % 4294967296) / Y) (((U*4294967296+LO / 4294967296) % Y*4294967296+LO % 4294967296) % Y)=.tuple [U64 (((H*18446744073709551616+L) / Yn:Nat):Int),U64 (((H*18446744073709551616+L) % Yn:Nat):Int)] :=by
   unfold dvR
   rw[←hYY,two.1,two.2,Nat.mul_div_cancel _ hp]
  rw[res]at key2
  exact key2
def fDiv:Fact:=factUUU 333 fun h l y=>.req (inR h 0 (y-1)&& (okU l&&okU y)) (.leaf (.tuple [U64 ((h*18446744073709551616+l) / y),U64 ((h*18446744073709551616+l) % y)]))
theorem o_div:fDiv.ok Tryz.prog:=factUUU_ok fun h l y k=>by
 simp only[Bool.and_eq_true,inR_iff,okU]at k
 obtain⟨H,rfl⟩:=Int.eq_ofNat_of_zero_le k.1.1
 obtain⟨L,rfl⟩:=Int.eq_ofNat_of_zero_le k.2.1.1
 obtain⟨Y,rfl⟩:=Int.eq_ofNat_of_zero_le k.2.2.1
 have:=s_div (H:=H) (L:=L) (Yn:=Y) (by omega) (by omega) (by omega)
 simp at this
 exact this
def mdS(a b c:Int):SV:=if a*b / c<9223372036854775808 then .tuple [I64 (a*b / c),I64 0]else .tuple [I64 0,I64 3]
def okMD(a b c:Int):Bool:=inR a 0 9223372036854775807&& (inR b 0 9223372036854775807&&inR c 1 9223372036854775807)
theorem okMD_iff{a b c:Int}:okMD a b c=true↔(0≤a∧a≤9223372036854775807)∧(0≤b∧b≤9223372036854775807)∧1≤c∧c≤9223372036854775807:=by simp only[okMD,Bool.and_eq_true,inR_iff]
theorem mdS_yes{a b c:Int}(h:a*b / c<9223372036854775808):mdS a b c=.tuple [I64 (a*b / c),I64 0] :=if_pos h
theorem mdS_no{a b c:Int}(h:¬a*b / c<9223372036854775808):mdS a b c=.tuple [I64 0,I64 3] :=if_neg h
theorem halves{a b:Int}(ha:0≤a∧a≤9223372036854775807)(hb:0≤b∧b≤9223372036854775807):0≤a*b / 18446744073709551616∧a*b / 18446744073709551616<18446744073709551616∧a*b / 18446744073709551616*18446744073709551616+a*b % 18446744073709551616=a*b∧0≤a*b:=by
 have h0:0≤a*b:=Int.mul_nonneg ha.1 hb.1
 have h1:a*b≤9223372036854775807*9223372036854775807:=Int.mul_le_mul ha.2 hb.2 hb.1 (by omega)
 generalize a*b=x at *
 omega
theorem md_hi{x c:Int}(hx:0≤x)(hc:1≤c)(h:c≤x / 18446744073709551616):¬x / c<9223372036854775808:=by
 have h1:c*18446744073709551616≤x:=by omega
 have:18446744073709551616≤x / c:=Int.le_ediv_of_mul_le (by omega) (by omega)
 omega
theorem s_md(a b c:Int)(h:okMD a b c=true):SCall Tryz.prog 319 [I64 a,I64 b,I64 c] (mdS a b c):=
 scall_v mix [fMul,fSiz,fDiv] ⟨o_mul,o_siz,o_div,trivial⟩ 1000 (.fork .all (.fork .all (.fork (.fork .all .all) (.fork (.ln 4 (.lit .all)) (.lit (.lit (.fork (.ln 4 (.fork .all (.fork .all .all))) (.ln 5 (.fork .all .all)))))))))
  (t:=let y0:=siz a*siz b / 18446744073709551616*18446744073709551616+siz a*siz b % 18446744073709551616;let y1:Tree SV:=.node (decide (y0 % siz c>0)) (.leaf (.tuple [.int .i64 (i64.wrap (u64.wrap (0-u64.wrap (y0 / siz c+1)))),.int .i64 0])) (.leaf (.tuple [.int .i64 (i64.wrap (u64.wrap (0-y0 / siz c))),.int .i64 0]));let y2:Tree SV:=.leaf (.tuple [.int .i64 0,.int .i64 3]);.node (c==0) (.leaf (.tuple [.int .i64 0,.int .i64 4])) (.req (ok63 a) (.req (ok63 b) (.req (okU (siz a)) (.req (okU (siz b)) (.req (ok63 c) (.node (decide (siz a*siz b / 18446744073709551616≥siz c)) y2 (.req (ok63 c) (.req (inR (siz a*siz b / 18446744073709551616) 0 (siz c-1)&& (okU (siz a*siz b % 18446744073709551616)&&okU (siz c))) (.node ((!decide (a<0)==decide (b<0))==decide (c<0)) (.node (decide (y0 / siz c≥9223372036854775808)) y2 (.leaf (.tuple [.int .i64 (i64.wrap (y0 / siz c)),.int .i64 0]))) (.node (decide (y0 / siz c>9223372036854775808)) y2 (.node (y0 / siz c==9223372036854775808) (.node (decide (y0 % siz c>0)) y2 y1) y1))))))))))))
  (by kernel_rfl) (by
   have o:=okMD_iff.1 h
   obtain⟨h1,h2,h3,h4⟩:=halves o.1 o.2.1
   have sa:siz a=a:=if_neg (by omega)
   have sb:siz b=b:=if_neg (by omega)
   have sc:siz c=c:=if_neg (by omega)
   have m0:0≤a*b / c:=Int.ediv_nonneg h4 (by omega)
   have m1:a*b / c≤a*b:=Int.ediv_le_self _ h4
   have hi:=md_hi h4 o.2.2.1
   have k1:ok63 a=true:=inR_iff.2 (by omega)
   have k2:ok63 b=true:=inR_iff.2 (by omega)
   have k3:ok63 c=true:=inR_iff.2 (by omega)
   have k4:okU a=true:=inR_iff.2 (by omega)
   have k5:okU b=true:=inR_iff.2 (by omega)
   have k6:okU c=true:=inR_iff.2 (by omega)
   have k7:okU (a*b / 18446744073709551616)=true:=inR_iff.2 (by omega)
   have k8:okU (a*b % 18446744073709551616)=true:=inR_iff.2 (by omega)
   have na:decide (a<0)=false:=decide_eq_false (by omega)
   have nb:decide (b<0)=false:=decide_eq_false (by omega)
   have nc:decide (c<0)=false:=decide_eq_false (by omega)
   have n0:(c==0)=false:=by simp;omega
   simp only[Tree.holds,sa,sb,sc,h3,k1,k2,k3,k4,k5,k6,k7,k8,na,nb,nc,n0,show(false==false)=true from rfl,show(true==false)=false from rfl,show(false==true)=false from rfl,sL,ne_eq,beq_iff_eq,bne_iff_ne,eq_self,beq_eq_false_iff_ne,bne_eq_false_iff_eq,implies_true];(repeat' (first|apply And.intro|intro _));
   all_goals first
    |(rw[mdS_no (by first|omega|exact hi (by omega))];rfl)
    |(have lt:a*b / c<9223372036854775808:=by omega
      rw[mdS_yes lt,w64 (by omega) (by omega)];rfl)
    |(rw[inR_iff];omega)) (by kernel_rfl) (by unfold mdS;split<;>rfl)
def fMd:Fact:=factIII 319 fun a b c=>.req (okMD a b c) (.node (decide (a*b / c<9223372036854775808)) (.leaf (.tuple [I64 (a*b / c),I64 0])) (.leaf (.tuple [I64 0,I64 3])))
theorem o_md:fMd.ok Tryz.prog:=factIII_ok (fun a b c h=>⟨fun k=>mdS_yes (of_decide_eq_true k)▸s_md a b c h,fun k=>mdS_no (of_decide_eq_false k)▸s_md a b c h⟩)
def fStp:Fact:=factMII 135 fun m i p=>.req (inR i 0 3) (.node (stOk m p) (.leaf (.tuple [I64 (stepsN (axM m i) p),I64 0])) (.leaf (.tuple [I64 0,I64 1])))
theorem o_stp:fStp.ok Tryz.prog:=factMII_ok (fun m i p h=>by
 have h:=inR_iff.1 h
 have hi:i=0∨i=1∨i=2∨i=3:=by omega
 rcases hi with rfl|rfl|rfl|rfl
 ·exact⟨fun hk=>errI_yes hk▸s_st0 m p,fun hk=>errI_no hk▸s_st0 m p⟩
 ·exact⟨fun hk=>errI_yes hk▸s_st1 m p,fun hk=>errI_no hk▸s_st1 m p⟩
 ·exact⟨fun hk=>errI_yes hk▸s_st2 m p,fun hk=>errI_no hk▸s_st2 m p⟩
 ·exact⟨fun hk=>errI_yes hk▸s_st3 m p,fun hk=>errI_no hk▸s_st3 m p⟩)
def fUni:Fact:=factMII 192 fun m i p=>.req (inR i 0 3) (.node (unOk m p) (.leaf (.tuple [I64 (unitsN (axM m i) p),I64 0])) (.leaf (.tuple [I64 0,I64 1])))
theorem o_uni:fUni.ok Tryz.prog:=factMII_ok (fun m i p h=>by
 have h:=inR_iff.1 h
 have hi:i=0∨i=1∨i=2∨i=3:=by omega
 rcases hi with rfl|rfl|rfl|rfl
 ·exact⟨fun hk=>errI_yes hk▸s_un0 m p,fun hk=>errI_no hk▸s_un0 m p⟩
 ·exact⟨fun hk=>errI_yes hk▸s_un1 m p,fun hk=>errI_no hk▸s_un1 m p⟩
 ·exact⟨fun hk=>errI_yes hk▸s_un2 m p,fun hk=>errI_no hk▸s_un2 m p⟩
 ·exact⟨fun hk=>errI_yes hk▸s_un3 m p,fun hk=>errI_no hk▸s_un3 m p⟩)
theorem s_pos(m:Ma)(p:V4)(h:(m.ok&&near4 p)=true):SCall Tryz.prog 193 [m.sv,V4.sv p] (.tuple [V3.sv ((posV m p).1,(posV m p).2.1,(posV m p).2.2.1),I64 (posV m p).2.2.2,I64 0]):=
 scall_v mix [fUni,fFlo,fMaOk] ⟨o_uni,o_flo,o_maOk,trivial⟩ 1000 (.go (.lit (.fork (.ln 3 (.fork .all (.go (.lit (.fork (.ln 3 (.fork .all (.go (.lit (.fork (.ln 3 (.fork .all (.go (.lit (.fork (.ln 3 (.fork .all (.go (.lit (.fork (.go (.lit (.fork (.lit (.go (.lit (.fork (.lit (.go (.lit (.fork (.lit (.go (.lit (.fork (.lit (.go (.lit .all))) (.lit .all))))) (.lit .all))))) (.lit .all))))) (.lit .all)))) (.go (.lit (.fork (.lit (.go (.lit (.fork (.lit (.go (.lit (.fork (.lit (.go (.lit (.fork (.lit (.go (.lit .all))) (.lit .all))))) (.lit .all))))) (.lit .all))))) (.lit .all))))))))) (.ln 3 (.lit .all))))))) (.ln 3 (.lit .all))))))) (.ln 3 (.lit .all))))))) (.ln 3 (.lit .all)))))
  (t:=let y0:Tree SV:=.leaf (.tuple [.agg [.int .i64 0,.int .i64 0,.int .i64 0],.int .i64 0,.int .i64 1]);.req (true) (.node (decide (p.1≥-281474976710656)) (.node (!decide (p.1≤281474976710656)) y0 (.req true (.node (decide (p.2.1≥-281474976710656)) (.node (!decide (p.2.1≤281474976710656)) y0 (.req true (.node (decide (p.2.2.1≥-281474976710656)) (.node (!decide (p.2.2.1≤281474976710656)) y0 (.req true (.node (decide (p.2.2.2≥-281474976710656)) (.node (!decide (p.2.2.2≤281474976710656)) y0 (.node (m.xy) (.req true (.req (true) (.req (inR (i64.wrap (p.1+p.2.1)) (-4611686018427387904) 4611686018427387904) (.req true (.req (true) (.req (inR (i64.wrap (p.1-p.2.1)) (-4611686018427387904) 4611686018427387904) (.req true (.req (true) (.req true (.req (true) (.node (unOk m (i64.wrap (p.1+p.2.1) / 2)) (.req true (.req (true) (.req true (.node (unOk m (i64.wrap (p.1-p.2.1) / 2)) (.req true (.req (true) (.req true (.node (unOk m p.2.2.1) (.req true (.req (true) (.req true (.node (unOk m p.2.2.2) (.req true (.req (true) (.req true (.req (true) (.req true (.leaf (.tuple [.agg [.int .i64 (unitsN (axM m 0) (i64.wrap (p.1+p.2.1) / 2)),.int .i64 (unitsN (axM m 1) (i64.wrap (p.1-p.2.1) / 2)),.int .i64 (unitsN (axM m 2) p.2.2.1)],.int .i64 (unitsN (axM m 3) p.2.2.2),.int .i64 0]))))))) y0)))) y0)))) y0)))) y0))))))))))) (.req true (.req (true) (.node (unOk m p.1) (.req true (.req (true) (.req true (.node (unOk m p.2.1) (.req true (.req (true) (.req true (.node (unOk m p.2.2.1) (.req true (.req (true) (.req true (.node (unOk m p.2.2.2) (.req true (.req (true) (.req true (.req (true) (.req true (.leaf (.tuple [.agg [.int .i64 (unitsN (axM m 0) p.1),.int .i64 (unitsN (axM m 1) p.2.1),.int .i64 (unitsN (axM m 2) p.2.2.1)],.int .i64 (unitsN (axM m 3) p.2.2.2),.int .i64 0]))))))) y0)))) y0)))) y0)))) y0))))) y0))) y0))) y0))) y0))
  (by kernel_rfl) (by
   rw[Bool.and_eq_true,near4_iff]at h
   have ho:=h.1
   have n1:=w64 (x:=p.1+p.2.1) (by omega) (by omega)
   have n2:=w64 (x:=p.1-p.2.1) (by omega) (by omega)
   have d1:=ediv_rng (a:=p.1+p.2.1) (b:=2) (M:=33554432) (by omega) (by omega) (by omega)
   have d2:=ediv_rng (a:=p.1-p.2.1) (b:=2) (M:=33554432) (by omega) (by omega) (by omega)
   have u:∀n:Int,-33554432≤n∧n≤33554432→unOk m n=true:=fun n hn=>unOk_iff.2 ⟨ho,by omega⟩
   have u1:=u _ d1
   have u2:=u _ d2
   have u3:=u p.1 (by omega)
   have u4:=u p.2.1 (by omega)
   have u5:=u p.2.2.1 (by omega)
   have u6:=u p.2.2.2 (by omega)
   have ax0:axM m 0=m.x:=rfl
   have ax1:axM m 1=m.y:=rfl
   have ax2:axM m 2=m.z:=rfl
   have ax3:axM m 3=m.e:=rfl
   have i1:inR (p.1+p.2.1) (-4611686018427387904) 4611686018427387904=true:=inR_iff.2 (by omega)
   have i2:inR (p.1-p.2.1) (-4611686018427387904) 4611686018427387904=true:=inR_iff.2 (by omega)
   have q0:∀n:Int,-16777216≤n∧n≤16777216→decide (n≥-281474976710656)=true∧decide (n≤281474976710656)=true∧decide (n < -281474976710656)=false∧decide (n>281474976710656)=false:=fun n hn=>⟨decide_eq_true (by omega),decide_eq_true (by omega),decide_eq_false (by omega),decide_eq_false (by omega)⟩
   obtain⟨q1,q2,q3,q4⟩:=q0 p.1 (by omega)
   obtain⟨q5,q6,q7,q8⟩:=q0 p.2.1 (by omega)
   obtain⟨q9,qa,qb,qc⟩:=q0 p.2.2.1 (by omega)
   obtain⟨qd,qe,qf,qg⟩:=q0 p.2.2.2 (by omega)
   cases hxy:m.xy
   all_goals simp only[Tree.holds,posV,unco,V3.sv,I64,hxy,ho,n1,n2,u1,u2,u3,u4,u5,u6,ax0,ax1,ax2,ax3,i1,i2,q1,q2,q3,q4,q5,q6,q7,q8,q9,qa,qb,qc,qd,qe,qf,qg,sL,ne_eq,beq_iff_eq,bne_iff_ne,eq_self,beq_eq_false_iff_ne,bne_eq_false_iff_eq,implies_true]) (by kernel_rfl) (by kernel_rfl)
def fPos:Fact:=factMV4 193 fun m p=>.req (m.ok&&near4 p) (.leaf (.tuple [V3.sv ((posV m p).1,(posV m p).2.1,(posV m p).2.2.1),I64 (posV m p).2.2.2,I64 0]))
theorem o_pos:fPos.ok Tryz.prog:=factMV4_ok (fun m p h=>s_pos m p h)
def lst(v a b c:Int):Int:=if a*b / c<v then a*b / c else v
def factI4(f:FuncId)(h:Int→Int→Int→Int→Tree SV):Fact:=⟨f,fun args=>match args with
 |[.int .i64 a,.int .i64 b,.int .i64 c,.int .i64 d] =>some (h a b c d)
 |_=>none⟩
theorem factI4_ok{P:Program}{f:FuncId}{h:Int→Int→Int→Int→Tree SV}(k:∀a b c d,(h a b c d).says (SCall P f [I64 a,I64 b,I64 c,I64 d])):(factI4 f h).ok P:=fun args t ht=>by
 simp only[factI4]at ht
 split at ht
 ·injection ht with ht;subst ht;exact k _ _ _ _
 ·cases ht
def okB(v a b c:Int):Bool:=okMD a b c&&inR v 0 16777216
theorem okB_iff{v a b c:Int}:okB v a b c=true↔okMD a b c=true∧0≤v∧v≤16777216:=by simp only[okB,Bool.and_eq_true,inR_iff]
theorem s_szL(n:Int)(hn:inR n (-4611686018427387904) 4611686018427387904=true):SCall Tryz.prog 290 [I64 n] (I64 (sz n)):=
 scall_v mix [] trivial 1000 (.all)
  (t:=.leaf (SV.int IntKind.i64 (if i64.wrap (0-n)>n then i64.wrap (0-n)else n)))
  (by kernel_rfl) (by
   rw[inR_iff]at hn
   have e:i64.wrap (0-n)= -n:=by rw[w64 (by omega) (by omega)];omega
   simp only[Tree.holds,sL,ne_eq,beq_iff_eq,bne_iff_ne,eq_self,beq_eq_false_iff_ne,bne_eq_false_iff_eq,implies_true];(repeat' (first|apply And.intro|intro _));all_goals((try simp only[e]);refine sv_int ?_;unfold sz;(repeat' split)<;>omega)) (by kernel_rfl) (by kernel_rfl)
theorem o_szL:(fSz 290).ok Tryz.prog:=factI_ok fun n h=>s_szL n h
theorem s_bnd(a b c v:Int)(h:okB v a b c=true):SCall Tryz.prog 289 [I64 a,I64 b,I64 c,I64 v] (I64 (lst v a b c)):=
 scall_v mix [fMd] ⟨o_md,trivial⟩ 1000 (.fork (.lit (.all)) (.lit (.all)))
  (t:=.req (okMD a b c) (.node (decide (a*b / c<9223372036854775808))
 (.leaf (SV.int IntKind.i64 (if v<a*b / c then v else a*b / c)))
 (.leaf (SV.int IntKind.i64 v))))
  (by kernel_rfl) (by
   have o:=okB_iff.1 h
   have m:=okMD_iff.1 o.1
   simp only[Tree.holds,sL,ne_eq,beq_iff_eq,bne_iff_ne,eq_self,beq_eq_false_iff_ne,bne_eq_false_iff_eq,implies_true];(repeat' (first|apply And.intro|intro _));
   all_goals first
    |exact o.1
    |(refine sv_int ?_;unfold lst;(repeat' split)<;>omega)) (by kernel_rfl) (by kernel_rfl)
def fBnd:Fact:=factI4 289 fun a b c v=>.req (okB v a b c) (.leaf (I64 (lst v a b c)))
theorem o_bnd:fBnd.ok Tryz.prog:=factI4_ok fun a b c v h=>s_bnd a b c v h
def stS(n v s k:Int):Int:=if k=0 then v else lst v s n (sz k)
def acc0(m:Ma)(c:V4):Int:=stS (dom c) (stS (dom c) (stS (dom c) (stS (dom c) 16777216 m.x.accel c.1) m.y.accel c.2.1) m.z.accel c.2.2.1) m.e.accel c.2.2.2
theorem lst_nn{v a b c:Int}(h:okB v a b c=true):0≤lst v a b c∧lst v a b c≤v:=by
 have o:=okB_iff.1 h
 have m:=okMD_iff.1 o.1
 have:0≤a*b / c:=Int.ediv_nonneg (Int.mul_nonneg m.1.1 m.2.1.1) (by omega)
 unfold lst;split<;>omega
theorem lst_rng{v a b c:Int}(h:okB v a b c=true)(hc:c≤a*b)(hv:1≤v):1≤lst v a b c∧lst v a b c≤v:=by
 have o:=okB_iff.1 h
 have m:=okMD_iff.1 o.1
 have:1≤a*b / c:=Int.le_ediv_of_mul_le (by omega) (by omega)
 unfold lst;split<;>omega
theorem ax_b{v s n k:Int}(hs:1≤s∧s≤16777216)(hn:1≤n∧n≤16777216)(hv:1≤v∧v≤16777216)(hk:¬k=0)(hz:sz k≤n):okB v s n (sz k)=true∧sz k≤s*n:=by
 have:1≤sz k:=by unfold sz;split<;>omega
 have h2:1*n≤s*n:=Int.mul_le_mul_of_nonneg_right hs.1 (by omega)
 exact⟨okB_iff.2 ⟨okMD_iff.2 (by omega),by omega⟩,by omega⟩
theorem stS_rng{n v s k:Int}(hs:1≤s∧s≤16777216)(hn:1≤n∧n≤16777216)(hv:1≤v∧v≤16777216)(hz:sz k≤n):1≤stS n v s k∧stS n v s k≤v:=by
 unfold stS
 split
 ·omega
 ·rename_i hk
  obtain⟨h1,h2⟩:=ax_b hs hn hv hk hz
  exact lst_rng h1 h2 hv.1
theorem lst_st{n v s k:Int}(h:¬k=0):lst v s n (sz k)=stS n v s k:=(if_neg h).symm
theorem st_no{n v s k:Int}(h:k=0):v=stS n v s k:=(if_pos h).symm
structure Four (M:Int) (m:Ma) (c:V4) (s:Ax→Int):Prop where
 h1:∀v,1≤v∧v≤M→1≤stS (dom c) v (s m.x) c.1∧stS (dom c) v (s m.x) c.1≤M
 h2:∀v,1≤v∧v≤M→1≤stS (dom c) v (s m.y) c.2.1∧stS (dom c) v (s m.y) c.2.1≤M
 h3:∀v,1≤v∧v≤M→1≤stS (dom c) v (s m.z) c.2.2.1∧stS (dom c) v (s m.z) c.2.2.1≤M
 h4:∀v,1≤v∧v≤M→1≤stS (dom c) v (s m.e) c.2.2.2∧stS (dom c) v (s m.e) c.2.2.2≤M
 k1:∀v,1≤v∧v≤M→¬c.1=0→okB v (s m.x) (dom c) (sz c.1)=true
 k2:∀v,1≤v∧v≤M→¬c.2.1=0→okB v (s m.y) (dom c) (sz c.2.1)=true
 k3:∀v,1≤v∧v≤M→¬c.2.2.1=0→okB v (s m.z) (dom c) (sz c.2.2.1)=true
 k4:∀v,1≤v∧v≤M→¬c.2.2.2=0→okB v (s m.e) (dom c) (sz c.2.2.2)=true
theorem four{M:Int}{m:Ma}{c:V4}{s:Ax→Int}(hM:M≤16777216)(hc:okC c=true)(hs:∀a:Ax,a.ok=true→1≤s a∧s a≤16777216)(hm:m.ok=true):Four M m c s:=by
 have o:=(Ma.ok_iff m).1 hm
 have d:=mx4_bounds hc
 rw[←dom_ok hc]at d
 have n1:1≤dom c∧dom c≤16777216:=by omega
 refine⟨fun v hv=>?_,fun v hv=>?_,fun v hv=>?_,fun v hv=>?_,fun v hv k=>(ax_b (hs _ o.1) n1 (by omega) k (by omega)).1,fun v hv k=>(ax_b (hs _ o.2.1) n1 (by omega) k (by omega)).1,fun v hv k=>(ax_b (hs _ o.2.2.1) n1 (by omega) k (by omega)).1,fun v hv k=>(ax_b (hs _ o.2.2.2.1) n1 (by omega) k (by omega)).1⟩
 ·have:=stS_rng (hs _ o.1) n1 (v:=v) (by omega) (k:=c.1) (by omega);omega
 ·have:=stS_rng (hs _ o.2.1) n1 (v:=v) (by omega) (k:=c.2.1) (by omega);omega
 ·have:=stS_rng (hs _ o.2.2.1) n1 (v:=v) (by omega) (k:=c.2.2.1) (by omega);omega
 ·have:=stS_rng (hs _ o.2.2.2.1) n1 (v:=v) (by omega) (k:=c.2.2.2) (by omega);omega
theorem ax_sp(a:Ax)(h:a.ok=true):1≤a.speed∧a.speed≤16777216:=by have:=(Ax.ok_iff a).1 h;omega
theorem ax_ac(a:Ax)(h:a.ok=true):1≤a.accel∧a.accel≤16777216:=by have:=(Ax.ok_iff a).1 h;omega
theorem ax_je(a:Ax)(h:a.ok=true):1≤a.jerk∧a.jerk≤1048576:=by have:=(Ax.ok_iff a).1 h;omega
def okL(m:Ma)(c:V4):Bool:=m.ok&&okC c
theorem okL_iff{m:Ma}{c:V4}:okL m c=true↔m.ok=true∧okC c=true:=by simp only[okL,Bool.and_eq_true]
def accV(m:Ma)(c:V4):Int:=match okL m c with
 |true=>acc0 m c
 |false=>0
theorem accV_yes{m:Ma}{c:V4}(h:okL m c=true):accV m c=acc0 m c:=by unfold accV;rw[h]
theorem accV_no{m:Ma}{c:V4}(h:okL m c=false):accV m c=0:=by unfold accV;rw[h]
def stepT(n v s k:Int)(K:Int→Tree SV):Tree SV:=.req true (.node (k != 0) (.req true (.req true (.req (inR k (-4611686018427387904) 4611686018427387904) (.req (okB v s n (sz k)) (K (lst v s n (sz k))))))) (K v))
theorem stepT_holds{n v s k:Int}{K:Int→Tree SV}{L:SV→Prop}(hk:inR k (-4611686018427387904) 4611686018427387904=true)(hb:¬k=0→okB v s n (sz k)=true)(h:(K (stS n v s k)).holds L):(stepT n v s k K).holds L:=by
 refine⟨rfl,fun c=>⟨rfl,rfl,hk,hb ?_,?_⟩,fun c=>?_⟩
 ·simpa using c
 ·rw[lst_st (by simpa using c)];exact h
 ·rw[st_no (n:=n) (v:=v) (s:=s) (k:=k) (by simpa using c)];exact h
def fourT(m:Ma)(c:V4)(s:Ax→Int)(v:Int)(K:Int→Tree SV):Tree SV:=stepT (dom c) v (s m.x) c.1 fun v=>stepT (dom c) v (s m.y) c.2.1 fun v=>stepT (dom c) v (s m.z) c.2.2.1 fun v=>stepT (dom c) v (s m.e) c.2.2.2 K
def fourV(m:Ma)(c:V4)(s:Ax→Int)(v:Int):Int:=stS (dom c) (stS (dom c) (stS (dom c) (stS (dom c) v (s m.x) c.1) (s m.y) c.2.1) (s m.z) c.2.2.1) (s m.e) c.2.2.2
theorem fourT_holds{M:Int}{m:Ma}{c:V4}{s:Ax→Int}{K:Int→Tree SV}{L:SV→Prop}(f:Four M m c s)(hc:okC c=true){v:Int}(hv:1≤v∧v≤M)(h:(K (fourV m c s v)).holds L):(fourT m c s v K).holds L:=by
 have b:=(okC_iff.1 hc).1
 have v1:=f.h1 v hv
 have v2:=f.h2 _ v1
 have v3:=f.h3 _ v2
 exact stepT_holds (inR_iff.2 (by omega)) (f.k1 v hv) (stepT_holds (inR_iff.2 (by omega)) (f.k2 _ v1) (stepT_holds (inR_iff.2 (by omega)) (f.k3 _ v2) (stepT_holds (inR_iff.2 (by omega)) (f.k4 _ v3) h)))
theorem fourV_rng{M:Int}{m:Ma}{c:V4}{s:Ax→Int}(f:Four M m c s){v:Int}(hv:1≤v∧v≤M):1≤fourV m c s v∧fourV m c s v≤M:=f.h4 _ (f.h3 _ (f.h2 _ (f.h1 v hv)))
theorem s_acc(m:Ma)(c:V4):SCall Tryz.prog 260 [m.sv,V4.sv c] (I64 (accV m c)):=
 scall_v mix [fDom,fOkC,fMaOk,fBnd,fSz 290] ⟨o_dom,o_okC,o_maOk,o_bnd,o_szL,trivial⟩ 1000 (.go (.lit (.fork (.lit (.all)) (.go (.lit (.fork (.all) (.go (.lit (.fork (.go (.lit (.fork (.go (.lit (.fork (.go (.lit (.fork (.go (.lit (.all))) (.go (.lit (.all)))))) (.go (.lit (.fork (.go (.lit (.all))) (.go (.lit (.all))))))))) (.go (.lit (.fork (.go (.lit (.fork (.go (.lit (.all))) (.go (.lit (.all)))))) (.go (.lit (.fork (.go (.lit (.all))) (.go (.lit (.all)))))))))))) (.go (.lit (.fork (.go (.lit (.fork (.go (.lit (.fork (.go (.lit (.all))) (.go (.lit (.all)))))) (.go (.lit (.fork (.go (.lit (.all))) (.go (.lit (.all))))))))) (.go (.lit (.fork (.go (.lit (.fork (.go (.lit (.all))) (.go (.lit (.all)))))) (.go (.lit (.fork (.go (.lit (.all))) (.go (.lit (.all)))))))))))))))))))))
  (t:=.req true (.node (!okC c) (.leaf (I64 0)) (.node (!m.ok) (.leaf (I64 0)) (fourT m c Ax.accel 16777216 fun v=>.leaf (I64 v)))))
  (by kernel_rfl) (by
   cases hl:okL m c with
   |false=>
    have:=mt okL_iff.2 (by rw[hl];exact Bool.false_ne_true)
    simp only[Tree.holds,accV_no hl,sL,ne_eq,beq_iff_eq,bne_iff_ne,eq_self,beq_eq_false_iff_ne,bne_eq_false_iff_eq,implies_true]
    (repeat' (first|apply And.intro|intro _))<;>first|rfl|(exfalso;simp_all)
   |true=>
    obtain⟨hm,hc⟩:=okL_iff.1 hl
    simp only[Tree.holds,accV_yes hl,hm,hc,sL,ne_eq,beq_iff_eq,bne_iff_ne,eq_self,beq_eq_false_iff_ne,bne_eq_false_iff_eq,implies_true]
    exact fourT_holds (M:=16777216) (four (by omega) hc ax_ac hm) hc (by omega) rfl) (by kernel_rfl) (by kernel_rfl)
def fAcc:Fact:=factMV4 260 fun m c=>.leaf (I64 (accV m c))
theorem o_acc:fAcc.ok Tryz.prog:=factMV4_ok (s_acc)
def spdK(v n l f:Int):Int:=if 0<l∧0<f then(if lst v f n l<1 then 1 else lst v f n l)else v
def spdV(m:Ma)(c:V4)(l f:Int):Int:=match okL m c with
 |true=>spdK (fourV m c Ax.speed 1048576) (dom c) l f
 |false=>0
theorem spdV_yes{m:Ma}{c:V4}{l f:Int}(h:okL m c=true):spdV m c l f=spdK (fourV m c Ax.speed 1048576) (dom c) l f:=by unfold spdV;rw[h]
theorem spdV_no{m:Ma}{c:V4}{l f:Int}(h:okL m c=false):spdV m c l f=0:=by unfold spdV;rw[h]
theorem dom16{c:V4}(hc:okC c=true):1≤dom c∧dom c≤16777216:=⟨dom_pos hc,(dom_range c).2⟩
theorem spd_okB{v n l f:Int}(hv:1≤v∧v≤1048576)(hn:1≤n∧n≤16777216)(hl:0<l∧l≤9223372036854775807)(hf:0<f∧f≤9223372036854775807):okB v f n l=true:=okB_iff.2 ⟨okMD_iff.2 (by omega),by omega⟩
def jS(v A B x:Int):Int:=if sz x=0 then v else lst v A B (sz x)
def jd(a b:V4)(x y:Int):Int:=x*dom b-y*dom a
def junV(m:Ma)(a b:V4):Int:=match okL m a&&okC b with
 |true=>jS (jS (jS (jS 1048576 (m.x.jerk*dom a) (dom b) (jd a b a.1 b.1)) (m.y.jerk*dom a) (dom b) (jd a b a.2.1 b.2.1)) (m.z.jerk*dom a) (dom b) (jd a b a.2.2.1 b.2.2.1)) (m.e.jerk*dom a) (dom b) (jd a b a.2.2.2 b.2.2.2)
 |false=>0
theorem junV_no{m:Ma}{a b:V4}(h:(okL m a&&okC b)=false):junV m a b=0:=by unfold junV;rw[h]
theorem junV_yes{m:Ma}{a b:V4}(h:(okL m a&&okC b)=true):junV m a b=jS (jS (jS (jS 1048576 (m.x.jerk*dom a) (dom b) (jd a b a.1 b.1)) (m.y.jerk*dom a) (dom b) (jd a b a.2.1 b.2.1)) (m.z.jerk*dom a) (dom b) (jd a b a.2.2.1 b.2.2.1)) (m.e.jerk*dom a) (dom b) (jd a b a.2.2.2 b.2.2.2):=by unfold junV;rw[h]
def jT(e:Int→Bool)(x A B v:Int)(K:Int→Tree SV):Tree SV:=.req true (.req true (.req (inR x (-4611686018427387904) 4611686018427387904) (.node (e (sz x)) (.req true (.req (okB v A B (sz x)) (K (lst v A B (sz x))))) (K v))))
theorem jT_holds{e:Int→Bool}(he:∀n,0≤n→(e n=true↔¬n=0)){x A B v:Int}{K:Int→Tree SV}{L:SV→Prop}(hx:inR x (-4611686018427387904) 4611686018427387904=true)(hb:¬sz x=0→okB v A B (sz x)=true)(h:(K (jS v A B x)).holds L):(jT e x A B v K).holds L:=by
 have z:=sz_nonneg x
 refine⟨rfl,rfl,hx,fun c=>⟨rfl,hb ((he _ z).1 c),?_⟩,fun c=>?_⟩
 ·rw[show lst v A B (sz x)=jS v A B x from(if_neg ((he _ z).1 c)).symm];exact h
 ·have:sz x=0:=by
   have hn:=mt (he _ z).2 (by rw[c];exact Bool.false_ne_true)
   omega
  rw[show v=jS v A B x from(if_pos this).symm];exact h
theorem jS_rng{v A B x:Int}(hv:0≤v∧v≤1048576)(h:¬sz x=0→okB v A B (sz x)=true):0≤jS v A B x∧jS v A B x≤1048576:=by
 unfold jS
 split
 ·exact hv
 ·rename_i c
  have:=lst_nn (h c);omega
theorem jd_rng{a b:V4}{x y:Int}(hx: -16777216≤x∧x≤16777216)(hy: -16777216≤y∧y≤16777216):(-281474976710656≤x*dom b∧x*dom b≤281474976710656)∧(-281474976710656≤y*dom a∧y*dom a≤281474976710656):=by
 have h1:=mul_rng (A:=16777216) (B:=16777216) (by omega) hx (dom_range b)
 have h2:=mul_rng (A:=16777216) (B:=16777216) (by omega) hy (dom_range a)
 omega
theorem jd_wrap{a b:V4}{x y:Int}(hx: -16777216≤x∧x≤16777216)(hy: -16777216≤y∧y≤16777216):i64.wrap (i64.wrap (x*dom b)-i64.wrap (y*dom a))=jd a b x y∧inR (jd a b x y) (-4611686018427387904) 4611686018427387904=true∧sz (jd a b x y)≤562949953421312:=by
 have r:=jd_rng (a:=a) (b:=b) hx hy
 unfold jd
 rw[w64 (x:=x*dom b) (by omega) (by omega),w64 (x:=y*dom a) (by omega) (by omega),w64 (by omega) (by omega)]
 refine⟨rfl,inR_iff.2 (by omega),?_⟩
 unfold sz;split<;>omega
theorem jer_rng{j n:Int}(hj:1≤j∧j≤1048576)(hn:1≤n∧n≤16777216):0≤j*n∧j*n≤17592186044416:=by
 have h1:0≤j*n:=Int.mul_nonneg (by omega) (by omega)
 have h2:j*n≤1048576*16777216:=Int.mul_le_mul hj.2 hn.2 (by omega) (by omega)
 omega
theorem dom_mul{n k:Int}(hn:1≤n∧n≤16777216)(hk:1≤k∧k≤16777216):0≤n*k∧n*k≤281474976710656:=by
 have h1:0≤n*k:=Int.mul_nonneg (by omega) (by omega)
 have h2:n*k≤16777216*16777216:=Int.mul_le_mul hn.2 hk.2 (by omega) (by omega)
 omega
theorem s_spd(m:Ma)(c:V4)(l f:Int)(h:(ok63 l&&ok63 f)=true):SCall Tryz.prog 259 [m.sv,V4.sv c,I64 l,I64 f] (I64 (spdV m c l f)):=
 scall_v mix [fDom,fOkC,fMaOk,fBnd,fSz 290] ⟨o_dom,o_okC,o_maOk,o_bnd,o_szL,trivial⟩ 1000 (.go (.lit (.fork (.lit .all) (.go (.lit (.fork .all (.go (.lit (.fork (.go (.lit (.fork (.go (.lit (.fork (.go (.lit (.fork (.go (.lit (.fork (.lit (.lit (.fork .all .all))) (.lit (.lit (.lit .all)))))) (.go (.lit (.fork (.lit (.lit (.fork .all .all))) (.lit (.lit (.lit .all))))))))) (.go (.lit (.fork (.go (.lit (.fork (.lit (.lit (.fork .all .all))) (.lit (.lit (.lit .all)))))) (.go (.lit (.fork (.lit (.lit (.fork .all .all))) (.lit (.lit (.lit .all)))))))))))) (.go (.lit (.fork (.go (.lit (.fork (.go (.lit (.fork (.lit (.lit (.fork .all .all))) (.lit (.lit (.lit .all)))))) (.go (.lit (.fork (.lit (.lit (.fork .all .all))) (.lit (.lit (.lit .all))))))))) (.go (.lit (.fork (.go (.lit (.fork (.lit (.lit (.fork .all .all))) (.lit (.lit (.lit .all)))))) (.go (.lit (.fork (.lit (.lit (.fork .all .all))) (.lit (.lit (.lit .all))))))))))))))) (.go (.lit (.fork (.go (.lit (.fork (.go (.lit (.fork (.go (.lit (.fork (.lit (.lit (.fork .all .all))) (.lit (.lit (.lit .all)))))) (.go (.lit (.fork (.lit (.lit (.fork .all .all))) (.lit (.lit (.lit .all))))))))) (.go (.lit (.fork (.go (.lit (.fork (.lit (.lit (.fork .all .all))) (.lit (.lit (.lit .all)))))) (.go (.lit (.fork (.lit (.lit (.fork .all .all))) (.lit (.lit (.lit .all)))))))))))) (.go (.lit (.fork (.go (.lit (.fork (.go (.lit (.fork (.lit (.lit (.fork .all .all))) (.lit (.lit (.lit .all)))))) (.go (.lit (.fork (.lit (.lit (.fork .all .all))) (.lit (.lit (.lit .all))))))))) (.go (.lit (.fork (.go (.lit (.fork (.lit (.lit (.fork .all .all))) (.lit (.lit (.lit .all)))))) (.go (.lit (.fork (.lit (.lit (.fork .all .all))) (.lit (.lit (.lit .all))))))))))))))))))))))))
  (t:=.req true (.node (!okC c) (.leaf (I64 0)) (.node (!m.ok) (.leaf (I64 0)) (fourT m c Ax.speed 1048576 fun v=>.node (decide (l>0)) (.node (decide (f>0)) (.req (okB v f (dom c) l) (.leaf (I64 (if(if lst v f (dom c) l>1 then lst v f (dom c) l else 1)<v then(if lst v f (dom c) l>1 then lst v f (dom c) l else 1)else v)))) (.leaf (I64 v))) (.leaf (I64 v))))))
  (by kernel_rfl) (by
   rw[Bool.and_eq_true]at h
   have h1:=inR_iff.1 h.1
   have h2:=inR_iff.1 h.2
   cases hl:okL m c with
   |false=>
    have:=mt okL_iff.2 (by rw[hl];exact Bool.false_ne_true)
    simp only[Tree.holds,spdV_no hl,sL,ne_eq,beq_iff_eq,bne_iff_ne,eq_self,beq_eq_false_iff_ne,bne_eq_false_iff_eq,implies_true]
    (repeat' (first|apply And.intro|intro _))<;>first|rfl|(exfalso;simp_all)
   |true=>
    obtain⟨hm,hc⟩:=okL_iff.1 hl
    simp only[Tree.holds,spdV_yes hl,hm,hc,sL,ne_eq,beq_iff_eq,bne_iff_ne,eq_self,beq_eq_false_iff_ne,bne_eq_false_iff_eq,implies_true]
    have F:=four (M:=1048576) (m:=m) (c:=c) (s:=Ax.speed) (by omega) hc ax_sp hm
    have fv:=fourV_rng F (v:=1048576) (by omega)
    refine fourT_holds (M:=1048576) F hc (by omega) ?_
    unfold spdK
    generalize fourV m c Ax.speed 1048576=v at fv ⊢
    have dn:=dom16 hc
    have ob:=fun(a:0<l) (b:0<f)=>spd_okB (v:=v) (n:=dom c) (l:=l) (f:=f) (by omega) dn (by omega) (by omega)
    simp only[Tree.holds,sL,ne_eq,beq_iff_eq,bne_iff_ne,eq_self,beq_eq_false_iff_ne,bne_eq_false_iff_eq,implies_true]
    refine⟨fun a=>⟨fun b=>⟨ob a b,?_⟩,fun b=>?_⟩,fun a=>?_⟩
    ·have ln:=lst_nn (ob a b)
     rw[if_pos (show 0<l∧0<f from⟨a,b⟩)]
     refine sv_int ?_;(repeat' split)<;>omega
    ·rw[if_neg (show ¬(0<l∧0<f) by omega)]
    ·rw[if_neg (show ¬(0<l∧0<f) by omega)]) (by kernel_rfl) (by kernel_rfl)
theorem s_jun(m:Ma)(a b:V4):SCall Tryz.prog 261 [m.sv,V4.sv a,V4.sv b] (I64 (junV m a b)):=
 scall_v mix [fDom,fOkC,fMaOk,fBnd,fSz 290] ⟨o_dom,o_okC,o_maOk,o_bnd,o_szL,trivial⟩ 1000 (.go (.lit (.fork (.lit (.all)) (.go (.lit (.fork (.lit (.all)) (.go (.lit (.fork (.all) (.go (.lit (.fork (.go (.lit (.fork (.go (.lit (.fork (.go (.lit (.fork (.go (.lit (.all))) (.go (.lit (.all)))))) (.go (.lit (.fork (.go (.lit (.all))) (.go (.lit (.all))))))))) (.go (.lit (.fork (.go (.lit (.fork (.go (.lit (.all))) (.go (.lit (.all)))))) (.go (.lit (.fork (.go (.lit (.all))) (.go (.lit (.all)))))))))))) (.go (.lit (.fork (.go (.lit (.fork (.go (.lit (.fork (.go (.lit (.all))) (.go (.lit (.all)))))) (.go (.lit (.fork (.go (.lit (.all))) (.go (.lit (.all))))))))) (.go (.lit (.fork (.go (.lit (.fork (.go (.lit (.all))) (.go (.lit (.all)))))) (.go (.lit (.fork (.go (.lit (.all))) (.go (.lit (.all))))))))))))))))))))))))
  (t:=.req true (.node (!okC a) (.leaf (I64 0)) (.req true (.node (!okC b) (.leaf (I64 0)) (.node (!m.ok) (.leaf (I64 0)) (jT (fun n=>decide (n>0)) (i64.wrap (i64.wrap (a.1*dom b)-i64.wrap (b.1*dom a))) (i64.wrap (m.x.jerk*dom a)) (dom b) 1048576 (fun v=>jT (fun n=>decide (n>0)) (i64.wrap (i64.wrap (a.2.1*dom b)-i64.wrap (b.2.1*dom a))) (i64.wrap (m.y.jerk*dom a)) (dom b) v (fun v=>jT (fun n=>decide (n>0)) (i64.wrap (i64.wrap (a.2.2.1*dom b)-i64.wrap (b.2.2.1*dom a))) (i64.wrap (m.z.jerk*dom a)) (dom b) v (fun v=>jT (fun n=>decide (n>0)) (i64.wrap (i64.wrap (a.2.2.2*dom b)-i64.wrap (b.2.2.2*dom a))) (i64.wrap (m.e.jerk*dom a)) (dom b) v (fun v=>.leaf (I64 v)))))))))))
  (by kernel_rfl) (by
   cases hl:okL m a&&okC b with
   |false=>
    have hn:¬((m.ok=true∧okC a=true)∧okC b=true):=fun k=>by
     have:(okL m a&&okC b)=true:=by rw[Bool.and_eq_true];exact⟨okL_iff.2 k.1,k.2⟩
     rw[hl]at this;cases this
    simp only[Tree.holds,junV_no hl,sL,ne_eq,beq_iff_eq,bne_iff_ne,eq_self,beq_eq_false_iff_ne,bne_eq_false_iff_eq,implies_true]
    (repeat' (first|apply And.intro|intro _))<;>first|rfl|(exfalso;simp_all)
   |true=>
    have h2:=hl
    rw[Bool.and_eq_true]at h2
    obtain⟨hm,ha⟩:=okL_iff.1 h2.1
    have hb:=h2.2
    have mo:=(Ma.ok_iff m).1 hm
    have ra:=(okC_iff.1 ha).1
    have rb:=(okC_iff.1 hb).1
    have da:=dom16 ha
    have db:=dom16 hb
    have j1:=ax_je _ mo.1
    have j2:=ax_je _ mo.2.1
    have j3:=ax_je _ mo.2.2.1
    have j4:=ax_je _ mo.2.2.2.1
    obtain⟨w1,i1,z1⟩:=jd_wrap (a:=a) (b:=b) (x:=a.1) (y:=b.1) (by omega) (by omega)
    obtain⟨w2,i2,z2⟩:=jd_wrap (a:=a) (b:=b) (x:=a.2.1) (y:=b.2.1) (by omega) (by omega)
    obtain⟨w3,i3,z3⟩:=jd_wrap (a:=a) (b:=b) (x:=a.2.2.1) (y:=b.2.2.1) (by omega) (by omega)
    obtain⟨w4,i4,z4'⟩:=jd_wrap (a:=a) (b:=b) (x:=a.2.2.2) (y:=b.2.2.2) (by omega) (by omega)
    have m1:=jer_rng j1 da
    have m2:=jer_rng j2 da
    have m3:=jer_rng j3 da
    have m4:=jer_rng j4 da
    have mm:=dom_mul da db
    have ob:∀{v A B x:Int},0≤v∧v≤1048576→0≤A∧A≤17592186044416→0≤B∧B≤281474976710656→sz x≤562949953421312→¬sz x=0→okB v A B (sz x)=true:=fun {v A B x} hv hA hB hx h0=>okB_iff.2 ⟨okMD_iff.2 (by have:=sz_nonneg x;omega),by omega⟩
    rw[w1,w2,w3,w4]
    simp only[Tree.holds,junV_yes hl,hm,ha,hb,sL,ne_eq,beq_iff_eq,bne_iff_ne,eq_self,beq_eq_false_iff_ne,bne_eq_false_iff_eq,implies_true]
    rw[w64 (x:=m.x.jerk*dom a) (by omega) (by omega),w64 (x:=m.y.jerk*dom a) (by omega) (by omega),w64 (x:=m.z.jerk*dom a) (by omega) (by omega),w64 (x:=m.e.jerk*dom a) (by omega) (by omega)]
    have v0:(0:Int)≤1048576∧(1048576:Int)≤1048576:=by omega
    have b1:=ob (x:=jd a b a.1 b.1) v0 (A:=m.x.jerk*dom a) (B:=dom b) m1 (by omega) z1
    have v1:=jS_rng v0 b1
    have b2:=ob (x:=jd a b a.2.1 b.2.1) v1 (A:=m.y.jerk*dom a) (B:=dom b) m2 (by omega) z2
    have v2:=jS_rng v1 b2
    have b3:=ob (x:=jd a b a.2.2.1 b.2.2.1) v2 (A:=m.z.jerk*dom a) (B:=dom b) m3 (by omega) z3
    have v3:=jS_rng v2 b3
    have b4:=ob (x:=jd a b a.2.2.2 b.2.2.2) v3 (A:=m.e.jerk*dom a) (B:=dom b) m4 (by omega) z4'
    exact jT_holds (fun n hn=>⟨fun k=>by have:=of_decide_eq_true k;omega,fun k=>decide_eq_true (by omega)⟩) i1 b1 (jT_holds (fun n hn=>⟨fun k=>by have:=of_decide_eq_true k;omega,fun k=>decide_eq_true (by omega)⟩) i2 b2 (jT_holds (fun n hn=>⟨fun k=>by have:=of_decide_eq_true k;omega,fun k=>decide_eq_true (by omega)⟩) i3 b3 (jT_holds (fun n hn=>⟨fun k=>by have:=of_decide_eq_true k;omega,fun k=>decide_eq_true (by omega)⟩) i4 b4 rfl)))) (by kernel_rfl) (by kernel_rfl)
def factMV4II(f:FuncId)(h:Ma→V4→Int→Int→Tree SV):Fact:=⟨f,fun args=>match args with
 |[.agg [.int .i64 a0,.int .i64 a1,.int .i64 a2,.int .i64 a3,.int .i64 a4,.int .i64 a5,.int .i64 a6,.int .i64 b0,.int .i64 b1,.int .i64 b2,.int .i64 b3,.int .i64 b4,.int .i64 b5,.int .i64 b6,.int .i64 c0,.int .i64 c1,.int .i64 c2,.int .i64 c3,.int .i64 c4,.int .i64 c5,.int .i64 c6,.int .i64 d0,.int .i64 d1,.int .i64 d2,.int .i64 d3,.int .i64 d4,.int .i64 d5,.int .i64 d6,.bool xy,.int .i64 t],.agg [.int .i64 x,.int .i64 y,.int .i64 z,.int .i64 w],.int .i64 i,.int .i64 j] =>some (h ⟨⟨a0,a1,a2,a3,a4,a5,a6⟩,⟨b0,b1,b2,b3,b4,b5,b6⟩,⟨c0,c1,c2,c3,c4,c5,c6⟩,⟨d0,d1,d2,d3,d4,d5,d6⟩,xy,t⟩ (x,y,z,w) i j)
 |_=>none⟩
theorem factMV4II_ok{P:Program}{f:FuncId}{h:Ma→V4→Int→Int→Tree SV}(k:∀m v i j,(h m v i j).says (SCall P f [m.sv,V4.sv v,I64 i,I64 j])):(factMV4II f h).ok P:=fun args t ht=>by
 simp only[factMV4II]at ht
 split at ht
 ·injection ht with ht;subst ht;exact k ⟨⟨_,_,_,_,_,_,_⟩,⟨_,_,_,_,_,_,_⟩,⟨_,_,_,_,_,_,_⟩,⟨_,_,_,_,_,_,_⟩,_,_⟩ (_,_,_,_) _ _
 ·cases ht
def factMV44(f:FuncId)(h:Ma→V4→V4→Tree SV):Fact:=⟨f,fun args=>match args with
 |[.agg [.int .i64 a0,.int .i64 a1,.int .i64 a2,.int .i64 a3,.int .i64 a4,.int .i64 a5,.int .i64 a6,.int .i64 b0,.int .i64 b1,.int .i64 b2,.int .i64 b3,.int .i64 b4,.int .i64 b5,.int .i64 b6,.int .i64 c0,.int .i64 c1,.int .i64 c2,.int .i64 c3,.int .i64 c4,.int .i64 c5,.int .i64 c6,.int .i64 d0,.int .i64 d1,.int .i64 d2,.int .i64 d3,.int .i64 d4,.int .i64 d5,.int .i64 d6,.bool xy,.int .i64 t],.agg [.int .i64 x,.int .i64 y,.int .i64 z,.int .i64 w],.agg [.int .i64 x2,.int .i64 y2,.int .i64 z2,.int .i64 w2]] =>some (h ⟨⟨a0,a1,a2,a3,a4,a5,a6⟩,⟨b0,b1,b2,b3,b4,b5,b6⟩,⟨c0,c1,c2,c3,c4,c5,c6⟩,⟨d0,d1,d2,d3,d4,d5,d6⟩,xy,t⟩ (x,y,z,w) (x2,y2,z2,w2))
 |_=>none⟩
theorem factMV44_ok{P:Program}{f:FuncId}{h:Ma→V4→V4→Tree SV}(k:∀m v u,(h m v u).says (SCall P f [m.sv,V4.sv v,V4.sv u])):(factMV44 f h).ok P:=fun args t ht=>by
 simp only[factMV44]at ht
 split at ht
 ·injection ht with ht;subst ht;exact k ⟨⟨_,_,_,_,_,_,_⟩,⟨_,_,_,_,_,_,_⟩,⟨_,_,_,_,_,_,_⟩,⟨_,_,_,_,_,_,_⟩,_,_⟩ (_,_,_,_) (_,_,_,_)
 ·cases ht
def fSpd:Fact:=factMV4II 259 fun m c l f=>.req (ok63 l&&ok63 f) (.leaf (I64 (spdV m c l f)))
theorem o_spd:fSpd.ok Tryz.prog:=factMV4II_ok (fun m c l f h=>s_spd m c l f h)
def fJun:Fact:=factMV44 261 fun m a b=>.leaf (I64 (junV m a b))
theorem o_jun:fJun.ok Tryz.prog:=factMV44_ok (s_jun)
section
variable {m:Ma} {c:V4}
theorem accV_rng(h:okL m c=true):1≤accV m c∧accV m c≤16777216:=by
 obtain⟨hm,hc⟩:=okL_iff.1 h
 rw[accV_yes h]
 exact fourV_rng (four (M:=16777216) (by omega) hc ax_ac hm) (v:=16777216) (by omega)
theorem spd_top(h:okL m c=true):1≤fourV m c Ax.speed 1048576∧fourV m c Ax.speed 1048576≤1048576:=by
 obtain⟨hm,hc⟩:=okL_iff.1 h
 exact fourV_rng (four (M:=1048576) (by omega) hc ax_sp hm) (v:=1048576) (by omega)
theorem spdV_zero(h:okL m c=true):spdV m c 0 0=fourV m c Ax.speed 1048576:=by
 rw[spdV_yes h];unfold spdK;rw[if_neg (by omega)]
theorem spdV_rng(h:okL m c=true){l f:Int}(hl:l≤9223372036854775807)(hf:f≤9223372036854775807):1≤spdV m c l f∧spdV m c l f≤spdV m c 0 0∧spdV m c 0 0≤1048576:=by
 have t:=spd_top h
 have hc:=(okL_iff.1 h).2
 rw[spdV_zero h]
 refine⟨?_,?_,t.2⟩
 all_goals
  rw[spdV_yes h];unfold spdK
  split
  ·rename_i k
   have b:=spd_okB (v:=fourV m c Ax.speed 1048576) (n:=dom c) (l:=l) (f:=f) (by omega) (dom16 hc) (by omega) (by omega)
   have n:=lst_nn b
   split<;>omega
  ·omega
theorem junV_rng(m:Ma)(a b:V4):0≤junV m a b∧junV m a b≤1048576:=by
 cases hl:okL m a&&okC b with
 |false=>rw[junV_no hl];omega
 |true=>
  have h2:=hl
  rw[Bool.and_eq_true]at h2
  obtain⟨hm,ha⟩:=okL_iff.1 h2.1
  have hb:=h2.2
  have mo:=(Ma.ok_iff m).1 hm
  have ra:=(okC_iff.1 ha).1
  have rb:=(okC_iff.1 hb).1
  have da:=dom16 ha
  have db:=dom16 hb
  have j1:=ax_je _ mo.1
  have j2:=ax_je _ mo.2.1
  have j3:=ax_je _ mo.2.2.1
  have j4:=ax_je _ mo.2.2.2.1
  obtain⟨w1,i1,z1⟩:=jd_wrap (a:=a) (b:=b) (x:=a.1) (y:=b.1) (by omega) (by omega)
  obtain⟨w2,i2,z2⟩:=jd_wrap (a:=a) (b:=b) (x:=a.2.1) (y:=b.2.1) (by omega) (by omega)
  obtain⟨w3,i3,z3⟩:=jd_wrap (a:=a) (b:=b) (x:=a.2.2.1) (y:=b.2.2.1) (by omega) (by omega)
  obtain⟨w4,i4,z4'⟩:=jd_wrap (a:=a) (b:=b) (x:=a.2.2.2) (y:=b.2.2.2) (by omega) (by omega)
  have m1:=jer_rng j1 da
  have m2:=jer_rng j2 da
  have m3:=jer_rng j3 da
  have m4:=jer_rng j4 da
  have ob:∀{v A B x:Int},0≤v∧v≤1048576→0≤A∧A≤17592186044416→0≤B∧B≤281474976710656→sz x≤562949953421312→1≤B→¬sz x=0→okB v A B (sz x)=true:=fun {v A B x} hv hA hB hx _ h0=>okB_iff.2 ⟨okMD_iff.2 (by have:=sz_nonneg x;omega),by omega⟩
  rw[junV_yes hl]
  have v0:(0:Int)≤1048576∧(1048576:Int)≤1048576:=by omega
  have v1:=jS_rng v0 (ob (A:=m.x.jerk*dom a) (B:=dom b) (x:=jd a b a.1 b.1) v0 m1 (by omega) z1 db.1)
  have v2:=jS_rng v1 (ob (A:=m.y.jerk*dom a) (B:=dom b) (x:=jd a b a.2.1 b.2.1) v1 m2 (by omega) z2 db.1)
  have v3:=jS_rng v2 (ob (A:=m.z.jerk*dom a) (B:=dom b) (x:=jd a b a.2.2.1 b.2.2.1) v2 m3 (by omega) z3 db.1)
  exact jS_rng v3 (ob (A:=m.e.jerk*dom a) (B:=dom b) (x:=jd a b a.2.2.2 b.2.2.2) v3 m4 (by omega) z4' db.1)
theorem sq_rng{v M:Int}(hv:0≤v∧v≤M):0≤v*v∧v*v≤M*M:=⟨Int.mul_nonneg hv.1 hv.1,Int.mul_le_mul hv.2 hv.2 hv.1 (by omega)⟩
theorem sq_pos{v M:Int}(hv:1≤v∧v≤M):1≤v*v∧v*v≤M*M:=by
 have h1:1*1≤v*v:=Int.mul_le_mul hv.1 hv.1 (by omega) (by omega)
 exact⟨by omega,(sq_rng (v:=v) (M:=M) (by omega)).2⟩
end
end Go.Proofs.YtnkaepnblikcdaaGreat
