/-
  What the statement needs: an evaluator of the model, contracts of the functions that it reaches, and the plain law.
-/
import Derived.Test.YtnkaepnblikcdaaGreatZA6
import Derived.Test.YtnkaepnblikcdaaGreatZA3
import Derived.Laws.IdiomCopy
import Derived.Tactics
set_option maxRecDepth 100000
set_option linter.unusedVariables false
set_option linter.unusedSimpArgs false
open Go.IntKind (i64 u64)
namespace Go.Proofs.YtnkaepnblikcdaaGreat
open Go.Sx
abbrev CmdT:=Int×Int×Int×Int×Int×Int×Int×Int
abbrev OpT:=Int×Bool×CmdT×Int×Int×Int
abbrev tyOp:Ty:=.pair (.int .i64) (.pair .bool (.pair (.pair (.int .i64) (.pair (.int .i64) (.pair (.int .i64) (.pair (.int .i64) (.pair (.int .i64) (.pair (.int .i64) (.pair (.int .i64) (.int .i64)))))))) (.pair (.int .i64) (.pair (.int .i64) (.int .i64)))))
abbrev LO(l:List OpT):SV:=.list tyOp l
def dOp:OpT:=(0,false,(0,0,0,0,0,0,0,0),0,0,0)
def sm0_p:Plan:=.all
noncomputable def sm0_t(l:List OpT)(m:Int):Tree Stop:=let y0:=Ty.int IntKind.i64; .leaf (.at (loopOf Tryz.prog 17 0) 27 (slotsS 27 [(0,.list (y0.pair (Ty.bool.pair ((y0.pair (y0.pair (y0.pair (y0.pair (y0.pair (y0.pair (y0.pair y0))))))).pair (y0.pair (y0.pair y0))))) l),(1,.int .i64 m),(5,.int .i64 0)]) [])
theorem sm0(l:List OpT)(m:Int):segR (Env.of Tryz.prog (sumOf [])) 1000 (fnOf Tryz.prog 17) .unit (keepS 27 [0,1,5]) (codeS Tryz.prog 17) sm0_p (startS Tryz.prog 17 [LO l,I64 m]) [] =sm0_t l m:=by kernel_rfl
def sm1_p:Plan:=.fork (.ln 3 (.fork (.fork .all .all) .all)) (.ln 3 (.lit .all))
noncomputable def sm1_t(l:List OpT)(m i:Int):Tree Stop:=let y0:=Ty.int IntKind.i64; .node (decide (i< (↑l.length:Int))) (.node (decide (i<m)) (.req (decide (0≤i)&&decide (i< (↑l.length:Int))) (.node (decide ((l.getD i.toNat tyOp.dflt).2.2.2.1>40)) (.leaf (.done (.bool false))) (.leaf (.at (loopOf Tryz.prog 17 0) 27 (slotsS 27 [(0,.list (y0.pair (Ty.bool.pair ((y0.pair (y0.pair (y0.pair (y0.pair (y0.pair (y0.pair (y0.pair y0))))))).pair (y0.pair (y0.pair y0))))) l),(1,.int .i64 m),(5,.int .i64 (i64.wrap (i+1)))]) [])))) (.leaf (.done (.bool (decide ((↑l.length:Int)≤m)))))) (.leaf (.done (.bool (decide ((↑l.length:Int)≤m)))))
theorem sm1(l:List OpT)(m i:Int):segR (Env.of Tryz.prog (sumOf [])) 1000 (fnOf Tryz.prog 17) .unit (keepS 27 [0,1,5]) (loopOf Tryz.prog 17 0) sm1_p (slotsS 27 [(0,LO l),(1,I64 m),(5,I64 i)]) [] =sm1_t l m i:=by kernel_rfl
def opN(x:OpT):Int:=x.2.2.2.1
def opC(x:OpT):Gc.C:=⟨x.2.2.1.1,x.2.2.1.2.1,x.2.2.1.2.2.1,x.2.2.1.2.2.2.1,x.2.2.1.2.2.2.2.1,x.2.2.1.2.2.2.2.2.1,x.2.2.1.2.2.2.2.2.2.1,x.2.2.1.2.2.2.2.2.2.2⟩
def smallB(l:List OpT)(m:Int):Bool:=(l.all fun x=>decide (opN x≤40))&&decide ((l.length:Int)≤m)
theorem smallB_iff{l:List OpT}{m:Int}:smallB l m=true↔(∀i,i<l.length→opN (l.getD i dOp)≤40)∧(l.length:Int)≤m:=by
 simp only[smallB,Bool.and_eq_true,List.all_eq_true,decide_eq_true_eq]
 refine and_congr ⟨fun h i hi=>?_,fun h x hx=>?_⟩ Iff.rfl
 ·rw[List.getD_eq_getElem?_getD,List.getElem?_eq_getElem hi];exact h _ (List.getElem_mem hi)
 ·obtain⟨i,hi,rfl⟩:=List.getElem_of_mem hx
  have:=h i hi
  rw[List.getD_eq_getElem?_getD,List.getElem?_eq_getElem hi]at this;exact this
theorem k00:Known Tryz.prog (Env.of Tryz.prog (sumOf [])):=kW trivial
theorem sm_loop(l:List OpT)(m:Int)(hl:l.length≤9223372036854775807):∀ (k i:Nat),i+k=l.length→(∀t,t<i→opN (l.getD t dOp)≤40)→
  RunsR Tryz.prog (fnOf Tryz.prog 17) (.bool (smallB l m)) (loopOf Tryz.prog 17 0) (slotsS 27 [(0,LO l),(1,I64 m),(5,I64 i)]) []
 |k,i,hi,hb=>by
  refine runsR_seg k00 (n:=1000) (hint:=.unit) (keep:=keepS 27 [0,1,5]) (p:=sm1_p) rfl ?_
  erw [sm1 l m i]
  unfold sm1_t
  have t0:(i:Int).toNat=i:=by omega
  have fin:(¬(i:Int)<l.length∨¬(i:Int)<m)→SV.bool (decide ((l.length:Int)≤m))=.bool (smallB l m):=fun h=>by
   refine congrArg SV.bool (Bool.eq_iff_iff.2 ?_)
   rw[smallB_iff,decide_eq_true_eq]
   refine⟨fun a=>⟨fun t ht=>hb t (by omega),a⟩,fun a=>a.2⟩
  rw[t0]
  match k,hi with
  |0,hi=>exact n_dec (fun a=>absurd a (by omega)) fun a=>fin (.inl a)
  |k+1,hi=>
   have w1:i64.wrap ((i:Int)+1)=((i+1:Nat):Int):=by rw[w64 (by omega) (by omega)];omega
   rw[w1]
   refine n_dec (fun a=>n_dec (fun b=>n_req (by simp;omega) (n_dec (fun c=>?_) (fun c=>?_))) fun b=>fin (.inr b)) fun a=>fin (.inl a)
   ·show SV.bool false=_
    refine congrArg SV.bool (Eq.symm (Bool.eq_false_iff.2 fun h=>?_))
    have:=(smallB_iff.1 h).1 i (by omega)
    have c:opN (l.getD i dOp)>40:=c
    omega
   ·refine⟨slotsS_len _ _,sm_loop l m hl k (i+1) (by omega) fun t ht=>?_⟩
    rcases Nat.lt_or_ge t i with q|q
    ·exact hb t q
    ·obtain rfl:t=i:=by omega
     have c:¬opN (l.getD t dOp)>40:=c
     omega
theorem s_small(l:List OpT)(m:Int)(hl:l.length≤9223372036854775807):SCall Tryz.prog 17 [LO l,I64 m] (.bool (smallB l m)):=by
 refine scallR_loops rfl rfl (by kernel_rfl) (runsR_seg k00 (n:=1000) (hint:=.unit) (keep:=keepS 27 [0,1,5]) (p:=sm0_p) (boxes:=[]) rfl ?_)
 have q:=sm0 l m
 unfold startS codeS at q
 erw [q]
 unfold sm0_t
 exact⟨slotsS_len _ _,sm_loop l m hl l.length 0 (by omega) fun t ht=>absurd ht (Nat.not_lt_zero _)⟩
def lenOk(l:List OpT):Bool:=Nat.ble l.length 9223372036854775807
theorem lenOk_iff{l:List OpT}:lenOk l=true↔l.length≤9223372036854775807:=by unfold lenOk;rw[Nat.ble_eq]
def fSmall:Fact:=⟨17,fun args=>match args with
 |[.list (.pair (.int .i64) (.pair .bool (.pair (.pair (.int .i64) (.pair (.int .i64) (.pair (.int .i64) (.pair (.int .i64) (.pair (.int .i64) (.pair (.int .i64) (.pair (.int .i64) (.int .i64)))))))) (.pair (.int .i64) (.pair (.int .i64) (.int .i64)))))) l,.int .i64 m] =>some (.req (lenOk l) (.leaf (.bool (smallB l m))))
 |_=>none⟩
theorem o_small:fSmall.ok Tryz.prog:=fun args t ht=>by
 simp only[fSmall]at ht
 split at ht
 ·injection ht with ht;subst ht
  exact fun h=>s_small _ _ (lenOk_iff.1 h)
 ·cases ht
section
variable {f:Fw} {ex:Int} {cn:V4}
end
section
variable {f:Fw} {line:Int} {c:Gc.C} {ex:Int} {cn:V4}
end
section
variable {f:Fw} {r s ex:Int} {cn:V4}
end
section
variable {f:Fw} {line:Int} {c:Gc.C} {a b:Int×Int}
end
section
variable {f:Fw} {r s:Int} {a b:Int×Int}
end
def lineV(f:Fw)(b:Bool):Int:=if b=true then f.line+1 else 0
def fLine(g:FuncId):Fact:=factFw g fun f rest=>match rest with
 |[.agg [.int .i64 _,.bool b,.int .i64 _,.int .i64 _,.int .i64 _,.int .i64 _,.int .i64 _,.int .i64 _,.int .i64 _,.int .i64 _,.int .i64 _,.int .i64 _,.int .i64 _]] =>some (.req (inR f.line 0 1099511627776) (.leaf (I64 (lineV f b))))
 |_=>none
def fLine53:Fact:=fLine 26
def opL(kd:Int)(nb:Bool)(c:Gc.C)(n r s:Int):List SV:=[I64 kd,.bool nb,I64 c.code,I64 c.has,I64 c.x,I64 c.y,I64 c.z,I64 c.e,I64 c.f,I64 c.s,I64 n,I64 r,I64 s]
theorem s_line(f:Fw)(kd:Int)(nb:Bool)(c:Gc.C)(n r s:Int)(h:inR f.line 0 1099511627776=true):SCall Tryz.prog 26 [f.sv,.agg (opL kd nb c n r s)] (I64 (lineV f nb)):=
 scall_vE (hB (l:=[]) (k:=[]) (j:=[]) (i:=[]) ([] :List Nat) ([] :List Nat) ([] :List Nat) ([] :List Nat) (trivial) noneOk noneOk noneOk) 1000 (.fork (.all) (.all))
  (t:=.node (nb)
 (.leaf (SV.int IntKind.i64 (i64.wrap (f.line+1))))
 (.leaf (SV.int IntKind.i64 0)))
   (by kernel_rfl) (by
    have h:=inR_iff.1 h
    have w:i64.wrap (f.line+1)=f.line+1:=w64 (by omega) (by omega)
    rw[w]
    exact n_bool (fun a=>by subst a;rfl) (fun a=>by subst a;rfl)) (by kernel_rfl) (by kernel_rfl)
theorem o_line53:fLine53.ok Tryz.prog:=factFw_ok fun f rest t ht=>by
 split at ht
 ·injection ht with ht;subst ht
  exact fun h=>s_line f _ _ ⟨_,_,_,_,_,_,_,_⟩ _ _ _ h
 ·cases ht
section
variable {f:Fw} {r s line:Int} {c:Gc.C}
end
theorem v4beq{a b:V4}(h:a=b):(a.1==b.1&& (a.2.1==b.2.1&& (a.2.2.1==b.2.2.1&& (a.2.2.2==b.2.2.2&&true))))=true:=by subst h;simp
section
variable {kd:Int} {nb:Bool} {c:Gc.C} {n r s:Int}
end
def eqLI(a b:List Int):Bool:=decide (a=b)
def eqLB(a b:List Bk):Bool:=decide (a=b)
theorem eqLI_eq{a b:List Int}(h:eqLI a b=true):a=b:=of_decide_eq_true h
theorem eqLB_eq{a b:List Bk}(h:eqLB a b=true):a=b:=of_decide_eq_true h
def shI(a:List Int):Bool:=decide (a.length≤1000)
def shB(a:List Bk):Bool:=decide (a.length≤1000)
def fSaI:Fact:=⟨70,fun args=>match args with
 |[.list (.int .i64) a,.list (.int .i64) b] =>some (.req (eqLI a b) (.req (shI a) (.leaf (.bool true))))
 |_=>none⟩
def fSaB:Fact:=⟨69,fun args=>match args with
 |[.list (.pair (.pair (.int .i64) (.pair (.int .i64) (.pair (.int .i64) (.int .i64)))) (.pair (.int .i64) (.pair (.int .i64) (.pair (.int .i64) (.int .i64))))) a,.list (.pair (.pair (.int .i64) (.pair (.int .i64) (.pair (.int .i64) (.int .i64)))) (.pair (.int .i64) (.pair (.int .i64) (.pair (.int .i64) (.int .i64))))) b] =>some (.req (eqLB a b) (.req (shB a) (.leaf (.bool true))))
 |_=>none⟩
def sai0_p:Plan:=.fork (.all) (.all)
noncomputable def sai0_t(l:List Int):Tree Stop:= .node ((↑l.length:Int) !=(↑l.length:Int)) (.leaf (.done (.bool false))) (.leaf (.at (loopOf Tryz.prog 70 0) 26 (slotsS 26 [(0,.list (Ty.int IntKind.i64) l),(1,.list (Ty.int IntKind.i64) l),(5,.int .i64 0)]) []))
theorem sai0(l:List Int):segR (Env.of Tryz.prog (sumOf [])) 1000 (fnOf Tryz.prog 70) .unit (keepS 26 [0,1,5]) (codeS Tryz.prog 70) sai0_p (startS Tryz.prog 70 [LI l,LI l]) [] =sai0_t l:=by kernel_rfl
def sai1_p:Plan:=.fork (.fork (.all) (.all)) (.all)
noncomputable def sai1_t(l:List Int)(i:Int):Tree Stop:= .node (decide (i< (↑l.length:Int))) (.req (decide (0≤i)&&decide (i< (↑l.length:Int))) (.req (decide (0≤i)&&decide (i< (↑l.length:Int))) (.node (l.getD i.toNat 0 != l.getD i.toNat 0) (.leaf (.done (.bool false))) (.leaf (.at (loopOf Tryz.prog 70 0) 26 (slotsS 26 [(0,.list (Ty.int IntKind.i64) l),(1,.list (Ty.int IntKind.i64) l),(5,.int .i64 (i64.wrap (i+1)))]) []))))) (.leaf (.done (.bool true)))
theorem sai1(l:List Int)(i:Int):segR (Env.of Tryz.prog (sumOf [])) 1000 (fnOf Tryz.prog 70) .unit (keepS 26 [0,1,5]) (loopOf Tryz.prog 70 0) sai1_p (slotsS 26 [(0,LI l),(1,LI l),(5,I64 i)]) [] =sai1_t l i:=by kernel_rfl
def sab0_p:Plan:=.fork (.all) (.all)
noncomputable def sab0_t(l:List Bk):Tree Stop:= .node ((↑l.length:Int) !=(↑l.length:Int)) (.leaf (.done (.bool false))) (.leaf (.at (loopOf Tryz.prog 69 0) 26 (slotsS 26 [(0,.list tyBk l),(1,.list tyBk l),(5,.int .i64 0)]) []))
theorem sab0(l:List Bk):segR (Env.of Tryz.prog (sumOf [])) 1000 (fnOf Tryz.prog 69) .unit (keepS 26 [0,1,5]) (codeS Tryz.prog 69) sab0_p (startS Tryz.prog 69 [LB l,LB l]) [] =sab0_t l:=by kernel_rfl
def sab1_p:Plan:=.fork (.fork (.all) (.all)) (.all)
noncomputable def sab1_t(l:List Bk)(i:Int):Tree Stop:=let y0:=l.getD i.toNat dBk; .node (decide (i< (↑l.length:Int))) (.req (decide (0≤i)&&decide (i< (↑l.length:Int))) (.req (decide (0≤i)&&decide (i< (↑l.length:Int))) (.node (!(y0.1.1==y0.1.1&& (y0.1.2.1==y0.1.2.1&& (y0.1.2.2.1==y0.1.2.2.1&& (y0.1.2.2.2==y0.1.2.2.2&&true)))&& (y0.2.1==y0.2.1&& (y0.2.2.1==y0.2.2.1&& (y0.2.2.2.1==y0.2.2.2.1&& (y0.2.2.2.2==y0.2.2.2.2&&true)))))) (.leaf (.done (.bool false))) (.leaf (.at (loopOf Tryz.prog 69 0) 26 (slotsS 26 [(0,.list tyBk l),(1,.list tyBk l),(5,.int .i64 (i64.wrap (i+1)))]) []))))) (.leaf (.done (.bool true)))
theorem sab1(l:List Bk)(i:Int):segR (Env.of Tryz.prog (sumOf [])) 1000 (fnOf Tryz.prog 69) .unit (keepS 26 [0,1,5]) (loopOf Tryz.prog 69 0) sab1_p (slotsS 26 [(0,LB l),(1,LB l),(5,I64 i)]) [] =sab1_t l i:=by kernel_rfl
theorem n_true{α:Type}{L:α→Prop}{b:Bool}{T F:Tree α}(hb:b=true)(h:T.holds L):(Tree.node b T F).holds L:=⟨fun _=>h,fun k=>by rw[hb]at k;cases k⟩
theorem k000:Known Tryz.prog (Env.of Tryz.prog (sumOf [])):=kW trivial
theorem sai_loop(l:List Int)(hl:l.length≤4611686018427387904):∀ (k i:Nat),i+k=l.length→
  RunsR Tryz.prog (fnOf Tryz.prog 70) (.bool true) (loopOf Tryz.prog 70 0) (slotsS 26 [(0,LI l),(1,LI l),(5,I64 i)]) []
 |k,i,hi=>by
  refine runsR_seg k000 (n:=1000) (hint:=.unit) (keep:=keepS 26 [0,1,5]) (p:=sai1_p) rfl ?_
  erw [sai1 l i]
  unfold sai1_t
  have t0:(i:Int).toNat=i:=by omega
  have w1:i64.wrap ((i:Int)+1)=((i+1:Nat):Int):=by rw[w64 (by omega) (by omega)];omega
  rw[t0,w1]
  refine n_dec (fun a=>?_) fun a=>rfl
  match k,hi with
  |0,hi=>omega
  |k+1,hi=>
   exact n_req (by simp;omega) (n_req (by simp;omega) (n_ne (fun c=>absurd rfl c) fun _=>⟨slotsS_len _ _,sai_loop l hl k (i+1) (by omega)⟩))
theorem sab_loop(l:List Bk)(hl:l.length≤4611686018427387904):∀ (k i:Nat),i+k=l.length→
  RunsR Tryz.prog (fnOf Tryz.prog 69) (.bool true) (loopOf Tryz.prog 69 0) (slotsS 26 [(0,LB l),(1,LB l),(5,I64 i)]) []
 |k,i,hi=>by
  refine runsR_seg k000 (n:=1000) (hint:=.unit) (keep:=keepS 26 [0,1,5]) (p:=sab1_p) rfl ?_
  erw [sab1 l i]
  unfold sab1_t
  have t0:(i:Int).toNat=i:=by omega
  have w1:i64.wrap ((i:Int)+1)=((i+1:Nat):Int):=by rw[w64 (by omega) (by omega)];omega
  rw[t0,w1]
  refine n_dec (fun a=>?_) fun a=>rfl
  match k,hi with
  |0,hi=>omega
  |k+1,hi=>
   exact n_req (by simp;omega) (n_req (by simp;omega) ⟨fun c=>(by simp at c),fun _=>⟨slotsS_len _ _,sab_loop l hl k (i+1) (by omega)⟩⟩)
theorem s_saI(l:List Int)(hl:l.length≤4611686018427387904):SCall Tryz.prog 70 [LI l,LI l] (.bool true):=by
 refine scallR_loops rfl rfl (by kernel_rfl) (runsR_seg k000 (n:=1000) (hint:=.unit) (keep:=keepS 26 [0,1,5]) (p:=sai0_p) (boxes:=[]) rfl ?_)
 have q:=sai0 l
 unfold startS codeS at q
 erw [q]
 unfold sai0_t
 exact n_ne (fun c=>absurd rfl c) fun _=>⟨slotsS_len _ _,sai_loop l hl l.length 0 (by omega)⟩
theorem s_saB(l:List Bk)(hl:l.length≤4611686018427387904):SCall Tryz.prog 69 [LB l,LB l] (.bool true):=by
 refine scallR_loops rfl rfl (by kernel_rfl) (runsR_seg k000 (n:=1000) (hint:=.unit) (keep:=keepS 26 [0,1,5]) (p:=sab0_p) (boxes:=[]) rfl ?_)
 have q:=sab0 l
 unfold startS codeS at q
 erw [q]
 unfold sab0_t
 exact n_ne (fun c=>absurd rfl c) fun _=>⟨slotsS_len _ _,sab_loop l hl l.length 0 (by omega)⟩
theorem o_saI:fSaI.ok Tryz.prog:=fun args t ht=>by
 simp only[fSaI]at ht
 split at ht
 ·injection ht with ht;subst ht
  intro h h2
  obtain rfl:=eqLI_eq h
  exact s_saI _ (by have:=of_decide_eq_true h2;omega)
 ·cases ht
theorem o_saB:fSaB.ok Tryz.prog:=fun args t ht=>by
 simp only[fSaB]at ht
 split at ht
 ·injection ht with ht;subst ht
  intro h h2
  obtain rfl:=eqLB_eq h
  exact s_saB _ (by have:=of_decide_eq_true h2;omega)
 ·cases ht
theorem s_same(f:Fw)(h:shB f.queue=true)(k:shI f.lines=true):SCall Tryz.prog 23 [f.sv,f.sv] (.bool true):=
 scall_vE (hB (l:=[fSaI,fSaB]) (k:=[]) (j:=[]) (i:=[]) ([] :List Nat) ([] :List Nat) ([] :List Nat) ([] :List Nat) (⟨o_saI,o_saB,trivial⟩) noneOk noneOk noneOk) 1000 (let z0:Plan:=.fork (.ln 5 (.fork (.ln 5 (.fork (.ln 5 (.fork (.ln 5 (.fork (.ln 5 (.fork (.ln 5 (.fork (.ln 5 (.fork (.ln 5 (.fork (.ln 5 (.fork (.ln 18 (.lit .all)) (.ln 18 (.lit .all)))) (.ln 24 (.lit .all)))) (.ln 30 (.lit .all)))) (.ln 36 (.lit .all)))) (.ln 42 (.lit .all)))) (.ln 48 (.lit .all)))) (.ln 54 (.lit .all)))) (.ln 60 (.lit .all)))) (.ln 66 (.lit .all)))) (.ln 72 (.lit .all));let z2:Plan:=.ln 12 (.lit .all);let z1:Plan:=.fork z2 z2;.fork (.ln 5 (.fork (.ln 5 (.fork (.ln 5 (.fork (.ln 5 (.fork (.ln 5 (.fork (.ln 5 (.fork (.ln 5 (.fork (.ln 5 (.fork (.ln 5 (.fork (.ln 5 (.fork (.ln 5 (.fork (.ln 5 (.fork (.ln 5 (.fork (.ln 5 (.fork (.ln 5 (.fork (.ln 5 (.fork (.ln 5 (.fork (.ln 5 (.fork (.ln 5 (.fork (.lit (.fork (.ln 10 (.lit .all)) (.ln 10 (.lit .all)))) z2)) (.ln 5 z1))) (.ln 11 z1))) (.ln 17 z1))) (.ln 23 z1))) (.ln 29 z1))) (.ln 35 z1))) (.ln 41 z1))) (.ln 47 z1))) (.ln 53 z1))) (.ln 59 z1))) (.ln 5 z0))) (.ln 11 z0))) (.ln 17 z0))) (.ln 23 z0))) (.ln 29 z0))) (.ln 35 z0))) (.ln 41 z0))) (.ln 47 z0))) (.ln 53 z0))
  (t:=let y1:=f.g0.low==f.g0.low&& (f.g0.high==f.g0.high&& (f.g0.watch==f.g0.watch&& (f.g0.rise==f.g0.rise&& (f.g0.band==f.g0.band&& (f.g0.base==f.g0.base&& (f.g0.count==f.g0.count&& (f.g0.idle==f.g0.idle&& (f.g0.quiet==f.g0.quiet&& (f.g0.fault==f.g0.fault&& (f.g0.door==f.g0.door&&true))))))))))&& (f.g1.low==f.g1.low&& (f.g1.high==f.g1.high&& (f.g1.watch==f.g1.watch&& (f.g1.rise==f.g1.rise&& (f.g1.band==f.g1.band&& (f.g1.base==f.g1.base&& (f.g1.count==f.g1.count&& (f.g1.idle==f.g1.idle&& (f.g1.quiet==f.g1.quiet&& (f.g1.fault==f.g1.fault&& (f.g1.door==f.g1.door&&true))))))))))&&true);let y3:=f.c0.target==f.c0.target&& (f.c0.kp==f.c0.kp&& (f.c0.ki==f.c0.ki&& (f.c0.scale==f.c0.scale&& (f.c0.sum==f.c0.sum&& (f.c0.limit==f.c0.limit&&true)))))&& (f.c1.target==f.c1.target&& (f.c1.kp==f.c1.kp&& (f.c1.ki==f.c1.ki&& (f.c1.scale==f.c1.scale&& (f.c1.sum==f.c1.sum&& (f.c1.limit==f.c1.limit&&true)))))&&true);let y4:Tree SV:=.leaf (.bool false);let y2:Tree SV:=.node (f.active==f.active) y4 y4;let y5:=f.ret.1==f.ret.1&& (f.ret.2.1==f.ret.2.1&& (f.ret.2.2.1==f.ret.2.2.1&& (f.ret.2.2.2==f.ret.2.2.2&&true)));let y0:Tree SV:=.node (f.back==f.back) (.node y5 (.node (f.dwell==f.dwell) (.node (f.waits==f.waits) (.node y3 (.node y1 (.node (f.fan==f.fan) (.node (f.line==f.line) (.node (f.ticks==f.ticks) (.node (f.cold==f.cold) y4 y4) y4) y4) y4) y4) y4) y4) y4) y4) y4;.node (f.ma.x.num==f.ma.x.num&& (f.ma.x.den==f.ma.x.den&& (f.ma.x.speed==f.ma.x.speed&& (f.ma.x.accel==f.ma.x.accel&& (f.ma.x.jerk==f.ma.x.jerk&& (f.ma.x.min==f.ma.x.min&& (f.ma.x.max==f.ma.x.max&&true))))))&& (f.ma.y.num==f.ma.y.num&& (f.ma.y.den==f.ma.y.den&& (f.ma.y.speed==f.ma.y.speed&& (f.ma.y.accel==f.ma.y.accel&& (f.ma.y.jerk==f.ma.y.jerk&& (f.ma.y.min==f.ma.y.min&& (f.ma.y.max==f.ma.y.max&&true))))))&& (f.ma.z.num==f.ma.z.num&& (f.ma.z.den==f.ma.z.den&& (f.ma.z.speed==f.ma.z.speed&& (f.ma.z.accel==f.ma.z.accel&& (f.ma.z.jerk==f.ma.z.jerk&& (f.ma.z.min==f.ma.z.min&& (f.ma.z.max==f.ma.z.max&&true))))))&& (f.ma.e.num==f.ma.e.num&& (f.ma.e.den==f.ma.e.den&& (f.ma.e.speed==f.ma.e.speed&& (f.ma.e.accel==f.ma.e.accel&& (f.ma.e.jerk==f.ma.e.jerk&& (f.ma.e.min==f.ma.e.min&& (f.ma.e.max==f.ma.e.max&&true))))))&&true)))&& (f.ma.xy==f.ma.xy&& (f.ma.ticks==f.ma.ticks&&true))) (.node (f.mode==f.mode) (.node (f.homed==f.homed) (.node (f.pos.1==f.pos.1&& (f.pos.2.1==f.pos.2.1&& (f.pos.2.2.1==f.pos.2.2.1&& (f.pos.2.2.2==f.pos.2.2.2&&true)))) (.node (f.loc.1==f.loc.1&& (f.loc.2.1==f.loc.2.1&& (f.loc.2.2==f.loc.2.2&&true))) (.node (f.e==f.e) (.node (f.feed==f.feed) (.node (f.mo.1.1.1==f.mo.1.1.1&& (f.mo.1.1.2.1==f.mo.1.1.2.1&& (f.mo.1.1.2.2.1==f.mo.1.1.2.2.1&& (f.mo.1.1.2.2.2==f.mo.1.1.2.2.2&&true)))&& (f.mo.1.2.1==f.mo.1.2.1&& (f.mo.1.2.2.1==f.mo.1.2.2.1&& (f.mo.1.2.2.2.1==f.mo.1.2.2.2.1&& (f.mo.1.2.2.2.2==f.mo.1.2.2.2.2&&true))))&& (f.mo.2.1==f.mo.2.1&& (f.mo.2.2==f.mo.2.2&&true))) (.node (f.moving==f.moving) (.node (f.back==f.back) (.node y5 (.node (f.dwell==f.dwell) (.node (f.waits==f.waits) (.node y3 (.node y1 (.node (f.fan==f.fan) (.node (f.line==f.line) (.node (f.ticks==f.ticks) (.node (f.cold==f.cold) (.node (f.active==f.active) (.node (f.r0==f.r0&& (f.r1==f.r1&&true)) (.req (eqLB f.queue f.queue) (.req (shB f.queue) (.req (eqLI f.lines f.lines) (.req (shI f.lines) (.leaf (.bool true)))))) y4) y4) y2) y2) y2) y2) y2) y2) y2) y2) y2) y2) y0) y0) y0) y0) y0) y0) y0) y0) y0)
  (by kernel_rfl) (by repeat' first|refine n_true (by simp) ?_|refine n_req (by simp[eqLI,eqLB]) ?_|refine n_req h ?_|refine n_req k ?_|exact rfl) (by kernel_rfl) (by kernel_rfl)
noncomputable def eqFw(x y:Fw):Bool:=@decide (x=y) (Classical.propDecidable _)
theorem eqFw_rfl(x:Fw):eqFw x x=true:=@decide_eq_true _ (Classical.propDecidable _) rfl
theorem eqFw_eq{x y:Fw}(h:eqFw x y=true):x=y:=@of_decide_eq_true _ (Classical.propDecidable _) h
def shF(x:Fw):Bool:=shB x.queue&&shI x.lines
noncomputable def fSame:Fact:=factFw 23 fun x rest=>match rest with
 |[.agg l] =>match asFw l with
  |some y=>some (.req (eqFw x y) (.req (shF x) (.leaf (.bool true))))
  |none=>none
 |_=>none
def fWorks:Fact:=⟨18,fun args=>match args with
 |[] =>some (.leaf (.bool true))
 |_=>none⟩
theorem scall_nil2{P:Program}{f:FuncId}{cs ds:List SV}{a:SV}{v:SV}(hn:NilLs cs ds)(h:SCall P f [a,.agg ds] v):SCall P f [a,.agg cs] v:=by
 intro m w0 R0 ρ w vs hm hvs
 obtain⟨u,us,rfl,h0,u2,us2,rfl,⟨ws,h1,h2⟩,h3⟩:=hvs
 exact h m w0 R0 ρ w _ hm ⟨u,_,rfl,h0,u2,us2,rfl,⟨ws,h1,hn.rep h2⟩,h3⟩
theorem o_same:fSame.ok Tryz.prog:=factFw_ok fun x rest t ht=>by
 split at ht
 ·split at ht
  ·rename_i hy
   injection ht with ht;subst ht
   intro h k
   obtain rfl:=eqFw_eq h
   have k:=(Bool.and_eq_true _ _).mp k
   exact scall_nil2 (asFw_nil hy) (s_same _ k.1 k.2)
  ·cases ht
 ·cases ht
theorem o_works:fWorks.ok Tryz.prog:=fun args t ht=>by
 simp only[fWorks]at ht
 split at ht
 ·injection ht with ht;subst ht;exact s_works
 ·cases ht
theorem new_valid{m:Ma}{c d:Co}{g h:Gu}{cold:Int}(k:newOk m c d g h cold=true):validF (newF m c d g h cold)=true:=by
 obtain⟨k1,k2,k3,k4,k5,k6,k7,k8⟩:=newOk_iff.1 k
 refine vf_mk (partsB_iff.2 ⟨k1,k2,k3,k4,k5⟩) (by show 1≤(1:Int)∧(1:Int)≤3;omega) (numsB_iff.2 ?_) ?_ (queued_idle rfl rfl rfl rfl (show near4 z4=true by decide) (show near4 z4=true by decide)) (.inr ⟨rfl,rfl⟩)
 ·show((-16777216:Int)≤0∧(0:Int)≤16777216)∧((-16777216:Int)≤0∧(0:Int)≤16777216)∧((-16777216:Int)≤0∧(0:Int)≤16777216)∧((-16777216:Int)≤0∧(0:Int)≤16777216)∧((0:Int)≤0∧(0:Int)≤1048576)∧((0:Int)≤0∧(0:Int)≤1048576)∧((0:Int)≤0∧(0:Int)≤3)∧((0:Int)≤0∧(0:Int)≤255)∧((0:Int)≤0∧(0:Int)≤1099511627776)∧((0:Int)≤0∧(0:Int)≤1099511627776)∧((0:Int)≤0∧(0:Int)≤1099511627776)∧0≤cold∧cold≤400000
  omega
 ·rw[movesB_off rfl];exact stillB_zero rfl rfl
theorem small_at{l:List OpT}{m:Int}(h:smallB l m=true){i:Nat}(hi:i<l.length):opN (l.getD i dOp)≤40:=(smallB_iff.1 h).1 i hi
def keepN(n:Nat)(a b:List Nat):List Item→List Bool:=fun items=>match Nat.ble items.length 5 with
 |true=>keepS n a items
 |false=>keepS n b items
theorem range_snoc(m:Ma)(q:List Bk)(i:Nat):(List.range i).map (capJ m q)++[capJ m q i] =(List.range (i+1)).map (capJ m q):=by
 rw[List.range_succ,List.map_append];rfl
theorem fsCap:allOk Tryz.prog [fJunR] :=⟨o_junR,trivial⟩
theorem cp1_loop{f:Fw}(hl:f.queue.length≤100000):∀ (k i:Nat) (s:List Int),i+k=f.queue.length→1≤i→s=(List.range i).map (capJ f.ma f.queue)→
  RunsR Tryz.prog (fnOf Tryz.prog 200) (LI (capsV f.ma f.queue)) (loopOf Tryz.prog 200 0) (slotsS 38 [(1,.ptr 0 0),(3,.row 1),(4,I64 i)]) [some (.cells f.cells),some (.rows (.int .i64) s)]
 |k,i,s,hi,h1,hs=>by
  refine runsR_seg (kW fsCap) (n:=1000) (hint:=.int .i64) (keep:=keepS 38 [1,3,4]) (p:=cp1_p) rfl ?_
  erw [cp1 f s i]
  unfold cp1_t
  have t0:(i:Int).toNat=i:=by omega
  have wm:i64.wrap ((i:Int)-1)=((i-1:Nat):Int):=by rw[w64 (by omega) (by omega)];omega
  have tm:((i-1:Nat):Int).toNat=i-1:=by omega
  have w1:i64.wrap ((i:Int)+1)=((i+1:Nat):Int):=by rw[w64 (by omega) (by omega)];omega
  have jr:=junV_rng f.ma (f.queue.getD (i-1) dBk).1 (f.queue.getD i dBk).1
  match k,hi with
  |k+1,hi=>
   have hi2:(i:Int)<f.queue.length:=by omega
   have hi3:(i:Int)>0:=by omega
   have hn:s.length=i:=by rw[hs];simp
   have ih:=cp1_loop hl k (i+1) (s++[capJ f.ma f.queue i]) (by omega) (by omega) (by rw[hs];exact range_snoc _ _ _)
   rw[capJ_succ f.ma f.queue h1]at ih
   simp only[t0,wm,tm,w1,wsq jr,hi2,hi3,Tree.holds,decide_eq_true_eq,decide_eq_false_iff_not,Bool.and_eq_true,not_true_eq_false,false_implies,true_and,and_true,true_implies]
   refine⟨⟨by omega,by omega⟩,by omega,by simp[hn];omega,slotsS_len _ _,ih⟩
  |0,hi=>
   have hi2:¬((i:Int)<f.queue.length):=by omega
   have e:i=f.queue.length:=by omega
   simp only[hi2,Tree.holds,decide_eq_true_eq,decide_eq_false_iff_not,false_implies,true_and,true_implies,not_false_eq_true]
   rw[hs,e];rfl
theorem cp1a_start{f:Fw}(hl:f.queue.length≤100000):
  RunsR Tryz.prog (fnOf Tryz.prog 200) (LI (capsV f.ma f.queue)) (loopOf Tryz.prog 200 0) (slotsS 38 [(1,.ptr 0 0),(3,.nilS),(4,I64 0)]) [some (.cells f.cells)] :=by
 refine runsR_seg (kW fsCap) (n:=1000) (hint:=.int .i64) (keep:=keepS 38 [1,3,4]) (p:=cp1a_p) rfl ?_
 erw [cp1a f 0]
 unfold cp1a_t
 have w1:i64.wrap ((0:Int)+1)=((1:Nat):Int):=by decide
 by_cases hq:f.queue.length=0
 ·have hi2:¬((0:Int)<f.queue.length):=by omega
  simp only[hi2,Tree.holds,decide_eq_true_eq,decide_eq_false_iff_not,false_implies,true_and,true_implies,not_false_eq_true]
  unfold capsV;rw[hq];rfl
 ·have hi2:(0:Int)<f.queue.length:=by omega
  have hi3:¬((0:Int)>0):=by omega
  have lp:=cp1_loop hl (f.queue.length-1) 1 [0] (by omega) (by omega) rfl
  simp only[w1,hi2,hi3,Tree.holds,decide_eq_true_eq,decide_eq_false_iff_not,Bool.and_eq_true,not_true_eq_false,not_false_eq_true,false_implies,true_and,and_true,true_implies]
  exact⟨slotsS_len _ _,lp⟩
theorem s_capsR(f:Fw)(h:few2 f.queue.length=true):SCall Tryz.prog 200 [f.sv] (LI (capsV f.ma f.queue)):=by
 have hl:=few2_iff.1 h
 refine scallR_loops rfl rfl (by kernel_rfl) (runsR_seg (kW fsCap) (n:=1000) (hint:=.int .i64) (keep:=keepS 38 [1,3,4]) (p:=cp0_p) (boxes:=[]) rfl ?_)
 have q:=cp0 f
 unfold startS codeS at q
 erw [q]
 exact⟨slotsS_len _ _,cp1a_start hl⟩
def fCapsR:Fact:=factF1 200 fun f=>.req (few2 f.queue.length) (.leaf (LI (capsV f.ma f.queue)))
theorem o_capsR:fCapsR.ok Tryz.prog:=factF1_ok fun f h=>s_capsR f h
noncomputable def itemsB:List Item:=stopIt (segX (Env.ofB Tryz.prog (sumOf [fSpdR,fAccR]) (wrOf []) (pnOf []) (bxOf []) (rdOf []) (rdOf []) (rdOf []) (rdOf [10])) 1000 (fnOf Tryz.prog 114) 0 (keepS 79 []) (codeS Tryz.prog 114) .all (startS Tryz.prog 114 [fw0.sv,V4.sv z4,I64 0,I64 0]) [])
def bl0_p:Plan:=.all
noncomputable def bl0_t(f:Fw)(c:V4)(len line:Int):Tree Stop:= .req (ok63 len&&ok63 f.feed) (.req (decide (f.queue.length*64≤140737488355328)) (.req (decide (f.lines.length*8≤140737488355328)) (.req (decide ((f.queue.length+ [(c,accV f.ma c,0,i64.wrap (spdV f.ma c len f.feed*spdV f.ma c len f.feed),0)].length)*64≤140737488355328)) (.req (decide ((f.lines.length+ [line].length)*8≤140737488355328)) (.leaf (.at itemsB 79 (slotsS 79 [(4,.ptr 0 0),(8,.ptr 1 0),(11,SV.row 2)]) [some (.cells [.int .i64 f.ma.x.num,.int .i64 f.ma.x.den,.int .i64 f.ma.x.speed,.int .i64 f.ma.x.accel,.int .i64 f.ma.x.jerk,.int .i64 f.ma.x.min,.int .i64 f.ma.x.max,.int .i64 f.ma.y.num,.int .i64 f.ma.y.den,.int .i64 f.ma.y.speed,.int .i64 f.ma.y.accel,.int .i64 f.ma.y.jerk,.int .i64 f.ma.y.min,.int .i64 f.ma.y.max,.int .i64 f.ma.z.num,.int .i64 f.ma.z.den,.int .i64 f.ma.z.speed,.int .i64 f.ma.z.accel,.int .i64 f.ma.z.jerk,.int .i64 f.ma.z.min,.int .i64 f.ma.z.max,.int .i64 f.ma.e.num,.int .i64 f.ma.e.den,.int .i64 f.ma.e.speed,.int .i64 f.ma.e.accel,.int .i64 f.ma.e.jerk,.int .i64 f.ma.e.min,.int .i64 f.ma.e.max,.bool f.ma.xy,.int .i64 f.ma.ticks,.int .i64 f.mode,.bool f.homed,.int .i64 f.pos.1,.int .i64 f.pos.2.1,.int .i64 f.pos.2.2.1,.int .i64 f.pos.2.2.2,.int .i64 f.loc.1,.int .i64 f.loc.2.1,.int .i64 f.loc.2.2,.int .i64 f.e,.int .i64 f.feed,SV.row 2,SV.row 3,.int .i64 f.mo.1.1.1,.int .i64 f.mo.1.1.2.1,.int .i64 f.mo.1.1.2.2.1,.int .i64 f.mo.1.1.2.2.2,.int .i64 f.mo.1.2.1,.int .i64 f.mo.1.2.2.1,.int .i64 f.mo.1.2.2.2.1,.int .i64 f.mo.1.2.2.2.2,.int .i64 f.mo.2.1,.int .i64 f.mo.2.2,.bool f.moving,.int .i64 f.active,.bool f.back,.int .i64 f.ret.1,.int .i64 f.ret.2.1,.int .i64 f.ret.2.2.1,.int .i64 f.ret.2.2.2,.int .i64 f.dwell,.int .i64 f.waits,.int .i64 f.c0.target,.int .i64 f.c0.kp,.int .i64 f.c0.ki,.int .i64 f.c0.scale,.int .i64 f.c0.sum,.int .i64 f.c0.limit,.int .i64 f.c1.target,.int .i64 f.c1.kp,.int .i64 f.c1.ki,.int .i64 f.c1.scale,.int .i64 f.c1.sum,.int .i64 f.c1.limit,.int .i64 f.g0.low,.int .i64 f.g0.high,.int .i64 f.g0.watch,.int .i64 f.g0.rise,.int .i64 f.g0.band,.int .i64 f.g0.base,.int .i64 f.g0.count,.int .i64 f.g0.idle,.int .i64 f.g0.quiet,.int .i64 f.g0.fault,.bool f.g0.door,.int .i64 f.g1.low,.int .i64 f.g1.high,.int .i64 f.g1.watch,.int .i64 f.g1.rise,.int .i64 f.g1.band,.int .i64 f.g1.base,.int .i64 f.g1.count,.int .i64 f.g1.idle,.int .i64 f.g1.quiet,.int .i64 f.g1.fault,.bool f.g1.door,.int .i64 f.fan,.int .i64 f.line,.int .i64 f.ticks,.int .i64 f.cold,.int .i64 f.r0,.int .i64 f.r1]),some (.cells (nilC fw0)),some (.rows tyBk (f.queue++[(c,accV f.ma c,0,i64.wrap (spdV f.ma c len f.feed*spdV f.ma c len f.feed),0)])),some (.rows (Ty.int IntKind.i64) (f.lines++[line]))]))))))
theorem bl0(f:Fw)(c:V4)(len line:Int):segR (Env.ofB Tryz.prog (sumOf [fSpdR,fAccR]) (wrOf []) (pnOf []) (bxOf []) (rdOf []) (rdOf []) (rdOf []) (rdOf [10])) 1000 (fnOf Tryz.prog 114) .unit (keepS 79 [4,8,11]) (codeS Tryz.prog 114) bl0_p (startS Tryz.prog 114 [f.sv,V4.sv c,I64 len,I64 line]) [] =bl0_t f c len line:=by kernel_rfl
def bl1_p:Plan:=let z0:Plan:=.fork (.fork (.lit (.all)) (.lit (.all))) (.lit (.all));.fork z0 (.fork z0 z0)
noncomputable def bl1_t(f:Fw):Tree Stop:=let y0:Tree Stop:=.leaf (.done (.tuple [.agg (nilC fw0),.int .i64 2]));let y1:=capsV f.ma f.queue;let y2:=f.queue.getD 0 dBk; .node (f.moving) (.req (few2 f.queue.length) (.req (okPl f.queue y1 f.mo.1.2.2.2.2) (.node (decide (f.mo.1.2.2.2.2≤crL f.queue 0)) (.node (decide (gL f.queue y1 f.mo.1.2.2.2.2 0=f.mo.1.2.2.2.2)) (.leaf (.done (.tuple [.agg (Fw.cells {f with queue:=(plB f.queue (gL f.queue y1 f.mo.1.2.2.2.2))}),.int .i64 0]))) y0) y0))) (.node (decide ((↑f.queue.length:Int)>1)) (.req (decide (0< (↑f.queue.length:Int))) (.req (few2 f.queue.length) (.req (okPl f.queue y1 y2.2.2.1) (.node (decide (y2.2.2.1≤crL f.queue 0)) (.node (decide (gL f.queue y1 y2.2.2.1 0=y2.2.2.1)) (.leaf (.done (.tuple [.agg (Fw.cells {f with queue:=(plB f.queue (gL f.queue y1 y2.2.2.1))}),.int .i64 0]))) y0) y0)))) (.req (few2 f.queue.length) (.req (okPl f.queue y1 0) (.node (decide (0≤crL f.queue 0)) (.node (decide (gL f.queue y1 0 0=0)) (.leaf (.done (.tuple [.agg (Fw.cells {f with queue:=(plB f.queue (gL f.queue y1 0))}),.int .i64 0]))) y0) y0))))
theorem bl1(f:Fw):segR (Env.of Tryz.prog (sumOf [fCapsR,fPlaR])) 1000 (fnOf Tryz.prog 114) .unit (keepS 79 [4,8,11]) itemsB bl1_p (slotsS 79 [(4,.ptr 0 0),(8,.ptr 1 0),(11,LB f.queue)]) [some (.cells f.cells),some (.cells (nilC fw0)),none,none] =bl1_t f:=by kernel_rfl
end Go.Proofs.YtnkaepnblikcdaaGreat
namespace Go.Sx
open Go.RowKit
section
variable {α:Type} {Φ:α→Prop}
end
inductive Wk (nz:Bool) (boxes:List (Option Box)) (fz:List Nat):SV→SV→Prop where
 |same (x:SV):Wk nz boxes fz x x
 |top (x:SV):Wk nz boxes fz x .top
 |nil (h:nz=true):Wk nz boxes fz .nilS (.row boxes.length)
 |frz {id:Nat} {t:Ty} {l:List t.T} (hid:id∈fz) (hb:boxes[id]? =some (some (.rows t l))):Wk nz boxes fz (.row id) (.list t l)
def WkL(nz:Bool)(boxes:List (Option Box))(fz:List Nat):List SV→List SV→Prop
 |[],[] =>True
 |x::xs,y::ys=>Wk nz boxes fz x y∧WkL nz boxes fz xs ys
 |_,_=>False
def WkK(nz:Bool)(boxes:List (Option Box))(fz:List Nat):List (Nat×SV)→List (Nat×SV)→Prop
 |[],[] =>True
 |x::xs,y::ys=>x.1=y.1∧Wk nz boxes fz x.2 y.2∧WkK nz boxes fz xs ys
 |_,_=>False
inductive WkB (nz:Bool) (boxes:List (Option Box)) (fz:List Nat):Box→Box→Prop where
 |same (B:Box):WkB nz boxes fz B B
 |cells {cs ds:List SV} (h:WkL nz boxes fz cs ds):WkB nz boxes fz (.cells cs) (.cells ds)
def WkBs(nz:Bool)(boxes:List (Option Box))(fz:List Nat):Nat→List (Option Box)→List (Option Box)→Prop
 |_,[],[] =>nz=false
 |_,[],some (.rows _ [])::[] =>True
 |i,_::bs,none::bs'=>WkBs nz boxes fz (i+1) bs bs'
 |i,some B::bs,some B'::bs'=>i∉fz∧WkB nz boxes fz B B'∧WkBs nz boxes fz (i+1) bs bs'
 |_,_,_=>False
section
variable {nz:Bool} {boxes:List (Option Box)} {fz:List Nat}
theorem WkL.length:∀{l l':List SV},WkL nz boxes fz l l'→l'.length=l.length
 |[],[],_=>rfl
 |x::xs,y::ys,h=>by simp[WkL.length h.2]
theorem WkL.get:∀{l l':List SV},WkL nz boxes fz l l'→∀{i:Nat} {y:SV},l'[i]? =some y→∃x,l[i]? =some x∧Wk nz boxes fz x y
 |[],[],_,i,y,h=>by simp at h
 |x::xs,z::ys,h,0,y,hy=>by
  simp at hy;subst hy
  exact⟨x,rfl,h.1⟩
 |x::xs,z::ys,h,i+1,y,hy=>by
  simpa using WkL.get h.2 (i:=i) (y:=y) (by simpa using hy)
theorem WkK.lookup:∀{ks ks':List (Nat×SV)},WkK nz boxes fz ks ks'→∀i,Wk nz boxes fz ((ks.lookup i).getD .top) ((ks'.lookup i).getD .top)
 |[],[],_,i=>.same _
 |x::xs,y::ys,h,i=>by
  obtain⟨h1,h2,h3⟩:=h
  obtain⟨a,x⟩:=x
  obtain⟨b,y⟩:=y
  dsimp only at h1 h2
  subst h1
  simp only[List.lookup]
  cases(i==a)with
  |true=>exact h2
  |false=>exact WkK.lookup h3 i
theorem slotsS_wk{n:Nat}{ks ks':List (Nat×SV)}(h:WkK nz boxes fz ks ks'):WkL nz boxes fz (slotsS n ks) (slotsS n ks'):=by
 unfold slotsS
 induction List.range n with
 |nil=>trivial
 |cons i l ih=>exact⟨h.lookup i,ih⟩
theorem WkBs.len:∀{i:Nat} {bs bs':List (Option Box)},WkBs nz boxes fz i bs bs'→bs.length≤bs'.length
 |_,[],[],_=>Nat.le_refl _
 |_,[],some (.rows _ [])::[],_=>by simp
 |i,_::bs,none::bs',h=>by simpa using WkBs.len (i:=i+1) (bs:=bs) (bs':=bs') h
 |i,some B::bs,some B'::bs',h=>by simpa using WkBs.len (i:=i+1) h.2.2
theorem WkBs.len2(hz:nz=true):∀{i:Nat} {bs bs':List (Option Box)},WkBs nz boxes fz i bs bs'→bs.length<bs'.length
 |_,[],[],h=>by rw[show nz=false from h]at hz;cases hz
 |_,[],some (.rows _ [])::[],_=>by simp
 |i,_::bs,none::bs',h=>by simpa using WkBs.len2 hz (i:=i+1) (bs:=bs) (bs':=bs') h
 |i,some B::bs,some B'::bs',h=>by simpa using WkBs.len2 hz (i:=i+1) h.2.2
theorem WkBs.get:∀{i:Nat} {bs bs':List (Option Box)},WkBs nz boxes fz i bs bs'→∀{j:Nat} {B':Box},(bs'[j]?).join=some B'→(∃B,(bs[j]?).join=some B∧i+j∉fz∧WkB nz boxes fz B B')∨(j=bs.length∧∃t,B'=.rows t [])
 |_,[],[],_,j,B',h=>by simp at h
 |_,[],some (.rows t [])::[],_,0,B',h=>by
  simp at h;subst h
  exact .inr ⟨rfl,t,rfl⟩
 |_,[],some (.rows t [])::[],_,j+1,B',h=>by simp at h
 |i,_::bs,none::bs',h,0,B',hj=>by simp at hj
 |i,x::bs,none::bs',h,j+1,B',hj=>by
  have:=WkBs.get (i:=i+1) (bs:=bs) (bs':=bs') h (j:=j) (B':=B') (by simpa using hj)
  simpa[Nat.add_assoc,Nat.add_comm 1 j]using this
 |i,some B::bs,some C::bs',h,0,B',hj=>by
  simp at hj;subst hj
  exact .inl ⟨B,rfl,by simpa using h.1,h.2.1⟩
 |i,some B::bs,some C::bs',h,j+1,B',hj=>by
  have:=WkBs.get (i:=i+1) h.2.2 (j:=j) (B':=B') (by simpa using hj)
  simpa[Nat.add_assoc,Nat.add_comm 1 j]using this
theorem SRelD.weak{ds:List Deferred}{slots slots':List SV}{boxes':List (Option Box)}{fr fr':Fr}{m m':Mem}(hc:Canon slots boxes fr m)(hc':Canon slots' boxes' fr' m')(hs:WkL nz boxes fz slots slots')(hb:WkBs nz boxes fz 0 boxes boxes'){w0:World}{R0:RSet}{ρ:Rho}{w:World}{a:Act}(h:SRelD ds w0 R0 ρ w fr m a):
  SRelD ds w0 R0 (upd ρ boxes.length (0,0,0)) w fr' m' a∧∀b,RO w0 R0 ρ w m b→RO w0 R0 (upd ρ boxes.length (0,0,0)) w m' b:=by
 obtain⟨h1,h2,h3⟩:=h
 have hlen:=hb.len
 have hn:m.next=boxes.length:=hc.next
 have hn':m'.next=boxes'.length:=hc'.next
 -- where each box comes from
 have hg:∀id B',m'.get id=some B'→(∃B,m.get id=some B∧id≠boxes.length∧id∉fz∧WkB nz boxes fz B B')∨(id=boxes.length∧∃t,B'=.rows t []):=fun id B' hB=>by
  rw[hc'.box]at hB
  rcases hb.get hB with⟨B,k1,k2,k3⟩|k
  ·refine .inl ⟨B,by rw[hc.box];exact k1,fun e=>?_,by simpa using k2,k3⟩
   subst e
   simp at k1
  ·exact .inr k
 have hsol:∀{B B':Box} {r:Nat×Nat×Nat},WkB nz boxes fz B B'→(solid r B'↔solid r B):=fun hw=>by
  cases hw with
  |same=>exact Iff.rfl
  |cells=>exact Iff.rfl
 have hro:∀b,RO w0 R0 ρ w m b→RO w0 R0 (upd ρ boxes.length (0,0,0)) w m' b:=fun b hb2=>by
  rcases hb2 with hb2|⟨k1,k2,k3,k4⟩
  ·exact .inl hb2
  ·refine .inr ⟨k1,k2,fun id B' hB hs'=>?_,k4⟩
   rcases hg id B' hB with⟨B,g1,g2,g3,g4⟩|⟨rfl,t,rfl⟩
   ·rw[upd_other _ _ g2]at hs' ⊢
    exact k3 id B g1 ((hsol g4).1 hs')
   ·rw[upd_same]at hs';exact absurd hs' (Nat.lt_irrefl _)
 have e:Ext (RO w0 R0 ρ w m) ρ m.next w (RO w0 R0 (upd ρ boxes.length (0,0,0)) w m') (upd ρ boxes.length (0,0,0)) m'.next w:=⟨by omega,fun id hid=>upd_other _ _ (by omega),fun b hb2=>⟨hro b hb2,rfl⟩⟩
 have hval:∀ (x y:SV) (v:Value),Wk nz boxes fz x y→Rep (RO w0 R0 ρ w m) ρ m.next w x v→Rep (RO w0 R0 (upd ρ boxes.length (0,0,0)) w m') (upd ρ boxes.length (0,0,0)) m'.next w y v:=by
  intro x y v hw hr
  cases hw with
  |same=>exact Rep.mono e _ _ hr
  |top=>trivial
  |nil hz=>
   rw[show v=_ from hr]
   have hx:=hb.len2 hz
   exact⟨by omega,none,by rw[upd_same],fun h0=>by rw[upd_same]at h0;exact absurd h0 (Nat.lt_irrefl _)⟩
  |frz hid hb1=>
   rename_i id t l
   obtain⟨_,a,hu,ha⟩:=hr
   have hgid:m.get id=some (.rows t l):=by rw[hc.box,hb1];rfl
   obtain⟨b1,b2,hp⟩:=h1.box id _ hgid
   refine⟨a,(ρ id).2.2,by rw[hu,b1],b2,fun h0=>?_⟩
   have h0:0< (ρ id).2.2:=Nat.lt_of_lt_of_le h0 b2
   obtain⟨arr,el,fr,k1,k2,k3,k4⟩:=hp h0
   refine⟨(ρ id).1,0,ha h0,.inr ⟨h1.lo id _ hgid h0,h1.hi id _ hgid h0,fun id' B' hB hs' heq=>?_,h1.hid.2 id _ hgid h0⟩,fun i hi=>?_⟩
   ·rcases hg id' B' hB with⟨B,g1,g2,g3,g4⟩|⟨rfl,t,rfl⟩
    ·rw[upd_other _ _ g2]at hs' heq
     have:=h1.inj id' id B _ g1 hgid ((hsol g4).1 hs') h0 heq
     subst this
     exact g3 hid
    ·rw[upd_same]at hs';exact absurd hs' (Nat.lt_irrefl _)
   ·obtain⟨cs,c1,c2,c3⟩:=k4 i hi
    refine⟨cs,c1,fun j hj=>?_,RepD.mono e.keep _ _ _ c3⟩
    rw[cell_of_row w _ _ arr el fr k1,Nat.zero_add]
    exact c2 j hj
 have hvalL:∀ (xs ys:List SV) (vs:List Value),WkL nz boxes fz xs ys→RepL (RO w0 R0 ρ w m) ρ m.next w xs vs→RepL (RO w0 R0 (upd ρ boxes.length (0,0,0)) w m') (upd ρ boxes.length (0,0,0)) m'.next w ys vs:=by
  intro xs
  induction xs with
  |nil=>
   intro ys vs hw hr
   cases ys with
   |nil=>exact hr
   |cons _ _=>exact hw.elim
  |cons x xs ih=>
   intro ys vs hw hr
   cases ys with
   |nil=>exact hw.elim
   |cons y ys=>
    obtain⟨u,us,rfl,r1,r2⟩:=hr
    exact⟨u,us,rfl,hval x y u hw.1 r1,ih ys us hw.2 r2⟩
 refine⟨⟨⟨h1.below,fun id B' hB=>?_,fun id B' hB hs'=>?_,fun id B' hB hs'=>?_,fun id id' B' C' hB hC hs1 hs2 heq=>?_,fun id B' hB=>?_,h1.hid.1,fun id B' hB hs'=>?_⟩,⟨?_,fun t=>?_⟩,h3⟩,hro⟩
 ·rw[hn']
  rw[hc'.box]at hB
  rcases Nat.lt_or_ge id boxes'.length with k|k
  ·exact k
  ·rw[List.getElem?_eq_none k]at hB;cases hB
 ·rcases hg id B' hB with⟨B,g1,g2,g3,g4⟩|⟨rfl,t,rfl⟩
  ·rw[upd_other _ _ g2]at hs' ⊢;exact h1.lo id B g1 ((hsol g4).1 hs')
  ·rw[upd_same]at hs';exact absurd hs' (Nat.lt_irrefl _)
 ·rcases hg id B' hB with⟨B,g1,g2,g3,g4⟩|⟨rfl,t,rfl⟩
  ·rw[upd_other _ _ g2]at hs' ⊢;exact h1.hi id B g1 ((hsol g4).1 hs')
  ·rw[upd_same]at hs';exact absurd hs' (Nat.lt_irrefl _)
 ·rcases hg id B' hB with⟨B,g1,g2,g3,g4⟩|⟨rfl,t,rfl⟩
  ·rcases hg id' C' hC with⟨C,g1',g2',g3',g4'⟩|⟨rfl,t',rfl⟩
   ·rw[upd_other _ _ g2]at hs1 heq;rw[upd_other _ _ g2']at hs2 heq
    exact h1.inj id id' B C g1 g1' ((hsol g4).1 hs1) ((hsol g4').1 hs2) heq
   ·rw[upd_same]at hs2;exact absurd hs2 (Nat.lt_irrefl _)
  ·rw[upd_same]at hs1;exact absurd hs1 (Nat.lt_irrefl _)
 ·rcases hg id B' hB with⟨B,g1,g2,g3,g4⟩|⟨rfl,t,rfl⟩
  ·rw[upd_other _ _ g2]
   cases g4 with
   |same=>exact BoxRel.mono e _ (fun _=>rfl) (h1.box id _ g1)
   |cells hw=>
    obtain⟨arr,el,fr2,k1,k2,k3⟩:=h1.box id _ g1
    exact⟨arr,el,fr2,k1,k2,hvalL _ _ _ hw k3⟩
  ·rw[upd_same]
   exact⟨rfl,Nat.le_refl _,fun h0=>absurd h0 (Nat.lt_irrefl _)⟩
 ·rcases hg id B' hB with⟨B,g1,g2,g3,g4⟩|⟨rfl,t,rfl⟩
  ·rw[upd_other _ _ g2]at hs' ⊢;exact h1.hid.2 id B g1 ((hsol g4).1 hs')
  ·rw[upd_same]at hs';exact absurd hs' (Nat.lt_irrefl _)
 ·rw[hc'.size,hs.length,←hc.size];exact h2.1
 ·rw[hc'.get t,List.getD_eq_getElem?_getD]
  cases hx:slots'[t]? with
  |none=>
   have ht:slots'.length≤t:=by simpa using hx
   have:a.tmps.getD t Go.undef=Go.undef:=by
    rw[Array.getD_eq_getD_getElem?,Array.getElem?_eq_none (by rw[←h2.1,hc.size,←hs.length];exact ht)]
    rfl
   rw[this];exact rfl
  |some y=>
   obtain⟨x,hx1,hw⟩:=hs.get hx
   refine hval x y _ hw ?_
   have:=h2.2 t
   rw[hc.get t,List.getD_eq_getElem?_getD,hx1]at this
   exact this
end
theorem runsR_weak{P:Program}(nz:Bool){fn:Func}{v:SV}{items:List Item}{slots slots':List SV}{boxes boxes':List (Option Box)}(fz:List Nat)(hs:WkL nz boxes fz slots slots')(hb:WkBs nz boxes fz 0 boxes boxes')(h:RunsR P fn v items slots' boxes'):RunsR P fn v items slots boxes:=by
 intro fr m hc w0 R0 ρ w a hS b cs
 obtain⟨fr',m',hc'⟩:=Canon.of (slots:=slots') (boxes:=boxes')
 obtain⟨h1,h2⟩:=SRelD.weak hc hc' hs hb hS
 obtain⟨ρ',w',a',todo,u,q1,q2,q3,q4,q5,q6⟩:=h fr' m' hc' w0 R0 _ w a h1 b cs
 exact⟨ρ',w',a',todo,u,q1,q2,fun b hb2=>q3 b (h2 b hb2),q4,q5,q6⟩
end Go.Sx
namespace Go.Proofs.YtnkaepnblikcdaaGreat
open Go.Sx
def blockS(f:Fw)(c:V4)(len line:Int):SV:=if addOk f c len=true then .tuple [(addF f c len line).sv,I64 0]else .tuple [.agg (nilC fw0),I64 2]
theorem blockS_yes{f:Fw}{c:V4}{len line:Int}(h:addOk f c len=true):blockS f c len line=.tuple [(addF f c len line).sv,I64 0] :=if_pos h
theorem blockS_no{f:Fw}{c:V4}{len line:Int}(h:¬addOk f c len=true):blockS f c len line=.tuple [.agg (nilC fw0),I64 2] :=if_neg h
theorem blockS_data(f:Fw)(c:V4)(len line:Int):(blockS f c len line).data=true:=by unfold blockS;split<;>rfl
theorem fsBl:allOk Tryz.prog [fCapsR,fPlaR] :=⟨o_capsR,o_plaR,trivial⟩
theorem bl1_run{f:Fw}{c:V4}{len line:Int}(h:addPre f c len=true):RunsR Tryz.prog (fnOf Tryz.prog 114) (blockS f c len line) itemsB (slotsS 79 [(4,.ptr 0 0),(8,.ptr 1 0),(11,LB (addQ f c len))]) [some (.cells ({f with queue:=addQ f c len,lines:=f.lines++[line]}:Fw).cells),some (.cells (nilC fw0)),none,none] :=by
 have p:=addPre_iff.1 h
 have pl:=add_okPl h
 have ql:=addQ_len f c len
 refine runsR_seg (kW fsBl) (n:=1000) (hint:=.unit) (keep:=keepS 79 [4,8,11]) (p:=bl1_p) (blockS_data _ _ _ _) ?_
 erw [bl1 {f with queue:=addQ f c len,lines:=f.lines++[line]}]
 unfold bl1_t
 have f2:few2 (addQ f c len).length=true:=few2_iff.2 (by omega)
 have key:∀e,e=entryV f→okPl (addQ f c len) (capsV f.ma (addQ f c len)) e=true∧((e≤crL (addQ f c len) 0→(gL (addQ f c len) (capsV f.ma (addQ f c len)) e 0=e→SV.tuple [.agg (Fw.cells {f with queue:=plB (addQ f c len) (gL (addQ f c len) (capsV f.ma (addQ f c len)) e),lines:=f.lines++[line]}),.int .i64 0] =blockS f c len line)∧(¬gL (addQ f c len) (capsV f.ma (addQ f c len)) e 0=e→SV.tuple [.agg (nilC fw0),.int .i64 2] =blockS f c len line))∧(¬e≤crL (addQ f c len) 0→SV.tuple [.agg (nilC fw0),.int .i64 2] =blockS f c len line)):=fun e he=>by
  subst he
  refine⟨pl,fun a=>⟨fun b=>?_,fun b=>?_⟩,fun a=>?_⟩
  ·rw[blockS_yes (addOk_iff.2 ⟨a,b⟩)];rfl
  ·rw[blockS_no (fun o=>b (addOk_iff.1 o).2)];rfl
  ·rw[blockS_no (fun o=>a (addOk_iff.1 o).1)];rfl
 have fin:∀e,e=entryV f→∀T:Prop,T→T:=fun _ _ _ t=>t
 by_cases hm:f.moving=true
 ·have kk:=key f.mo.1.2.2.2.2 (by unfold entryV;rw[if_pos hm])
  refine⟨fun _=>⟨f2,kk.1,fun a=>⟨fun b=>(kk.2.1 (of_decide_eq_true a)).1 (of_decide_eq_true b),fun b=>(kk.2.1 (of_decide_eq_true a)).2 (of_decide_eq_false b)⟩,fun a=>kk.2.2 (of_decide_eq_false a)⟩,fun k=>absurd hm (by rw[show f.moving=false from k];exact Bool.false_ne_true)⟩
 ·refine⟨fun k=>absurd k hm,fun _=>⟨fun l=>?_,fun l=>?_⟩⟩
  ·have l:((addQ f c len).length:Int)>1:=of_decide_eq_true l
   have g0:(addQ f c len).getD 0 dBk=f.queue.getD 0 dBk:=by
    unfold addQ
    rw[List.getD_eq_getElem?_getD,List.getElem?_append_left (by omega),←List.getD_eq_getElem?_getD]
   have kk:=key ((addQ f c len).getD 0 dBk).2.2.1 (by unfold entryV;rw[if_neg hm,if_neg (by omega),g0])
   refine⟨decide_eq_true (by show(0:Int)< (addQ f c len).length;omega),f2,kk.1,fun a=>⟨fun b=>(kk.2.1 (of_decide_eq_true a)).1 (of_decide_eq_true b),fun b=>(kk.2.1 (of_decide_eq_true a)).2 (of_decide_eq_false b)⟩,fun a=>kk.2.2 (of_decide_eq_false a)⟩
  ·have l:¬((addQ f c len).length:Int)>1:=of_decide_eq_false l
   have kk:=key 0 (by unfold entryV;rw[if_neg hm,if_pos (by omega)])
   exact⟨f2,kk.1,fun a=>⟨fun b=>(kk.2.1 (of_decide_eq_true a)).1 (of_decide_eq_true b),fun b=>(kk.2.1 (of_decide_eq_true a)).2 (of_decide_eq_false b)⟩,fun a=>kk.2.2 (of_decide_eq_false a)⟩
theorem kBl:Known Tryz.prog (Env.ofB Tryz.prog (sumOf [fSpdR,fAccR]) (wrOf []) (pnOf []) (bxOf []) (rdOf []) (rdOf []) (rdOf []) (rdOf [10])):=
 hB (l:=[fSpdR,fAccR]) (k:=[]) (j:=[]) (i:=[]) [] [] [] [10] ⟨o_spdR,o_accR,trivial⟩ noneOk noneOk noneOk
theorem s_block(f:Fw)(c:V4)(len line:Int)(h:addPre f c len=true):SCall Tryz.prog 114 [f.sv,V4.sv c,I64 len,I64 line] (blockS f c len line):=by
 have p:=addPre_iff.1 h
 have sr:=spdV_rng p.1 (l:=len) (f:=f.feed) (ok63_iff.1 p.2.1).2 (ok63_iff.1 p.2.2.1).2
 have w:=wsq (v:=spdV f.ma c len f.feed) (by omega)
 refine scallR_loops rfl (blockS_data _ _ _ _) (by kernel_rfl) (runsR_seg kBl (n:=1000) (hint:=.unit) (keep:=keepS 79 [4,8,11]) (p:=bl0_p) (boxes:=[]) (blockS_data _ _ _ _) ?_)
 have q:=bl0 f c len line
 unfold startS codeS at q
 erw [q]
 unfold bl0_t
 rw[w]
 simp only[Tree.holds,Bool.and_eq_true,decide_eq_true_eq]
 refine⟨⟨p.2.1,p.2.2.1⟩,by omega,by omega,by simp;omega,by simp;omega,slotsS_len _ _,?_⟩
 refine runsR_weak false [2,3] (slots':=slotsS 79 [(4,.ptr 0 0),(8,.ptr 1 0),(11,LB (addQ f c len))]) (boxes':=[some (.cells ({f with queue:=addQ f c len,lines:=f.lines++[line]}:Fw).cells),some (.cells (nilC fw0)),none,none])
  (slotsS_wk ⟨rfl,.same _,rfl,.same _,rfl,.frz (by simp) rfl,trivial⟩) ⟨by simp,.cells ?_,by simp,.same _,rfl⟩ (bl1_run h)
 repeat(first|exact trivial|refine⟨.same _,?_⟩|refine⟨.frz (by simp) rfl,?_⟩)
def fBlock:Fact:=factFw 114 fun f rest=>match rest with
 |[.agg [.int .i64 a,.int .i64 b,.int .i64 c,.int .i64 d],.int .i64 len,.int .i64 line] =>some (.req (addPre f (a,b,c,d) len) (.node (addOk f (a,b,c,d) len) (.leaf (.tuple [(addF f (a,b,c,d) len line).sv,I64 0])) (.leaf (.tuple [.agg (nilC fw0),I64 2]))))
 |_=>none
theorem o_block:fBlock.ok Tryz.prog:=factFw_ok fun f rest t ht=>by
 split at ht
 ·rename_i a b c d len line
  injection ht with ht;subst ht
  intro h
  have k:=s_block f (a,b,c,d) len line h
  refine⟨fun o=>?_,fun o=>?_⟩
  ·rw[blockS_yes o]at k;exact k
  ·rw[blockS_no (by rw[o];exact Bool.false_ne_true)]at k;exact k
 ·cases ht
def mvW(f g:Fw)(c:Gc.C):V4:=wsub4 (motV f.ma (tgtV f c) (tgtE f c)) (goal4 g)
def mvL(f:Fw)(c:Gc.C):Int:=lenD f.loc (tgtV f c) (i64.wrap (tgtE f c-f.e))
def mvTail(f g:Fw)(line:Int)(c:Gc.C):Tree SV:=
 .req (movesB g&&queuedB g) (.node (!((mvW f g c).1==0&& ((mvW f g c).2.1==0&& ((mvW f g c).2.2.1==0&& ((mvW f g c).2.2.2==0&&true)))))
  (.node (decide ((f.queue.length:Int)≥32)) (.leaf (.tuple [.agg (nilC fw0),I64 18]))
    (.req (inV f.loc) (.req (inV (tgtV f c)) (.req (inE (i64.wrap (tgtE f c-f.e))) (.req (addPre g (mvW f g c) (mvL f c)) (.node (addOk g (mvW f g c) (mvL f c))
      (.leaf (.tuple [.agg (Fw.cells {addF g (mvW f g c) (mvL f c) line with loc:=tgtV f c,e:=tgtE f c}),I64 0])) (.leaf (.tuple [.agg (nilC fw0),I64 2]))))))))
  (.leaf (.tuple [.agg (Fw.cells {g with loc:=tgtV f c,e:=tgtE f c}),I64 0])))
def mvRest(f:Fw)(line:Int)(c:Gc.C):Tree SV:=
 .node (!near4 (motV f.ma (tgtV f c) (tgtE f c))) (.leaf (.tuple [.agg (nilC fw0),I64 2]))
  (.req (movesB f&&queuedB f) (.node (!near4 (wsub4 (motV f.ma (tgtV f c) (tgtE f c)) (goal4 f))) (.leaf (.tuple [.agg (nilC fw0),I64 2]))
    (.node (i64.wrap ((BitVec.ofInt 64 c.has &&&BitVec.ofInt 64 16).toNat:Int) != 0) (mvTail f {f with feed:=c.f} line c) (mvTail f f line c))))
section
variable {f g:Fw} {line:Int} {c:Gc.C}
theorem mv_tail(v:VF f)(hc:c.valid=true)(ki:insB f.ma (tgtV f c)=true)(km:motOk f.ma (tgtV f c) (tgtE f c)=true)(hg:feedF f c=g)(e:moveA f line c=tlE g (tgtV f c) (tgtE f c) (moveP f c) (moveD f c))(n1:near4 (moveP f c)=true)(n2:near4 (moveD f c)=true):
  (mvTail f g line c).holds fun x=>x=resT (moveA f line c) (moveF f line c):=by
 have mq:(movesB g&&queuedB g)=true:=by
  rw[←hg,show movesB (feedF f c)=movesB f by unfold feedF;split<;>rfl,show queuedB (feedF f c)=queuedB f by unfold feedF;split<;>rfl,v.moves,v.queued];rfl
 have gg:goal4 g=goal4 f:=by rw[←hg];unfold feedF;split<;>rfl
 have w:mvW f g c=moveD f c:=by unfold mvW;rw[gg];exact wsub4_eq (motV_big km) (near_big v.goal)
 have gl:g.loc=f.loc∧g.e=f.e∧g.queue=f.queue:=by rw[←hg];unfold feedF;split<;>exact⟨rfl,rfl,rfl⟩
 have nn:=v.nums
 have me:=(stOk_iff.1 (motOk_iff.1 km).2.2.2).2
 have dw:i64.wrap (tgtE f c-f.e)=tgtE f c-f.e:=w64 (by omega) (by omega)
 have l:mvL f c=lenM g (tgtV f c) (tgtE f c):=by unfold mvL;rw[lenM_D,gl.1,gl.2.1,dw]
 have nd:(near4 (moveP f c)&&near4 (moveD f c))=true:=by rw[n1,n2];rfl
 have mF:moveF f line c=tlF g line (tgtV f c) (tgtE f c) (moveD f c):=by unfold moveF;rw[hg]
 unfold mvTail
 rw[w,l,dw,nzT]
 refine n_req mq (n_bool (fun z=>n_dec (fun q=>?_) fun q=>?_) fun z=>?_)
 ·exact resT_err (e.trans (tlE_full nd z (by rw[gl.2.2];omega))) (by decide)
 ·have q:¬32≤g.queue.length:=by rw[gl.2.2];omega
  have p:=mv_pre v hc ki km n2 z
  rw[hg]at p
  have lp:=lenPre_iff.1 p.1
  refine n_req (by rw[←gl.1];exact lp.1) (n_req lp.2.1 (n_req (inR_iff.2 (by omega)) (n_req p.2 (n_bool (fun o=>?_) fun o=>?_))))
  ·exact resT_ok (e.trans (tlE_ok nd z q o)) (by rw[mF,tlF_yes z])
  ·exact resT_err (e.trans (tlE_no nd z q (by rw[o];exact Bool.false_ne_true))) (by decide)
 ·exact resT_ok (e.trans (tlE_nz nd z)) (by rw[mF,tlF_no z])
theorem mv_rest(v:VF f)(hc:c.valid=true)(ki:insB f.ma (tgtV f c)=true)(km:motOk f.ma (tgtV f c) (tgtE f c)=true)(e:moveA f line c=tlE (feedF f c) (tgtV f c) (tgtE f c) (moveP f c) (moveD f c)):
  (mvRest f line c).holds fun x=>x=resT (moveA f line c) (moveF f line c):=by
 have mq:(movesB f&&queuedB f)=true:=by rw[v.moves,v.queued];rfl
 have w:wsub4 (motV f.ma (tgtV f c) (tgtE f c)) (goal4 f)=moveD f c:=wsub4_eq (motV_big km) (near_big v.goal)
 unfold mvRest
 rw[w]
 refine n_not (fun a=>?_) fun a=>n_req mq (n_not (fun b=>?_) fun b=>?_)
 ·exact resT_err (e.trans (tlE_far (by show(near4 (moveP f c)&&_)=false;rw[show near4 (moveP f c)=false from a];rfl))) (by decide)
 ·exact resT_err (e.trans (tlE_far (by rw[b,Bool.and_false]))) (by decide)
 ·refine n_ne (fun q=>?_) fun q=>?_
  ·have hf:feedF f c={f with feed:=c.f}:=feedF_yes (hasW_iff.2 q)
   rw[hf]at e
   exact mv_tail v hc ki km hf e a b
  ·have hf:feedF f c=f:=feedF_no (fun k=>hasW_iff.1 k q)
   rw[hf]at e
   exact mv_tail v hc ki km hf e a b
end
theorem s_moveR(f:Fw)(line:Int)(c:Gc.C)(h:validF f=true)(hc:c.valid=true)(hl:0≤line):SCall Tryz.prog 221 [f.sv,I64 line,c.sv] (resT (moveA f line c) (moveF f line c)):=
 scall_vE (hB (l:=[fTgtR,fMotR,fInsR,fNearR,fMnsR,fGoalR,fLengR,fBlock]) (k:=[]) (j:=[]) (i:=[]) ([] :List Nat) ([] :List Nat) ([] :List Nat) ([] :List Nat) (⟨o_tgtR,o_motR,o_insR,o_nearR,o_mnsR,o_goalR,o_lengR,o_block,trivial⟩) noneOk noneOk noneOk) 1000 (let z1:Plan:=.fork (.fork .all (.fork (.lit .all) (.lit .all))) .all;let z0:Plan:=.fork (.ln 6 (.lit .all)) (.ln 6 (.fork .all (.fork z1 z1)));let z2:Plan:=.lit (.lit (.lit .all));.fork (.ln 10 (.lit .all)) (.ln 3 (.fork (.ln 6 (.lit .all)) (.lit (.lit (.fork (.ln 3 (.lit .all)) (.ln 3 (.fork .all (.fork (.fork z2 (.ln 3 (.fork (.ln 6 (.fork .all z0)) (.ln 7 z0)))) (.fork z2 z2))))))))))
  (t:=let y4:=((tgtV f c).1,(tgtV f c).2);let y1:=motV f.ma y4 (tgtE f c);let y5:Tree SV:=.leaf (.tuple [.agg (nilC fw0),.int .i64 14]);let y6:Tree SV:=.leaf (.tuple [.agg (nilC fw0),.int .i64 2]);let y7:=wsub4 y1 (goal4 f);let y8:={f with feed:=c.f};let y3:=wsub4 y1 (goal4 y8);let y9:Tree SV:=.leaf (.tuple [.agg (nilC fw0),.int .i64 8]);let y10:=i64.wrap (tgtE f c-f.e);let y2:=lenD f.loc y4 y10;let y0:Tree SV:=.node (!near4 y1) y6 (.req (movesB f&&queuedB f) (.node (!near4 y7) y6 (.node (i64.wrap (↑(BitVec.ofInt 64 c.has &&&BitVec.ofInt 64 16).toNat:Int) != 0) (.req (movesB y8&&queuedB y8) (.node (!(y3.1==0&& (y3.2.1==0&& (y3.2.2.1==0&& (y3.2.2.2==0&&true))))) (.node (decide ((↑f.queue.length:Int)≥32)) (.leaf (.tuple [.agg (nilC fw0),.int .i64 18])) (.req (inV f.loc) (.req (inV y4) (.req (inE y10) (.req (addPre y8 y3 y2) (.node (addOk y8 y3 y2) (.leaf (.tuple [.agg (Fw.cells { (addF y8 y3 y2 line)with loc:=(tgtV f c),e:=(tgtE f c)}),.int .i64 0])) y6)))))) (.leaf (.tuple [.agg (Fw.cells {f with loc:=(tgtV f c),e:=(tgtE f c),feed:=c.f}),.int .i64 0])))) (.req (movesB f&&queuedB f) (.node (!(y7.1==0&& (y7.2.1==0&& (y7.2.2.1==0&& (y7.2.2.2==0&&true))))) (.node (decide ((↑f.queue.length:Int)≥32)) (.leaf (.tuple [.agg (nilC fw0),.int .i64 18])) (.req (inV f.loc) (.req (inV y4) (.req (inE y10) (.req (addPre f y7 y2) (.node (addOk f y7 y2) (.leaf (.tuple [.agg (Fw.cells { (addF f y7 y2 line)with loc:=(tgtV f c),e:=(tgtE f c)}),.int .i64 0])) y6)))))) (.leaf (.tuple [.agg (Fw.cells {f with loc:=(tgtV f c),e:=(tgtE f c)}),.int .i64 0])))))));.node (line==0) y5 (.node (!f.homed) y5 (.node (f.back) y5 (.node (f.mode != 1) y5 (.node (motOk f.ma y4 (tgtE f c)) (.node (!insB f.ma y4) y9 (.node (decide (tgtE f c>f.e)) (.req true (.node (decide (f.r0<f.cold)) (.leaf (.tuple [.agg (nilC fw0),.int .i64 15])) y0)) y0)) (.node (!insB f.ma y4) y9 y9))))))
  (by kernel_rfl) (by
   have v:=vf_of h
   have bad14:(line<1∨f.homed=false∨f.back=true∨¬f.mode=1)→SV.tuple [SV.agg (nilC fw0),SV.int IntKind.i64 14] =resT (moveA f line c) (moveF f line c):=fun k=>resT_err (mvE14 (c:=c) k).1 (by decide)
   refine n_eq (fun a=>bad14 (.inl (by omega))) fun a=>n_not (fun b=>bad14 (.inr (.inl b))) fun b=>n_bool (fun d=>bad14 (.inr (.inr (.inl d)))) fun d=>n_ne (fun e=>bad14 (.inr (.inr (.inr e)))) fun e=>?_
   have k:¬(line<1∨f.homed=false∨f.back=true∨¬f.mode=1):=by
    intro k
    rcases k with k|k|k|k
    ·omega
    ·rw[b]at k;cases k
    ·rw[d]at k;cases k
    ·exact k e
   refine n_bool (fun km=>n_not (fun ki=>resT_err (mvE8 (c:=c) k (.inl ki)).1 (by decide)) fun ki=>?_) fun km=>?_
   ·have k2:¬(insB f.ma (tgtV f c)=false∨motOk f.ma (tgtV f c) (tgtE f c)=false):=by
     intro n
     rcases n with n|n
     ·rw[show insB f.ma (tgtV f c)=true from ki]at n;cases n
     ·rw[show motOk f.ma (tgtV f c) (tgtE f c)=true from km]at n;cases n
    refine n_dec (fun t=>n_req rfl (n_dec (fun r=>resT_err (mvE15 (c:=c) k k2 ⟨by omega,r⟩).1 (by decide)) fun r=>?_)) fun t=>?_
    ·exact mv_rest v hc ki km (mvE0 (c:=c) k k2 (fun n=>r n.2)).1
    ·exact mv_rest v hc ki km (mvE0 (c:=c) k k2 (fun n=>t n.1)).1
   ·first
     |exact resT_err (mvE8 (c:=c) k (.inr km)).1 (by decide)
     |exact n_not (fun _=>resT_err (mvE8 (c:=c) k (.inr km)).1 (by decide)) (fun _=>resT_err (mvE8 (c:=c) k (.inr km)).1 (by decide))) (by kernel_rfl) (by exact resT_data _ _)
theorem s_touR(f:Fw):SCall Tryz.prog 75 [f.sv] ((touchF f).sv):=
 scall_vE (hB (l:=[fTouchR]) (k:=[]) (j:=[]) (i:=[]) ([] :List Nat) ([] :List Nat) ([] :List Nat) ([] :List Nat) (⟨o_touchR,trivial⟩) noneOk noneOk noneOk) 1000 (.go (.lit (.go (.lit (.go (.lit (.all)))))))
  (t:=.req (true) (.req (true) (.req (true) (.req (true) (.leaf (SV.agg (Fw.cells {f with g0:=f.g0.touch,g1:=f.g1.touch})))))))
  (by kernel_rfl) (by repeat' (first|exact rfl|refine n_req rfl ?_)) (by kernel_rfl) (by kernel_rfl)
def fTouR:Fact:=factF1 75 fun f=>.leaf (touchF f).sv
theorem o_touR:fTouR.ok Tryz.prog:=factF1_ok (fun f=>s_touR f)
theorem s_stoR(f:Fw)(h:shapeB f=true):SCall Tryz.prog 76 [f.sv] ((stopF f).sv):=
 scall_vE (hB (l:=[fStopR,fLoseR]) (k:=[]) (j:=[]) (i:=[]) ([] :List Nat) ([] :List Nat) ([] :List Nat) ([] :List Nat) (⟨o_stopR,o_loseR,trivial⟩) noneOk noneOk noneOk) 1000 (.go (.lit (.go (.lit (.go (.lit (.all)))))))
  (t:=.req (true) (.req (true) (.req (true) (.req (true) (.req (shapeB ({f with g0:=f.g0.stop,g1:=f.g1.stop})) (.leaf (SV.agg (Fw.cells { (loseF ({f with g0:=f.g0.stop,g1:=f.g1.stop}))with mode:=3}))))))))
  (by kernel_rfl) (by repeat' (first|exact rfl|refine n_req rfl ?_|refine n_req h ?_)) (by kernel_rfl) (by kernel_rfl)
def fStoR:Fact:=factF1 76 fun f=>.req (shapeB f) (.leaf (stopF f).sv)
theorem o_stoR:fStoR.ok Tryz.prog:=factF1_ok (fun f h=>s_stoR f h)
theorem resE_14{f:Fw}(m:¬f.mode=3):resE f=14:=if_pos m
theorem resE_16a{f:Fw}(m:f.mode=3)(g:¬f.g0.fault=0)(e:¬f.g0.resE f.r0=0):resE f=16:=by
 unfold resE;rw[if_neg (fun k=>k m),if_pos (.inl (by rw[Bool.eq_false_iff,ne_eq,resOk_iff];omega))]
theorem resE_16b{f:Fw}(m:f.mode=3)(g:¬f.g1.fault=0)(e:¬f.g1.resE f.r1=0):resE f=16:=by
 unfold resE;rw[if_neg (fun k=>k m),if_pos (.inr (by rw[Bool.eq_false_iff,ne_eq,resOk_iff];omega))]
theorem resE_0{f:Fw}(m:f.mode=3)(a:f.g0.fault=0∨f.g0.resE f.r0=0)(b:f.g1.fault=0∨f.g1.resE f.r1=0):resE f=0:=by
 unfold resE;rw[if_neg (fun k=>k m),resOk_iff.2 a,resOk_iff.2 b];rfl
theorem resF_tt{f:Fw}(a:¬f.g0.fault=0)(b:¬f.g1.fault=0):resF f={f with mode:=1,g0:=f.g0.rest f.r0,g1:=f.g1.rest f.r1}:=by unfold resF resG;rw[if_neg a,if_neg b]
theorem resF_tf{f:Fw}(a:¬f.g0.fault=0)(b:f.g1.fault=0):resF f={f with mode:=1,g0:=f.g0.rest f.r0}:=by unfold resF resG;rw[if_neg a,if_pos b]
theorem resF_ft{f:Fw}(a:f.g0.fault=0)(b:¬f.g1.fault=0):resF f={f with mode:=1,g1:=f.g1.rest f.r1}:=by unfold resF resG;rw[if_pos a,if_neg b]
theorem resF_ff{f:Fw}(a:f.g0.fault=0)(b:f.g1.fault=0):resF f={f with mode:=1}:=by unfold resF resG;rw[if_pos a,if_pos b]
theorem s_resR(f:Fw):SCall Tryz.prog 159 [f.sv] (resT (resE f) (resF f)):=
 scall_vE (hB (l:=[fResetR]) (k:=[]) (j:=[]) (i:=[]) ([] :List Nat) ([] :List Nat) ([] :List Nat) ([] :List Nat) (⟨o_resetR,trivial⟩) noneOk noneOk noneOk) 1000 (let z1:Plan:=.go (.lit (.all));let z0:Plan:=.go (.lit (.fork z1 (.fork (.lit z1) (.fork (.all) z1))));.fork (.all) (.go (.lit (.fork z0 (.fork (.lit z0) (.fork (.all) z0))))))
  (t:=let y0:=Gu.mk 0 0 0 0 0 0 0 0 0 0 false;let y1:Tree SV:=.leaf (.tuple [.agg (nilC fw0),.int .i64 16]);let y2:=decide (f.g1.resE f.r1=0);.node (f.mode != 3) (.leaf (.tuple [.agg (nilC fw0),.int .i64 14])) (.req true (.node (f.g0.fault==0) (.req true (.node (f.g1.fault==0) (.leaf (.tuple [.agg (Fw.cells {f with mode:=1}),.int .i64 0])) (.req true (.req (true) (.node y2 (.req true (.leaf (.tuple [.agg (Fw.cells {f with mode:=1,g1:=(f.g1.rest f.r1)}),.int .i64 0]))) (.node (f.g1.resE f.r1 != 0) y1 (.req true (.leaf (.tuple [.agg (Fw.cells {f with mode:=1,g1:=y0}),.int .i64 0]))))))))) (.req true (.req (true) (.node (decide (f.g0.resE f.r0=0)) (.req true (.req (true) (.node (f.g1.fault==0) (.leaf (.tuple [.agg (Fw.cells {f with mode:=1,g0:=(f.g0.rest f.r0)}),.int .i64 0])) (.req true (.req (true) (.node y2 (.req true (.leaf (.tuple [.agg (Fw.cells {f with mode:=1,g0:=(f.g0.rest f.r0),g1:=(f.g1.rest f.r1)}),.int .i64 0]))) (.node (f.g1.resE f.r1 != 0) y1 (.req true (.leaf (.tuple [.agg (Fw.cells {f with mode:=1,g0:=(f.g0.rest f.r0),g1:=y0}),.int .i64 0])))))))))) (.node (f.g0.resE f.r0 != 0) y1 (.req true (.req (true) (.node (f.g1.fault==0) (.leaf (.tuple [.agg (Fw.cells {f with mode:=1,g0:=y0}),.int .i64 0])) (.req true (.req (true) (.node y2 (.req true (.leaf (.tuple [.agg (Fw.cells {f with mode:=1,g0:=y0,g1:=(f.g1.rest f.r1)}),.int .i64 0]))) (.node (f.g1.resE f.r1 != 0) y1 (.req true (.leaf (.tuple [.agg (Fw.cells {f with mode:=1,g0:=y0,g1:=y0}),.int .i64 0])))))))))))))))))
  (by kernel_rfl) (by
   repeat' first
    |refine n_req rfl ?_
    |refine n_eq (fun _=>?_) (fun _=>?_)
    |refine n_ne (fun _=>?_) (fun _=>?_)
    |refine n_dec (fun _=>?_) (fun _=>?_)
   all_goals first
    |(exfalso;omega)
    |exact resT_err (resE_14 (by assumption)) (by decide)
    |exact resT_err (resE_16a (by omega) (by omega) (by assumption)) (by decide)
    |exact resT_err (resE_16b (by omega) (by omega) (by assumption)) (by decide)
    |exact resT_ok (resE_0 (by omega) (by omega) (by omega)) (resF_tt (by omega) (by omega))
    |exact resT_ok (resE_0 (by omega) (by omega) (by omega)) (resF_tf (by omega) (by omega))
    |exact resT_ok (resE_0 (by omega) (by omega) (by omega)) (resF_ft (by omega) (by omega))
    |exact resT_ok (resE_0 (by omega) (by omega) (by omega)) (resF_ff (by omega) (by omega))) (by kernel_rfl) (by exact resT_data _ _)
def fResR:Fact:=factF1 159 fun f=>.node (decide (resE f=0)) (.leaf (.tuple [(resF f).sv,I64 0])) (.leaf (.tuple [.agg (nilC fw0),I64 (resE f)]))
theorem o_resR:fResR.ok Tryz.prog:=factF1_ok (fun f=>resT_says (s_resR f))
def retC(d:V4):V4:=(0,0,d.2.2.1,0)
def retD(d:V4):V4:=(d.1,d.2.1,0,0)
def retPre(f:Fw)(d:V4):Bool:=(!nz4 (retC d)||addPre f (retC d) 0)&& (!(backOk f (retC d)&&nz4 (retD d))||addPre (backF f (retC d)) (retD d) 0)
theorem retPre_iff{f:Fw}{d:V4}:retPre f d=true↔(nz4 (retC d)=true→addPre f (retC d) 0=true)∧(backOk f (retC d)=true→nz4 (retD d)=true→addPre (backF f (retC d)) (retD d) 0=true):=by
 unfold retPre
 cases nz4 (retC d)<;>cases nz4 (retD d)<;>cases backOk f (retC d)<;>simp
def retOk(f:Fw)(d:V4):Bool:=backOk f (retC d)&&backOk (backF f (retC d)) (retD d)
def retF(f:Fw)(d:V4):Fw:=backF (backF f (retC d)) (retD d)
def retS(f:Fw)(d:V4):SV:=if retOk f d=true then .tuple [(retF f d).sv,I64 0]else .tuple [.agg (nilC fw0),I64 2]
theorem retS_data(f:Fw)(d:V4):(retS f d).data=true:=by unfold retS;split<;>rfl
theorem retS_e1{f:Fw}{d:V4}(z:nz4 (retC d)=true)(o:addOk f (retC d) 0=false):SV.tuple [.agg (nilC fw0),.int .i64 2] =retS f d:=by
 have e:retOk f d=false:=by unfold retOk;rw[backOk_yes z,o];rfl
 unfold retS;rw[e];rfl
theorem retS_22{f:Fw}{d:V4}(z:nz4 (retC d)=true)(o:addOk f (retC d) 0=true)(y:nz4 (retD d)=true)(q:addOk (addF f (retC d) 0 0) (retD d) 0=true):SV.tuple [.agg (addF (addF f (retC d) 0 0) (retD d) 0 0).cells,.int .i64 0] =retS f d:=by
 have e:retOk f d=true:=by unfold retOk;rw[backOk_yes z,o,backF_yes z,backOk_yes y,q];rfl
 have r:retF f d=addF (addF f (retC d) 0 0) (retD d) 0 0:=by unfold retF;rw[backF_yes z,backF_yes y]
 unfold retS;rw[e,r];rfl
theorem retS_2e{f:Fw}{d:V4}(z:nz4 (retC d)=true)(o:addOk f (retC d) 0=true)(y:nz4 (retD d)=true)(q:addOk (addF f (retC d) 0 0) (retD d) 0=false):SV.tuple [.agg (nilC fw0),.int .i64 2] =retS f d:=by
 have e:retOk f d=false:=by unfold retOk;rw[backOk_yes z,o,backF_yes z,backOk_yes y,q];rfl
 unfold retS;rw[e];rfl
theorem retS_20{f:Fw}{d:V4}(z:nz4 (retC d)=true)(o:addOk f (retC d) 0=true)(y:nz4 (retD d)=false):SV.tuple [.agg (addF f (retC d) 0 0).cells,.int .i64 0] =retS f d:=by
 have e:retOk f d=true:=by unfold retOk;rw[backOk_yes z,o,backOk_no y];rfl
 have r:retF f d=addF f (retC d) 0 0:=by unfold retF;rw[backF_yes z,backF_no y]
 unfold retS;rw[e,r];rfl
theorem retS_02{f:Fw}{d:V4}(z:nz4 (retC d)=false)(y:nz4 (retD d)=true)(q:addOk f (retD d) 0=true):SV.tuple [.agg (addF f (retD d) 0 0).cells,.int .i64 0] =retS f d:=by
 have e:retOk f d=true:=by unfold retOk;rw[backOk_no z,backF_no z,backOk_yes y,q];rfl
 have r:retF f d=addF f (retD d) 0 0:=by unfold retF;rw[backF_no z,backF_yes y]
 unfold retS;rw[e,r];rfl
theorem retS_0e{f:Fw}{d:V4}(z:nz4 (retC d)=false)(y:nz4 (retD d)=true)(q:addOk f (retD d) 0=false):SV.tuple [.agg (nilC fw0),.int .i64 2] =retS f d:=by
 have e:retOk f d=false:=by unfold retOk;rw[backOk_no z,backF_no z,backOk_yes y,q];rfl
 unfold retS;rw[e];rfl
theorem retS_00{f:Fw}{d:V4}(z:nz4 (retC d)=false)(y:nz4 (retD d)=false):SV.tuple [.agg f.cells,.int .i64 0] =retS f d:=by
 have e:retOk f d=true:=by unfold retOk;rw[backOk_no z,backF_no z,backOk_no y];rfl
 have r:retF f d=f:=by unfold retF;rw[backF_no z,backF_no y]
 unfold retS;rw[e,r];rfl
theorem nzC{d:V4}:nz4 (retC d)=true↔¬d.2.2.1=0:=by unfold nz4 retC;simp
theorem nzD{d:V4}:nz4 (retD d)=true↔¬d.1=0∨¬d.2.1=0:=by unfold nz4 retD;simp
theorem s_retR(f:Fw)(p:V4)(h:retPre f (wsub4 p f.pos)=true):SCall Tryz.prog 115 [f.sv,V4.sv p] (retS f (wsub4 p f.pos)):=
 scall_vE (hB (l:=[fBlock,fMnsR]) (k:=[]) (j:=[]) (i:=[]) ([] :List Nat) ([] :List Nat) ([] :List Nat) ([] :List Nat) (⟨o_block,o_mnsR,trivial⟩) noneOk noneOk noneOk) 1000 (.fork (.fork (.lit (.fork (.ln 4 (.fork .all .all)) (.ln 3 (.fork (.fork .all .all) .all)))) (.lit .all)) (.fork (.ln 4 (.fork .all .all)) (.ln 3 (.fork (.fork .all .all) .all))))
  (t:=let y3:=wsub4 p f.pos;let y0:=(y3.1,y3.2.1,0,0);let y4:=addF f (0,0,y3.2.2.1,0) 0 0;let y5:Tree SV:=.leaf (.tuple [.agg (nilC fw0),.int .i64 2]);let y1:Tree SV:=.req true (.req (true) (.req (addPre y4 y0 0) (.node (addOk y4 y0 0) (.leaf (.tuple [.agg (Fw.cells (addF y4 y0 0 0)),.int .i64 0])) y5)));let y2:Tree SV:=.req true (.req (true) (.req (addPre f y0 0) (.node (addOk f y0 0) (.leaf (.tuple [.agg (Fw.cells (addF f y0 0 0)),.int .i64 0])) y5)));.req (true) (.node (y3.2.2.1 != 0) (.req true (.req (addPre f (0,0,y3.2.2.1,0) 0) (.node (addOk f (0,0,y3.2.2.1,0) 0) (.req true (.node (y3.1 != 0) y1 (.req true (.node (y3.2.1 != 0) y1 (.leaf (.tuple [.agg (Fw.cells y4),.int .i64 0])))))) y5))) (.req true (.node (y3.1 != 0) y2 (.req true (.node (y3.2.1 != 0) y2 (.leaf (.tuple [.agg (Fw.cells f),.int .i64 0]))))))))
  (by kernel_rfl) (by
   obtain⟨h1,h2⟩:=retPre_iff.1 h
   generalize wsub4 p f.pos=d at h1 h2 ⊢
   refine n_req rfl (n_ne (fun a=>?_) (fun a=>?_))
   ·have z:=nzC.2 a
    refine n_req rfl (n_req (h1 z) (n_bool (fun o=>?_) (fun o=>retS_e1 z o)))
    have h2:=h2 ((backOk_yes z).trans o)
    rw[backF_yes z]at h2
    refine n_req rfl (n_ne (fun b=>?_) (fun b=>n_req rfl (n_ne (fun c=>?_) (fun c=>?_))))
    ·have y:=nzD.2 (.inl b)
     exact n_req rfl (n_req rfl (n_req (h2 y) (n_bool (fun q=>retS_22 z o y q) (fun q=>retS_2e z o y q))))
    ·have y:=nzD.2 (.inr c)
     exact n_req rfl (n_req rfl (n_req (h2 y) (n_bool (fun q=>retS_22 z o y q) (fun q=>retS_2e z o y q))))
    ·exact retS_20 z o (Bool.eq_false_iff.2 fun y=>by have:=nzD.1 y;omega)
   ·have z:nz4 (retC d)=false:=Bool.eq_false_iff.2 fun y=>nzC.1 y a
    have h2:=h2 (backOk_no z)
    rw[backF_no z]at h2
    refine n_req rfl (n_ne (fun b=>?_) (fun b=>n_req rfl (n_ne (fun c=>?_) (fun c=>?_))))
    ·have y:=nzD.2 (.inl b)
     exact n_req rfl (n_req rfl (n_req (h2 y) (n_bool (fun q=>retS_02 z y q) (fun q=>retS_0e z y q))))
    ·have y:=nzD.2 (.inr c)
     exact n_req rfl (n_req rfl (n_req (h2 y) (n_bool (fun q=>retS_02 z y q) (fun q=>retS_0e z y q))))
    ·exact retS_00 z (Bool.eq_false_iff.2 fun y=>by have:=nzD.1 y;omega)) (by kernel_rfl) (by exact retS_data _ _)
def fRet:Fact:=factFw 115 fun f rest=>match rest with
 |[.agg [.int .i64 a,.int .i64 b,.int .i64 c,.int .i64 d]] =>some (.req (retPre f (wsub4 (a,b,c,d) f.pos)) (.node (retOk f (wsub4 (a,b,c,d) f.pos)) (.leaf (.tuple [(retF f (wsub4 (a,b,c,d) f.pos)).sv,I64 0])) (.leaf (.tuple [.agg (nilC fw0),I64 2]))))
 |_=>none
theorem o_ret:fRet.ok Tryz.prog:=factFw_ok fun f rest t ht=>by
 split at ht
 ·rename_i a b c d
  injection ht with ht;subst ht
  intro h
  have k:=s_retR f (a,b,c,d) h
  unfold retS at k
  refine⟨fun o=>?_,fun o=>?_⟩
  ·rw[if_pos o]at k;exact k
  ·rw[if_neg (by rw[o];exact Bool.false_ne_true)]at k;exact k
 ·cases ht
section
variable {f g:Fw} {line:Int} {r:V4}
theorem hm_d(v:VF f)(hr:homeR f line=r):retC (wsub4 r (0,0,0,f.pos.2.2.2))=homeC f line∧retD (wsub4 r (0,0,0,f.pos.2.2.2))=homeD f line:=by
 have nr:=homeR_near (line:=line) v
 rw[hr]at nr
 have b:big4 (0,0,0,f.pos.2.2.2)=true:=by
  have:=near4_iff.1 v.pos
  exact big4_iff.2 (by dsimp only;omega)
 rw[wsub4_eq (near_big nr) b]
 unfold homeC homeD retC retD sub4
 rw[hr]
 dsimp only
 exact⟨by rw[Int.sub_zero],by rw[Int.sub_zero,Int.sub_zero]⟩
theorem hm_tail(v:VF f)(hi:idleB f=true)(hm:f.mode=1)(hb:homeB f line=true)(hr:homeR f line=r)(hg:home0 f line=g):
  (Tree.req (f.ma.ok&&near4 r) (.req (retPre g (wsub4 r (0,0,0,f.pos.2.2.2))) (.node (retOk g (wsub4 r (0,0,0,f.pos.2.2.2))) (.leaf (SV.tuple [.agg (Fw.cells {retF g (wsub4 r (0,0,0,f.pos.2.2.2))with loc:=((posV f.ma r).1,(posV f.ma r).2.1,(posV f.ma r).2.2.1)}),I64 0])) (.leaf (SV.tuple [.agg (nilC fw0),I64 2]))))).holds fun x=>x=resT (homeA f line) (homeF f line):=by
 obtain⟨eC,eD⟩:=hm_d v hr
 have nr:=homeR_near (line:=line) v
 rw[hr]at nr
 have n1:¬idleB f=false:=by rw[hi];decide
 have n2:¬¬f.mode=1:=fun k=>k hm
 have n3:¬homeB f line=false:=by rw[hb];decide
 have pre:retPre g (wsub4 r (0,0,0,f.pos.2.2.2))=true:=by
  rw[retPre_iff,eC,eD,←hg]
  exact⟨fun z=>home_pre v hi (homeC_near v) z,fun o z=>home_pre2 v hi o z⟩
 have ok:retOk g (wsub4 r (0,0,0,f.pos.2.2.2))=(backOk (home0 f line) (homeC f line)&&backOk (backF (home0 f line) (homeC f line)) (homeD f line)):=by unfold retOk;rw[eC,eD,hg]
 have hA:homeA f line=homeX f line:=by unfold homeA;rw[if_neg n1,if_neg n2]
 refine n_req (by rw[v.ma,nr];rfl) (n_req pre (n_bool (fun o=>?_) fun o=>?_))
 ·rw[ok,Bool.and_eq_true]at o
  refine resT_ok ?_ ?_
  ·rw[hA];unfold homeX;rw[if_neg n3,o.1,o.2];rfl
  ·unfold homeF retF;rw[if_neg n3,eC,eD,hg,hr];rfl
 ·rw[ok]at o
  refine resT_err ?_ (by decide)
  rw[hA];unfold homeX;rw[if_neg n3]
  cases h1:backOk (home0 f line) (homeC f line)
  ·rfl
  ·rw[h1,Bool.true_and]at o
   rw[o];rfl
end
theorem s_homeR(f:Fw)(line:Int)(h:validF f=true):SCall Tryz.prog 222 [f.sv,I64 line] (resT (homeA f line) (homeF f line)):=
 scall_vE (hB (l:=[fIdleR,fUniR,fPosR,fRet]) (k:=[]) (j:=[]) (i:=[]) ([] :List Nat) ([] :List Nat) ([] :List Nat) ([] :List Nat) (⟨o_idleR,o_uniR,o_posR,o_ret,trivial⟩) noneOk noneOk noneOk) 1000 (let z0:Plan:=.fork (.lit .all) (.lit .all);let z1:Plan:=.fork .all z0;.fork .all (.fork .all (.fork (.lit (.lit (.fork (.fork (.lit z0) (.lit z0)) (.fork z1 z1)))) (.ln 3 (.fork z1 z1)))))
  (t:=let y1:=(0,0,0,f.pos.2.2.2);let y4:={f with homed:=true,pos:=y1,loc:=(0,0,0),e:=0,back:=false,ret:=f.pos};let y5:={f with homed:=true,pos:=y1,loc:=(0,0,0),e:=0,back:=false};let y6:Tree SV:=.leaf (.tuple [.agg (nilC fw0),.int .i64 2]);let y7:=posV f.ma f.pos;let y8:=posV f.ma f.ret;let y9:=wsub4 f.pos y1;let y10:=wsub4 f.ret y1;let y11:=unitsN (axM f.ma 3) f.pos.2.2.2;let y2:={f with homed:=true,pos:=y1,loc:=(0,0,0),e:=y11,back:=false,ret:=f.pos};let y3:={f with homed:=true,pos:=y1,loc:=(0,0,0),e:=y11,back:=false};let y0:Tree SV:=.req true (.req (true) (.req true (.node (unOk f.ma f.pos.2.2.2) (.node (!f.back) (.leaf (.tuple [.agg (Fw.cells {f with homed:=true,pos:=y1,loc:=(0,0,0),e:=y11}),.int .i64 0])) (.req (f.ma.ok&&near4 f.ret) (.req (retPre y3 y10) (.node (retOk y3 y10) (.leaf (.tuple [.agg (Fw.cells { (retF y3 y10)with loc:=(y8.1,y8.2.1,y8.2.2.1)}),.int .i64 0])) y6)))) (.node (!f.back) (.leaf (.tuple [.agg (Fw.cells {f with homed:=true,pos:=y1,loc:=(0,0,0),e:=0}),.int .i64 0])) (.req (f.ma.ok&&near4 f.ret) (.req (retPre y5 y10) (.node (retOk y5 y10) (.leaf (.tuple [.agg (Fw.cells { (retF y5 y10)with loc:=(y8.1,y8.2.1,y8.2.2.1)}),.int .i64 0])) y6)))))));.node (!idleB f) (.leaf (.tuple [.agg (nilC fw0),.int .i64 18])) (.node (f.mode != 1) (.leaf (.tuple [.agg (nilC fw0),.int .i64 14])) (.node (line==0) (.node (f.homed) (.req true (.req (true) (.req true (.node (unOk f.ma f.pos.2.2.2) (.req (f.ma.ok&&near4 f.pos) (.req (retPre y2 y9) (.node (retOk y2 y9) (.leaf (.tuple [.agg (Fw.cells { (retF y2 y9)with loc:=(y7.1,y7.2.1,y7.2.2.1)}),.int .i64 0])) y6))) (.req (f.ma.ok&&near4 f.pos) (.req (retPre y4 y9) (.node (retOk y4 y9) (.leaf (.tuple [.agg (Fw.cells { (retF y4 y9)with loc:=(y7.1,y7.2.1,y7.2.2.1)}),.int .i64 0])) y6))))))) y0) y0)))
  (by kernel_rfl) (by
   have v:=vf_of h
   refine n_not (fun i=>resT_err (if_pos i) (by decide)) fun hi=>n_ne (fun m=>resT_err (by unfold homeA;rw[if_neg (by rw[hi];decide),if_pos m]) (by decide)) fun hm=>?_
   have eE:∀b,unOk f.ma f.pos.2.2.2=b→homeE f=(if b=true then unitsN f.ma.e f.pos.2.2.2 else 0):=fun b hb=>by unfold homeE;rw[hb]
   have rNo:¬(line=0∧f.homed=true)→homeR f line=f.ret:=fun n=>if_neg n
   have rYes:line=0∧f.homed=true→homeR f line=f.pos:=fun n=>if_pos n
   have fin:∀e,homeE f=e→¬(line=0∧f.homed=true)→f.back=false→SV.tuple [.agg (Fw.cells {f with homed:=true,pos:=(0,0,0,f.pos.2.2.2),loc:=(0,0,0),e:=e}),I64 0] =resT (homeA f line) (homeF f line):=fun e he n b=>by
    have hb:homeB f line=false:=by
     rw[Bool.eq_false_iff,ne_eq,homeB_iff];rintro (k|k)
     ·exact n k
     ·rw[b]at k;cases k
    refine resT_ok (hm_no hi hm hb).1 ?_
    rw[show homeF f line=home0 f line from if_pos hb,home0_eq (rNo n) he,←b]
   have yes:(line=0∧f.homed=true)∨f.back=true→homeB f line=true:=homeB_iff.2
   have ret:∀e,homeE f=e→¬(line=0∧f.homed=true)→(Tree.node (!f.back) (.leaf (SV.tuple [.agg (Fw.cells {f with homed:=true,pos:=(0,0,0,f.pos.2.2.2),loc:=(0,0,0),e:=e}),I64 0])) (.req (f.ma.ok&&near4 f.ret) (.req (retPre {f with homed:=true,pos:=(0,0,0,f.pos.2.2.2),loc:=(0,0,0),e:=e,back:=false} (wsub4 f.ret (0,0,0,f.pos.2.2.2))) (.node (retOk {f with homed:=true,pos:=(0,0,0,f.pos.2.2.2),loc:=(0,0,0),e:=e,back:=false} (wsub4 f.ret (0,0,0,f.pos.2.2.2))) (.leaf (SV.tuple [.agg (Fw.cells {retF {f with homed:=true,pos:=(0,0,0,f.pos.2.2.2),loc:=(0,0,0),e:=e,back:=false} (wsub4 f.ret (0,0,0,f.pos.2.2.2))with loc:=((posV f.ma f.ret).1,(posV f.ma f.ret).2.1,(posV f.ma f.ret).2.2.1)}),I64 0])) (.leaf (SV.tuple [.agg (nilC fw0),I64 2])))))).holds fun x=>x=resT (homeA f line) (homeF f line):=fun e he n=>
    n_not (fun b=>fin e he n b) fun b=>hm_tail v hi hm (yes (.inr b)) (rNo n) (home0_eq (rNo n) he)
   refine n_eq (fun l=>n_bool (fun o=>?_) fun o=>?_) fun l=>?_
   ·have y:line=0∧f.homed=true:=⟨l,o⟩
    refine n_req rfl (n_req rfl (n_req rfl (n_bool (fun u=>?_) fun u=>?_)))
    ·exact hm_tail v hi hm (yes (.inl y)) (rYes y) (home0_eq (rYes y) (eE _ u))
    ·exact hm_tail v hi hm (yes (.inl y)) (rYes y) (home0_eq (rYes y) (eE _ u))
   ·have n:¬(line=0∧f.homed=true):=fun n=>by rw[o]at n;cases n.2
    exact n_req rfl (n_req rfl (n_req rfl (n_bool (fun u=>ret _ (eE _ u) n) fun u=>ret _ (eE _ u) n)))
   ·have n:¬(line=0∧f.homed=true):=fun n=>l n.1
    exact n_req rfl (n_req rfl (n_req rfl (n_bool (fun u=>ret _ (eE _ u) n) fun u=>ret _ (eE _ u) n)))) (by kernel_rfl) (by exact resT_data _ _)
def cmdPre(f:Fw)(line:Int)(c:Gc.C):Bool:=validF f&& (c.valid&&decide (0≤line))
theorem cmdPre_iff{f:Fw}{line:Int}{c:Gc.C}:cmdPre f line c=true↔validF f=true∧c.valid=true∧0≤line:=by simp only[cmdPre,Bool.and_eq_true,decide_eq_true_eq]
def fMoveR:Fact:=factFw 221 fun f rest=>match rest with
 |[.int .i64 line,.agg [.int .i64 a0,.int .i64 a1,.int .i64 a2,.int .i64 a3,.int .i64 a4,.int .i64 a5,.int .i64 a6,.int .i64 a7]] =>some (.req (cmdPre f line ⟨a0,a1,a2,a3,a4,a5,a6,a7⟩) (.node (decide (moveA f line ⟨a0,a1,a2,a3,a4,a5,a6,a7⟩=0)) (.leaf (.tuple [(moveF f line ⟨a0,a1,a2,a3,a4,a5,a6,a7⟩).sv,I64 0])) (.leaf (.tuple [.agg (nilC fw0),I64 (moveA f line ⟨a0,a1,a2,a3,a4,a5,a6,a7⟩)]))))
 |_=>none
def fHomeR:Fact:=factFw 222 fun f rest=>match rest with
 |[.int .i64 line] =>some (.req (validF f) (.node (decide (homeA f line=0)) (.leaf (.tuple [(homeF f line).sv,I64 0])) (.leaf (.tuple [.agg (nilC fw0),I64 (homeA f line)]))))
 |_=>none
theorem o_moveR:fMoveR.ok Tryz.prog:=factFw_ok fun f rest t ht=>by
 split at ht
 ·injection ht with ht;subst ht
  intro h
  obtain⟨h1,h2,h3⟩:=cmdPre_iff.1 h
  exact resT_says (s_moveR f _ ⟨_,_,_,_,_,_,_,_⟩ h1 h2 h3)
 ·cases ht
theorem o_homeR:fHomeR.ok Tryz.prog:=factFw_ok fun f rest t ht=>by
 split at ht
 ·injection ht with ht;subst ht
  exact fun h=>resT_says (s_homeR f _ h)
 ·cases ht
section
variable {f:Fw} {line:Int} {c:Gc.C}
theorem p_mov(k:c.code=0∨c.code=1):doF f line c=moveF f line c:=by rw[d_late (by omega),if_pos k]
theorem p_dwe(k:c.code=4):doF f line c={f with dwell:=c.s}:=by rw[d_late (by omega),if_neg (by omega),if_pos k]
theorem p_hom(k:c.code=28):doF f line c=homeF f line:=by rw[d_late (by omega),if_neg (by omega),if_neg (by omega),if_pos k]
theorem p_1104(k:c.code=1104):doF f line c={f with c0:=f.c0.aim c.s}:=by rw[d_late (by omega),if_neg (by omega),if_neg (by omega),if_neg (by omega),if_pos k]
theorem p_1109(k:c.code=1109):doF f line c={f with c0:=f.c0.aim c.s,waits:=orB f.waits 1}:=by rw[d_late (by omega),if_neg (by omega),if_neg (by omega),if_neg (by omega),if_neg (by omega),if_pos k]
theorem p_1140(k:c.code=1140):doF f line c={f with c1:=f.c1.aim c.s}:=by rw[d_late (by omega),if_neg (by omega),if_neg (by omega),if_neg (by omega),if_neg (by omega),if_neg (by omega),if_pos k]
theorem p_1190(k:c.code=1190):doF f line c={f with c1:=f.c1.aim c.s,waits:=orB f.waits 2}:=by rw[d_late (by omega),if_neg (by omega),if_neg (by omega),if_neg (by omega),if_neg (by omega),if_neg (by omega),if_neg (by omega),if_pos k]
theorem val_off(h:c.valid=true)(k:c.code=1107):c.s=0:=by
 have h5:=val_w5 h
 unfold Gc.okW at h5
 rw[num_s]at h5
 have hb:c.has=0:=by
  unfold Gc.C.valid Gc.C.pre at h
  simp only[Bool.and_eq_true]at h
  have q:=h.1.2.2
  have a:Gc.allW c.code=true:=by rw[k];decide
  have m:Gc.may c.code=0:=by rw[k];decide
  rw[a,m]at q
  simpa using q
 have b0:Gc.bit c.has 5=0:=by rw[hb];decide
 rw[if_pos b0]at h5
 exact beq_iff_eq.1 h5
theorem p_1107(h:c.valid=true)(k:c.code=1107):doF f line c={f with fan:=0}:=by rw[d_fan (.inr k),val_off h k]
theorem p_dw1(k:c.code=4)(m:¬f.mode=3)(w:f.waits=0∧f.dwell=0)(i:idleB f=false):doE f line c=18:=by rw[e_dwe k m w];exact if_neg (by rw[i];exact Bool.false_ne_true)
theorem p_dw0(k:c.code=4)(m:¬f.mode=3)(w:f.waits=0∧f.dwell=0)(i:idleB f=true):doE f line c=0:=by rw[e_dwe k m w];exact if_pos i
end
theorem s_perR(f:Fw)(line:Int)(c:Gc.C)(h:cmdPre f line c=true)(m:¬f.mode=3)(w:f.waits=0∧f.dwell=0)(a:¬c.code=1112∧¬c.code=1999∧¬c.code=1024∧¬c.code=1025):SCall Tryz.prog 161 [f.sv,I64 line,c.sv] (resT (doE f line c) (doF f line c)):=
 scall_vE (hB (l:=[fMoveR,fHomeR,fIdleR,fAimR]) (k:=[]) (j:=[]) (i:=[]) ([] :List Nat) ([] :List Nat) ([] :List Nat) ([] :List Nat) (⟨o_moveR,o_homeR,o_idleR,o_aimR,trivial⟩) noneOk noneOk noneOk) 1000 (let z1:Plan:=.fork (.lit (.lit (.all))) (.lit (.all));let z2:Plan:=.fork (.all) (.all);let z0:Plan:=.fork z2 (.fork z2 (.fork z2 (.fork z1 (.fork z1 (.fork z1 (.fork z1 (.fork (.all) z2)))))));.fork z0 z0)
  (t:=let y1:Tree SV:=.req (cmdPre f line c) (.node (decide (moveA f line c=0)) (.leaf (.tuple [.agg (Fw.cells (moveF f line c)),.int .i64 0])) (.leaf (.tuple [.agg (nilC fw0),.int .i64 (moveA f line c)])));let y2:Tree SV:=.leaf (.tuple [.agg (nilC fw0),.int .i64 1]);let y0:Tree SV:=.node (c.code==4) (.node (!idleB f) (.leaf (.tuple [.agg (nilC fw0),.int .i64 18])) (.leaf (.tuple [.agg (Fw.cells {f with dwell:=c.s}),.int .i64 0]))) (.node (c.code==28) (.req (validF f) (.node (decide (homeA f line=0)) (.leaf (.tuple [.agg (Fw.cells (homeF f line)),.int .i64 0])) (.leaf (.tuple [.agg (nilC fw0),.int .i64 (homeA f line)])))) (.node (c.code==1104) (.req true (.node (aimOk f.c0 c.s) (.req true (.leaf (.tuple [.agg (Fw.cells {f with c0:=(f.c0.aim c.s)}),.int .i64 0]))) y2)) (.node (c.code==1109) (.req true (.node (aimOk f.c0 c.s) (.req true (.leaf (.tuple [.agg (Fw.cells {f with waits:=(i64.wrap (↑(BitVec.ofInt 64 f.waits |||BitVec.ofInt 64 1).toNat:Int)),c0:=(f.c0.aim c.s)}),.int .i64 0]))) y2)) (.node (c.code==1140) (.req true (.node (aimOk f.c1 c.s) (.req true (.leaf (.tuple [.agg (Fw.cells {f with c1:=(f.c1.aim c.s)}),.int .i64 0]))) y2)) (.node (c.code==1190) (.req true (.node (aimOk f.c1 c.s) (.req true (.leaf (.tuple [.agg (Fw.cells {f with waits:=(i64.wrap (↑(BitVec.ofInt 64 f.waits |||BitVec.ofInt 64 2).toNat:Int)),c1:=(f.c1.aim c.s)}),.int .i64 0]))) y2)) (.node (c.code==1106) (.leaf (.tuple [.agg (Fw.cells {f with fan:=c.s}),.int .i64 0])) (.node (c.code==1107) (.leaf (.tuple [.agg (Fw.cells {f with fan:=0}),.int .i64 0])) (.leaf (.tuple [.agg (Fw.cells f),.int .i64 0])))))))));.node (c.code==0) (.node (c.code==0) y1 y0) (.node (c.code==1) y1 y0))
  (by kernel_rfl) (by
   obtain⟨hv,hc,hl⟩:=cmdPre_iff.1 h
   have v:=vf_of hv
   have s:¬c.code=4→0≤c.s∧c.s≤400000:=val_s hc
   repeat' first
    |refine n_eq (fun _=>?_) (fun _=>?_)
    |refine n_dec (fun _=>?_) (fun _=>?_)
    |refine n_req rfl ?_
    |refine n_req h ?_
    |refine n_req hv ?_
    |refine n_not (fun _=>?_) (fun _=>?_)
    |refine n_bool (fun _=>?_) (fun _=>?_)
   all_goals first
    |(exfalso;omega)
    |(exfalso;have:=code_in hc;omega)
    |exact resT_ok ((e_mov (by omega) m w).trans (by assumption)) (p_mov (by omega))
    |exact resT_err (e_mov (by omega) m w) (by assumption)
    |exact resT_ok ((e_hom (by omega) m w).trans (by assumption)) (p_hom (by omega))
    |exact resT_err (e_hom (by omega) m w) (by assumption)
    |exact resT_err (p_dw1 (by omega) m w (by assumption)) (by decide)
    |exact resT_ok (p_dw0 (by omega) m w (by assumption)) (p_dwe (by omega))
    |exact resT_ok (e_oth (by omega) a m w) (p_1104 (by omega))
    |exact resT_ok (e_oth (by omega) a m w) (p_1109 (by omega))
    |exact resT_ok (e_oth (by omega) a m w) (p_1140 (by omega))
    |exact resT_ok (e_oth (by omega) a m w) (p_1190 (by omega))
    |exact resT_ok (e_oth (by omega) a m w) (d_fan (by omega))
    |exact resT_ok (e_oth (by omega) a m w) (p_1107 hc (by omega))
    |exact absurd (aimOk_iff.2 ⟨v.c0,s (by omega)⟩) (by rw[Bool.not_eq_true];assumption)
    |exact absurd (aimOk_iff.2 ⟨v.c1,s (by omega)⟩) (by rw[Bool.not_eq_true];assumption)) (by kernel_rfl) (by exact resT_data _ _)
def perPre(f:Fw)(line:Int)(c:Gc.C):Bool:=cmdPre f line c&& (decide (¬f.mode=3)&& (decide (f.waits=0)&& (decide (f.dwell=0)&& (decide (¬c.code=1112)&& (decide (¬c.code=1999)&& (decide (¬c.code=1024)&&decide (¬c.code=1025)))))))
def fPerR:Fact:=factFw 161 fun f rest=>match rest with
 |[.int .i64 line,.agg [.int .i64 a0,.int .i64 a1,.int .i64 a2,.int .i64 a3,.int .i64 a4,.int .i64 a5,.int .i64 a6,.int .i64 a7]] =>some (.req (perPre f line ⟨a0,a1,a2,a3,a4,a5,a6,a7⟩) (.node (decide (doE f line ⟨a0,a1,a2,a3,a4,a5,a6,a7⟩=0)) (.leaf (.tuple [(doF f line ⟨a0,a1,a2,a3,a4,a5,a6,a7⟩).sv,I64 0])) (.leaf (.tuple [.agg (nilC fw0),I64 (doE f line ⟨a0,a1,a2,a3,a4,a5,a6,a7⟩)]))))
 |_=>none
theorem perPre_iff{f:Fw}{line:Int}{c:Gc.C}:perPre f line c=true↔cmdPre f line c=true∧¬f.mode=3∧f.waits=0∧f.dwell=0∧¬c.code=1112∧¬c.code=1999∧¬c.code=1024∧¬c.code=1025:=by simp only[perPre,Bool.and_eq_true,decide_eq_true_eq]
theorem o_perR:fPerR.ok Tryz.prog:=factFw_ok fun f rest t ht=>by
 split at ht
 ·injection ht with ht;subst ht
  intro h
  obtain⟨h1,h2,h3,h4,h5⟩:=perPre_iff.1 h
  exact resT_says (s_perR f _ ⟨_,_,_,_,_,_,_,_⟩ h1 h2 ⟨h3,h4⟩ h5)
 ·cases ht
section
variable {f:Fw} {line:Int} {c:Gc.C}
theorem p_res(k:c.code=1999):doF f line c=resF f:=by unfold doF;rw[if_neg (by omega),if_pos k]
theorem p_25(k:c.code=1025)(m:¬f.mode=3):doE f line c=(if f.mode=1 then 0 else 14)∧doF f line c={f with mode:=2}:=by
 unfold doE doF
 exact⟨by rw[if_neg (by omega),if_neg (by omega),if_neg m,if_pos k],by rw[if_neg (by omega),if_neg (by omega),if_pos k]⟩
theorem p_24(k:c.code=1024)(m:¬f.mode=3):doE f line c=(if f.mode=2 then 0 else 14)∧doF f line c={f with mode:=1}:=by
 unfold doE doF
 exact⟨by rw[if_neg (by omega),if_neg (by omega),if_neg m,if_neg (by omega),if_pos k],by rw[if_neg (by omega),if_neg (by omega),if_neg (by omega),if_pos k]⟩
end
theorem s_chR(f:Fw)(line:Int)(c:Gc.C)(h:cmdPre f line c=true)(a:¬c.code=1112):SCall Tryz.prog 77 [f.sv,I64 line,c.sv] (resT (doE f line c) (doF f line c)):=
 scall_vE (hB (l:=[fResR,fPerR]) (k:=[]) (j:=[]) (i:=[]) ([] :List Nat) ([] :List Nat) ([] :List Nat) ([] :List Nat) (⟨o_resR,o_perR,trivial⟩) noneOk noneOk noneOk) 1000 (.fork (.fork .all .all) (.fork .all (.fork (.fork .all .all) (.fork (.fork .all .all) (.fork (.ln 3 (.lit .all)) (.ln 3 (.fork .all (.fork .all .all))))))))
  (t:=.node (c.code==1999) (.node (decide (resE f=0)) (.leaf (.tuple [.agg (Fw.cells (resF f)),.int .i64 0])) (.leaf (.tuple [.agg (nilC fw0),.int .i64 (resE f)]))) (.node (f.mode==3) (.leaf (.tuple [.agg (nilC fw0),.int .i64 16])) (.node (c.code==1025) (.node (f.mode != 1) (.leaf (.tuple [.agg (nilC fw0),.int .i64 14])) (.leaf (.tuple [.agg (Fw.cells {f with mode:=2}),.int .i64 0]))) (.node (c.code==1024) (.node (f.mode != 2) (.leaf (.tuple [.agg (nilC fw0),.int .i64 14])) (.leaf (.tuple [.agg (Fw.cells {f with mode:=1}),.int .i64 0]))) (.node (f.waits != 0) (.leaf (.tuple [.agg (nilC fw0),.int .i64 18])) (.node (f.dwell != 0) (.leaf (.tuple [.agg (nilC fw0),.int .i64 18])) (.req (perPre f line c) (.node (decide (doE f line c=0)) (.leaf (.tuple [.agg (Fw.cells (doF f line c)),.int .i64 0])) (.leaf (.tuple [.agg (nilC fw0),.int .i64 (doE f line c)]))))))))))
  (by kernel_rfl) (by
   refine n_eq (fun k=>n_dec (fun e=>resT_ok ((e_res k).trans e) (p_res k)) fun e=>resT_err (e_res k) e) fun k=>n_eq (fun m=>resT_err (e_f3 a k m) (by decide)) fun m=>n_eq (fun p=>?_) fun p=>n_eq (fun q=>?_) fun q=>?_
   ·have d:=p_25 (line:=line) p m
    exact n_ne (fun n=>resT_err (d.1.trans (if_neg n)) (by decide)) fun n=>resT_ok (d.1.trans (if_pos n)) d.2
   ·have d:=p_24 (line:=line) q m
    exact n_ne (fun n=>resT_err (d.1.trans (if_neg n)) (by decide)) fun n=>resT_ok (d.1.trans (if_pos n)) d.2
   ·have aa:¬c.code=1112∧¬c.code=1999∧¬c.code=1024∧¬c.code=1025:=⟨a,k,q,p⟩
    refine n_ne (fun w=>resT_err (e_wait aa m (.inl w)) (by decide)) fun w=>n_ne (fun d=>resT_err (e_wait aa m (.inr d)) (by decide)) fun d=>n_req (perPre_iff.2 ⟨h,m,w,d,aa⟩) (n_dec (fun e=>resT_ok e rfl) fun e=>resT_err rfl e)) (by kernel_rfl) (by exact resT_data _ _)
def chPre(f:Fw)(line:Int)(c:Gc.C):Bool:=cmdPre f line c&&decide (¬c.code=1112)
def fChR:Fact:=factFw 77 fun f rest=>match rest with
 |[.int .i64 line,.agg [.int .i64 a0,.int .i64 a1,.int .i64 a2,.int .i64 a3,.int .i64 a4,.int .i64 a5,.int .i64 a6,.int .i64 a7]] =>some (.req (chPre f line ⟨a0,a1,a2,a3,a4,a5,a6,a7⟩) (.node (decide (doE f line ⟨a0,a1,a2,a3,a4,a5,a6,a7⟩=0)) (.leaf (.tuple [(doF f line ⟨a0,a1,a2,a3,a4,a5,a6,a7⟩).sv,I64 0])) (.leaf (.tuple [.agg (nilC fw0),I64 (doE f line ⟨a0,a1,a2,a3,a4,a5,a6,a7⟩)]))))
 |_=>none
theorem chPre_iff{f:Fw}{line:Int}{c:Gc.C}:chPre f line c=true↔cmdPre f line c=true∧¬c.code=1112:=by simp only[chPre,Bool.and_eq_true,decide_eq_true_eq]
theorem o_chR:fChR.ok Tryz.prog:=factFw_ok fun f rest t ht=>by
 split at ht
 ·injection ht with ht;subst ht
  intro h
  obtain⟨h1,h2⟩:=chPre_iff.1 h
  exact resT_says (s_chR f _ ⟨_,_,_,_,_,_,_,_⟩ h1 h2)
 ·cases ht
section
variable {f g:Fw} {line:Int} {c:Gc.C}
theorem endF_0(h:line=0∨c.code=1112):endF g line c=touchF g:=if_pos h
theorem endF_1(h:¬line=0)(k:¬c.code=1112):endF g line c=touchF {g with line:=line}:=by unfold endF;rw[if_neg (by omega)];rfl
theorem acc_ok(v:validF f=true)(hc:c.valid=true)(hl:line=0∨line=f.line+1)(hm:line≤1099511627776)(e:doE f line c=0)(h:endF (doF f line c) line c=g):SV.tuple [.agg g.cells,.int .i64 0] =accS f line c:=by
 rw[acc_do v hc hl hm,doS_ok e rfl,h];rfl
theorem acc_er(v:validF f=true)(hc:c.valid=true)(hl:line=0∨line=f.line+1)(hm:line≤1099511627776)(e:¬doE f line c=0):SV.tuple [.agg (nilC fw0),.int .i64 (doE f line c)] =accS f line c:=by
 rw[acc_do v hc hl hm];exact doS_err rfl e
theorem acc_s1(h:¬line=0)(k:c.code=1112):endF (doF f line c) line c=touchF (stopF {f with line:=line}):=by rw[endF_0 (.inr k),doF_1112 k,lineF_yes h]
theorem acc_s0(h:line=0)(k:c.code=1112):endF (doF f line c) line c=touchF (stopF f):=by rw[endF_0 (.inr k),doF_1112 k,lineF_no h]
end
theorem s_acceptR(f:Fw)(line:Int)(c:Gc.C)(hh:ok63 c.has=true):SCall Tryz.prog 25 [f.sv,I64 line,c.sv] (accS f line c):=
 scall_vE (hB (l:=[fValidR,fGvR,fChR,fStoR,fTouR]) (k:=[]) (j:=[]) (i:=[]) ([] :List Nat) ([] :List Nat) ([] :List Nat) ([] :List Nat) (⟨o_validR,o_gvR,o_chR,o_stoR,o_touR,trivial⟩) noneOk noneOk noneOk) 1000 (let z1:Plan:=.fork .all .all;let z0:Plan:=.fork .all (.fork z1 (.fork (.lit z1) (.fork .all z1)));.fork (.ln 11 (.lit .all)) (.ln 3 (.fork (.ln 7 (.lit .all)) (.lit (.lit (.fork (.ln 7 (.fork (.lit (.lit (.lit .all))) (.lit (.lit z0)))) (.ln 10 z0)))))))
  (t:=let y2:Tree SV:=.leaf (.tuple [.agg (nilC fw0),.int .i64 1]);let y3:=(((0,0,fw0.mo.1.1.2.2),0,0,fw0.mo.1.2.2.2),fw0.mo.2);let y1:=touchF ({fw0 with ma:=(Ma.mk fw0.ma.x fw0.ma.y fw0.ma.z fw0.ma.e false 0),mode:=0,homed:=false,pos:=(0,0,fw0.pos.2.2),loc:=(0,fw0.loc.2),e:=0,feed:=0,queue:=[],lines:=[],mo:=y3,moving:=false,active:=0,back:=false,ret:=(0,0,fw0.ret.2.2),dwell:=0,waits:=0,fan:=0,line:=0,ticks:=0,cold:=0,r0:=0,r1:=0});let y0:Tree SV:=.node (decide (line>1099511627776)) y2 (.node (c.code==1112) (.node (line != 0) (.req (shapeB ({f with line:=line})) (.leaf (.tuple [.agg (Fw.cells (touchF (stopF ({f with line:=line})))),.int .i64 0]))) (.req (shapeB f) (.leaf (.tuple [.agg (Fw.cells (touchF (stopF f))),.int .i64 0])))) (.req (chPre f line c) (.node (decide (doE f line c=0)) (.node (line != 0) (.leaf (.tuple [.agg (Fw.cells (touchF ({ (doF f line c)with line:=line}))),.int .i64 0])) (.leaf (.tuple [.agg (Fw.cells (touchF (doF f line c))),.int .i64 0]))) (.node (doE f line c != 0) (.leaf (.tuple [.agg (nilC fw0),.int .i64 (doE f line c)])) (.node (line != 0) (.leaf (.tuple [.agg (Fw.cells (touchF ({fw0 with ma:=(Ma.mk fw0.ma.x fw0.ma.y fw0.ma.z fw0.ma.e false 0),mode:=0,homed:=false,pos:=(0,0,fw0.pos.2.2),loc:=(0,fw0.loc.2),e:=0,feed:=0,queue:=[],lines:=[],mo:=y3,moving:=false,active:=0,back:=false,ret:=(0,0,fw0.ret.2.2),dwell:=0,waits:=0,fan:=0,line:=line,ticks:=0,cold:=0,r0:=0,r1:=0}))),.int .i64 0])) (.leaf (.tuple [.agg [.int .i64 0,.int .i64 0,.int .i64 0,.int .i64 0,.int .i64 0,.int .i64 0,.int .i64 0,.int .i64 0,.int .i64 0,.int .i64 0,.int .i64 0,.int .i64 0,.int .i64 0,.int .i64 0,.int .i64 0,.int .i64 0,.int .i64 0,.int .i64 0,.int .i64 0,.int .i64 0,.int .i64 0,.int .i64 0,.int .i64 0,.int .i64 0,.int .i64 0,.int .i64 0,.int .i64 0,.int .i64 0,.bool false,.int .i64 0,.int .i64 0,.bool false,.int .i64 0,.int .i64 0,.int .i64 0,.int .i64 0,.int .i64 0,.int .i64 0,.int .i64 0,.int .i64 0,.int .i64 0,.list tyBk y1.queue,.list (Ty.int IntKind.i64) y1.lines,.int .i64 0,.int .i64 0,.int .i64 0,.int .i64 0,.int .i64 0,.int .i64 0,.int .i64 0,.int .i64 0,.int .i64 0,.int .i64 0,.bool false,.int .i64 0,.bool false,.int .i64 0,.int .i64 0,.int .i64 0,.int .i64 0,.int .i64 0,.int .i64 0,.int .i64 0,.int .i64 0,.int .i64 0,.int .i64 0,.int .i64 0,.int .i64 0,.int .i64 0,.int .i64 0,.int .i64 0,.int .i64 0,.int .i64 0,.int .i64 0,.int .i64 0,.int .i64 0,.int .i64 0,.int .i64 0,.int .i64 0,.int .i64 0,.int .i64 0,.int .i64 0,.int .i64 0,.int .i64 0,.bool false,.int .i64 0,.int .i64 0,.int .i64 0,.int .i64 0,.int .i64 0,.int .i64 0,.int .i64 0,.int .i64 0,.int .i64 0,.int .i64 0,.bool false,.int .i64 0,.int .i64 0,.int .i64 0,.int .i64 0,.int .i64 0,.int .i64 0],.int .i64 0])))))));.node (!validF f) y2 (.node (!c.validR) y2 (.node (line != 0) (.node (line != i64.wrap (f.line+1)) y2 y0) y0)))
  (by kernel_rfl) (by
   rw[←Gc.valid_eq (ok63_iff.1 hh).1 (ok63_iff.1 hh).2]
   refine n_not (fun v=>acc_bad (.inl v)) fun v=>n_not (fun hc=>acc_bad (.inr (.inl hc))) fun hc=>?_
   have vf:=vf_of v
   have n:=vf.nums
   have w:i64.wrap (f.line+1)=f.line+1:=w64 (by omega) (by omega)
   rw[w]
   have cp:0≤line→¬c.code=1112→chPre f line c=true:=fun l k=>chPre_iff.2 ⟨cmdPre_iff.2 ⟨v,hc,l⟩,k⟩
   repeat' first
    |refine n_eq (fun _=>?_) (fun _=>?_)
    |refine n_ne (fun _=>?_) (fun _=>?_)
    |refine n_dec (fun _=>?_) (fun _=>?_)
    |refine n_req (cp (by omega) (by assumption)) ?_
    |refine n_req vf.shape ?_
    |refine n_req (shape_line vf.shape (by omega)) ?_
   all_goals first
    |(exfalso;omega)
    |exact acc_bad (.inr (.inr (.inl ⟨by assumption,by assumption⟩)))
    |exact acc_bad (.inr (.inr (.inr (by omega))))
    |exact acc_ok v hc (by omega) (by omega) (doE_1112 (by assumption)) (acc_s1 (by assumption) (by assumption))
    |exact acc_ok v hc (by omega) (by omega) (doE_1112 (by assumption)) (acc_s0 (by assumption) (by assumption))
    |exact acc_ok v hc (by omega) (by omega) (by assumption) (endF_1 (by assumption) (by assumption))
    |exact acc_ok v hc (by omega) (by omega) (by assumption) (endF_0 (by omega))
    |exact acc_er v hc (by omega) (by omega) (by assumption)) (by kernel_rfl) (by exact accS_data)
def fAcptR:Fact:=factFw 25 fun f rest=>match rest with
 |[.int .i64 line,.agg [.int .i64 a0,.int .i64 a1,.int .i64 a2,.int .i64 a3,.int .i64 a4,.int .i64 a5,.int .i64 a6,.int .i64 a7]] =>some (.req (ok63 a1) (.node (decide (accE f line ⟨a0,a1,a2,a3,a4,a5,a6,a7⟩=0)) (.leaf (.tuple [(accF f line ⟨a0,a1,a2,a3,a4,a5,a6,a7⟩).sv,I64 0])) (.leaf (.tuple [fw0.sv,I64 (accE f line ⟨a0,a1,a2,a3,a4,a5,a6,a7⟩)]))))
 |_=>none
theorem o_acptR:fAcptR.ok Tryz.prog:=factFw_ok fun f rest t ht=>by
 split at ht
 ·injection ht with ht;subst ht;exact fun h=>accS_says (s_acceptR f _ ⟨_,_,_,_,_,_,_,_⟩ h)
 ·cases ht
theorem s_beginR(f:Fw):SCall Tryz.prog 30 [f.sv] (begS f):=
 scall_vE (hB (l:=[fValidR,fStartR]) (k:=[]) (j:=[]) (i:=[]) ([] :List Nat) ([] :List Nat) ([] :List Nat) ([] :List Nat) (⟨o_validR,o_startR,trivial⟩) noneOk noneOk noneOk) 1000 (.fork (.ln 15 (.lit .all)) (.lit (.lit (.fork (.ln 12 (.lit .all)) (.ln 4 (.fork (.ln 7 (.lit .all)) (.ln 3 (.fork (.ln 3 (.lit .all)) (.ln 3 (.fork .all (.fork .all .all)))))))))))
  (t:=let y0:Tree SV:=.leaf (.tuple [.agg (Fw.cells f),.bool false]);let y1:=(↑f.queue.length:Int);let y2:=(↑f.lines.length:Int);.node (!validF f) y0 (.node (f.moving) y0 (.node (y1==0) y0 (.node (f.mode==3) y0 (.node (f.dwell != 0) y0 (.req (decide (0<y1)) (.node (okS (f.queue.getD 0 dBk) f.ma.ticks) (.req (decide (0<y2)) (.req (decide (1≤y1)) (.req (decide (1≤y2)) (.leaf (.tuple [.agg (Fw.cells {f with queue:=(List.drop 1 f.queue),lines:=(List.drop 1 f.lines),mo:=(startM (f.queue.getD 0 dBk) f.ma.ticks),moving:=true,active:=(f.lines.getD 0 0)}),.bool true]))))) (.req (decide (0<y2)) (.req (decide (1≤y1)) (.req (decide (1≤y2)) (.leaf (.tuple [.agg (Fw.cells {f with queue:=(List.drop 1 f.queue),lines:=(List.drop 1 f.lines),mo:=(((0,0,0,0),0,0,0,0),0,0),moving:=true,active:=(f.lines.getD 0 0)}),.bool true]))))))))))))
  (by kernel_rfl) (by
   cases v:validF f with
   |false=>
    refine n_not (fun _=>begS_1 v) fun k=>(by cases k)
   |true=>
    have vf:=vf_of v
    have ci:=canStart_iff (f:=f)
    refine n_not (fun k=>(by cases k)) fun _=>?_
    cases hc:canStart f
    ·have hn:¬(f.moving=false∧¬f.queue.length=0∧¬f.mode=3∧f.dwell=0):=fun a=>by rw[ci.2 a]at hc;cases hc
     simp only[Tree.holds,sL,ne_eq,beq_iff_eq,bne_iff_ne,eq_self,beq_eq_false_iff_ne,bne_eq_false_iff_eq,implies_true];(repeat' (first|apply And.intro|intro _));
     all_goals first
      |(exfalso;first|omega|grind)
      |exact begS_2 v hc
    ·have hy:=ci.1 hc
     have sm:=start_mo v hc
     have e:SV.tuple [.agg (startF f).cells,.bool true] =begS f:=by rw[←begS_3 v hc,begF_yes hc]
     have sm1:=sm.1
     unfold startF at e
     rw[startMo_yes sm.1]at e
     have lq:=vf.lens
     simp only[Tree.holds,sL,ne_eq,beq_iff_eq,bne_iff_ne,eq_self,beq_eq_false_iff_ne,bne_eq_false_iff_eq,implies_true];(repeat' (first|apply And.intro|intro _));
     all_goals first
      |(exfalso;first|omega|grind)
      |omega
      |exact e) (by kernel_rfl) (by rfl)
def fBegXR:Fact:=factF1 30 fun f=>.leaf (begS f)
theorem o_begXR:fBegXR.ok Tryz.prog:=factF1_ok (fun f=>s_beginR f)
def heatS(f:Fw):SV:=.tuple [(heatF f).sv,.agg [I64 (duty0 f),I64 (duty1 f)],.bool (lostB f)]
theorem heatS_at{f:Fw}{b:Bool}(h:lostB f=b):SV.tuple [.agg (heatF f).cells,.agg [.int .i64 (duty0 f),.int .i64 (duty1 f)],.bool b] =heatS f:=by unfold heatS;rw[h];rfl
theorem lost_y0{f:Fw}(a:f.g0.fault=0)(b:¬(f.g0.step f.r0 (f.c0.step f.r0).target (f.c0.duty f.r0)).fault=0):lostB f=true:=lostB_iff.2 (.inl ⟨a,b⟩)
theorem lost_y1{f:Fw}(a:f.g1.fault=0)(b:¬(f.g1.step f.r1 (f.c1.step f.r1).target (f.c1.duty f.r1)).fault=0):lostB f=true:=lostB_iff.2 (.inr ⟨a,b⟩)
theorem lost_l{f:Fw}(a:¬f.g0.fault=0∨(f.g0.step f.r0 (f.c0.step f.r0).target (f.c0.duty f.r0)).fault=0)(b:f.g1.fault=0):lostB f=((f.g1.step f.r1 (f.c1.step f.r1).target (f.c1.duty f.r1)).fault != 0):=by
 rw[Bool.eq_iff_iff,lostB_iff,bne_iff_ne];omega
theorem lost_n{f:Fw}(a:¬f.g0.fault=0∨(f.g0.step f.r0 (f.c0.step f.r0).target (f.c0.duty f.r0)).fault=0)(b:¬f.g1.fault=0∨(f.g1.step f.r1 (f.c1.step f.r1).target (f.c1.duty f.r1)).fault=0):lostB f=false:=by
 rw[Bool.eq_false_iff,ne_eq,lostB_iff];omega
theorem s_heatR(f:Fw):SCall Tryz.prog 80 [f.sv] (heatS f):=
 scall_vE (hB (l:=[fCoSR,fGstR]) (k:=[]) (j:=[]) (i:=[]) ([] :List Nat) ([] :List Nat) ([] :List Nat) ([] :List Nat) (⟨o_coSR,o_gstR,trivial⟩) noneOk noneOk noneOk) 1000 (.go (.ln 8 (.fork (.ln 5 (.go (.lit (.fork (.ln 8 (.go (.lit .all))) (.ln 6 (.fork (.ln 5 (.go (.lit .all))) (.ln 5 (.go (.lit .all))))))))) (.ln 5 (.go (.ln 8 (.fork (.ln 5 (.go (.lit .all))) (.ln 5 (.go (.lit .all))))))))))
  (t:=let y2:=f.g0.duty f.r0 (f.c0.step f.r0).target (f.c0.duty f.r0);let y3:=f.g1.duty f.r1 (f.c1.step f.r1).target (f.c1.duty f.r1);let y4:=f.g0.step f.r0 (f.c0.step f.r0).target (f.c0.duty f.r0);let y5:=f.g1.step f.r1 (f.c1.step f.r1).target (f.c1.duty f.r1);let y1:=Fw.cells {f with c0:=(f.c0.step f.r0),c1:=(f.c1.step f.r1),g0:=y4,g1:=y5};let y0:Tree SV:=.node (f.g1.fault==0) (.req true (.req (true) (.req true (.leaf (.tuple [.agg y1,.agg [.int .i64 y2,.int .i64 y3],.bool (y5.fault != 0)]))))) (.req true (.req (true) (.req true (.leaf (.tuple [.agg y1,.agg [.int .i64 y2,.int .i64 y3],.bool false])))));.req (true) (.req true (.req (true) (.req true (.req (true) (.node (f.g0.fault==0) (.req true (.req (true) (.req true (.req (true) (.req true (.req (true) (.req true (.node (y4.fault != 0) (.req true (.req (true) (.req true (.leaf (.tuple [.agg y1,.agg [.int .i64 y2,.int .i64 y3],.bool true]))))) (.req true y0))))))))) (.req true (.req (true) (.req true (.req (true) (.req true (.req (true) (.req true (.req (true) y0))))))))))))))
  (by kernel_rfl) (by
   repeat' first
    |refine n_req rfl ?_
    |refine n_eq (fun _=>?_) (fun _=>?_)
    |refine n_ne (fun _=>?_) (fun _=>?_)
    |refine n_bool (fun _=>?_) (fun _=>?_)
   all_goals first
    |exact heatS_at (lost_y0 (by assumption) (by assumption))
    |exact heatS_at (lost_y1 (by assumption) (by assumption))
    |exact heatS_at (lost_l (by first|exact .inl (by assumption)|exact .inr (by assumption)) (by assumption))
    |exact heatS_at (lost_n (by first|exact .inl (by assumption)|exact .inr (by assumption)) (by first|exact .inl (by assumption)|exact .inr (by assumption)))) (by kernel_rfl) (by rfl)
def fHeatR:Fact:=factF1 80 fun f=>.leaf (heatS f)
theorem o_heatR:fHeatR.ok Tryz.prog:=factF1_ok (fun f=>s_heatR f)
def warmPre(f:Fw):Bool:=(f.c0.ok&&f.g0.ok)&& (f.c1.ok&&f.g1.ok)
theorem warmPre_iff{f:Fw}:warmPre f=true↔(f.c0.ok=true∧f.g0.ok=true)∧f.c1.ok=true∧f.g1.ok=true:=by simp only[warmPre,Bool.and_eq_true]
theorem warm_w{c:Co}{g:Gu}(hc:c.ok=true)(hg:g.ok=true):i64.wrap (c.target-g.band)=c.target-g.band:=by
 have a:=(Co.ok_iff _).1 hc
 have b:=(Gu.ok_iff _).1 hg
 exact w64 (by omega) (by omega)
theorem sv_fw{f g:Fw}(h:f=g):SV.agg f.cells=g.sv:=by subst h;rfl
theorem s_waitR(f:Fw)(h:warmPre f=true):SCall Tryz.prog 82 [f.sv] ((waitF f).sv):=
 scall_vE (hB (l:=[]) (k:=[]) (j:=[]) (i:=[]) ([] :List Nat) ([] :List Nat) ([] :List Nat) ([] :List Nat) (trivial) noneOk noneOk noneOk) 1000 (.go (.lit (.fork (.go (.lit (.fork (.go (.lit (.all))) (.go (.lit (.all)))))) (.go (.lit (.fork (.go (.lit (.all))) (.go (.lit (.all)))))))))
  (t:=let y0:=i64.wrap (↑(BitVec.ofInt 64 f.waits &&& ~~~BitVec.ofInt 64 1).toNat:Int);let y1:=decide (f.r1≥i64.wrap (f.c1.target-f.g1.band));.req (true) (.req true (.req (true) (.node (decide (f.r0≥i64.wrap (f.c0.target-f.g0.band))) (.req true (.req (true) (.req true (.node y1 (.leaf (.agg (Fw.cells {f with waits:=(i64.wrap (↑(BitVec.ofInt 64 y0 &&& ~~~BitVec.ofInt 64 2).toNat:Int))}))) (.leaf (.agg (Fw.cells {f with waits:=y0}))))))) (.req true (.req (true) (.req true (.node y1 (.leaf (.agg (Fw.cells {f with waits:=(i64.wrap (↑(BitVec.ofInt 64 f.waits &&& ~~~BitVec.ofInt 64 2).toNat:Int))}))) (.leaf (.agg (Fw.cells f)))))))))))
  (by kernel_rfl) (by
   obtain⟨⟨k1,k2⟩,k3,k4⟩:=warmPre_iff.1 h
   rw[warm_w k1 k2,warm_w k3 k4]
   repeat' (first|refine n_req rfl ?_|refine n_dec (fun _=>?_) (fun _=>?_))
   all_goals first
    |exact sv_fw (waitF_tt (by assumption) (by assumption)).symm
    |exact sv_fw (waitF_tf (by assumption) (by assumption)).symm
    |exact sv_fw (waitF_ft (by assumption) (by assumption)).symm
    |exact sv_fw (waitF_ff (by assumption) (by assumption)).symm) (by kernel_rfl) (by rfl)
def fWaitR:Fact:=factF1 82 fun f=>.req (warmPre f) (.leaf (waitF f).sv)
theorem o_waitR:fWaitR.ok Tryz.prog:=factF1_ok (fun f h=>s_waitR f h)
def runS(f:Fw):SV:=.tuple [(runF f).sv,V4.sv (runP f)]
theorem runS_at{f g:Fw}{p:V4}(a:runF f=g)(b:runP f=p):SV.tuple [.agg g.cells,.agg p.cells] =runS f:=by unfold runS;rw[a,b];rfl
theorem s_runR(f:Fw)(h:validF f=true):SCall Tryz.prog 83 [f.sv] (runS f):=
 scall_vE (hB (l:=[fBegXR,fTickR,fPlsR,fEndedR]) (k:=[]) (j:=[]) (i:=[]) ([] :List Nat) ([] :List Nat) ([] :List Nat) ([] :List Nat) (⟨o_begXR,o_tickR,o_plsR,o_endedR,trivial⟩) noneOk noneOk noneOk) 1000 (.fork (.all) (.fork (.all) (.fork (.all) (.all))))
  (t:=.node (decide (f.dwell>0)) (.leaf (.tuple [.agg (Fw.cells {f with dwell:=(i64.wrap (f.dwell-1))}),.agg [.int .i64 0,.int .i64 0,.int .i64 0,.int .i64 0]])) (.node (!(begX f).moving) (.leaf (.tuple [.agg (Fw.cells (begX f)),.agg [.int .i64 0,.int .i64 0,.int .i64 0,.int .i64 0]])) (.node (endedM (tickM (begX f).mo (begX f).ma.ticks)) (.leaf (.tuple [.agg (Fw.cells { (begX f)with pos:=(wadd4 (begX f).pos (tickP (begX f).mo (begX f).ma.ticks)),mo:=(((0,0,0,0),0,0,0,0),0,0),moving:=false,active:=0}),.agg [.int .i64 (tickP (begX f).mo (begX f).ma.ticks).1,.int .i64 (tickP (begX f).mo (begX f).ma.ticks).2.1,.int .i64 (tickP (begX f).mo (begX f).ma.ticks).2.2.1,.int .i64 (tickP (begX f).mo (begX f).ma.ticks).2.2.2]])) (.leaf (.tuple [.agg (Fw.cells { (begX f)with pos:=(wadd4 (begX f).pos (tickP (begX f).mo (begX f).ma.ticks)),mo:=(tickM (begX f).mo (begX f).ma.ticks)}),.agg [.int .i64 (tickP (begX f).mo (begX f).ma.ticks).1,.int .i64 (tickP (begX f).mo (begX f).ma.ticks).2.1,.int .i64 (tickP (begX f).mo (begX f).ma.ticks).2.2.1,.int .i64 (tickP (begX f).mo (begX f).ma.ticks).2.2.2]])))))
  (by kernel_rfl) (by
   have v:=vf_of h
   have n:=v.nums
   have vb:=vf_of (beg_valid h)
   have wa:wadd4 (begF f).pos (tickP (begF f).mo (begF f).ma.ticks)=add4 (begF f).pos (tickP (begF f).mo (begF f).ma.ticks):=wadd4_eq (near_big vb.pos) (tickP_big _ _)
   rw[begX_yes h,wa]
   refine n_dec (fun d=>?_) fun d=>n_not (fun m=>?_) fun m=>n_bool (fun e=>?_) fun e=>?_
   ·rw[show i64.wrap (f.dwell-1)=f.dwell-1 from w64 (by omega) (by omega)]
    exact runS_at (if_pos d) (if_pos d)
   ·exact runS_at (by unfold runF;rw[if_neg d,m,if_neg Bool.false_ne_true]) (by unfold runP;rw[if_neg d,m,if_neg Bool.false_ne_true])
   ·exact runS_at (by unfold runF;rw[if_neg d,if_pos m];exact step_yes e) (by unfold runP;rw[if_neg d,if_pos m])
   ·exact runS_at (by unfold runF;rw[if_neg d,if_pos m];exact step_no e) (by unfold runP;rw[if_neg d,if_pos m])) (by kernel_rfl) (by rfl)
def fRunR:Fact:=factF1 83 fun f=>.req (validF f) (.leaf (runS f))
theorem o_runR:fRunR.ok Tryz.prog:=factF1_ok (fun f h=>s_runR f h)
section
variable {f g:Fw} {r s:Int}
theorem warm_of{x:Fw}(v:validF x=true):warmPre x=true:=by
 have u:=vf_of v
 exact warmPre_iff.2 ⟨⟨u.c0,u.g0⟩,u.c1,u.g1⟩
theorem tkR_1(v:validF f=true)(h:g=readF f r s)(l:lostB g=true):SV.tuple [.agg (waitF {loseF (heatF g)with mode:=3}).cells,V4.sv z4,.agg [I64 0,I64 0]] =tickX f r s:=by
 subst h
 have e:hotF f r s=waitF {loseF (heatF (readF f r s))with mode:=3}:=by unfold hotF lostF;rw[if_pos l]
 have m:(hotF f r s).mode=3:=by rw[e];rfl
 unfold tickX;rw[tickF_on v,tickQ_on v,tickD_on v,if_pos m,if_pos m,if_pos m,e];rfl
theorem tkR_2(v:validF f=true)(h:g=readF f r s)(l:lostB g=false)(m:(waitF (heatF g)).mode=3):SV.tuple [.agg (waitF (heatF g)).cells,V4.sv z4,.agg [I64 0,I64 0]] =tickX f r s:=by
 subst h
 have e:hotF f r s=waitF (heatF (readF f r s)):=by unfold hotF lostF;rw[l,if_neg Bool.false_ne_true]
 have m:(hotF f r s).mode=3:=by rw[e];exact m
 unfold tickX;rw[tickF_on v,tickQ_on v,tickD_on v,if_pos m,if_pos m,if_pos m,e];rfl
theorem tkR_3(v:validF f=true)(h:g=readF f r s)(l:lostB g=false)(m:¬(waitF (heatF g)).mode=3):SV.tuple [.agg (runF (waitF (heatF g))).cells,V4.sv (runP (waitF (heatF g))),.agg [I64 (duty0 g),I64 (duty1 g)]] =tickX f r s:=by
 subst h
 have e:hotF f r s=waitF (heatF (readF f r s)):=by unfold hotF lostF;rw[l,if_neg Bool.false_ne_true]
 have m:¬(hotF f r s).mode=3:=by rw[e];exact m
 unfold tickX;rw[tickF_on v,tickQ_on v,tickD_on v,if_neg m,if_neg m,if_neg m,e];rfl
theorem tkR_ticks(v:validF f=true):(if i64.wrap (f.ticks+1)<1099511627776 then i64.wrap (f.ticks+1)else 1099511627776)=(if f.ticks+1<1099511627776 then f.ticks+1 else 1099511627776):=by
 have n:=(vf_of v).nums
 rw[w64 (x:=f.ticks+1) (by omega) (by omega)]
end
theorem s_tickRR(f:Fw)(r s:Int):SCall Tryz.prog 28 [f.sv,.agg [I64 r,I64 s]] (tickX f r s):=
 scall_vE (hB (l:=[fValidR,fHeatR,fLoseR,fWaitR,fRunR]) (k:=[]) (j:=[]) (i:=[]) ([] :List Nat) ([] :List Nat) ([] :List Nat) ([] :List Nat) (⟨o_validR,o_heatR,o_loseR,o_waitR,o_runR,trivial⟩) noneOk noneOk noneOk) 1000 (.fork (.all) (.fork (.lit (.all)) (.fork (.all) (.all))))
  (t:=let y0:={f with ticks:=(if i64.wrap (f.ticks+1)<1099511627776 then i64.wrap (f.ticks+1)else 1099511627776),r0:=r,r1:=s};let y1:=waitF (heatF y0);.node (!validF f) (.leaf (.tuple [.agg (Fw.cells f),.agg [.int .i64 0,.int .i64 0,.int .i64 0,.int .i64 0],.agg [.int .i64 0,.int .i64 0]])) (.node (lostB y0) (.req (shapeB (heatF y0)) (.req (warmPre ({ (loseF (heatF y0))with mode:=3})) (.leaf (.tuple [.agg (Fw.cells (waitF ({ (loseF (heatF y0))with mode:=3}))),.agg [.int .i64 0,.int .i64 0,.int .i64 0,.int .i64 0],.agg [.int .i64 0,.int .i64 0]])))) (.req (warmPre (heatF y0)) (.node (y1.mode==3) (.leaf (.tuple [.agg (Fw.cells y1),.agg [.int .i64 0,.int .i64 0,.int .i64 0,.int .i64 0],.agg [.int .i64 0,.int .i64 0]])) (.req (validF y1) (.leaf (.tuple [.agg (Fw.cells (runF y1)),.agg [.int .i64 (runP y1).1,.int .i64 (runP y1).2.1,.int .i64 (runP y1).2.2.1,.int .i64 (runP y1).2.2.2],.agg [.int .i64 (duty0 y0),.int .i64 (duty1 y0)]])))))))
  (by kernel_rfl) (by
   refine n_not (fun v=>tk_no v) fun v=>?_
   have h:({f with ticks:=(if i64.wrap (f.ticks+1)<1099511627776 then i64.wrap (f.ticks+1)else 1099511627776),r0:=r,r1:=s}:Fw)=readF f r s:=by unfold readF;rw[tkR_ticks v]
   have hv:=heat_valid (read_valid (r:=r) (s:=s) v)
   have hh:=hot_valid (r:=r) (s:=s) v
   refine n_bool (fun l=>?_) fun l=>?_
   ·refine n_req (by rw[h];exact(vf_of hv).shape) (n_req (by rw[h];exact warm_of (lose_valid hv)) (tkR_1 v h l))
   ·refine n_req (by rw[h];exact warm_of hv) (n_eq (fun m=>tkR_2 v h l m) fun m=>n_req ?_ (tkR_3 v h l m))
    rw[h]at l ⊢
    have e:hotF f r s=waitF (heatF (readF f r s)):=by unfold hotF lostF;rw[l,if_neg Bool.false_ne_true]
    rw[←e];exact hh) (by kernel_rfl) (by rfl)
def fTickXR:Fact:=factFw 28 fun f rest=>match rest with
 |[.agg [.int .i64 r,.int .i64 s]] =>some (.leaf (tickX f r s))
 |_=>none
theorem o_tickXR:fTickXR.ok Tryz.prog:=factFw_ok fun f rest t ht=>by
 split at ht
 ·injection ht with ht;subst ht;exact s_tickRR f _ _
 ·cases ht
def ru0_p:Plan:=let z0:Plan:=.ln 4 (.fork (.lit (.lit .all)) (.lit .all));.fork (.fork z0 (.ln 6 (.lit .all))) (.fork (.ln 6 (.lit .all)) z0)
noncomputable def ru0_t(m:Ma)(c d:Co)(g h:Gu)(cold:Int)(l:List OpT):Tree Stop:=let y0:=Ty.int IntKind.i64; .node (newOk m c d g h cold) (.node (newOk m c d g h cold) (.req (lenOk l) (.node (!smallB l 30) (.leaf (.done (.bool true))) (.leaf (.at (loopOf Tryz.prog 6 0) 141 (slotsS 141 [(1,.list (y0.pair (Ty.bool.pair ((y0.pair (y0.pair (y0.pair (y0.pair (y0.pair (y0.pair (y0.pair y0))))))).pair (y0.pair (y0.pair y0))))) l),(5,.ptr 0 0),(7,.ptr 1 0),(9,.int .i64 0)]) [some (.cells (Fw.cells (newF m c d g h cold))),some (.cells (Fw.cells (newF m c d g h cold)))])))) (.leaf (.done (.bool false)))) (.node (newOk m c d g h cold) (.leaf (.done (.bool false))) (.req (lenOk l) (.node (!smallB l 30) (.leaf (.done (.bool true))) (.leaf (.done (.bool true))))))
theorem ru0(m:Ma)(c d:Co)(g h:Gu)(cold:Int)(l:List OpT):segR (Env.ofB Tryz.prog (sumOf [fNew,fNewR,fSmall,fWorks,fAcpt,fAcptR,fTickX,fTickXR,fSame,fLine53]) (wrOf []) (pnOf []) (bxOf []) (rdOf []) (rdOf []) (rdOf []) (rdOf [])) 1000 (fnOf Tryz.prog 6) .unit (keepN 141 [1,5,7,9] [1,5,7,9,10,15]) (codeS Tryz.prog 6) ru0_p (startS Tryz.prog 6 [.agg (m.cells++(c.cells++(d.cells++(g.cells++(h.cells++[I64 cold]))))),LO l]) [] =ru0_t m c d g h cold l:=by kernel_rfl
def ru1_p:Plan:=let z0:Plan:=.fork (.ln 4 (.lit .all)) (.ln 5 (.fork .all .all));.fork (.fork (.fork (.fork (.ln 6 (.lit .all)) (.fork (.ln 4 (.lit .all)) (.ln 5 (.lit .all)))) (.fork z0 z0)) .all) .all
noncomputable def ru1_t(f:Fw)(l:List OpT)(i:Int):Tree Stop:=let y2:={fw0 with ma:=(Ma.mk fw0.ma.x fw0.ma.y fw0.ma.z fw0.ma.e false 0),mode:=0,homed:=false,pos:=(0,0,fw0.pos.2.2),loc:=(0,fw0.loc.2),e:=0,feed:=0,mo:=(((0,0,fw0.mo.1.1.2.2),0,0,fw0.mo.1.2.2.2),fw0.mo.2),moving:=false,active:=0,back:=false,ret:=(0,0,fw0.ret.2.2),dwell:=0,waits:=0,fan:=0,line:=0,ticks:=0,cold:=0,r0:=0,r1:=0};let y3:=l.getD i.toNat dOp;let y4:=Ty.int IntKind.i64;let y0:Box:=.cells [.int .i64 0,.int .i64 0,.int .i64 0,.int .i64 0,.int .i64 0,.int .i64 0,.int .i64 0,.int .i64 0,.int .i64 0,.int .i64 0,.int .i64 0,.int .i64 0,.int .i64 0,.int .i64 0,.int .i64 0,.int .i64 0,.int .i64 0,.int .i64 0,.int .i64 0,.int .i64 0,.int .i64 0,.int .i64 0,.int .i64 0,.int .i64 0,.int .i64 0,.int .i64 0,.int .i64 0,.int .i64 0,.bool false,.int .i64 0,.int .i64 0,.bool false,.int .i64 0,.int .i64 0,.int .i64 0,.int .i64 0,.int .i64 0,.int .i64 0,.int .i64 0,.int .i64 0,.int .i64 0,.list tyBk fw0.queue,.list y4 fw0.lines,.int .i64 0,.int .i64 0,.int .i64 0,.int .i64 0,.int .i64 0,.int .i64 0,.int .i64 0,.int .i64 0,.int .i64 0,.int .i64 0,.bool false,.int .i64 0,.bool false,.int .i64 0,.int .i64 0,.int .i64 0,.int .i64 0,.int .i64 0,.int .i64 0,.int .i64 0,.int .i64 0,.int .i64 0,.int .i64 0,.int .i64 0,.int .i64 0,.int .i64 0,.int .i64 0,.int .i64 0,.int .i64 0,.int .i64 0,.int .i64 0,.int .i64 0,.int .i64 0,.int .i64 0,.int .i64 0,.int .i64 0,.int .i64 0,.int .i64 0,.int .i64 0,.int .i64 0,.int .i64 0,.bool false,.int .i64 0,.int .i64 0,.int .i64 0,.int .i64 0,.int .i64 0,.int .i64 0,.int .i64 0,.int .i64 0,.int .i64 0,.int .i64 0,.bool false,.int .i64 0,.int .i64 0,.int .i64 0,.int .i64 0,.int .i64 0,.int .i64 0];let y6:=(1,.list (y4.pair (Ty.bool.pair ((y4.pair (y4.pair (y4.pair (y4.pair (y4.pair (y4.pair (y4.pair y4))))))).pair (y4.pair (y4.pair y4))))) l);let y1:=slotsS 141 [y6,(5,.ptr 0 0),(7,.ptr 1 0),(9,.int .i64 (i64.wrap (i+1)))];let y7:=lineV f y3.2.1;let y5:=accF f y7 (opC y3);let y8:=loopOf Tryz.prog 6 0;let y9:Box:=.cells (Fw.cells f);let y10:=decide (accE f y7 (opC y3)=0); .node (decide (i< (↑l.length:Int))) (.req (decide (0≤i)&&decide (i< (↑l.length:Int))) (.node (y3.1==0) (.req (inR f.line 0 1099511627776) (.node y10 (.req (inR f.line 0 1099511627776) (.req (ok63 y3.2.2.1.2.1) (.node y10 (.req (eqFw y5 y5) (.req (shF y5) (.leaf (.at y8 141 y1 [some (.cells (Fw.cells y5)),some (.cells (Fw.cells y5))])))) (.node (0 != accE f y7 (opC y3)) (.leaf (.done (.bool false))) (.req (eqFw y5 y2) (.req (shF y5) (.leaf (.at y8 141 y1 [some (.cells (Fw.cells y5)),some y0])))))))) (.req (inR f.line 0 1099511627776) (.req (ok63 y3.2.2.1.2.1) (.node y10 (.node (accE f y7 (opC y3) != 0) (.leaf (.done (.bool false))) (.req (eqFw y2 y5) (.req true (.node (accE f y7 (opC y3)==0) (.leaf (.at y8 141 y1 [some y0,some (.cells (Fw.cells y5))])) (.leaf (.at y8 141 y1 [some y9,some y9])))))) (.node (accE f y7 (opC y3) != accE f y7 (opC y3)) (.leaf (.done (.bool false))) (.req (eqFw y2 y2) (.req true (.node (accE f y7 (opC y3)==0) (.leaf (.at y8 141 y1 [some y0,some y0])) (.leaf (.at y8 141 y1 [some y9,some y9]))))))))))) (.leaf (.at (loopOf Tryz.prog 6 1) 141 (slotsS 141 [y6,(5,.ptr 0 0),(7,.ptr 1 0),(9,.int .i64 i),(10,.ptr 2 0),(15,.int .i64 0)]) [some y9,some y9,some (.cells [.int .i64 y3.1,.bool y3.2.1,.int .i64 y3.2.2.1.1,.int .i64 y3.2.2.1.2.1,.int .i64 y3.2.2.1.2.2.1,.int .i64 y3.2.2.1.2.2.2.1,.int .i64 y3.2.2.1.2.2.2.2.1,.int .i64 y3.2.2.1.2.2.2.2.2.1,.int .i64 y3.2.2.1.2.2.2.2.2.2.1,.int .i64 y3.2.2.1.2.2.2.2.2.2.2,.int .i64 y3.2.2.2.1,.int .i64 y3.2.2.2.2.1,.int .i64 y3.2.2.2.2.2])])))) (.leaf (.done (.bool true)))
theorem ru1(f:Fw)(l:List OpT)(i:Int):segR (Env.ofB Tryz.prog (sumOf [fNew,fNewR,fSmall,fWorks,fAcpt,fAcptR,fTickX,fTickXR,fSame,fLine53]) (wrOf []) (pnOf []) (bxOf []) (rdOf []) (rdOf []) (rdOf []) (rdOf [])) 1000 (fnOf Tryz.prog 6) .unit (keepN 141 [1,5,7,9] [1,5,7,9,10,15]) (loopOf Tryz.prog 6 0) ru1_p (slotsS 141 [(1,LO l),(5,.ptr 0 0),(7,.ptr 1 0),(9,I64 i)]) [some (.cells f.cells),some (.cells f.cells)] =ru1_t f l i:=by kernel_rfl
def ru2_p:Plan:=.fork (.fork (.ln 8 (.lit .all)) (.ln 3 (.fork (.ln 4 (.lit .all)) (.ln 4 (.lit .all))))) .all
noncomputable def ru2_t(f:Fw)(l:List OpT)(i:Int)(kd:Int)(nb:Bool)(co:Gc.C)(n r s k:Int):Tree Stop:=let y0:=Ty.int IntKind.i64;let y1:=(1,.list (y0.pair (Ty.bool.pair ((y0.pair (y0.pair (y0.pair (y0.pair (y0.pair (y0.pair (y0.pair y0))))))).pair (y0.pair (y0.pair y0))))) l);let y2:=tickQ f r s; .node (decide (k<n)) (.node (!(y2.1==y2.1&& (y2.2.1==y2.2.1&& (y2.2.2.1==y2.2.2.1&& (y2.2.2.2==y2.2.2.2&&true))))) (.leaf (.done (.bool false))) (.node (!((tickD f r s).1==(tickD f r s).1&& ((tickD f r s).2==(tickD f r s).2&&true))) (.leaf (.done (.bool false))) (.req (eqFw (tickF f r s) (tickF f r s)) (.req (shF (tickF f r s)) (.leaf (.at (loopOf Tryz.prog 6 1) 141 (slotsS 141 [y1,(5,.ptr 0 0),(7,.ptr 1 0),(9,.int .i64 i),(10,.ptr 2 0),(15,.int .i64 (i64.wrap (k+1)))]) [some (.cells (Fw.cells (tickF f r s))),some (.cells (Fw.cells (tickF f r s))),some (.cells [.int .i64 kd,.bool nb,.int .i64 co.code,.int .i64 co.has,.int .i64 co.x,.int .i64 co.y,.int .i64 co.z,.int .i64 co.e,.int .i64 co.f,.int .i64 co.s,.int .i64 n,.int .i64 r,.int .i64 s])])))))) (.leaf (.at (loopOf Tryz.prog 6 0) 141 (slotsS 141 [y1,(5,.ptr 0 0),(7,.ptr 1 0),(9,.int .i64 (i64.wrap (i+1)))]) [some (.cells (Fw.cells f)),some (.cells (Fw.cells f))]))
theorem ru2(f:Fw)(l:List OpT)(i:Int)(kd:Int)(nb:Bool)(co:Gc.C)(n r s k:Int):segR (Env.ofB Tryz.prog (sumOf [fNew,fNewR,fSmall,fWorks,fAcpt,fAcptR,fTickX,fTickXR,fSame,fLine53]) (wrOf []) (pnOf []) (bxOf []) (rdOf []) (rdOf []) (rdOf []) (rdOf [])) 1000 (fnOf Tryz.prog 6) .unit (keepN 141 [1,5,7,9] [1,5,7,9,10,15]) (loopOf Tryz.prog 6 1) ru2_p (slotsS 141 [(1,LO l),(5,.ptr 0 0),(7,.ptr 1 0),(9,I64 i),(10,.ptr 2 0),(15,I64 k)]) [some (.cells f.cells),some (.cells f.cells),some (.cells (opL kd nb co n r s))] =ru2_t f l i kd nb co n r s k:=by kernel_rfl
theorem wf64{n:Int}(h:(Lit.int .i64 n).wf=true): -9223372036854775808≤n∧n≤9223372036854775807:=by
 have h:(decide ((-9223372036854775808:Int)≤n)&&decide (n≤(9223372036854775807:Int)))=true:=h
 simpa using h
theorem shF_valid{x:Fw}(h:validF x=true):shF x=true:=by
 have v:=vf_of h
 have l:=v.len
 have k:=v.lens
 unfold shF shB shI
 rw[Bool.and_eq_true,decide_eq_true_eq,decide_eq_true_eq];omega
theorem kLK:Known Tryz.prog (Env.ofB Tryz.prog (sumOf [fNew,fNewR,fSmall,fWorks,fAcpt,fAcptR,fTickX,fTickXR,fSame,fLine53]) (wrOf []) (pnOf []) (bxOf []) (rdOf []) (rdOf []) (rdOf []) (rdOf [])):=
 hB (l:=[fNew,fNewR,fSmall,fWorks,fAcpt,fAcptR,fTickX,fTickXR,fSame,fLine53]) (k:=[]) (j:=[]) (i:=[]) [] [] [] [] ⟨o_new,o_newR,o_small,o_works,o_acpt,o_acptR,o_tickX,o_tickXR,o_same,o_line53,trivial⟩ noneOk noneOk noneOk
section
variable {l:List OpT}
abbrev R1(l:List OpT)(f:Fw)(i:Int):Prop:=RunsR Tryz.prog (fnOf Tryz.prog 6) (.bool true) (loopOf Tryz.prog 6 0) (slotsS 141 [(1,LO l),(5,.ptr 0 0),(7,.ptr 1 0),(9,I64 i)]) [some (.cells f.cells),some (.cells f.cells)]
theorem ru2_loop{i kd:Int}{nb:Bool}{co:Gc.C}{n r s:Int}(hn:n≤9223372036854775807)(nx:∀f:Fw,validF f=true→R1 l f (i64.wrap (i+1))):∀ (j k:Nat) (f:Fw),validF f=true→k+j=n.toNat→RunsR Tryz.prog (fnOf Tryz.prog 6) (.bool true) (loopOf Tryz.prog 6 1) (slotsS 141 [(1,LO l),(5,.ptr 0 0),(7,.ptr 1 0),(9,I64 i),(10,.ptr 2 0),(15,I64 k)]) [some (.cells f.cells),some (.cells f.cells),some (.cells (opL kd nb co n r s))]
 |0,k,f,v,hk=>by
  refine runsR_seg kLK (n:=1000) (hint:=.unit) (keep:=keepN 141 [1,5,7,9] [1,5,7,9,10,15]) (p:=ru2_p) rfl ?_
  erw [ru2 f l i kd nb co n r s k]
  unfold ru2_t
  exact n_dec (fun a=>absurd a (by omega)) fun _=>⟨slotsS_len _ _,nx f v⟩
 |j+1,k,f,v,hk=>by
  refine runsR_seg kLK (n:=1000) (hint:=.unit) (keep:=keepN 141 [1,5,7,9] [1,5,7,9,10,15]) (p:=ru2_p) rfl ?_
  erw [ru2 f l i kd nb co n r s k]
  unfold ru2_t
  have w1:i64.wrap ((k:Int)+1)=((k+1:Nat):Int):=by rw[w64 (by omega) (by omega)];omega
  have tv:=tick_valid (r:=r) (s:=s) v
  have ih:=ru2_loop (kd:=kd) (nb:=nb) (co:=co) (r:=r) (s:=s) hn nx j (k+1) (tickF f r s) tv (by omega)
  rw[w1]
  refine n_dec (fun a=>n_not (fun z=>absurd (v4beq (rfl:tickQ f r s=tickQ f r s)) (by rw[z];exact Bool.false_ne_true)) fun _=>n_not (fun z=>absurd z (by simp)) fun _=>n_req (eqFw_rfl _) (n_req (shF_valid tv) ⟨slotsS_len _ _,ih⟩)) fun a=>absurd (show(k:Int)<n by omega) a
theorem ru1_loop(hs:smallB l 30=true)(hf:∀x∈l,tyOp.fits x):∀ (k i:Nat) (f:Fw),validF f=true→i+k=l.length→R1 l f i
 |0,i,f,v,hi=>by
  refine runsR_seg kLK (n:=1000) (hint:=.unit) (keep:=keepN 141 [1,5,7,9] [1,5,7,9,10,15]) (p:=ru1_p) rfl ?_
  erw [ru1 f l i]
  unfold ru1_t
  exact n_dec (fun a=>absurd a (by omega)) fun _=>rfl
 |k+1,i,f,v,hi=>by
  refine runsR_seg kLK (n:=1000) (hint:=.unit) (keep:=keepN 141 [1,5,7,9] [1,5,7,9,10,15]) (p:=ru1_p) rfl ?_
  erw [ru1 f l i]
  unfold ru1_t
  have ln:=(smallB_iff.1 hs).2
  have t0:(i:Int).toNat=i:=by omega
  have w1:i64.wrap ((i:Int)+1)=((i+1:Nat):Int):=by rw[w64 (by omega) (by omega)];omega
  have n40:(l.getD i dOp).2.2.2.1≤40:=small_at hs (by omega)
  have li:inR f.line 0 1099511627776=true:=inR_iff.2 (by have:=(vf_of v).nums;omega)
  have ff:tyOp.fits (l.getD i dOp):=hf _ (by
   rw[List.getD_eq_getElem?_getD,List.getElem?_eq_getElem (by omega)];exact List.getElem_mem _)
  have hh:ok63 (l.getD i dOp).2.2.1.2.1=true:=ok63_iff.2 (wf64 ff.2.2.1.2.1)
  have nx:∀f:Fw,validF f=true→R1 l f (i64.wrap ((i:Int)+1)):=fun f v=>by rw[w1];exact ru1_loop hs hf k (i+1) f v (by omega)
  have ga:accE f (lineV f (l.getD i dOp).2.1) (opC (l.getD i dOp))=0→shF (accF f (lineV f (l.getD i dOp).2.1) (opC (l.getD i dOp)))=true∧R1 l (accF f (lineV f (l.getD i dOp).2.1) (opC (l.getD i dOp))) (i64.wrap ((i:Int)+1)):=fun z=>⟨shF_valid (acc_valid z),nx _ (acc_valid z)⟩
  have gf:=nx f v
  have g2:RunsR Tryz.prog (fnOf Tryz.prog 6) (.bool true) (loopOf Tryz.prog 6 1) (slotsS 141 [(1,LO l),(5,.ptr 0 0),(7,.ptr 1 0),(9,I64 i),(10,.ptr 2 0),(15,I64 (0:Nat))]) [some (.cells f.cells),some (.cells f.cells),some (.cells (opL (l.getD i dOp).1 (l.getD i dOp).2.1 (opC (l.getD i dOp)) (l.getD i dOp).2.2.2.1 (l.getD i dOp).2.2.2.2.1 (l.getD i dOp).2.2.2.2.2))] :=ru2_loop (by omega) nx _ 0 f v (Nat.zero_add _)
  rw[t0]
  refine n_dec (fun a=>n_req (by simp;omega) (n_eq (fun _=>n_req li (n_dec (fun z=>n_req li (n_req hh (n_dec (fun _=>n_req (eqFw_rfl _) (n_req (ga z).1 ⟨slotsS_len _ _,(ga z).2⟩)) fun y=>absurd z y))) fun z=>n_req li (n_req hh (n_dec (fun y=>absurd y z) fun _=>n_ne (fun y=>absurd rfl y) fun _=>n_req (eqFw_rfl _) ?_)))) fun _=>⟨slotsS_len _ _,g2⟩)) fun a=>absurd (show(i:Int)<l.length by omega) a
  repeat' first
   |refine n_req rfl ?_
   |refine n_eq (fun y=>absurd y z) (fun _=>?_)
   |exact⟨slotsS_len _ _,gf⟩
theorem s_lawRuns(m:Ma)(c d:Co)(g h:Gu)(cold:Int)(l:List OpT)(hl:l.length≤maxLen)(hf:∀x∈l,tyOp.fits x):SCall Tryz.prog 6 [.agg (m.cells++(c.cells++(d.cells++(g.cells++(h.cells++[I64 cold]))))),LO l] (.bool true):=by
 refine scallR_loops rfl rfl (by kernel_rfl) (runsR_seg kLK (n:=1000) (hint:=.unit) (keep:=keepN 141 [1,5,7,9] [1,5,7,9,10,15]) (p:=ru0_p) (boxes:=[]) rfl ?_)
 have q:=ru0 m c d g h cold l
 unfold startS codeS at q
 erw [q]
 unfold ru0_t
 refine n_bool (fun k=>n_true k (n_req (lenOk_iff.2 hl) (n_not (fun _=>rfl) fun s=>⟨slotsS_len _ _,ru1_loop s hf l.length 0 _ (new_valid k) (by omega)⟩))) fun k=>n_bool (fun y=>by rw[k]at y;cases y) fun _=>n_req (lenOk_iff.2 hl) (n_not (fun _=>rfl) fun _=>rfl)
end
end Go.Proofs.YtnkaepnblikcdaaGreat
