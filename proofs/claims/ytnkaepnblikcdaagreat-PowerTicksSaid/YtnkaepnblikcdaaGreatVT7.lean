/-
  What the statement needs: an evaluator of the model, contracts of the functions that it reaches, and the plain law.
-/
import Derived.Test.YtnkaepnblikcdaaGreatVT6
set_option maxRecDepth 100000
set_option linter.unusedVariables false
set_option linter.unusedSimpArgs false
open Go.IntKind (i64 u64)
namespace Go.Proofs.YtnkaepnblikcdaaGreat
open Go.Sx
def fPAcc:Fact:=factFw 48 fun f rest=>match rest with
 |[.agg [.list .str p,.int .i64 a,.bool d,.int .i64 k],.int .i64 n,.agg [.int .i64 c0,.int .i64 c1,.int .i64 c2,.int .i64 c3,.int .i64 c4,.int .i64 c5,.int .i64 c6,.int .i64 c7]] =>some (.req (fewP ⟨p,a,d,k⟩) (.req (shF f) (.leaf (axV f ⟨p,a,d,k⟩ n ⟨c0,c1,c2,c3,c4,c5,c6,c7⟩))))
 |_=>none
def fPTick:Fact:=factFw 43 fun f rest=>match rest with
 |[.agg [.list .str p,.int .i64 a,.bool d,.int .i64 k],.agg [.int .i64 r,.int .i64 s]] =>some (.req (fewP ⟨p,a,d,k⟩) (.req (shF f) (.leaf (pwV f ⟨p,a,d,k⟩ r s))))
 |_=>none
def fPTickR:Fact:=factFw 44 fun f rest=>match rest with
 |[.agg [.list .str p,.int .i64 a,.bool d,.int .i64 k],.agg [.int .i64 r,.int .i64 s]] =>some (.req (fewP ⟨p,a,d,k⟩) (.leaf (pwV f ⟨p,a,d,k⟩ r s)))
 |_=>none
def fPFail:Fact:=factFw 46 fun f rest=>match rest with
 |[.agg [.list .str p,.int .i64 a,.bool d,.int .i64 k]] =>some (.req (fewP ⟨p,a,d,k⟩) (.leaf (failL f ⟨p,a,d,k⟩).sv))
 |_=>none
def fPFailR:Fact:=factFw 47 fun f rest=>match rest with
 |[.agg [.list .str p,.int .i64 a,.bool d,.int .i64 k]] =>some (.req (fewP ⟨p,a,d,k⟩) (.leaf (failL f ⟨p,a,d,k⟩).sv))
 |_=>none
def fRcv:Fact:=factFw 41 fun f rest=>match rest with
 |[.agg [.list .str p,.int .i64 a,.bool d,.int .i64 k]] =>some (.req (fewP ⟨p,a,d,k⟩) (.req (shF f) (.node (decide (rvE f ⟨p,a,d,k⟩=0)) (.leaf (.tuple [(rvF f ⟨p,a,d,k⟩).sv,I64 0])) (.leaf (.tuple [fw0.sv,I64 (rvE f ⟨p,a,d,k⟩)])))))
 |_=>none
def fWorks54:Fact:=⟨40,fun args=>match args with
 |[] =>some (.leaf (.bool true))
 |_=>none⟩
def fFlNew:Fact:=⟨51,fun args=>match args with
 |[.int .i64 n] =>match n==6 with
  |true=>some (.leaf (.tuple [(flN 6).sv,I64 0]))
  |false=>match n==4 with
   |true=>some (.leaf (.tuple [(flN 4).sv,I64 0]))
   |false=>none
 |_=>none⟩
theorem shF_iff{x:Fw}:shF x=true↔x.queue.length≤1000∧x.lines.length≤1000:=by
 unfold shF shB shI
 rw[Bool.and_eq_true,decide_eq_true_eq,decide_eq_true_eq]
theorem shF_40{f:Fw}(a:¬(f.queue.length:Int)>40)(b:¬(f.lines.length:Int)>40):shF f=true:=shF_iff.2 (by omega)
theorem few_iff{l:Fl}:fewP l=true↔l.pages.length≤1000:=by unfold fewP;rw[decide_eq_true_eq]
theorem pg_few{l:Fl}(h:pgsB l=true):fewP l=true:=few_iff.2 (by have:=(pgsB_iff.1 h).2;omega)
section
variable {f:Fw} {l:Fl} {r s n:Int} {c:Gc.C}
theorem tick_sh(k:shF f=true):shF (tickF f r s)=true:=by
 cases v:validF f with
 |true=>exact shF_valid (tick_valid v)
 |false=>
  have e:tickF f r s=f:=by unfold tickF;rw[v];rfl
  rw[e];exact k
theorem pw_sh(k:shF f=true):shF (pwF f l r s)=true:=by
 unfold pwF;split
 ·exact tick_sh k
 ·exact k
theorem pw_few(h:fewP l=true):fewP (pwL f l)=true:=by
 unfold pwL;split
 ·exact few_rec h
 ·exact h
theorem fail_few(h:fewP l=true):fewP (failL f l)=true:=by
 unfold failL;split
 ·exact few_rec h
 ·exact h
end
theorem o_pTick:fPTick.ok Tryz.prog:=factFw_ok fun f rest t ht=>by
 split at ht
 ·injection ht with ht;subst ht;exact fun h k=>s_pTick f ⟨_,_,_,_⟩ _ _ h k
 ·cases ht
theorem o_pTickR:fPTickR.ok Tryz.prog:=factFw_ok fun f rest t ht=>by
 split at ht
 ·injection ht with ht;subst ht;exact fun h=>s_pTickR f ⟨_,_,_,_⟩ _ _ h
 ·cases ht
theorem o_pFail:fPFail.ok Tryz.prog:=factFw_ok fun f rest t ht=>by
 split at ht
 ·injection ht with ht;subst ht;exact fun h=>s_pFail f ⟨_,_,_,_⟩ h
 ·cases ht
theorem o_pFailR:fPFailR.ok Tryz.prog:=factFw_ok fun f rest t ht=>by
 split at ht
 ·injection ht with ht;subst ht;exact fun h=>s_pFailR f ⟨_,_,_,_⟩ h
 ·cases ht
theorem rvS_says{g:FuncId}{f:Fw}{l:Fl}{args:List SV}(h:SCall Tryz.prog g args (rvS f l)):(Tree.node (decide (rvE f l=0)) (.leaf (.tuple [(rvF f l).sv,I64 0])) (.leaf (.tuple [fw0.sv,I64 (rvE f l)]))).says (SCall Tryz.prog g args):=by
 refine⟨fun e=>?_,fun e=>?_⟩
 ·have e:=of_decide_eq_true e
  unfold rvS at h;rw[if_pos e]at h;exact h
 ·have e:=of_decide_eq_false e
  unfold rvS at h;rw[if_neg e]at h
  exact scall_val h (nil_tuple (nilC_ok _ rfl rfl))
theorem o_rcv:fRcv.ok Tryz.prog:=factFw_ok fun f rest t ht=>by
 split at ht
 ·injection ht with ht;subst ht;exact fun h k=>rvS_says (s_rcv f ⟨_,_,_,_⟩ h k)
 ·cases ht
theorem s_flNew6:SCall Tryz.prog 51 [I64 6] (.tuple [(flN 6).sv,I64 0]):=by
 refine scallR_loops rfl rfl (by kernel_rfl) (runsR_seg k00 (n:=1000) (hint:=.str) (keep:=keepS 25 []) (p:=fn6_p) (boxes:=[]) rfl ?_)
 have q:=fn6 ()
 unfold startS codeS at q
 erw [q]
 unfold fn6_t
 repeat' first
  |refine n_req rfl ?_
  |rfl
theorem s_flNew4:SCall Tryz.prog 51 [I64 4] (.tuple [(flN 4).sv,I64 0]):=by
 refine scallR_loops rfl rfl (by kernel_rfl) (runsR_seg k00 (n:=1000) (hint:=.str) (keep:=keepS 25 []) (p:=fn4_p) (boxes:=[]) rfl ?_)
 have q:=fn4 ()
 unfold startS codeS at q
 erw [q]
 unfold fn4_t
 repeat' first
  |refine n_req rfl ?_
  |rfl
theorem o_flNew:fFlNew.ok Tryz.prog:=fun args t ht=>by
 simp only[fFlNew]at ht
 split at ht
 ·split at ht
  ·rename_i h
   have h:=beq_iff_eq.1 h
   subst h
   injection ht with ht;subst ht;exact s_flNew6
  ·split at ht
   ·rename_i h
    have h:=beq_iff_eq.1 h
    subst h
    injection ht with ht;subst ht;exact s_flNew4
   ·cases ht
 ·cases ht
section
variable {kd:Int} {nb:Bool} {c:Gc.C} {n r s:Int}
end
theorem s_works54 :SCall Tryz.prog 40 [] (.bool true):=
 scall_v mix [fNew,fFlNew,fApR,fRcv] ⟨o_new,o_flNew,o_apR,o_rcv,trivial⟩ 40000 (.auto)
  (t:=.req (true) (.req (true) (.req (true) (.req (true) (.req (true) (.req (true) (.req (true) (.leaf (SV.bool true)))))))))
  (by kernel_rfl) (by trivial) (by kernel_rfl) (by kernel_rfl)
theorem o_works54:fWorks54.ok Tryz.prog:=fun args t ht=>by
 simp only[fWorks54]at ht
 split at ht
 ·injection ht with ht;subst ht;exact s_works54
 ·cases ht
theorem s_lawPTicks(f:Fw)(l:Fl)(r s:Int):SCall Tryz.prog 11 [f.sv,l.sv,.agg [I64 r,I64 s]] (.bool true):=
 scall_vE (hB (l:=[fPages,fWorks54,fSame,fSameL,fPTick,fPTickR,fPFail,fPFailR]) (k:=[]) (j:=[]) (i:=[]) ([] :List Nat) ([] :List Nat) ([] :List Nat) ([] :List Nat) (⟨o_pages,o_works54,o_same,o_sameL,o_pTick,o_pTickR,o_pFail,o_pFailR,trivial⟩) noneOk noneOk noneOk) 1000 (.fork (.ln 8 (.lit .all)) (.ln 4 (.fork (.ln 3 (.lit .all)) (.ln 3 (.fork .all (.ln 8 (.fork (.ln 3 (.fork (.ln 8 (.lit .all)) (.ln 8 (.lit .all)))) (.ln 12 (.lit .all)))))))))
  (t:=.node (decide ((↑f.queue.length:Int)>40)) (.leaf (.bool true)) (.node (decide ((↑f.lines.length:Int)>40)) (.leaf (.bool true)) (.node (!pgsB l) (.leaf (.bool true)) (.req (fewP l) (.req (shF f) (.req (fewP l) (.req (eqFw (pwF f l r s) (pwF f l r s)) (.req (shF (pwF f l r s)) (.req (eqFl (pwL f l) (pwL f l)) (.req (fewP (pwL f l)) (.node ((pwQ f l r s).1==(pwQ f l r s).1&& ((pwQ f l r s).2.1==(pwQ f l r s).2.1&& ((pwQ f l r s).2.2.1==(pwQ f l r s).2.2.1&& ((pwQ f l r s).2.2.2==(pwQ f l r s).2.2.2&&true)))) (.node ((pwD f l r s).1==(pwD f l r s).1&& ((pwD f l r s).2==(pwD f l r s).2&&true)) (.req (fewP l) (.req (fewP l) (.req (eqFl (failL f l) (failL f l)) (.req (fewP (failL f l)) (.leaf (.bool true)))))) (.leaf (.bool false))) (.leaf (.bool false)))))))))))))
  (by kernel_rfl) (by
   refine n_dec (fun _=>rfl) fun a=>n_dec (fun _=>rfl) fun b=>n_not (fun _=>rfl) fun p=>?_
   have h:=pg_few p
   have k:=shF_40 a b
   exact n_req h (n_req k (n_req h (n_req (eqFw_rfl _) (n_req (pw_sh k) (n_req (eqFl_rfl _) (n_req (pw_few h) (n_true (v4beq rfl) (n_true (by simp) (n_req h (n_req h (n_req (eqFl_rfl _) (n_req (fail_few h) rfl))))))))))))) (by kernel_rfl) (by kernel_rfl)
end Go.Proofs.YtnkaepnblikcdaaGreat
