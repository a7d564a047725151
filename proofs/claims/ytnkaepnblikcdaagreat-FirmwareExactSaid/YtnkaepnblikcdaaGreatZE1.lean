/-
  What the statement needs: an evaluator of the model, contracts of the functions that it reaches, and the plain law.
-/
import Derived.Test.YtnkaepnblikcdaaGreatZA6
set_option maxRecDepth 100000
set_option linter.unusedVariables false
set_option linter.unusedSimpArgs false
open Go.IntKind (i64 u64)
namespace Go.Proofs.YtnkaepnblikcdaaGreat
open Go.Sx
abbrev CmdT:=Int×Int×Int×Int×Int×Int×Int×Int
abbrev OpT:=Int×Bool×CmdT×Int×Int×Int
abbrev tyOp:Ty:=.pair (.int .i64) (.pair .bool (.pair (.pair (.int .i64) (.pair (.int .i64) (.pair (.int .i64) (.pair (.int .i64) (.pair (.int .i64) (.pair (.int .i64) (.pair (.int .i64) (.int .i64)))))))) (.pair (.int .i64) (.pair (.int .i64) (.int .i64)))))
abbrev LO(l:List OpT):SV:=.list tyOp l
def dOp:OpT:=(0,false,(0,0,0,0,0,0,0,0),0,0,0)
def sm0_p:Plan:=.all
noncomputable def sm0_t(l:List OpT)(m:Int):Tree Stop:= .leaf (.at (loopOf Tryz.prog 17 0) 27 (slotsS 27 [(0,.list ((Ty.int IntKind.i64).pair (Ty.bool.pair (((Ty.int IntKind.i64).pair ((Ty.int IntKind.i64).pair ((Ty.int IntKind.i64).pair ((Ty.int IntKind.i64).pair ((Ty.int IntKind.i64).pair ((Ty.int IntKind.i64).pair ((Ty.int IntKind.i64).pair (Ty.int IntKind.i64)))))))).pair ((Ty.int IntKind.i64).pair ((Ty.int IntKind.i64).pair (Ty.int IntKind.i64)))))) l),(1,.int .i64 m),(5,.int .i64 0)]) [])
theorem sm0(l:List OpT)(m:Int):segR (Env.of Tryz.prog (sumOf [])) 1000 (fnOf Tryz.prog 17) .unit (keepS 27 [0,1,5]) (codeS Tryz.prog 17) sm0_p (startS Tryz.prog 17 [LO l,I64 m]) [] =sm0_t l m:=by kernel_rfl
def sm1_p:Plan:=.fork (.ln 3 (.fork (.fork .all .all) .all)) (.ln 3 (.lit .all))
noncomputable def sm1_t(l:List OpT)(m i:Int):Tree Stop:= .node (decide (i< (↑l.length:Int))) (.node (decide (i<m)) (.req (decide (0≤i)&&decide (i< (↑l.length:Int))) (.node (decide ((l.getD i.toNat tyOp.dflt).2.2.2.1>40)) (.leaf (.done (.bool false))) (.leaf (.at (loopOf Tryz.prog 17 0) 27 (slotsS 27 [(0,.list ((Ty.int IntKind.i64).pair (Ty.bool.pair (((Ty.int IntKind.i64).pair ((Ty.int IntKind.i64).pair ((Ty.int IntKind.i64).pair ((Ty.int IntKind.i64).pair ((Ty.int IntKind.i64).pair ((Ty.int IntKind.i64).pair ((Ty.int IntKind.i64).pair (Ty.int IntKind.i64)))))))).pair ((Ty.int IntKind.i64).pair ((Ty.int IntKind.i64).pair (Ty.int IntKind.i64)))))) l),(1,.int .i64 m),(5,.int .i64 (i64.wrap (i+1)))]) [])))) (.leaf (.done (.bool (decide ((↑l.length:Int)≤m)))))) (.leaf (.done (.bool (decide ((↑l.length:Int)≤m)))))
theorem sm1(l:List OpT)(m i:Int):segR (Env.of Tryz.prog (sumOf [])) 1000 (fnOf Tryz.prog 17) .unit (keepS 27 [0,1,5]) (loopOf Tryz.prog 17 0) sm1_p (slotsS 27 [(0,LO l),(1,I64 m),(5,I64 i)]) [] =sm1_t l m i:=by kernel_rfl
theorem s_addL(a b:V4):SCall Tryz.prog 64 [V4.sv a,V4.sv b] (V4.sv (wadd4 a b)):=
 scall_vE (hB (l:=[]) (k:=[]) (j:=[]) (i:=[]) ([] :List Nat) ([] :List Nat) ([] :List Nat) ([] :List Nat) (trivial) noneOk noneOk noneOk) 1000 (.go (.lit (.go (.lit (.go (.lit (.go (.lit (.go (.lit (.all)))))))))))
  (t:=.req (true) (.req true (.req (true) (.req true (.req (true) (.req true (.req (true) (.req true (.req (true) (.req true (.req (true) (.req true (.leaf (.agg [.int .i64 (i64.wrap (a.1+b.1)),.int .i64 (i64.wrap (a.2.1+b.2.1)),.int .i64 (i64.wrap (a.2.2.1+b.2.2.1)),.int .i64 (i64.wrap (a.2.2.2+b.2.2.2))]))))))))))))))
  (by kernel_rfl) (by repeat' (first|exact rfl|refine n_req rfl ?_)) (by kernel_rfl) (by kernel_rfl)
def opN(x:OpT):Int:=x.2.2.2.1
def smallB(l:List OpT)(m:Int):Bool:=(l.all fun x=>decide (opN x≤40))&&decide ((l.length:Int)≤m)
theorem smallB_iff{l:List OpT}{m:Int}:smallB l m=true↔(∀i,i<l.length→opN (l.getD i dOp)≤40)∧(l.length:Int)≤m:=by
 simp only[smallB,Bool.and_eq_true,List.all_eq_true,decide_eq_true_eq]
 refine and_congr ⟨fun h i hi=>?_,fun h x hx=>?_⟩ Iff.rfl
 ·rw[List.getD_eq_getElem?_getD,List.getElem?_eq_getElem hi];exact h _ (List.getElem_mem hi)
 ·obtain⟨i,hi,rfl⟩:=List.getElem_of_mem hx
  have:=h i hi
  rw[List.getD_eq_getElem?_getD,List.getElem?_eq_getElem hi]at this;exact this
theorem k00:Known Tryz.prog (Env.of Tryz.prog (sumOf [])):=kW trivial
theorem sm_loop(l:List OpT)(m:Int)(hl:l.length≤9223372036854775807):∀ (k i:Nat),i+k=l.length→(∀t,t<i→opN (l.getD t dOp)≤40)→
  RunsR Tryz.prog (fnOf Tryz.prog 17) (.bool (smallB l m)) (loopOf Tryz.prog 17 0) (slotsS 27 [(0,LO l),(1,I64 m),(5,I64 i)]) []
 |k,i,hi,hb=>by
  refine runsR_seg k00 (n:=1000) (hint:=.unit) (keep:=keepS 27 [0,1,5]) (p:=sm1_p) rfl ?_
  erw [sm1 l m i]
  unfold sm1_t
  have t0:(i:Int).toNat=i:=by omega
  have fin:(¬(i:Int)<l.length∨¬(i:Int)<m)→SV.bool (decide ((l.length:Int)≤m))=.bool (smallB l m):=fun h=>by
   refine congrArg SV.bool (Bool.eq_iff_iff.2 ?_)
   rw[smallB_iff,decide_eq_true_eq]
   refine⟨fun a=>⟨fun t ht=>hb t (by omega),a⟩,fun a=>a.2⟩
  rw[t0]
  match k,hi with
  |0,hi=>exact n_dec (fun a=>absurd a (by omega)) fun a=>fin (.inl a)
  |k+1,hi=>
   have w1:i64.wrap ((i:Int)+1)=((i+1:Nat):Int):=by rw[w64 (by omega) (by omega)];omega
   rw[w1]
   refine n_dec (fun a=>n_dec (fun b=>n_req (by simp;omega) (n_dec (fun c=>?_) (fun c=>?_))) fun b=>fin (.inr b)) fun a=>fin (.inl a)
   ·show SV.bool false=_
    refine congrArg SV.bool (Eq.symm (Bool.eq_false_iff.2 fun h=>?_))
    have:=(smallB_iff.1 h).1 i (by omega)
    have c:opN (l.getD i dOp)>40:=c
    omega
   ·refine⟨slotsS_len _ _,sm_loop l m hl k (i+1) (by omega) fun t ht=>?_⟩
    rcases Nat.lt_or_ge t i with q|q
    ·exact hb t q
    ·obtain rfl:t=i:=by omega
     have c:¬opN (l.getD t dOp)>40:=c
     omega
theorem s_small(l:List OpT)(m:Int)(hl:l.length≤9223372036854775807):SCall Tryz.prog 17 [LO l,I64 m] (.bool (smallB l m)):=by
 refine scallR_loops rfl rfl (by kernel_rfl) (runsR_seg k00 (n:=1000) (hint:=.unit) (keep:=keepS 27 [0,1,5]) (p:=sm0_p) (boxes:=[]) rfl ?_)
 have q:=sm0 l m
 unfold startS codeS at q
 erw [q]
 unfold sm0_t
 exact⟨slotsS_len _ _,sm_loop l m hl l.length 0 (by omega) fun t ht=>absurd ht (Nat.not_lt_zero _)⟩
def lenOk(l:List OpT):Bool:=Nat.ble l.length 9223372036854775807
theorem lenOk_iff{l:List OpT}:lenOk l=true↔l.length≤9223372036854775807:=by unfold lenOk;rw[Nat.ble_eq]
def fSmall:Fact:=⟨17,fun args=>match args with
 |[.list (.pair (.int .i64) (.pair .bool (.pair (.pair (.int .i64) (.pair (.int .i64) (.pair (.int .i64) (.pair (.int .i64) (.pair (.int .i64) (.pair (.int .i64) (.pair (.int .i64) (.int .i64)))))))) (.pair (.int .i64) (.pair (.int .i64) (.int .i64)))))) l,.int .i64 m] =>some (.req (lenOk l) (.leaf (.bool (smallB l m))))
 |_=>none⟩
theorem o_small:fSmall.ok Tryz.prog:=fun args t ht=>by
 simp only[fSmall]at ht
 split at ht
 ·injection ht with ht;subst ht
  exact fun h=>s_small _ _ (lenOk_iff.1 h)
 ·cases ht
def fAddL:Fact:=factVV 64 fun a b=>.leaf (V4.sv (wadd4 a b))
theorem o_addL:fAddL.ok Tryz.prog:=factVV_ok fun a b=>s_addL a b
section
variable {f:Fw} {ex:Int} {cn:V4}
end
section
variable {f:Fw} {line:Int} {c:Gc.C} {ex:Int} {cn:V4}
end
section
variable {f:Fw} {r s ex:Int} {cn:V4}
end
section
variable {f:Fw} {line:Int} {c:Gc.C} {a b:Int×Int}
end
section
variable {f:Fw} {r s:Int} {a b:Int×Int}
end
def lineV(f:Fw)(b:Bool):Int:=if b=true then f.line+1 else 0
def fLine(g:FuncId):Fact:=factFw g fun f rest=>match rest with
 |[.agg [.int .i64 _,.bool b,.int .i64 _,.int .i64 _,.int .i64 _,.int .i64 _,.int .i64 _,.int .i64 _,.int .i64 _,.int .i64 _,.int .i64 _,.int .i64 _,.int .i64 _]] =>some (.req (inR f.line 0 1099511627776) (.leaf (I64 (lineV f b))))
 |_=>none
def fLine53:Fact:=fLine 26
def opL(kd:Int)(nb:Bool)(c:Gc.C)(n r s:Int):List SV:=[I64 kd,.bool nb,I64 c.code,I64 c.has,I64 c.x,I64 c.y,I64 c.z,I64 c.e,I64 c.f,I64 c.s,I64 n,I64 r,I64 s]
theorem s_line(f:Fw)(kd:Int)(nb:Bool)(c:Gc.C)(n r s:Int)(h:inR f.line 0 1099511627776=true):SCall Tryz.prog 26 [f.sv,.agg (opL kd nb c n r s)] (I64 (lineV f nb)):=
 scall_vE (hB (l:=[]) (k:=[]) (j:=[]) (i:=[]) ([] :List Nat) ([] :List Nat) ([] :List Nat) ([] :List Nat) (trivial) noneOk noneOk noneOk) 1000 (.fork (.all) (.all))
  (t:=.node (nb)
 (.leaf (SV.int IntKind.i64 (i64.wrap (f.line+1))))
 (.leaf (SV.int IntKind.i64 0)))
   (by kernel_rfl) (by
    have h:=inR_iff.1 h
    have w:i64.wrap (f.line+1)=f.line+1:=w64 (by omega) (by omega)
    rw[w]
    exact n_bool (fun a=>by subst a;rfl) (fun a=>by subst a;rfl)) (by kernel_rfl) (by kernel_rfl)
theorem o_line53:fLine53.ok Tryz.prog:=factFw_ok fun f rest t ht=>by
 split at ht
 ·injection ht with ht;subst ht
  exact fun h=>s_line f _ _ ⟨_,_,_,_,_,_,_,_⟩ _ _ _ h
 ·cases ht
def ex0_p:Plan:=.fork (.fork (.lit (.fork (.fork (.ln 5 (.fork (.ln 5 (.fork (.ln 3 (.lit .all)) (.ln 3 (.lit .all)))) (.ln 9 (.lit .all)))) (.ln 4 (.fork (.fork (.ln 5 (.fork (.ln 3 (.lit .all)) (.ln 3 (.lit .all)))) (.ln 9 (.lit .all))) .all))) (.fork (.ln 5 (.fork (.ln 5 (.fork (.ln 3 (.lit .all)) (.ln 3 (.lit .all)))) (.ln 9 (.lit .all)))) (.ln 4 (.fork (.fork (.ln 5 (.fork (.ln 3 (.lit .all)) (.ln 3 (.lit .all)))) (.ln 9 (.lit .all))) .all))))) (.fork .all (.fork (.fork (.ln 15 (.lit .all)) (.ln 4 (.fork (.ln 10 (.lit .all)) .all))) (.fork (.ln 15 (.lit .all)) (.ln 4 (.fork (.ln 10 (.lit .all)) .all)))))) .all
noncomputable def ex0_t(f:Fw)(kd:Int)(nb:Bool)(c:Gc.C)(n r s:Int):Tree Stop:=let y0:=accF f (lineV f nb) c;let y1:Tree Stop:=.leaf (.done (.tuple [.agg [.int .i64 0,.int .i64 0,.int .i64 0,.int .i64 0,.int .i64 0,.int .i64 0,.int .i64 0,.int .i64 0,.int .i64 0,.int .i64 0,.int .i64 0,.int .i64 0,.int .i64 0,.int .i64 0,.int .i64 0,.int .i64 0,.int .i64 0,.int .i64 0,.int .i64 0,.int .i64 0,.int .i64 0,.int .i64 0,.int .i64 0,.int .i64 0,.int .i64 0,.int .i64 0,.int .i64 0,.int .i64 0,.bool false,.int .i64 0,.int .i64 0,.bool false,.int .i64 0,.int .i64 0,.int .i64 0,.int .i64 0,.int .i64 0,.int .i64 0,.int .i64 0,.int .i64 0,.int .i64 0,.list tyBk fw0.queue,.list (Ty.int IntKind.i64) fw0.lines,.int .i64 0,.int .i64 0,.int .i64 0,.int .i64 0,.int .i64 0,.int .i64 0,.int .i64 0,.int .i64 0,.int .i64 0,.int .i64 0,.bool false,.int .i64 0,.bool false,.int .i64 0,.int .i64 0,.int .i64 0,.int .i64 0,.int .i64 0,.int .i64 0,.int .i64 0,.int .i64 0,.int .i64 0,.int .i64 0,.int .i64 0,.int .i64 0,.int .i64 0,.int .i64 0,.int .i64 0,.int .i64 0,.int .i64 0,.int .i64 0,.int .i64 0,.int .i64 0,.int .i64 0,.int .i64 0,.int .i64 0,.int .i64 0,.int .i64 0,.int .i64 0,.int .i64 0,.int .i64 0,.bool false,.int .i64 0,.int .i64 0,.int .i64 0,.int .i64 0,.int .i64 0,.int .i64 0,.int .i64 0,.int .i64 0,.int .i64 0,.int .i64 0,.bool false,.int .i64 0,.int .i64 0,.int .i64 0,.int .i64 0,.int .i64 0,.int .i64 0],.agg [.int .i64 f.pos.1,.int .i64 f.pos.2.1,.int .i64 f.pos.2.2.1,.int .i64 f.pos.2.2.2],.bool false]));let y2:Tree Stop:=.leaf (.done (.tuple [.agg [.int .i64 0,.int .i64 0,.int .i64 0,.int .i64 0,.int .i64 0,.int .i64 0,.int .i64 0,.int .i64 0,.int .i64 0,.int .i64 0,.int .i64 0,.int .i64 0,.int .i64 0,.int .i64 0,.int .i64 0,.int .i64 0,.int .i64 0,.int .i64 0,.int .i64 0,.int .i64 0,.int .i64 0,.int .i64 0,.int .i64 0,.int .i64 0,.int .i64 0,.int .i64 0,.int .i64 0,.int .i64 0,.bool false,.int .i64 0,.int .i64 0,.bool false,.int .i64 0,.int .i64 0,.int .i64 0,.int .i64 0,.int .i64 0,.int .i64 0,.int .i64 0,.int .i64 0,.int .i64 0,.list tyBk fw0.queue,.list (Ty.int IntKind.i64) fw0.lines,.int .i64 0,.int .i64 0,.int .i64 0,.int .i64 0,.int .i64 0,.int .i64 0,.int .i64 0,.int .i64 0,.int .i64 0,.int .i64 0,.bool false,.int .i64 0,.bool false,.int .i64 0,.int .i64 0,.int .i64 0,.int .i64 0,.int .i64 0,.int .i64 0,.int .i64 0,.int .i64 0,.int .i64 0,.int .i64 0,.int .i64 0,.int .i64 0,.int .i64 0,.int .i64 0,.int .i64 0,.int .i64 0,.int .i64 0,.int .i64 0,.int .i64 0,.int .i64 0,.int .i64 0,.int .i64 0,.int .i64 0,.int .i64 0,.int .i64 0,.int .i64 0,.int .i64 0,.int .i64 0,.bool false,.int .i64 0,.int .i64 0,.int .i64 0,.int .i64 0,.int .i64 0,.int .i64 0,.int .i64 0,.int .i64 0,.int .i64 0,.int .i64 0,.bool false,.int .i64 0,.int .i64 0,.int .i64 0,.int .i64 0,.int .i64 0,.int .i64 0],.agg [.int .i64 0,.int .i64 0,.int .i64 0,.int .i64 f.pos.2.2.2],.bool false]));let y5:Tree Stop:=.leaf (.done (.tuple [.agg (Fw.cells y0),.agg [.int .i64 f.pos.1,.int .i64 f.pos.2.1,.int .i64 f.pos.2.2.1,.int .i64 f.pos.2.2.2],.bool (y0.pos.1==f.pos.1&& (y0.pos.2.1==f.pos.2.1&& (y0.pos.2.2.1==f.pos.2.2.1&& (y0.pos.2.2.2==f.pos.2.2.2&&true))))]));let y7:Tree Stop:=.leaf (.done (.tuple [.agg (Fw.cells y0),.agg [.int .i64 0,.int .i64 0,.int .i64 0,.int .i64 f.pos.2.2.2],.bool (y0.pos.1==0&& (y0.pos.2.1==0&& (y0.pos.2.2.1==0&& (y0.pos.2.2.2==f.pos.2.2.2&&true))))]));let y8:Tree Stop:=.leaf (.done (.tuple [.agg (Fw.cells y0),.agg [.int .i64 f.pos.1,.int .i64 f.pos.2.1,.int .i64 f.pos.2.2.1,.int .i64 f.pos.2.2.2],.bool false]));let y9:Tree Stop:=.leaf (.done (.tuple [.agg (Fw.cells y0),.agg [.int .i64 0,.int .i64 0,.int .i64 0,.int .i64 f.pos.2.2.2],.bool false]));let y10:=motV y0.ma y0.loc y0.e;let y6:=(goalV y0).1==y10.1&& ((goalV y0).2.1==y10.2.1&& ((goalV y0).2.2.1==y10.2.2.1&& ((goalV y0).2.2.2==y10.2.2.2&&true)));let y3:Tree Stop:=.node (motOk y0.ma y0.loc y0.e) (.node y6 y5 y8) y8;let y4:Tree Stop:=.node (motOk y0.ma y0.loc y0.e) (.node y6 y7 y9) y9; .node (kd==0) (.req (inR f.line 0 1099511627776) (.node (decide (accE f (lineV f nb) c=0)) (.node (c.code==28) (.req true (.node (c.code==0) y4 (.node (c.code==1) y4 y7))) (.node (c.code==0) y3 (.node (c.code==1) y3 y5))) (.node (accE f (lineV f nb) c != 0) (.leaf (.done (.tuple [.agg (Fw.cells f),.agg [.int .i64 f.pos.1,.int .i64 f.pos.2.1,.int .i64 f.pos.2.2.1,.int .i64 f.pos.2.2.2],.bool true]))) (.node (c.code==28) (.req true (.node (c.code==0) y2 (.node (c.code==1) y2 (.leaf (.done (.tuple [.agg [.int .i64 0,.int .i64 0,.int .i64 0,.int .i64 0,.int .i64 0,.int .i64 0,.int .i64 0,.int .i64 0,.int .i64 0,.int .i64 0,.int .i64 0,.int .i64 0,.int .i64 0,.int .i64 0,.int .i64 0,.int .i64 0,.int .i64 0,.int .i64 0,.int .i64 0,.int .i64 0,.int .i64 0,.int .i64 0,.int .i64 0,.int .i64 0,.int .i64 0,.int .i64 0,.int .i64 0,.int .i64 0,.bool false,.int .i64 0,.int .i64 0,.bool false,.int .i64 0,.int .i64 0,.int .i64 0,.int .i64 0,.int .i64 0,.int .i64 0,.int .i64 0,.int .i64 0,.int .i64 0,.list tyBk fw0.queue,.list (Ty.int IntKind.i64) fw0.lines,.int .i64 0,.int .i64 0,.int .i64 0,.int .i64 0,.int .i64 0,.int .i64 0,.int .i64 0,.int .i64 0,.int .i64 0,.int .i64 0,.bool false,.int .i64 0,.bool false,.int .i64 0,.int .i64 0,.int .i64 0,.int .i64 0,.int .i64 0,.int .i64 0,.int .i64 0,.int .i64 0,.int .i64 0,.int .i64 0,.int .i64 0,.int .i64 0,.int .i64 0,.int .i64 0,.int .i64 0,.int .i64 0,.int .i64 0,.int .i64 0,.int .i64 0,.int .i64 0,.int .i64 0,.int .i64 0,.int .i64 0,.int .i64 0,.int .i64 0,.int .i64 0,.int .i64 0,.int .i64 0,.bool false,.int .i64 0,.int .i64 0,.int .i64 0,.int .i64 0,.int .i64 0,.int .i64 0,.int .i64 0,.int .i64 0,.int .i64 0,.int .i64 0,.bool false,.int .i64 0,.int .i64 0,.int .i64 0,.int .i64 0,.int .i64 0,.int .i64 0],.agg [.int .i64 0,.int .i64 0,.int .i64 0,.int .i64 f.pos.2.2.2],.bool (0==f.pos.2.2.2&&true)])))))) (.node (c.code==0) y1 (.node (c.code==1) y1 (.leaf (.done (.tuple [.agg [.int .i64 0,.int .i64 0,.int .i64 0,.int .i64 0,.int .i64 0,.int .i64 0,.int .i64 0,.int .i64 0,.int .i64 0,.int .i64 0,.int .i64 0,.int .i64 0,.int .i64 0,.int .i64 0,.int .i64 0,.int .i64 0,.int .i64 0,.int .i64 0,.int .i64 0,.int .i64 0,.int .i64 0,.int .i64 0,.int .i64 0,.int .i64 0,.int .i64 0,.int .i64 0,.int .i64 0,.int .i64 0,.bool false,.int .i64 0,.int .i64 0,.bool false,.int .i64 0,.int .i64 0,.int .i64 0,.int .i64 0,.int .i64 0,.int .i64 0,.int .i64 0,.int .i64 0,.int .i64 0,.list tyBk fw0.queue,.list (Ty.int IntKind.i64) fw0.lines,.int .i64 0,.int .i64 0,.int .i64 0,.int .i64 0,.int .i64 0,.int .i64 0,.int .i64 0,.int .i64 0,.int .i64 0,.int .i64 0,.bool false,.int .i64 0,.bool false,.int .i64 0,.int .i64 0,.int .i64 0,.int .i64 0,.int .i64 0,.int .i64 0,.int .i64 0,.int .i64 0,.int .i64 0,.int .i64 0,.int .i64 0,.int .i64 0,.int .i64 0,.int .i64 0,.int .i64 0,.int .i64 0,.int .i64 0,.int .i64 0,.int .i64 0,.int .i64 0,.int .i64 0,.int .i64 0,.int .i64 0,.int .i64 0,.int .i64 0,.int .i64 0,.int .i64 0,.int .i64 0,.bool false,.int .i64 0,.int .i64 0,.int .i64 0,.int .i64 0,.int .i64 0,.int .i64 0,.int .i64 0,.int .i64 0,.int .i64 0,.int .i64 0,.bool false,.int .i64 0,.int .i64 0,.int .i64 0,.int .i64 0,.int .i64 0,.int .i64 0],.agg [.int .i64 f.pos.1,.int .i64 f.pos.2.1,.int .i64 f.pos.2.2.1,.int .i64 f.pos.2.2.2],.bool (0==f.pos.1&& (0==f.pos.2.1&& (0==f.pos.2.2.1&& (0==f.pos.2.2.2&&true))))]))))))))) (.leaf (.at (loopOf Tryz.prog 19 0) 127 (slotsS 127 [(3,.ptr 0 0),(4,.ptr 1 0),(5,.ptr 2 0),(6,.ptr 3 0),(7,.ptr 4 0),(8,.bool false),(13,.int .i64 0)]) [some (.cells (Fw.cells f)),some (.cells [.int .i64 f.pos.1,.int .i64 f.pos.2.1,.int .i64 f.pos.2.2.1,.int .i64 f.pos.2.2.2]),some (.cells [.int .i64 kd,.bool nb,.int .i64 c.code,.int .i64 c.has,.int .i64 c.x,.int .i64 c.y,.int .i64 c.z,.int .i64 c.e,.int .i64 c.f,.int .i64 c.s,.int .i64 n,.int .i64 r,.int .i64 s]),some (.cells (nilC fw0)),some (.cells [.int .i64 0,.int .i64 0,.int .i64 0,.int .i64 0])]))
theorem ex0(f:Fw)(kd:Int)(nb:Bool)(c:Gc.C)(n r s:Int):segR (Env.ofB Tryz.prog (sumOf [fAcpt,fMot,fGoalX,fTickX,fValid,fAddL,fLine53]) (wrOf []) (pnOf []) (bxOf []) (rdOf []) (rdOf []) (rdOf []) (rdOf [])) 1000 (fnOf Tryz.prog 19) .unit (keepS 127 [3,4,5,6,7,8,13]) (codeS Tryz.prog 19) ex0_p (startS Tryz.prog 19 [f.sv,V4.sv f.pos,.agg (opL kd nb c n r s)]) [] =ex0_t f kd nb c n r s:=by kernel_rfl
def ex1_p:Plan:=.fork (.fork (.ln 8 (.lit .all)) (.lit (.lit (.fork (.ln 6 (.fork (.ln 3 (.lit .all)) (.ln 3 (.fork .all .all)))) (.ln 10 (.fork .all .all)))))) .all
noncomputable def ex1_t(f:Fw)(kd:Int)(nb:Bool)(c:Gc.C)(n r s k:Int):Tree Stop:=let y2:=wadd4 f.pos (tickQ f r s);let y3:=tickF f r s;let y1:Tree Stop:=.leaf (.done (.tuple [.agg (Fw.cells y3),.agg [.int .i64 y2.1,.int .i64 y2.2.1,.int .i64 y2.2.2.1,.int .i64 y2.2.2.2],.bool false]));let y0:Tree Stop:=.node (!validF y3) y1 (.leaf (.at (loopOf Tryz.prog 19 0) 127 (slotsS 127 [(3,.ptr 0 0),(4,.ptr 1 0),(5,.ptr 2 0),(6,.ptr 3 0),(7,.ptr 4 0),(8,.bool false),(13,.int .i64 (i64.wrap (k+1)))]) [some (.cells (Fw.cells y3)),some (.cells [.int .i64 y2.1,.int .i64 y2.2.1,.int .i64 y2.2.2.1,.int .i64 y2.2.2.2]),some (.cells [.int .i64 kd,.bool nb,.int .i64 c.code,.int .i64 c.has,.int .i64 c.x,.int .i64 c.y,.int .i64 c.z,.int .i64 c.e,.int .i64 c.f,.int .i64 c.s,.int .i64 n,.int .i64 r,.int .i64 s]),some (.cells (nilC fw0)),some (.cells [.int .i64 0,.int .i64 0,.int .i64 0,.int .i64 0])])); .node (decide (k<n)) (.node (!(y3.pos.1==y2.1&& (y3.pos.2.1==y2.2.1&& (y3.pos.2.2.1==y2.2.2.1&& (y3.pos.2.2.2==y2.2.2.2&&true))))) y1 (.node (y3.homed) (.node (!((goalV y3).1==(goalV f).1&& ((goalV y3).2.1==(goalV f).2.1&& ((goalV y3).2.2.1==(goalV f).2.2.1&& ((goalV y3).2.2.2==(goalV f).2.2.2&&true))))) y1 y0) y0)) (.leaf (.done (.tuple [.agg (Fw.cells f),.agg [.int .i64 f.pos.1,.int .i64 f.pos.2.1,.int .i64 f.pos.2.2.1,.int .i64 f.pos.2.2.2],.bool true])))
theorem ex1(f:Fw)(kd:Int)(nb:Bool)(c:Gc.C)(n r s k:Int):segR (Env.ofB Tryz.prog (sumOf [fAcpt,fMot,fGoalX,fTickX,fValid,fAddL,fLine53]) (wrOf []) (pnOf []) (bxOf []) (rdOf []) (rdOf []) (rdOf []) (rdOf [])) 1000 (fnOf Tryz.prog 19) .unit (keepS 127 [3,4,5,6,7,8,13]) (loopOf Tryz.prog 19 0) ex1_p (slotsS 127 [(3,.ptr 0 0),(4,.ptr 1 0),(5,.ptr 2 0),(6,.ptr 3 0),(7,.ptr 4 0),(8,.bool false),(13,I64 k)]) [some (.cells f.cells),some (.cells (V4.cells f.pos)),some (.cells (opL kd nb c n r s)),some (.cells (nilC fw0)),some (.cells z4.cells)] =ex1_t f kd nb c n r s k:=by kernel_rfl
def tickN(f:Fw)(r s:Int):Nat→Fw
 |0=>f
 |n+1=>tickN (tickF f r s) r s n
theorem tickN_valid{r s:Int}:∀ (n:Nat) {f:Fw},validF f=true→validF (tickN f r s n)=true
 |0,_,h=>h
 |n+1,_,h=>tickN_valid n (tick_valid h)
section
variable {f:Fw} {r s line:Int} {c:Gc.C}
theorem tickQ_big:big4 (tickQ f r s)=true:=by
 have z:big4 z4=true:=by decide
 unfold tickQ runP
 split
 ·exact z
 ·split
  ·exact z
  ·split
   ·exact z
   ·split
    ·exact tickP_big _ _
    ·exact z
theorem tick_sum(v:validF f=true):wadd4 f.pos (tickQ f r s)=(tickF f r s).pos:=by
 rw[tick_pos v];exact wadd4_eq (near_big (vf_of v).pos) tickQ_big
theorem doF_pos(e:doE f line c=0):(doF f line c).pos=if c.code=28 then(0,0,0,f.pos.2.2.2)else f.pos:=by
 by_cases k1:c.code=1112
 ·rw[doF_1112 k1,if_neg (by omega)]
  show(lineF f line).pos=f.pos
  unfold lineF;split<;>rfl
 by_cases k2:c.code=1999
 ·rw[if_neg (by omega)];unfold doF;rw[if_neg k1,if_pos k2];rfl
 by_cases k3:c.code=1025
 ·rw[if_neg (by omega)];unfold doF;rw[if_neg k1,if_neg k2,if_pos k3]
 by_cases k4:c.code=1024
 ·rw[if_neg (by omega)];unfold doF;rw[if_neg k1,if_neg k2,if_neg k3,if_pos k4]
 have kk:¬c.code=1112∧¬c.code=1999∧¬c.code=1024∧¬c.code=1025:=⟨k1,k2,k4,k3⟩
 by_cases m:f.mode=3
 ·rw[e_f3 k1 k2 m]at e;omega
 by_cases w:¬f.waits=0∨¬f.dwell=0
 ·rw[e_wait kk m w]at e;omega
 rw[e_late kk m (by omega)]at e
 rw[d_late kk]
 by_cases a:c.code=0∨c.code=1
 ·rw[if_pos a,if_neg (by omega)]
  unfold moveF tlF
  have fp:(feedF f c).pos=f.pos:=by unfold feedF;split<;>rfl
  split
  ·exact fp
  ·exact fp
 rw[if_neg a]
 rw[if_neg a]at e
 by_cases b:c.code=4
 ·rw[if_pos b,if_neg (by omega)]
 rw[if_neg b]
 rw[if_neg b]at e
 by_cases d:c.code=28
 ·rw[if_pos d,if_pos d]
  rw[if_pos d]at e
  exact home_pos e
 rw[if_neg d,if_neg d]
 repeat' (first|rfl|split)
theorem acc_pos(h:accE f line c=0):(accF f line c).pos=if c.code=28 then(0,0,0,f.pos.2.2.2)else f.pos:=by
 obtain⟨_,_,_,_,e⟩:=accE_zero h
 rw[←doF_pos e]
 unfold accF
 split
 ·rfl
 ·show(lineF (doF f line c) line).pos=_
  unfold lineF;split<;>rfl
theorem acc_move(h:accE f line c=0)(k:c.code=0∨c.code=1):motOk (accF f line c).ma (accF f line c).loc (accF f line c).e=true∧goalV (accF f line c)=motV (accF f line c).ma (accF f line c).loc (accF f line c).e:=by
 obtain⟨v,hc,_,hl,e⟩:=accE_zero h
 have m:¬f.mode=3:=fun m=>by rw[e_f3 (by omega) (by omega) m]at e;omega
 have w:f.waits=0∧f.dwell=0:=by
  by_cases w:¬f.waits=0∨¬f.dwell=0
  ·rw[e_wait (by omega) m w]at e;omega
  ·omega
 rw[e_mov k m w]at e
 obtain⟨_,_,km,_⟩:=moveA_zero e
 have d:doF f line c=moveF f line c:=by rw[d_late (by omega),if_pos k]
 have same:∀x:Fw,(touchF (lineF x line)).ma=x.ma∧(touchF (lineF x line)).loc=x.loc∧(touchF (lineF x line)).e=x.e∧goal4 (touchF (lineF x line))=goal4 x:=fun x=>by
  unfold lineF;split<;>exact⟨rfl,rfl,rfl,rfl⟩
 have a:accF f line c=touchF (lineF (moveF f line c) line):=by unfold accF;rw[if_neg (by omega),d]
 have g:=goalV_yes (acc_valid h)
 obtain⟨s1,s2,s3,s4⟩:=same (moveF f line c)
 rw[g,a,s1,s2,s3,s4,move_goal e]
 have mv:(moveF f line c).ma=f.ma∧(moveF f line c).loc=tgtV f c∧(moveF f line c).e=tgtE f c:=by
  have fm:(feedF f c).ma=f.ma:=by unfold feedF;split<;>rfl
  unfold moveF tlF;split
  ·exact⟨fm,rfl,rfl⟩
  ·exact⟨fm,rfl,rfl⟩
 rw[mv.1,mv.2.1,mv.2.2]
 exact⟨km,rfl⟩
end
theorem kLC:Known Tryz.prog (Env.ofB Tryz.prog (sumOf [fAcpt,fMot,fGoalX,fTickX,fValid,fAddL,fLine53]) (wrOf []) (pnOf []) (bxOf []) (rdOf []) (rdOf []) (rdOf []) (rdOf [])):=
 hB (l:=[fAcpt,fMot,fGoalX,fTickX,fValid,fAddL,fLine53]) (k:=[]) (j:=[]) (i:=[]) [] [] [] [] ⟨o_acpt,o_mot,o_goalX,o_tickX,o_valid,o_addL,o_line53,trivial⟩ noneOk noneOk noneOk
def opF(f:Fw)(kd:Int)(nb:Bool)(c:Gc.C)(n r s:Int):Fw:=if kd=0 then(if accE f (lineV f nb) c=0 then accF f (lineV f nb) c else f)else tickN f r s n.toNat
def exV(g:Fw):SV:=.tuple [g.sv,V4.sv g.pos,.bool true]
theorem v4beq{a b:V4}(h:a=b):(a.1==b.1&& (a.2.1==b.2.1&& (a.2.2.1==b.2.2.1&& (a.2.2.2==b.2.2.2&&true))))=true:=by subst h;simp
theorem opF_valid{f:Fw}{kd:Int}{nb:Bool}{c:Gc.C}{n r s:Int}(v:validF f=true):validF (opF f kd nb c n r s)=true:=by
 unfold opF;split
 ·split
  ·rename_i e;exact acc_valid e
  ·exact v
 ·exact tickN_valid _ v
section
variable {kd:Int} {nb:Bool} {c:Gc.C} {n r s:Int}
theorem ex1_loop(hn:n≤9223372036854775807):∀ (m k:Nat) (f:Fw),validF f=true→k+m=n.toNat→RunsR Tryz.prog (fnOf Tryz.prog 19) (exV (tickN f r s m)) (loopOf Tryz.prog 19 0) (slotsS 127 [(3,.ptr 0 0),(4,.ptr 1 0),(5,.ptr 2 0),(6,.ptr 3 0),(7,.ptr 4 0),(8,.bool false),(13,I64 k)]) [some (.cells f.cells),some (.cells (V4.cells f.pos)),some (.cells (opL kd nb c n r s)),some (.cells (nilC fw0)),some (.cells z4.cells)]
 |0,k,f,v,hk=>by
  refine runsR_seg kLC (n:=1000) (hint:=.unit) (keep:=keepS 127 [3,4,5,6,7,8,13]) (p:=ex1_p) rfl ?_
  erw [ex1 f kd nb c n r s k]
  unfold ex1_t
  exact n_dec (fun a=>absurd a (by omega)) fun _=>rfl
 |m+1,k,f,v,hk=>by
  refine runsR_seg kLC (n:=1000) (hint:=.unit) (keep:=keepS 127 [3,4,5,6,7,8,13]) (p:=ex1_p) rfl ?_
  erw [ex1 f kd nb c n r s k]
  unfold ex1_t
  have w1:i64.wrap ((k:Int)+1)=((k+1:Nat):Int):=by rw[w64 (by omega) (by omega)];omega
  have tv:=tick_valid (r:=r) (s:=s) v
  have ih:=ex1_loop hn m (k+1) (tickF f r s) tv (by omega)
  rw[tick_sum v,w1]
  refine n_dec (fun a=>n_not (fun h=>absurd (v4beq rfl) (by rw[h];exact Bool.false_ne_true)) fun _=>n_bool (fun hh=>n_not (fun h=>?_) fun _=>n_not (fun h=>?_) fun _=>⟨slotsS_len _ _,ih⟩) fun _=>n_not (fun h=>?_) fun _=>⟨slotsS_len _ _,ih⟩) fun a=>absurd (show(k:Int)<n by omega) a
  ·exact absurd (v4beq (show goalV (tickF f r s)=goalV f by rw[goalV_yes tv,goalV_yes v,tick_goal v hh])) (by rw[h];exact Bool.false_ne_true)
  ·rw[tv]at h;cases h
  ·rw[tv]at h;cases h
set_option maxHeartbeats 1000000 in
theorem s_exact(f:Fw)(v:validF f=true)(hn:n≤9223372036854775807):SCall Tryz.prog 19 [f.sv,V4.sv f.pos,.agg (opL kd nb c n r s)] (exV (opF f kd nb c n r s)):=by
 refine scallR_loops rfl rfl (by kernel_rfl) (runsR_seg kLC (n:=1000) (hint:=.unit) (keep:=keepS 127 [3,4,5,6,7,8,13]) (p:=ex0_p) (boxes:=[]) rfl ?_)
 have q:=ex0 f kd nb c n r s
 unfold startS codeS at q
 erw [q]
 unfold ex0_t
 have li:inR f.line 0 1099511627776=true:=inR_iff.2 (by have:=(vf_of v).nums;omega)
 refine n_eq (fun k=>?_) fun k=>?_
 ·have oF:opF f kd nb c n r s=if accE f (lineV f nb) c=0 then accF f (lineV f nb) c else f:=if_pos k
  refine n_req li (n_dec (fun e=>?_) fun e=>?_)
  ·rw[oF,if_pos e]
   have ap:=acc_pos e
   have am:=acc_move e
   generalize accF f (lineV f nb) c=g at ap am ⊢
   have fin:∀p:V4,g.pos=p→SV.tuple [.agg g.cells,.agg [I64 p.1,I64 p.2.1,I64 p.2.2.1,I64 p.2.2.2],.bool (g.pos.1==p.1&& (g.pos.2.1==p.2.1&& (g.pos.2.2.1==p.2.2.1&& (g.pos.2.2.2==p.2.2.2&&true))))] =exV g:=fun p h=>by
    rw[v4beq h];subst h;rfl
   have no:c.code=28→g.pos=(0,0,0,f.pos.2.2.2):=fun h=>by rw[ap,if_pos h]
   have yes:¬c.code=28→g.pos=f.pos:=fun h=>by rw[ap,if_neg h]
   refine n_eq (fun h=>n_req rfl (n_eq (fun a=>absurd a (by omega)) fun _=>n_eq (fun a=>absurd a (by omega)) fun _=>fin _ (no h))) fun h=>n_eq (fun a=>?_) fun a=>n_eq (fun b=>?_) fun b=>fin _ (yes h)
   ·obtain⟨m1,m2⟩:=am (.inl a)
    exact n_bool (fun _=>n_bool (fun _=>fin _ (yes h)) fun z=>absurd (v4beq m2) (by rw[z];exact Bool.false_ne_true)) fun z=>absurd m1 (by rw[z];exact Bool.false_ne_true)
   ·obtain⟨m1,m2⟩:=am (.inr b)
    exact n_bool (fun _=>n_bool (fun _=>fin _ (yes h)) fun z=>absurd (v4beq m2) (by rw[z];exact Bool.false_ne_true)) fun z=>absurd m1 (by rw[z];exact Bool.false_ne_true)
  ·rw[oF,if_neg e]
   exact n_ne (fun _=>rfl) fun h=>absurd h e
 ·have oF:opF f kd nb c n r s=tickN f r s n.toNat:=if_neg k
  rw[oF]
  exact⟨slotsS_len _ _,ex1_loop hn n.toNat 0 f v (by omega)⟩
end
def shI(a:List Int):Bool:=decide (a.length≤1000)
def shB(a:List Bk):Bool:=decide (a.length≤1000)
noncomputable def eqFw(x y:Fw):Bool:=@decide (x=y) (Classical.propDecidable _)
def shF(x:Fw):Bool:=shB x.queue&&shI x.lines
noncomputable def fSame:Fact:=factFw 23 fun x rest=>match rest with
 |[.agg l] =>match asFw l with
  |some y=>some (.req (eqFw x y) (.req (shF x) (.leaf (.bool true))))
  |none=>none
 |_=>none
def fWorks:Fact:=⟨18,fun args=>match args with
 |[] =>some (.leaf (.bool true))
 |_=>none⟩
theorem o_works:fWorks.ok Tryz.prog:=fun args t ht=>by
 simp only[fWorks]at ht
 split at ht
 ·injection ht with ht;subst ht;exact s_works
 ·cases ht
def v4eqB(a b:V4):Bool:=a.1==b.1&& (a.2.1==b.2.1&& (a.2.2.1==b.2.2.1&& (a.2.2.2==b.2.2.2&&true)))
theorem v4eqB_eq{a b:V4}(h:v4eqB a b=true):a=b:=by
 simp only[v4eqB,Bool.and_eq_true,beq_iff_eq]at h
 exact v4x ⟨h.1,h.2.1,h.2.2.1,h.2.2.2.1⟩
theorem v4eqB_rfl(a:V4):v4eqB a a=true:=v4beq rfl
def smallN(n:Int):Bool:=decide (n≤9223372036854775807)
def fExact:Fact:=factFw 19 fun f rest=>match rest with
 |[.agg [.int .i64 p0,.int .i64 p1,.int .i64 p2,.int .i64 p3],.agg [.int .i64 kd,.bool nb,.int .i64 a0,.int .i64 a1,.int .i64 a2,.int .i64 a3,.int .i64 a4,.int .i64 a5,.int .i64 a6,.int .i64 a7,.int .i64 n,.int .i64 r,.int .i64 s]] =>
  some (.req (v4eqB (p0,p1,p2,p3) f.pos) (.req (validF f) (.req (smallN n) (.leaf (exV (opF f kd nb ⟨a0,a1,a2,a3,a4,a5,a6,a7⟩ n r s))))))
 |_=>none
theorem o_exact:fExact.ok Tryz.prog:=factFw_ok fun f rest t ht=>by
 split at ht
 ·rename_i p0 p1 p2 p3 kd nb a0 a1 a2 a3 a4 a5 a6 a7 n r s
  injection ht with ht;subst ht
  intro h v k
  have h:=v4eqB_eq h
  have q:=s_exact (kd:=kd) (nb:=nb) (c:=⟨a0,a1,a2,a3,a4,a5,a6,a7⟩) (n:=n) (r:=r) (s:=s) f v (of_decide_eq_true k)
  rw[←h]at q
  exact q
 ·cases ht
def le0_p:Plan:=.fork (.ln 4 (.fork .all .all)) (.ln 4 (.lit .all))
noncomputable def le0_t(m:Ma)(c d:Co)(g h:Gu)(cold:Int)(l:List OpT):Tree Stop:= .node (newOk m c d g h cold) (.req (lenOk l) (.node (!smallB l 40) (.leaf (.done (.bool true))) (.leaf (.at (loopOf Tryz.prog 3 0) 58 (slotsS 58 [(1,.list ((Ty.int IntKind.i64).pair (Ty.bool.pair (((Ty.int IntKind.i64).pair ((Ty.int IntKind.i64).pair ((Ty.int IntKind.i64).pair ((Ty.int IntKind.i64).pair ((Ty.int IntKind.i64).pair ((Ty.int IntKind.i64).pair ((Ty.int IntKind.i64).pair (Ty.int IntKind.i64)))))))).pair ((Ty.int IntKind.i64).pair ((Ty.int IntKind.i64).pair (Ty.int IntKind.i64)))))) l),(5,.ptr 0 0),(7,.ptr 1 0),(8,.int .i64 0)]) [some (.cells (Fw.cells (newF m c d g h cold))),some (.cells [.int .i64 0,.int .i64 0,.int .i64 0,.int .i64 0])])))) (.leaf (.done (.bool true)))
theorem le0(m:Ma)(c d:Co)(g h:Gu)(cold:Int)(l:List OpT):segR (Env.ofB Tryz.prog (sumOf [fNew,fSmall,fWorks,fExact,fIdleX,fGoalX]) (wrOf []) (pnOf []) (bxOf []) (rdOf []) (rdOf []) (rdOf []) (rdOf [])) 1000 (fnOf Tryz.prog 3) .unit (keepS 58 [1,5,7,8]) (codeS Tryz.prog 3) le0_p (startS Tryz.prog 3 [.agg (m.cells++(c.cells++(d.cells++(g.cells++(h.cells++[I64 cold]))))),LO l]) [] =le0_t m c d g h cold l:=by kernel_rfl
def le1_p:Plan:=.fork (.ln 3 (.fork (.ln 6 (.fork .all .all)) (.ln 6 (.lit .all)))) .all
noncomputable def le1_t(f:Fw)(l:List OpT)(i:Int):Tree Stop:=let y2:=l.getD i.toNat tyOp.dflt;let y0:=opF f y2.1 y2.2.1 (Gc.C.mk y2.2.2.1.1 y2.2.2.1.2.1 y2.2.2.1.2.2.1 y2.2.2.1.2.2.2.1 y2.2.2.1.2.2.2.2.1 y2.2.2.1.2.2.2.2.2.1 y2.2.2.1.2.2.2.2.2.2.1 y2.2.2.1.2.2.2.2.2.2.2) y2.2.2.2.1 y2.2.2.2.2.1 y2.2.2.2.2.2;let y3:=Ty.int IntKind.i64;let y1:Tree Stop:=.leaf (.at (loopOf Tryz.prog 3 0) 58 (slotsS 58 [(1,.list (y3.pair (Ty.bool.pair ((y3.pair (y3.pair (y3.pair (y3.pair (y3.pair (y3.pair (y3.pair y3))))))).pair (y3.pair (y3.pair y3))))) l),(5,.ptr 0 0),(7,.ptr 1 0),(8,.int .i64 (i64.wrap (i+1)))]) [some (.cells (Fw.cells y0)),some (.cells [.int .i64 y0.pos.1,.int .i64 y0.pos.2.1,.int .i64 y0.pos.2.2.1,.int .i64 y0.pos.2.2.2])]); .node (decide (i< (↑l.length:Int))) (.req (decide (0≤i)&&decide (i< (↑l.length:Int))) (.req (v4eqB f.pos f.pos) (.req (validF f) (.req (smallN y2.2.2.2.1) (.node (IdleB y0) (.node (!((goalV y0).1==y0.pos.1&& ((goalV y0).2.1==y0.pos.2.1&& ((goalV y0).2.2.1==y0.pos.2.2.1&& ((goalV y0).2.2.2==y0.pos.2.2.2&&true))))) (.leaf (.done (.bool false))) y1) y1))))) (.leaf (.done (.bool true)))
theorem le1(f:Fw)(l:List OpT)(i:Int):segR (Env.ofB Tryz.prog (sumOf [fNew,fSmall,fWorks,fExact,fIdleX,fGoalX]) (wrOf []) (pnOf []) (bxOf []) (rdOf []) (rdOf []) (rdOf []) (rdOf [])) 1000 (fnOf Tryz.prog 3) .unit (keepS 58 [1,5,7,8]) (loopOf Tryz.prog 3 0) le1_p (slotsS 58 [(1,LO l),(5,.ptr 0 0),(7,.ptr 1 0),(8,I64 i)]) [some (.cells f.cells),some (.cells (V4.cells f.pos))] =le1_t f l i:=by kernel_rfl
theorem new_valid{m:Ma}{c d:Co}{g h:Gu}{cold:Int}(k:newOk m c d g h cold=true):validF (newF m c d g h cold)=true:=by
 obtain⟨k1,k2,k3,k4,k5,k6,k7,k8⟩:=newOk_iff.1 k
 refine vf_mk (partsB_iff.2 ⟨k1,k2,k3,k4,k5⟩) (by show 1≤(1:Int)∧(1:Int)≤3;omega) (numsB_iff.2 ?_) ?_ (queued_idle rfl rfl rfl rfl (show near4 z4=true by decide) (show near4 z4=true by decide)) (.inr ⟨rfl,rfl⟩)
 ·show((-16777216:Int)≤0∧(0:Int)≤16777216)∧((-16777216:Int)≤0∧(0:Int)≤16777216)∧((-16777216:Int)≤0∧(0:Int)≤16777216)∧((-16777216:Int)≤0∧(0:Int)≤16777216)∧((0:Int)≤0∧(0:Int)≤1048576)∧((0:Int)≤0∧(0:Int)≤1048576)∧((0:Int)≤0∧(0:Int)≤3)∧((0:Int)≤0∧(0:Int)≤255)∧((0:Int)≤0∧(0:Int)≤1099511627776)∧((0:Int)≤0∧(0:Int)≤1099511627776)∧((0:Int)≤0∧(0:Int)≤1099511627776)∧0≤cold∧cold≤400000
  omega
 ·rw[movesB_off rfl];exact stillB_zero rfl rfl
theorem idle_goal{g:Fw}(h:IdleB g=true):goalV g=g.pos:=by
 obtain⟨v,i⟩:=IdleB_iff.1 h
 obtain⟨i1,i2,i3⟩:=idleB_iff.1 i
 rw[goalV_yes v];exact goal_idle i1 (still_mo v i1) i2
theorem kLE:Known Tryz.prog (Env.ofB Tryz.prog (sumOf [fNew,fSmall,fWorks,fExact,fIdleX,fGoalX]) (wrOf []) (pnOf []) (bxOf []) (rdOf []) (rdOf []) (rdOf []) (rdOf [])):=
 hB (l:=[fNew,fSmall,fWorks,fExact,fIdleX,fGoalX]) (k:=[]) (j:=[]) (i:=[]) [] [] [] [] ⟨o_new,o_small,o_works,o_exact,o_idleX,o_goalX,trivial⟩ noneOk noneOk noneOk
theorem small_at{l:List OpT}{m:Int}(h:smallB l m=true){i:Nat}(hi:i<l.length):opN (l.getD i dOp)≤40:=(smallB_iff.1 h).1 i hi
theorem le1_loop{l:List OpT}(hs:smallB l 40=true):∀ (k i:Nat) (f:Fw),validF f=true→i+k=l.length→RunsR Tryz.prog (fnOf Tryz.prog 3) (.bool true) (loopOf Tryz.prog 3 0) (slotsS 58 [(1,LO l),(5,.ptr 0 0),(7,.ptr 1 0),(8,I64 i)]) [some (.cells f.cells),some (.cells (V4.cells f.pos))]
 |0,i,f,v,hi=>by
  refine runsR_seg kLE (n:=1000) (hint:=.unit) (keep:=keepS 58 [1,5,7,8]) (p:=le1_p) rfl ?_
  erw [le1 f l i]
  unfold le1_t
  exact n_dec (fun a=>absurd a (by omega)) fun _=>rfl
 |k+1,i,f,v,hi=>by
  refine runsR_seg kLE (n:=1000) (hint:=.unit) (keep:=keepS 58 [1,5,7,8]) (p:=le1_p) rfl ?_
  erw [le1 f l i]
  unfold le1_t
  have ln:=(smallB_iff.1 hs).2
  have t0:(i:Int).toNat=i:=by omega
  have w1:i64.wrap ((i:Int)+1)=((i+1:Nat):Int):=by rw[w64 (by omega) (by omega)];omega
  have n40:(l.getD i dOp).2.2.2.1≤40:=small_at hs (by omega)
  rw[t0,w1]
  refine n_dec (fun a=>n_req (by simp;omega) (n_req (v4eqB_rfl _) (n_req v (n_req (decide_eq_true (show(l.getD i dOp).2.2.2.1≤9223372036854775807 by omega)) (n_bool (fun d=>n_not (fun z=>absurd (v4beq (idle_goal d)) (by rw[z];exact Bool.false_ne_true)) fun z=>?_) fun _=>?_))))) fun a=>absurd (show(i:Int)<l.length by omega) a
  ·exact⟨slotsS_len _ _,le1_loop hs k (i+1) _ (opF_valid v) (by omega)⟩
  ·exact⟨slotsS_len _ _,le1_loop hs k (i+1) _ (opF_valid v) (by omega)⟩
theorem s_lawExact(m:Ma)(c d:Co)(g h:Gu)(cold:Int)(l:List OpT)(hl:l.length≤maxLen):SCall Tryz.prog 3 [.agg (m.cells++(c.cells++(d.cells++(g.cells++(h.cells++[I64 cold]))))),LO l] (.bool true):=by
 refine scallR_loops rfl rfl (by kernel_rfl) (runsR_seg kLE (n:=1000) (hint:=.unit) (keep:=keepS 58 [1,5,7,8]) (p:=le0_p) (boxes:=[]) rfl ?_)
 have q:=le0 m c d g h cold l
 unfold startS codeS at q
 erw [q]
 unfold le0_t
 exact n_bool (fun k=>n_req (lenOk_iff.2 hl) (n_not (fun _=>rfl) fun s=>⟨slotsS_len _ _,le1_loop s l.length 0 _ (new_valid k) (by omega)⟩)) fun _=>rfl
end Go.Proofs.YtnkaepnblikcdaaGreat
