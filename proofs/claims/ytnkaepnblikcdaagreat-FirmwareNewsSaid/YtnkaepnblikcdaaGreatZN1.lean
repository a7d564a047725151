/-
  What the statement needs: an evaluator of the model, contracts of the functions that it reaches, and the plain law.
-/
import Derived.Test.YtnkaepnblikcdaaGreatZA6
set_option maxRecDepth 100000
set_option linter.unusedVariables false
set_option linter.unusedSimpArgs false
open Go.IntKind (i64 u64)
namespace Go.Proofs.YtnkaepnblikcdaaGreat
open Go.Sx
def eqLI(a b:List Int):Bool:=decide (a=b)
def eqLB(a b:List Bk):Bool:=decide (a=b)
theorem eqLI_eq{a b:List Int}(h:eqLI a b=true):a=b:=of_decide_eq_true h
theorem eqLB_eq{a b:List Bk}(h:eqLB a b=true):a=b:=of_decide_eq_true h
def shI(a:List Int):Bool:=decide (a.length≤1000)
def shB(a:List Bk):Bool:=decide (a.length≤1000)
def fSaI:Fact:=⟨70,fun args=>match args with
 |[.list (.int .i64) a,.list (.int .i64) b] =>some (.req (eqLI a b) (.req (shI a) (.leaf (.bool true))))
 |_=>none⟩
def fSaB:Fact:=⟨69,fun args=>match args with
 |[.list (.pair (.pair (.int .i64) (.pair (.int .i64) (.pair (.int .i64) (.int .i64)))) (.pair (.int .i64) (.pair (.int .i64) (.pair (.int .i64) (.int .i64))))) a,.list (.pair (.pair (.int .i64) (.pair (.int .i64) (.pair (.int .i64) (.int .i64)))) (.pair (.int .i64) (.pair (.int .i64) (.pair (.int .i64) (.int .i64))))) b] =>some (.req (eqLB a b) (.req (shB a) (.leaf (.bool true))))
 |_=>none⟩
def sai0_p:Plan:=.fork (.all) (.all)
noncomputable def sai0_t(l:List Int):Tree Stop:= .node ((↑l.length:Int) !=(↑l.length:Int)) (.leaf (.done (.bool false))) (.leaf (.at (loopOf Tryz.prog 70 0) 26 (slotsS 26 [(0,.list (Ty.int IntKind.i64) l),(1,.list (Ty.int IntKind.i64) l),(5,.int .i64 0)]) []))
theorem sai0(l:List Int):segR (Env.of Tryz.prog (sumOf [])) 1000 (fnOf Tryz.prog 70) .unit (keepS 26 [0,1,5]) (codeS Tryz.prog 70) sai0_p (startS Tryz.prog 70 [LI l,LI l]) [] =sai0_t l:=by kernel_rfl
def sai1_p:Plan:=.fork (.fork (.all) (.all)) (.all)
noncomputable def sai1_t(l:List Int)(i:Int):Tree Stop:= .node (decide (i< (↑l.length:Int))) (.req (decide (0≤i)&&decide (i< (↑l.length:Int))) (.req (decide (0≤i)&&decide (i< (↑l.length:Int))) (.node (l.getD i.toNat 0 != l.getD i.toNat 0) (.leaf (.done (.bool false))) (.leaf (.at (loopOf Tryz.prog 70 0) 26 (slotsS 26 [(0,.list (Ty.int IntKind.i64) l),(1,.list (Ty.int IntKind.i64) l),(5,.int .i64 (i64.wrap (i+1)))]) []))))) (.leaf (.done (.bool true)))
theorem sai1(l:List Int)(i:Int):segR (Env.of Tryz.prog (sumOf [])) 1000 (fnOf Tryz.prog 70) .unit (keepS 26 [0,1,5]) (loopOf Tryz.prog 70 0) sai1_p (slotsS 26 [(0,LI l),(1,LI l),(5,I64 i)]) [] =sai1_t l i:=by kernel_rfl
def sab0_p:Plan:=.fork (.all) (.all)
noncomputable def sab0_t(l:List Bk):Tree Stop:= .node ((↑l.length:Int) !=(↑l.length:Int)) (.leaf (.done (.bool false))) (.leaf (.at (loopOf Tryz.prog 69 0) 26 (slotsS 26 [(0,.list tyBk l),(1,.list tyBk l),(5,.int .i64 0)]) []))
theorem sab0(l:List Bk):segR (Env.of Tryz.prog (sumOf [])) 1000 (fnOf Tryz.prog 69) .unit (keepS 26 [0,1,5]) (codeS Tryz.prog 69) sab0_p (startS Tryz.prog 69 [LB l,LB l]) [] =sab0_t l:=by kernel_rfl
def sab1_p:Plan:=.fork (.fork (.all) (.all)) (.all)
noncomputable def sab1_t(l:List Bk)(i:Int):Tree Stop:= .node (decide (i< (↑l.length:Int))) (.req (decide (0≤i)&&decide (i< (↑l.length:Int))) (.req (decide (0≤i)&&decide (i< (↑l.length:Int))) (.node (!((l.getD i.toNat dBk).1.1==(l.getD i.toNat dBk).1.1&& ((l.getD i.toNat dBk).1.2.1==(l.getD i.toNat dBk).1.2.1&& ((l.getD i.toNat dBk).1.2.2.1==(l.getD i.toNat dBk).1.2.2.1&& ((l.getD i.toNat dBk).1.2.2.2==(l.getD i.toNat dBk).1.2.2.2&&true)))&& ((l.getD i.toNat dBk).2.1==(l.getD i.toNat dBk).2.1&& ((l.getD i.toNat dBk).2.2.1==(l.getD i.toNat dBk).2.2.1&& ((l.getD i.toNat dBk).2.2.2.1==(l.getD i.toNat dBk).2.2.2.1&& ((l.getD i.toNat dBk).2.2.2.2==(l.getD i.toNat dBk).2.2.2.2&&true)))))) (.leaf (.done (.bool false))) (.leaf (.at (loopOf Tryz.prog 69 0) 26 (slotsS 26 [(0,.list tyBk l),(1,.list tyBk l),(5,.int .i64 (i64.wrap (i+1)))]) []))))) (.leaf (.done (.bool true)))
theorem sab1(l:List Bk)(i:Int):segR (Env.of Tryz.prog (sumOf [])) 1000 (fnOf Tryz.prog 69) .unit (keepS 26 [0,1,5]) (loopOf Tryz.prog 69 0) sab1_p (slotsS 26 [(0,LB l),(1,LB l),(5,I64 i)]) [] =sab1_t l i:=by kernel_rfl
theorem n_true{α:Type}{L:α→Prop}{b:Bool}{T F:Tree α}(hb:b=true)(h:T.holds L):(Tree.node b T F).holds L:=⟨fun _=>h,fun k=>by rw[hb]at k;cases k⟩
theorem k000:Known Tryz.prog (Env.of Tryz.prog (sumOf [])):=kW trivial
theorem sai_loop(l:List Int)(hl:l.length≤4611686018427387904):∀ (k i:Nat),i+k=l.length→
  RunsR Tryz.prog (fnOf Tryz.prog 70) (.bool true) (loopOf Tryz.prog 70 0) (slotsS 26 [(0,LI l),(1,LI l),(5,I64 i)]) []
 |k,i,hi=>by
  refine runsR_seg k000 (n:=1000) (hint:=.unit) (keep:=keepS 26 [0,1,5]) (p:=sai1_p) rfl ?_
  erw [sai1 l i]
  unfold sai1_t
  have t0:(i:Int).toNat=i:=by omega
  have w1:i64.wrap ((i:Int)+1)=((i+1:Nat):Int):=by rw[w64 (by omega) (by omega)];omega
  rw[t0,w1]
  refine n_dec (fun a=>?_) fun a=>rfl
  match k,hi with
  |0,hi=>omega
  |k+1,hi=>
   exact n_req (by simp;omega) (n_req (by simp;omega) (n_ne (fun c=>absurd rfl c) fun _=>⟨slotsS_len _ _,sai_loop l hl k (i+1) (by omega)⟩))
theorem sab_loop(l:List Bk)(hl:l.length≤4611686018427387904):∀ (k i:Nat),i+k=l.length→
  RunsR Tryz.prog (fnOf Tryz.prog 69) (.bool true) (loopOf Tryz.prog 69 0) (slotsS 26 [(0,LB l),(1,LB l),(5,I64 i)]) []
 |k,i,hi=>by
  refine runsR_seg k000 (n:=1000) (hint:=.unit) (keep:=keepS 26 [0,1,5]) (p:=sab1_p) rfl ?_
  erw [sab1 l i]
  unfold sab1_t
  have t0:(i:Int).toNat=i:=by omega
  have w1:i64.wrap ((i:Int)+1)=((i+1:Nat):Int):=by rw[w64 (by omega) (by omega)];omega
  rw[t0,w1]
  refine n_dec (fun a=>?_) fun a=>rfl
  match k,hi with
  |0,hi=>omega
  |k+1,hi=>
   exact n_req (by simp;omega) (n_req (by simp;omega) ⟨fun c=>(by simp at c),fun _=>⟨slotsS_len _ _,sab_loop l hl k (i+1) (by omega)⟩⟩)
theorem s_saI(l:List Int)(hl:l.length≤4611686018427387904):SCall Tryz.prog 70 [LI l,LI l] (.bool true):=by
 refine scallR_loops rfl rfl (by kernel_rfl) (runsR_seg k000 (n:=1000) (hint:=.unit) (keep:=keepS 26 [0,1,5]) (p:=sai0_p) (boxes:=[]) rfl ?_)
 have q:=sai0 l
 unfold startS codeS at q
 erw [q]
 unfold sai0_t
 exact n_ne (fun c=>absurd rfl c) fun _=>⟨slotsS_len _ _,sai_loop l hl l.length 0 (by omega)⟩
theorem s_saB(l:List Bk)(hl:l.length≤4611686018427387904):SCall Tryz.prog 69 [LB l,LB l] (.bool true):=by
 refine scallR_loops rfl rfl (by kernel_rfl) (runsR_seg k000 (n:=1000) (hint:=.unit) (keep:=keepS 26 [0,1,5]) (p:=sab0_p) (boxes:=[]) rfl ?_)
 have q:=sab0 l
 unfold startS codeS at q
 erw [q]
 unfold sab0_t
 exact n_ne (fun c=>absurd rfl c) fun _=>⟨slotsS_len _ _,sab_loop l hl l.length 0 (by omega)⟩
theorem o_saI:fSaI.ok Tryz.prog:=fun args t ht=>by
 simp only[fSaI]at ht
 split at ht
 ·injection ht with ht;subst ht
  intro h h2
  obtain rfl:=eqLI_eq h
  exact s_saI _ (by have:=of_decide_eq_true h2;omega)
 ·cases ht
theorem o_saB:fSaB.ok Tryz.prog:=fun args t ht=>by
 simp only[fSaB]at ht
 split at ht
 ·injection ht with ht;subst ht
  intro h h2
  obtain rfl:=eqLB_eq h
  exact s_saB _ (by have:=of_decide_eq_true h2;omega)
 ·cases ht
theorem s_same(f:Fw)(h:shB f.queue=true)(k:shI f.lines=true):SCall Tryz.prog 23 [f.sv,f.sv] (.bool true):=
 scall_vE (hB (l:=[fSaI,fSaB]) (k:=[]) (j:=[]) (i:=[]) ([] :List Nat) ([] :List Nat) ([] :List Nat) ([] :List Nat) (⟨o_saI,o_saB,trivial⟩) noneOk noneOk noneOk) 1000 (.fork (.ln 5 (.fork (.ln 5 (.fork (.ln 5 (.fork (.ln 5 (.fork (.ln 5 (.fork (.ln 5 (.fork (.ln 5 (.fork (.ln 5 (.fork (.ln 5 (.fork (.ln 5 (.fork (.ln 5 (.fork (.ln 5 (.fork (.ln 5 (.fork (.ln 5 (.fork (.ln 5 (.fork (.ln 5 (.fork (.ln 5 (.fork (.ln 5 (.fork (.ln 5 (.fork (.lit (.fork (.ln 10 (.lit .all)) (.ln 10 (.lit .all)))) (.ln 12 (.lit .all)))) (.ln 5 (.fork (.ln 12 (.lit .all)) (.ln 12 (.lit .all)))))) (.ln 11 (.fork (.ln 12 (.lit .all)) (.ln 12 (.lit .all)))))) (.ln 17 (.fork (.ln 12 (.lit .all)) (.ln 12 (.lit .all)))))) (.ln 23 (.fork (.ln 12 (.lit .all)) (.ln 12 (.lit .all)))))) (.ln 29 (.fork (.ln 12 (.lit .all)) (.ln 12 (.lit .all)))))) (.ln 35 (.fork (.ln 12 (.lit .all)) (.ln 12 (.lit .all)))))) (.ln 41 (.fork (.ln 12 (.lit .all)) (.ln 12 (.lit .all)))))) (.ln 47 (.fork (.ln 12 (.lit .all)) (.ln 12 (.lit .all)))))) (.ln 53 (.fork (.ln 12 (.lit .all)) (.ln 12 (.lit .all)))))) (.ln 59 (.fork (.ln 12 (.lit .all)) (.ln 12 (.lit .all)))))) (.ln 5 (.fork (.ln 5 (.fork (.ln 5 (.fork (.ln 5 (.fork (.ln 5 (.fork (.ln 5 (.fork (.ln 5 (.fork (.ln 5 (.fork (.ln 5 (.fork (.ln 5 (.fork (.ln 18 (.lit .all)) (.ln 18 (.lit .all)))) (.ln 24 (.lit .all)))) (.ln 30 (.lit .all)))) (.ln 36 (.lit .all)))) (.ln 42 (.lit .all)))) (.ln 48 (.lit .all)))) (.ln 54 (.lit .all)))) (.ln 60 (.lit .all)))) (.ln 66 (.lit .all)))) (.ln 72 (.lit .all)))))) (.ln 11 (.fork (.ln 5 (.fork (.ln 5 (.fork (.ln 5 (.fork (.ln 5 (.fork (.ln 5 (.fork (.ln 5 (.fork (.ln 5 (.fork (.ln 5 (.fork (.ln 5 (.fork (.ln 18 (.lit .all)) (.ln 18 (.lit .all)))) (.ln 24 (.lit .all)))) (.ln 30 (.lit .all)))) (.ln 36 (.lit .all)))) (.ln 42 (.lit .all)))) (.ln 48 (.lit .all)))) (.ln 54 (.lit .all)))) (.ln 60 (.lit .all)))) (.ln 66 (.lit .all)))) (.ln 72 (.lit .all)))))) (.ln 17 (.fork (.ln 5 (.fork (.ln 5 (.fork (.ln 5 (.fork (.ln 5 (.fork (.ln 5 (.fork (.ln 5 (.fork (.ln 5 (.fork (.ln 5 (.fork (.ln 5 (.fork (.ln 18 (.lit .all)) (.ln 18 (.lit .all)))) (.ln 24 (.lit .all)))) (.ln 30 (.lit .all)))) (.ln 36 (.lit .all)))) (.ln 42 (.lit .all)))) (.ln 48 (.lit .all)))) (.ln 54 (.lit .all)))) (.ln 60 (.lit .all)))) (.ln 66 (.lit .all)))) (.ln 72 (.lit .all)))))) (.ln 23 (.fork (.ln 5 (.fork (.ln 5 (.fork (.ln 5 (.fork (.ln 5 (.fork (.ln 5 (.fork (.ln 5 (.fork (.ln 5 (.fork (.ln 5 (.fork (.ln 5 (.fork (.ln 18 (.lit .all)) (.ln 18 (.lit .all)))) (.ln 24 (.lit .all)))) (.ln 30 (.lit .all)))) (.ln 36 (.lit .all)))) (.ln 42 (.lit .all)))) (.ln 48 (.lit .all)))) (.ln 54 (.lit .all)))) (.ln 60 (.lit .all)))) (.ln 66 (.lit .all)))) (.ln 72 (.lit .all)))))) (.ln 29 (.fork (.ln 5 (.fork (.ln 5 (.fork (.ln 5 (.fork (.ln 5 (.fork (.ln 5 (.fork (.ln 5 (.fork (.ln 5 (.fork (.ln 5 (.fork (.ln 5 (.fork (.ln 18 (.lit .all)) (.ln 18 (.lit .all)))) (.ln 24 (.lit .all)))) (.ln 30 (.lit .all)))) (.ln 36 (.lit .all)))) (.ln 42 (.lit .all)))) (.ln 48 (.lit .all)))) (.ln 54 (.lit .all)))) (.ln 60 (.lit .all)))) (.ln 66 (.lit .all)))) (.ln 72 (.lit .all)))))) (.ln 35 (.fork (.ln 5 (.fork (.ln 5 (.fork (.ln 5 (.fork (.ln 5 (.fork (.ln 5 (.fork (.ln 5 (.fork (.ln 5 (.fork (.ln 5 (.fork (.ln 5 (.fork (.ln 18 (.lit .all)) (.ln 18 (.lit .all)))) (.ln 24 (.lit .all)))) (.ln 30 (.lit .all)))) (.ln 36 (.lit .all)))) (.ln 42 (.lit .all)))) (.ln 48 (.lit .all)))) (.ln 54 (.lit .all)))) (.ln 60 (.lit .all)))) (.ln 66 (.lit .all)))) (.ln 72 (.lit .all)))))) (.ln 41 (.fork (.ln 5 (.fork (.ln 5 (.fork (.ln 5 (.fork (.ln 5 (.fork (.ln 5 (.fork (.ln 5 (.fork (.ln 5 (.fork (.ln 5 (.fork (.ln 5 (.fork (.ln 18 (.lit .all)) (.ln 18 (.lit .all)))) (.ln 24 (.lit .all)))) (.ln 30 (.lit .all)))) (.ln 36 (.lit .all)))) (.ln 42 (.lit .all)))) (.ln 48 (.lit .all)))) (.ln 54 (.lit .all)))) (.ln 60 (.lit .all)))) (.ln 66 (.lit .all)))) (.ln 72 (.lit .all)))))) (.ln 47 (.fork (.ln 5 (.fork (.ln 5 (.fork (.ln 5 (.fork (.ln 5 (.fork (.ln 5 (.fork (.ln 5 (.fork (.ln 5 (.fork (.ln 5 (.fork (.ln 5 (.fork (.ln 18 (.lit .all)) (.ln 18 (.lit .all)))) (.ln 24 (.lit .all)))) (.ln 30 (.lit .all)))) (.ln 36 (.lit .all)))) (.ln 42 (.lit .all)))) (.ln 48 (.lit .all)))) (.ln 54 (.lit .all)))) (.ln 60 (.lit .all)))) (.ln 66 (.lit .all)))) (.ln 72 (.lit .all)))))) (.ln 53 (.fork (.ln 5 (.fork (.ln 5 (.fork (.ln 5 (.fork (.ln 5 (.fork (.ln 5 (.fork (.ln 5 (.fork (.ln 5 (.fork (.ln 5 (.fork (.ln 5 (.fork (.ln 18 (.lit .all)) (.ln 18 (.lit .all)))) (.ln 24 (.lit .all)))) (.ln 30 (.lit .all)))) (.ln 36 (.lit .all)))) (.ln 42 (.lit .all)))) (.ln 48 (.lit .all)))) (.ln 54 (.lit .all)))) (.ln 60 (.lit .all)))) (.ln 66 (.lit .all)))) (.ln 72 (.lit .all)))))
  (t:=let y1:=f.g0.low==f.g0.low&& (f.g0.high==f.g0.high&& (f.g0.watch==f.g0.watch&& (f.g0.rise==f.g0.rise&& (f.g0.band==f.g0.band&& (f.g0.base==f.g0.base&& (f.g0.count==f.g0.count&& (f.g0.idle==f.g0.idle&& (f.g0.quiet==f.g0.quiet&& (f.g0.fault==f.g0.fault&& (f.g0.door==f.g0.door&&true))))))))))&& (f.g1.low==f.g1.low&& (f.g1.high==f.g1.high&& (f.g1.watch==f.g1.watch&& (f.g1.rise==f.g1.rise&& (f.g1.band==f.g1.band&& (f.g1.base==f.g1.base&& (f.g1.count==f.g1.count&& (f.g1.idle==f.g1.idle&& (f.g1.quiet==f.g1.quiet&& (f.g1.fault==f.g1.fault&& (f.g1.door==f.g1.door&&true))))))))))&&true);let y3:=f.c0.target==f.c0.target&& (f.c0.kp==f.c0.kp&& (f.c0.ki==f.c0.ki&& (f.c0.scale==f.c0.scale&& (f.c0.sum==f.c0.sum&& (f.c0.limit==f.c0.limit&&true)))))&& (f.c1.target==f.c1.target&& (f.c1.kp==f.c1.kp&& (f.c1.ki==f.c1.ki&& (f.c1.scale==f.c1.scale&& (f.c1.sum==f.c1.sum&& (f.c1.limit==f.c1.limit&&true)))))&&true);let y4:Tree SV:=.leaf (.bool false);let y2:Tree SV:=.node (f.active==f.active) y4 y4;let y5:=f.ret.1==f.ret.1&& (f.ret.2.1==f.ret.2.1&& (f.ret.2.2.1==f.ret.2.2.1&& (f.ret.2.2.2==f.ret.2.2.2&&true)));let y0:Tree SV:=.node (f.back==f.back) (.node y5 (.node (f.dwell==f.dwell) (.node (f.waits==f.waits) (.node y3 (.node y1 (.node (f.fan==f.fan) (.node (f.line==f.line) (.node (f.ticks==f.ticks) (.node (f.cold==f.cold) y4 y4) y4) y4) y4) y4) y4) y4) y4) y4) y4;.node (f.ma.x.num==f.ma.x.num&& (f.ma.x.den==f.ma.x.den&& (f.ma.x.speed==f.ma.x.speed&& (f.ma.x.accel==f.ma.x.accel&& (f.ma.x.jerk==f.ma.x.jerk&& (f.ma.x.min==f.ma.x.min&& (f.ma.x.max==f.ma.x.max&&true))))))&& (f.ma.y.num==f.ma.y.num&& (f.ma.y.den==f.ma.y.den&& (f.ma.y.speed==f.ma.y.speed&& (f.ma.y.accel==f.ma.y.accel&& (f.ma.y.jerk==f.ma.y.jerk&& (f.ma.y.min==f.ma.y.min&& (f.ma.y.max==f.ma.y.max&&true))))))&& (f.ma.z.num==f.ma.z.num&& (f.ma.z.den==f.ma.z.den&& (f.ma.z.speed==f.ma.z.speed&& (f.ma.z.accel==f.ma.z.accel&& (f.ma.z.jerk==f.ma.z.jerk&& (f.ma.z.min==f.ma.z.min&& (f.ma.z.max==f.ma.z.max&&true))))))&& (f.ma.e.num==f.ma.e.num&& (f.ma.e.den==f.ma.e.den&& (f.ma.e.speed==f.ma.e.speed&& (f.ma.e.accel==f.ma.e.accel&& (f.ma.e.jerk==f.ma.e.jerk&& (f.ma.e.min==f.ma.e.min&& (f.ma.e.max==f.ma.e.max&&true))))))&&true)))&& (f.ma.xy==f.ma.xy&& (f.ma.ticks==f.ma.ticks&&true))) (.node (f.mode==f.mode) (.node (f.homed==f.homed) (.node (f.pos.1==f.pos.1&& (f.pos.2.1==f.pos.2.1&& (f.pos.2.2.1==f.pos.2.2.1&& (f.pos.2.2.2==f.pos.2.2.2&&true)))) (.node (f.loc.1==f.loc.1&& (f.loc.2.1==f.loc.2.1&& (f.loc.2.2==f.loc.2.2&&true))) (.node (f.e==f.e) (.node (f.feed==f.feed) (.node (f.mo.1.1.1==f.mo.1.1.1&& (f.mo.1.1.2.1==f.mo.1.1.2.1&& (f.mo.1.1.2.2.1==f.mo.1.1.2.2.1&& (f.mo.1.1.2.2.2==f.mo.1.1.2.2.2&&true)))&& (f.mo.1.2.1==f.mo.1.2.1&& (f.mo.1.2.2.1==f.mo.1.2.2.1&& (f.mo.1.2.2.2.1==f.mo.1.2.2.2.1&& (f.mo.1.2.2.2.2==f.mo.1.2.2.2.2&&true))))&& (f.mo.2.1==f.mo.2.1&& (f.mo.2.2==f.mo.2.2&&true))) (.node (f.moving==f.moving) (.node (f.back==f.back) (.node y5 (.node (f.dwell==f.dwell) (.node (f.waits==f.waits) (.node y3 (.node y1 (.node (f.fan==f.fan) (.node (f.line==f.line) (.node (f.ticks==f.ticks) (.node (f.cold==f.cold) (.node (f.active==f.active) (.node (f.r0==f.r0&& (f.r1==f.r1&&true)) (.req (eqLB f.queue f.queue) (.req (shB f.queue) (.req (eqLI f.lines f.lines) (.req (shI f.lines) (.leaf (.bool true)))))) y4) y4) y2) y2) y2) y2) y2) y2) y2) y2) y2) y2) y0) y0) y0) y0) y0) y0) y0) y0) y0)
  (by kernel_rfl) (by repeat' first|refine n_true (by simp) ?_|refine n_req (by simp[eqLI,eqLB]) ?_|refine n_req h ?_|refine n_req k ?_|exact rfl) (by kernel_rfl) (by kernel_rfl)
noncomputable def eqFw(x y:Fw):Bool:=@decide (x=y) (Classical.propDecidable _)
theorem eqFw_rfl(x:Fw):eqFw x x=true:=@decide_eq_true _ (Classical.propDecidable _) rfl
theorem eqFw_eq{x y:Fw}(h:eqFw x y=true):x=y:=@of_decide_eq_true _ (Classical.propDecidable _) h
def shF(x:Fw):Bool:=shB x.queue&&shI x.lines
noncomputable def fSame:Fact:=factFw 23 fun x rest=>match rest with
 |[.agg l] =>match asFw l with
  |some y=>some (.req (eqFw x y) (.req (shF x) (.leaf (.bool true))))
  |none=>none
 |_=>none
def fWorks:Fact:=⟨18,fun args=>match args with
 |[] =>some (.leaf (.bool true))
 |_=>none⟩
theorem scall_nil2{P:Program}{f:FuncId}{cs ds:List SV}{a:SV}{v:SV}(hn:NilLs cs ds)(h:SCall P f [a,.agg ds] v):SCall P f [a,.agg cs] v:=by
 intro m w0 R0 ρ w vs hm hvs
 obtain⟨u,us,rfl,h0,u2,us2,rfl,⟨ws,h1,h2⟩,h3⟩:=hvs
 exact h m w0 R0 ρ w _ hm ⟨u,_,rfl,h0,u2,us2,rfl,⟨ws,h1,hn.rep h2⟩,h3⟩
theorem o_same:fSame.ok Tryz.prog:=factFw_ok fun x rest t ht=>by
 split at ht
 ·split at ht
  ·rename_i hy
   injection ht with ht;subst ht
   intro h k
   obtain rfl:=eqFw_eq h
   have k:=(Bool.and_eq_true _ _).mp k
   exact scall_nil2 (asFw_nil hy) (s_same _ k.1 k.2)
  ·cases ht
 ·cases ht
theorem o_works:fWorks.ok Tryz.prog:=fun args t ht=>by
 simp only[fWorks]at ht
 split at ht
 ·injection ht with ht;subst ht;exact s_works
 ·cases ht
theorem s_lawNews(m:Ma)(c d:Co)(g h:Gu)(cold:Int):SCall Tryz.prog 4 [.agg (m.cells++(c.cells++(d.cells++(g.cells++(h.cells++[I64 cold])))))] (.bool true):=
 scall_vE (hB (l:=[fNew,fNewR,fSame,fWorks]) (k:=[]) (j:=[]) (i:=[]) ([] :List Nat) ([] :List Nat) ([] :List Nat) ([] :List Nat) (⟨o_new,o_newR,o_same,o_works,trivial⟩) noneOk noneOk noneOk) 1000 (.fork (.fork (.ln 5 (.lit .all)) (.ln 5 (.lit .all))) (.fork (.ln 5 (.lit .all)) (.ln 5 (.lit .all))))
  (t:=let y0:={fw0 with ma:=(Ma.mk fw0.ma.x fw0.ma.y fw0.ma.z fw0.ma.e false 0),mode:=0,homed:=false,pos:=(0,0,fw0.pos.2.2),loc:=(0,fw0.loc.2),e:=0,feed:=0,mo:=(((0,0,fw0.mo.1.1.2.2),0,0,fw0.mo.1.2.2.2),fw0.mo.2),moving:=false,active:=0,back:=false,ret:=(0,0,fw0.ret.2.2),dwell:=0,waits:=0,fan:=0,line:=0,ticks:=0,cold:=0,r0:=0,r1:=0};let y1:=newF m c d g h cold;.node (newOk m c d g h cold) (.node (newOk m c d g h cold) (.req (eqFw y1 y1) (.req (shF y1) (.leaf (.bool true)))) (.req (eqFw y1 y0) (.req (shF y1) (.leaf (.bool false))))) (.node (newOk m c d g h cold) (.req (eqFw y0 y1) (.req true (.leaf (.bool false)))) (.req (eqFw y0 y0) (.req true (.leaf (.bool true))))))
  (by kernel_rfl) (by
   refine n_bool (fun k=>?_) fun k=>?_
   ·repeat' first|exact rfl|refine n_req (eqFw_rfl _) ?_|refine n_req rfl ?_|refine n_true k ?_|refine n_true rfl ?_
   ·repeat' first|exact rfl|refine n_req (eqFw_rfl _) ?_|refine n_req rfl ?_|refine n_bool (fun q=>absurd q (by rw[k];exact Bool.false_ne_true)) (fun _=>?_)|refine n_true rfl ?_) (by kernel_rfl) (by kernel_rfl)
end Go.Proofs.YtnkaepnblikcdaaGreat
