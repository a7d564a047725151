/-
  What the statement needs: an evaluator of the model, contracts of the functions that it reaches, and the plain law.
-/
import Derived.Test.YtnkaepnblikcdaaGreatZA6
import Derived.Test.YtnkaepnblikcdaaGreatZA3
import Derived.Laws.IdiomCopy
import Derived.Tactics
set_option maxRecDepth 100000
set_option linter.unusedVariables false
set_option linter.unusedSimpArgs false
open Go.IntKind (i64 u64)
namespace Go.Proofs.YtnkaepnblikcdaaGreat
open Go.Sx
def eqLI(a b:List Int):Bool:=decide (a=b)
def eqLB(a b:List Bk):Bool:=decide (a=b)
theorem eqLI_eq{a b:List Int}(h:eqLI a b=true):a=b:=of_decide_eq_true h
theorem eqLB_eq{a b:List Bk}(h:eqLB a b=true):a=b:=of_decide_eq_true h
def shI(a:List Int):Bool:=decide (a.length≤1000)
def shB(a:List Bk):Bool:=decide (a.length≤1000)
def fSaI:Fact:=⟨70,fun args=>match args with
 |[.list (.int .i64) a,.list (.int .i64) b] =>some (.req (eqLI a b) (.req (shI a) (.leaf (.bool true))))
 |_=>none⟩
def fSaB:Fact:=⟨69,fun args=>match args with
 |[.list (.pair (.pair (.int .i64) (.pair (.int .i64) (.pair (.int .i64) (.int .i64)))) (.pair (.int .i64) (.pair (.int .i64) (.pair (.int .i64) (.int .i64))))) a,.list (.pair (.pair (.int .i64) (.pair (.int .i64) (.pair (.int .i64) (.int .i64)))) (.pair (.int .i64) (.pair (.int .i64) (.pair (.int .i64) (.int .i64))))) b] =>some (.req (eqLB a b) (.req (shB a) (.leaf (.bool true))))
 |_=>none⟩
def sai0_p:Plan:=.fork (.all) (.all)
noncomputable def sai0_t(l:List Int):Tree Stop:= .node ((↑l.length:Int) !=(↑l.length:Int)) (.leaf (.done (.bool false))) (.leaf (.at (loopOf Tryz.prog 70 0) 26 (slotsS 26 [(0,.list (Ty.int IntKind.i64) l),(1,.list (Ty.int IntKind.i64) l),(5,.int .i64 0)]) []))
theorem sai0(l:List Int):segR (Env.of Tryz.prog (sumOf [])) 1000 (fnOf Tryz.prog 70) .unit (keepS 26 [0,1,5]) (codeS Tryz.prog 70) sai0_p (startS Tryz.prog 70 [LI l,LI l]) [] =sai0_t l:=by kernel_rfl
def sai1_p:Plan:=.fork (.fork (.all) (.all)) (.all)
noncomputable def sai1_t(l:List Int)(i:Int):Tree Stop:= .node (decide (i< (↑l.length:Int))) (.req (decide (0≤i)&&decide (i< (↑l.length:Int))) (.req (decide (0≤i)&&decide (i< (↑l.length:Int))) (.node (l.getD i.toNat 0 != l.getD i.toNat 0) (.leaf (.done (.bool false))) (.leaf (.at (loopOf Tryz.prog 70 0) 26 (slotsS 26 [(0,.list (Ty.int IntKind.i64) l),(1,.list (Ty.int IntKind.i64) l),(5,.int .i64 (i64.wrap (i+1)))]) []))))) (.leaf (.done (.bool true)))
theorem sai1(l:List Int)(i:Int):segR (Env.of Tryz.prog (sumOf [])) 1000 (fnOf Tryz.prog 70) .unit (keepS 26 [0,1,5]) (loopOf Tryz.prog 70 0) sai1_p (slotsS 26 [(0,LI l),(1,LI l),(5,I64 i)]) [] =sai1_t l i:=by kernel_rfl
def sab0_p:Plan:=.fork (.all) (.all)
noncomputable def sab0_t(l:List Bk):Tree Stop:= .node ((↑l.length:Int) !=(↑l.length:Int)) (.leaf (.done (.bool false))) (.leaf (.at (loopOf Tryz.prog 69 0) 26 (slotsS 26 [(0,.list tyBk l),(1,.list tyBk l),(5,.int .i64 0)]) []))
theorem sab0(l:List Bk):segR (Env.of Tryz.prog (sumOf [])) 1000 (fnOf Tryz.prog 69) .unit (keepS 26 [0,1,5]) (codeS Tryz.prog 69) sab0_p (startS Tryz.prog 69 [LB l,LB l]) [] =sab0_t l:=by kernel_rfl
def sab1_p:Plan:=.fork (.fork (.all) (.all)) (.all)
noncomputable def sab1_t(l:List Bk)(i:Int):Tree Stop:= .node (decide (i< (↑l.length:Int))) (.req (decide (0≤i)&&decide (i< (↑l.length:Int))) (.req (decide (0≤i)&&decide (i< (↑l.length:Int))) (.node (!((l.getD i.toNat dBk).1.1==(l.getD i.toNat dBk).1.1&& ((l.getD i.toNat dBk).1.2.1==(l.getD i.toNat dBk).1.2.1&& ((l.getD i.toNat dBk).1.2.2.1==(l.getD i.toNat dBk).1.2.2.1&& ((l.getD i.toNat dBk).1.2.2.2==(l.getD i.toNat dBk).1.2.2.2&&true)))&& ((l.getD i.toNat dBk).2.1==(l.getD i.toNat dBk).2.1&& ((l.getD i.toNat dBk).2.2.1==(l.getD i.toNat dBk).2.2.1&& ((l.getD i.toNat dBk).2.2.2.1==(l.getD i.toNat dBk).2.2.2.1&& ((l.getD i.toNat dBk).2.2.2.2==(l.getD i.toNat dBk).2.2.2.2&&true)))))) (.leaf (.done (.bool false))) (.leaf (.at (loopOf Tryz.prog 69 0) 26 (slotsS 26 [(0,.list tyBk l),(1,.list tyBk l),(5,.int .i64 (i64.wrap (i+1)))]) []))))) (.leaf (.done (.bool true)))
theorem sab1(l:List Bk)(i:Int):segR (Env.of Tryz.prog (sumOf [])) 1000 (fnOf Tryz.prog 69) .unit (keepS 26 [0,1,5]) (loopOf Tryz.prog 69 0) sab1_p (slotsS 26 [(0,LB l),(1,LB l),(5,I64 i)]) [] =sab1_t l i:=by kernel_rfl
theorem n_true{α:Type}{L:α→Prop}{b:Bool}{T F:Tree α}(hb:b=true)(h:T.holds L):(Tree.node b T F).holds L:=⟨fun _=>h,fun k=>by rw[hb]at k;cases k⟩
theorem k000:Known Tryz.prog (Env.of Tryz.prog (sumOf [])):=kW trivial
theorem sai_loop(l:List Int)(hl:l.length≤4611686018427387904):∀ (k i:Nat),i+k=l.length→
  RunsR Tryz.prog (fnOf Tryz.prog 70) (.bool true) (loopOf Tryz.prog 70 0) (slotsS 26 [(0,LI l),(1,LI l),(5,I64 i)]) []
 |k,i,hi=>by
  refine runsR_seg k000 (n:=1000) (hint:=.unit) (keep:=keepS 26 [0,1,5]) (p:=sai1_p) rfl ?_
  erw [sai1 l i]
  unfold sai1_t
  have t0:(i:Int).toNat=i:=by omega
  have w1:i64.wrap ((i:Int)+1)=((i+1:Nat):Int):=by rw[w64 (by omega) (by omega)];omega
  rw[t0,w1]
  refine n_dec (fun a=>?_) fun a=>rfl
  match k,hi with
  |0,hi=>omega
  |k+1,hi=>
   exact n_req (by simp;omega) (n_req (by simp;omega) (n_ne (fun c=>absurd rfl c) fun _=>⟨slotsS_len _ _,sai_loop l hl k (i+1) (by omega)⟩))
theorem sab_loop(l:List Bk)(hl:l.length≤4611686018427387904):∀ (k i:Nat),i+k=l.length→
  RunsR Tryz.prog (fnOf Tryz.prog 69) (.bool true) (loopOf Tryz.prog 69 0) (slotsS 26 [(0,LB l),(1,LB l),(5,I64 i)]) []
 |k,i,hi=>by
  refine runsR_seg k000 (n:=1000) (hint:=.unit) (keep:=keepS 26 [0,1,5]) (p:=sab1_p) rfl ?_
  erw [sab1 l i]
  unfold sab1_t
  have t0:(i:Int).toNat=i:=by omega
  have w1:i64.wrap ((i:Int)+1)=((i+1:Nat):Int):=by rw[w64 (by omega) (by omega)];omega
  rw[t0,w1]
  refine n_dec (fun a=>?_) fun a=>rfl
  match k,hi with
  |0,hi=>omega
  |k+1,hi=>
   exact n_req (by simp;omega) (n_req (by simp;omega) ⟨fun c=>(by simp at c),fun _=>⟨slotsS_len _ _,sab_loop l hl k (i+1) (by omega)⟩⟩)
theorem s_saI(l:List Int)(hl:l.length≤4611686018427387904):SCall Tryz.prog 70 [LI l,LI l] (.bool true):=by
 refine scallR_loops rfl rfl (by kernel_rfl) (runsR_seg k000 (n:=1000) (hint:=.unit) (keep:=keepS 26 [0,1,5]) (p:=sai0_p) (boxes:=[]) rfl ?_)
 have q:=sai0 l
 unfold startS codeS at q
 erw [q]
 unfold sai0_t
 exact n_ne (fun c=>absurd rfl c) fun _=>⟨slotsS_len _ _,sai_loop l hl l.length 0 (by omega)⟩
theorem s_saB(l:List Bk)(hl:l.length≤4611686018427387904):SCall Tryz.prog 69 [LB l,LB l] (.bool true):=by
 refine scallR_loops rfl rfl (by kernel_rfl) (runsR_seg k000 (n:=1000) (hint:=.unit) (keep:=keepS 26 [0,1,5]) (p:=sab0_p) (boxes:=[]) rfl ?_)
 have q:=sab0 l
 unfold startS codeS at q
 erw [q]
 unfold sab0_t
 exact n_ne (fun c=>absurd rfl c) fun _=>⟨slotsS_len _ _,sab_loop l hl l.length 0 (by omega)⟩
theorem o_saI:fSaI.ok Tryz.prog:=fun args t ht=>by
 simp only[fSaI]at ht
 split at ht
 ·injection ht with ht;subst ht
  intro h h2
  obtain rfl:=eqLI_eq h
  exact s_saI _ (by have:=of_decide_eq_true h2;omega)
 ·cases ht
theorem o_saB:fSaB.ok Tryz.prog:=fun args t ht=>by
 simp only[fSaB]at ht
 split at ht
 ·injection ht with ht;subst ht
  intro h h2
  obtain rfl:=eqLB_eq h
  exact s_saB _ (by have:=of_decide_eq_true h2;omega)
 ·cases ht
theorem s_same(f:Fw)(h:shB f.queue=true)(k:shI f.lines=true):SCall Tryz.prog 23 [f.sv,f.sv] (.bool true):=
 scall_vE (hB (l:=[fSaI,fSaB]) (k:=[]) (j:=[]) (i:=[]) ([] :List Nat) ([] :List Nat) ([] :List Nat) ([] :List Nat) (⟨o_saI,o_saB,trivial⟩) noneOk noneOk noneOk) 1000 (.fork (.ln 5 (.fork (.ln 5 (.fork (.ln 5 (.fork (.ln 5 (.fork (.ln 5 (.fork (.ln 5 (.fork (.ln 5 (.fork (.ln 5 (.fork (.ln 5 (.fork (.ln 5 (.fork (.ln 5 (.fork (.ln 5 (.fork (.ln 5 (.fork (.ln 5 (.fork (.ln 5 (.fork (.ln 5 (.fork (.ln 5 (.fork (.ln 5 (.fork (.ln 5 (.fork (.lit (.fork (.ln 10 (.lit .all)) (.ln 10 (.lit .all)))) (.ln 12 (.lit .all)))) (.ln 5 (.fork (.ln 12 (.lit .all)) (.ln 12 (.lit .all)))))) (.ln 11 (.fork (.ln 12 (.lit .all)) (.ln 12 (.lit .all)))))) (.ln 17 (.fork (.ln 12 (.lit .all)) (.ln 12 (.lit .all)))))) (.ln 23 (.fork (.ln 12 (.lit .all)) (.ln 12 (.lit .all)))))) (.ln 29 (.fork (.ln 12 (.lit .all)) (.ln 12 (.lit .all)))))) (.ln 35 (.fork (.ln 12 (.lit .all)) (.ln 12 (.lit .all)))))) (.ln 41 (.fork (.ln 12 (.lit .all)) (.ln 12 (.lit .all)))))) (.ln 47 (.fork (.ln 12 (.lit .all)) (.ln 12 (.lit .all)))))) (.ln 53 (.fork (.ln 12 (.lit .all)) (.ln 12 (.lit .all)))))) (.ln 59 (.fork (.ln 12 (.lit .all)) (.ln 12 (.lit .all)))))) (.ln 5 (.fork (.ln 5 (.fork (.ln 5 (.fork (.ln 5 (.fork (.ln 5 (.fork (.ln 5 (.fork (.ln 5 (.fork (.ln 5 (.fork (.ln 5 (.fork (.ln 5 (.fork (.ln 18 (.lit .all)) (.ln 18 (.lit .all)))) (.ln 24 (.lit .all)))) (.ln 30 (.lit .all)))) (.ln 36 (.lit .all)))) (.ln 42 (.lit .all)))) (.ln 48 (.lit .all)))) (.ln 54 (.lit .all)))) (.ln 60 (.lit .all)))) (.ln 66 (.lit .all)))) (.ln 72 (.lit .all)))))) (.ln 11 (.fork (.ln 5 (.fork (.ln 5 (.fork (.ln 5 (.fork (.ln 5 (.fork (.ln 5 (.fork (.ln 5 (.fork (.ln 5 (.fork (.ln 5 (.fork (.ln 5 (.fork (.ln 18 (.lit .all)) (.ln 18 (.lit .all)))) (.ln 24 (.lit .all)))) (.ln 30 (.lit .all)))) (.ln 36 (.lit .all)))) (.ln 42 (.lit .all)))) (.ln 48 (.lit .all)))) (.ln 54 (.lit .all)))) (.ln 60 (.lit .all)))) (.ln 66 (.lit .all)))) (.ln 72 (.lit .all)))))) (.ln 17 (.fork (.ln 5 (.fork (.ln 5 (.fork (.ln 5 (.fork (.ln 5 (.fork (.ln 5 (.fork (.ln 5 (.fork (.ln 5 (.fork (.ln 5 (.fork (.ln 5 (.fork (.ln 18 (.lit .all)) (.ln 18 (.lit .all)))) (.ln 24 (.lit .all)))) (.ln 30 (.lit .all)))) (.ln 36 (.lit .all)))) (.ln 42 (.lit .all)))) (.ln 48 (.lit .all)))) (.ln 54 (.lit .all)))) (.ln 60 (.lit .all)))) (.ln 66 (.lit .all)))) (.ln 72 (.lit .all)))))) (.ln 23 (.fork (.ln 5 (.fork (.ln 5 (.fork (.ln 5 (.fork (.ln 5 (.fork (.ln 5 (.fork (.ln 5 (.fork (.ln 5 (.fork (.ln 5 (.fork (.ln 5 (.fork (.ln 18 (.lit .all)) (.ln 18 (.lit .all)))) (.ln 24 (.lit .all)))) (.ln 30 (.lit .all)))) (.ln 36 (.lit .all)))) (.ln 42 (.lit .all)))) (.ln 48 (.lit .all)))) (.ln 54 (.lit .all)))) (.ln 60 (.lit .all)))) (.ln 66 (.lit .all)))) (.ln 72 (.lit .all)))))) (.ln 29 (.fork (.ln 5 (.fork (.ln 5 (.fork (.ln 5 (.fork (.ln 5 (.fork (.ln 5 (.fork (.ln 5 (.fork (.ln 5 (.fork (.ln 5 (.fork (.ln 5 (.fork (.ln 18 (.lit .all)) (.ln 18 (.lit .all)))) (.ln 24 (.lit .all)))) (.ln 30 (.lit .all)))) (.ln 36 (.lit .all)))) (.ln 42 (.lit .all)))) (.ln 48 (.lit .all)))) (.ln 54 (.lit .all)))) (.ln 60 (.lit .all)))) (.ln 66 (.lit .all)))) (.ln 72 (.lit .all)))))) (.ln 35 (.fork (.ln 5 (.fork (.ln 5 (.fork (.ln 5 (.fork (.ln 5 (.fork (.ln 5 (.fork (.ln 5 (.fork (.ln 5 (.fork (.ln 5 (.fork (.ln 5 (.fork (.ln 18 (.lit .all)) (.ln 18 (.lit .all)))) (.ln 24 (.lit .all)))) (.ln 30 (.lit .all)))) (.ln 36 (.lit .all)))) (.ln 42 (.lit .all)))) (.ln 48 (.lit .all)))) (.ln 54 (.lit .all)))) (.ln 60 (.lit .all)))) (.ln 66 (.lit .all)))) (.ln 72 (.lit .all)))))) (.ln 41 (.fork (.ln 5 (.fork (.ln 5 (.fork (.ln 5 (.fork (.ln 5 (.fork (.ln 5 (.fork (.ln 5 (.fork (.ln 5 (.fork (.ln 5 (.fork (.ln 5 (.fork (.ln 18 (.lit .all)) (.ln 18 (.lit .all)))) (.ln 24 (.lit .all)))) (.ln 30 (.lit .all)))) (.ln 36 (.lit .all)))) (.ln 42 (.lit .all)))) (.ln 48 (.lit .all)))) (.ln 54 (.lit .all)))) (.ln 60 (.lit .all)))) (.ln 66 (.lit .all)))) (.ln 72 (.lit .all)))))) (.ln 47 (.fork (.ln 5 (.fork (.ln 5 (.fork (.ln 5 (.fork (.ln 5 (.fork (.ln 5 (.fork (.ln 5 (.fork (.ln 5 (.fork (.ln 5 (.fork (.ln 5 (.fork (.ln 18 (.lit .all)) (.ln 18 (.lit .all)))) (.ln 24 (.lit .all)))) (.ln 30 (.lit .all)))) (.ln 36 (.lit .all)))) (.ln 42 (.lit .all)))) (.ln 48 (.lit .all)))) (.ln 54 (.lit .all)))) (.ln 60 (.lit .all)))) (.ln 66 (.lit .all)))) (.ln 72 (.lit .all)))))) (.ln 53 (.fork (.ln 5 (.fork (.ln 5 (.fork (.ln 5 (.fork (.ln 5 (.fork (.ln 5 (.fork (.ln 5 (.fork (.ln 5 (.fork (.ln 5 (.fork (.ln 5 (.fork (.ln 18 (.lit .all)) (.ln 18 (.lit .all)))) (.ln 24 (.lit .all)))) (.ln 30 (.lit .all)))) (.ln 36 (.lit .all)))) (.ln 42 (.lit .all)))) (.ln 48 (.lit .all)))) (.ln 54 (.lit .all)))) (.ln 60 (.lit .all)))) (.ln 66 (.lit .all)))) (.ln 72 (.lit .all)))))
  (t:=let y1:=f.g0.low==f.g0.low&& (f.g0.high==f.g0.high&& (f.g0.watch==f.g0.watch&& (f.g0.rise==f.g0.rise&& (f.g0.band==f.g0.band&& (f.g0.base==f.g0.base&& (f.g0.count==f.g0.count&& (f.g0.idle==f.g0.idle&& (f.g0.quiet==f.g0.quiet&& (f.g0.fault==f.g0.fault&& (f.g0.door==f.g0.door&&true))))))))))&& (f.g1.low==f.g1.low&& (f.g1.high==f.g1.high&& (f.g1.watch==f.g1.watch&& (f.g1.rise==f.g1.rise&& (f.g1.band==f.g1.band&& (f.g1.base==f.g1.base&& (f.g1.count==f.g1.count&& (f.g1.idle==f.g1.idle&& (f.g1.quiet==f.g1.quiet&& (f.g1.fault==f.g1.fault&& (f.g1.door==f.g1.door&&true))))))))))&&true);let y3:=f.c0.target==f.c0.target&& (f.c0.kp==f.c0.kp&& (f.c0.ki==f.c0.ki&& (f.c0.scale==f.c0.scale&& (f.c0.sum==f.c0.sum&& (f.c0.limit==f.c0.limit&&true)))))&& (f.c1.target==f.c1.target&& (f.c1.kp==f.c1.kp&& (f.c1.ki==f.c1.ki&& (f.c1.scale==f.c1.scale&& (f.c1.sum==f.c1.sum&& (f.c1.limit==f.c1.limit&&true)))))&&true);let y4:Tree SV:=.leaf (.bool false);let y2:Tree SV:=.node (f.active==f.active) y4 y4;let y5:=f.ret.1==f.ret.1&& (f.ret.2.1==f.ret.2.1&& (f.ret.2.2.1==f.ret.2.2.1&& (f.ret.2.2.2==f.ret.2.2.2&&true)));let y0:Tree SV:=.node (f.back==f.back) (.node y5 (.node (f.dwell==f.dwell) (.node (f.waits==f.waits) (.node y3 (.node y1 (.node (f.fan==f.fan) (.node (f.line==f.line) (.node (f.ticks==f.ticks) (.node (f.cold==f.cold) y4 y4) y4) y4) y4) y4) y4) y4) y4) y4) y4;.node (f.ma.x.num==f.ma.x.num&& (f.ma.x.den==f.ma.x.den&& (f.ma.x.speed==f.ma.x.speed&& (f.ma.x.accel==f.ma.x.accel&& (f.ma.x.jerk==f.ma.x.jerk&& (f.ma.x.min==f.ma.x.min&& (f.ma.x.max==f.ma.x.max&&true))))))&& (f.ma.y.num==f.ma.y.num&& (f.ma.y.den==f.ma.y.den&& (f.ma.y.speed==f.ma.y.speed&& (f.ma.y.accel==f.ma.y.accel&& (f.ma.y.jerk==f.ma.y.jerk&& (f.ma.y.min==f.ma.y.min&& (f.ma.y.max==f.ma.y.max&&true))))))&& (f.ma.z.num==f.ma.z.num&& (f.ma.z.den==f.ma.z.den&& (f.ma.z.speed==f.ma.z.speed&& (f.ma.z.accel==f.ma.z.accel&& (f.ma.z.jerk==f.ma.z.jerk&& (f.ma.z.min==f.ma.z.min&& (f.ma.z.max==f.ma.z.max&&true))))))&& (f.ma.e.num==f.ma.e.num&& (f.ma.e.den==f.ma.e.den&& (f.ma.e.speed==f.ma.e.speed&& (f.ma.e.accel==f.ma.e.accel&& (f.ma.e.jerk==f.ma.e.jerk&& (f.ma.e.min==f.ma.e.min&& (f.ma.e.max==f.ma.e.max&&true))))))&&true)))&& (f.ma.xy==f.ma.xy&& (f.ma.ticks==f.ma.ticks&&true))) (.node (f.mode==f.mode) (.node (f.homed==f.homed) (.node (f.pos.1==f.pos.1&& (f.pos.2.1==f.pos.2.1&& (f.pos.2.2.1==f.pos.2.2.1&& (f.pos.2.2.2==f.pos.2.2.2&&true)))) (.node (f.loc.1==f.loc.1&& (f.loc.2.1==f.loc.2.1&& (f.loc.2.2==f.loc.2.2&&true))) (.node (f.e==f.e) (.node (f.feed==f.feed) (.node (f.mo.1.1.1==f.mo.1.1.1&& (f.mo.1.1.2.1==f.mo.1.1.2.1&& (f.mo.1.1.2.2.1==f.mo.1.1.2.2.1&& (f.mo.1.1.2.2.2==f.mo.1.1.2.2.2&&true)))&& (f.mo.1.2.1==f.mo.1.2.1&& (f.mo.1.2.2.1==f.mo.1.2.2.1&& (f.mo.1.2.2.2.1==f.mo.1.2.2.2.1&& (f.mo.1.2.2.2.2==f.mo.1.2.2.2.2&&true))))&& (f.mo.2.1==f.mo.2.1&& (f.mo.2.2==f.mo.2.2&&true))) (.node (f.moving==f.moving) (.node (f.back==f.back) (.node y5 (.node (f.dwell==f.dwell) (.node (f.waits==f.waits) (.node y3 (.node y1 (.node (f.fan==f.fan) (.node (f.line==f.line) (.node (f.ticks==f.ticks) (.node (f.cold==f.cold) (.node (f.active==f.active) (.node (f.r0==f.r0&& (f.r1==f.r1&&true)) (.req (eqLB f.queue f.queue) (.req (shB f.queue) (.req (eqLI f.lines f.lines) (.req (shI f.lines) (.leaf (.bool true)))))) y4) y4) y2) y2) y2) y2) y2) y2) y2) y2) y2) y2) y0) y0) y0) y0) y0) y0) y0) y0) y0)
  (by kernel_rfl) (by repeat' first|refine n_true (by simp) ?_|refine n_req (by simp[eqLI,eqLB]) ?_|refine n_req h ?_|refine n_req k ?_|exact rfl) (by kernel_rfl) (by kernel_rfl)
noncomputable def eqFw(x y:Fw):Bool:=@decide (x=y) (Classical.propDecidable _)
theorem eqFw_rfl(x:Fw):eqFw x x=true:=@decide_eq_true _ (Classical.propDecidable _) rfl
theorem eqFw_eq{x y:Fw}(h:eqFw x y=true):x=y:=@of_decide_eq_true _ (Classical.propDecidable _) h
def shF(x:Fw):Bool:=shB x.queue&&shI x.lines
noncomputable def fSame:Fact:=factFw 23 fun x rest=>match rest with
 |[.agg l] =>match asFw l with
  |some y=>some (.req (eqFw x y) (.req (shF x) (.leaf (.bool true))))
  |none=>none
 |_=>none
def fWorks:Fact:=⟨18,fun args=>match args with
 |[] =>some (.leaf (.bool true))
 |_=>none⟩
theorem scall_nil2{P:Program}{f:FuncId}{cs ds:List SV}{a:SV}{v:SV}(hn:NilLs cs ds)(h:SCall P f [a,.agg ds] v):SCall P f [a,.agg cs] v:=by
 intro m w0 R0 ρ w vs hm hvs
 obtain⟨u,us,rfl,h0,u2,us2,rfl,⟨ws,h1,h2⟩,h3⟩:=hvs
 exact h m w0 R0 ρ w _ hm ⟨u,_,rfl,h0,u2,us2,rfl,⟨ws,h1,hn.rep h2⟩,h3⟩
theorem o_same:fSame.ok Tryz.prog:=factFw_ok fun x rest t ht=>by
 split at ht
 ·split at ht
  ·rename_i hy
   injection ht with ht;subst ht
   intro h k
   obtain rfl:=eqFw_eq h
   have k:=(Bool.and_eq_true _ _).mp k
   exact scall_nil2 (asFw_nil hy) (s_same _ k.1 k.2)
  ·cases ht
 ·cases ht
theorem o_works:fWorks.ok Tryz.prog:=fun args t ht=>by
 simp only[fWorks]at ht
 split at ht
 ·injection ht with ht;subst ht;exact s_works
 ·cases ht
end Go.Proofs.YtnkaepnblikcdaaGreat
namespace Go.Sx
open Go.RowKit
section
variable {α:Type} {Φ:α→Prop}
end
section
variable {nz:Bool} {boxes:List (Option Box)} {fz:List Nat}
end
end Go.Sx
namespace Go.Proofs.YtnkaepnblikcdaaGreat
open Go.Sx
section
variable {f g:Fw} {line:Int} {c:Gc.C}
end
section
variable {f g:Fw} {line:Int} {r:V4}
end
section
variable {f:Fw} {line:Int} {c:Gc.C}
end
section
variable {f:Fw} {line:Int} {c:Gc.C}
end
section
variable {f g:Fw} {line:Int} {c:Gc.C}
end
theorem shF_valid{x:Fw}(h:validF x=true):shF x=true:=by
 have v:=vf_of h
 have l:=v.len
 have k:=v.lens
 unfold shF shB shI
 rw[Bool.and_eq_true,decide_eq_true_eq,decide_eq_true_eq];omega
theorem s_beginR(f:Fw):SCall Tryz.prog 30 [f.sv] (begS f):=
 scall_vE (hB (l:=[fValidR,fStartR]) (k:=[]) (j:=[]) (i:=[]) ([] :List Nat) ([] :List Nat) ([] :List Nat) ([] :List Nat) (⟨o_validR,o_startR,trivial⟩) noneOk noneOk noneOk) 1000 (.fork (.ln 15 (.lit .all)) (.lit (.lit (.fork (.ln 12 (.lit .all)) (.ln 4 (.fork (.ln 7 (.lit .all)) (.ln 3 (.fork (.ln 3 (.lit .all)) (.ln 3 (.fork .all (.fork .all .all)))))))))))
  (t:=.node (!validF f) (.leaf (.tuple [.agg (Fw.cells f),.bool false])) (.node (f.moving) (.leaf (.tuple [.agg (Fw.cells f),.bool false])) (.node ((↑f.queue.length:Int)==0) (.leaf (.tuple [.agg (Fw.cells f),.bool false])) (.node (f.mode==3) (.leaf (.tuple [.agg (Fw.cells f),.bool false])) (.node (f.dwell != 0) (.leaf (.tuple [.agg (Fw.cells f),.bool false])) (.req (decide (0< (↑f.queue.length:Int))) (.node (okS (f.queue.getD 0 dBk) f.ma.ticks) (.req (decide (0< (↑f.lines.length:Int))) (.req (decide (1≤(↑f.queue.length:Int))) (.req (decide (1≤(↑f.lines.length:Int))) (.leaf (.tuple [.agg (Fw.cells {f with queue:=(List.drop 1 f.queue),lines:=(List.drop 1 f.lines),mo:=(startM (f.queue.getD 0 dBk) f.ma.ticks),moving:=true,active:=(f.lines.getD 0 0)}),.bool true]))))) (.req (decide (0< (↑f.lines.length:Int))) (.req (decide (1≤(↑f.queue.length:Int))) (.req (decide (1≤(↑f.lines.length:Int))) (.leaf (.tuple [.agg (Fw.cells {f with queue:=(List.drop 1 f.queue),lines:=(List.drop 1 f.lines),mo:=(((0,0,0,0),0,0,0,0),0,0),moving:=true,active:=(f.lines.getD 0 0)}),.bool true]))))))))))))
  (by kernel_rfl) (by
   cases v:validF f with
   |false=>
    refine n_not (fun _=>begS_1 v) fun k=>(by cases k)
   |true=>
    have vf:=vf_of v
    have ci:=canStart_iff (f:=f)
    refine n_not (fun k=>(by cases k)) fun _=>?_
    cases hc:canStart f
    ·have hn:¬(f.moving=false∧¬f.queue.length=0∧¬f.mode=3∧f.dwell=0):=fun a=>by rw[ci.2 a]at hc;cases hc
     simp only[Tree.holds,sL,ne_eq,beq_iff_eq,bne_iff_ne,eq_self,beq_eq_false_iff_ne,bne_eq_false_iff_eq,implies_true];(repeat' (first|apply And.intro|intro _));
     all_goals first
      |(exfalso;first|omega|grind)
      |exact begS_2 v hc
    ·have hy:=ci.1 hc
     have sm:=start_mo v hc
     have e:SV.tuple [.agg (startF f).cells,.bool true] =begS f:=by rw[←begS_3 v hc,begF_yes hc]
     have sm1:=sm.1
     unfold startF at e
     rw[startMo_yes sm.1]at e
     have lq:=vf.lens
     simp only[Tree.holds,sL,ne_eq,beq_iff_eq,bne_iff_ne,eq_self,beq_eq_false_iff_ne,bne_eq_false_iff_eq,implies_true];(repeat' (first|apply And.intro|intro _));
     all_goals first
      |(exfalso;first|omega|grind)
      |omega
      |exact e) (by kernel_rfl) (by rfl)
def fBegXR:Fact:=factF1 30 fun f=>.leaf (begS f)
theorem o_begXR:fBegXR.ok Tryz.prog:=factF1_ok (fun f=>s_beginR f)
def heatS(f:Fw):SV:=.tuple [(heatF f).sv,.agg [I64 (duty0 f),I64 (duty1 f)],.bool (lostB f)]
theorem heatS_at{f:Fw}{b:Bool}(h:lostB f=b):SV.tuple [.agg (heatF f).cells,.agg [.int .i64 (duty0 f),.int .i64 (duty1 f)],.bool b] =heatS f:=by unfold heatS;rw[h];rfl
theorem lost_y0{f:Fw}(a:f.g0.fault=0)(b:¬(f.g0.step f.r0 (f.c0.step f.r0).target (f.c0.duty f.r0)).fault=0):lostB f=true:=lostB_iff.2 (.inl ⟨a,b⟩)
theorem lost_y1{f:Fw}(a:f.g1.fault=0)(b:¬(f.g1.step f.r1 (f.c1.step f.r1).target (f.c1.duty f.r1)).fault=0):lostB f=true:=lostB_iff.2 (.inr ⟨a,b⟩)
theorem lost_l{f:Fw}(a:¬f.g0.fault=0∨(f.g0.step f.r0 (f.c0.step f.r0).target (f.c0.duty f.r0)).fault=0)(b:f.g1.fault=0):lostB f=((f.g1.step f.r1 (f.c1.step f.r1).target (f.c1.duty f.r1)).fault != 0):=by
 rw[Bool.eq_iff_iff,lostB_iff,bne_iff_ne];omega
theorem lost_n{f:Fw}(a:¬f.g0.fault=0∨(f.g0.step f.r0 (f.c0.step f.r0).target (f.c0.duty f.r0)).fault=0)(b:¬f.g1.fault=0∨(f.g1.step f.r1 (f.c1.step f.r1).target (f.c1.duty f.r1)).fault=0):lostB f=false:=by
 rw[Bool.eq_false_iff,ne_eq,lostB_iff];omega
theorem s_heatR(f:Fw):SCall Tryz.prog 80 [f.sv] (heatS f):=
 scall_vE (hB (l:=[fCoSR,fGstR]) (k:=[]) (j:=[]) (i:=[]) ([] :List Nat) ([] :List Nat) ([] :List Nat) ([] :List Nat) (⟨o_coSR,o_gstR,trivial⟩) noneOk noneOk noneOk) 1000 (.go (.ln 8 (.fork (.ln 5 (.go (.lit (.fork (.ln 8 (.go (.lit .all))) (.ln 6 (.fork (.ln 5 (.go (.lit .all))) (.ln 5 (.go (.lit .all))))))))) (.ln 5 (.go (.ln 8 (.fork (.ln 5 (.go (.lit .all))) (.ln 5 (.go (.lit .all))))))))))
  (t:=let y2:=f.g0.duty f.r0 (f.c0.step f.r0).target (f.c0.duty f.r0);let y3:=f.g1.duty f.r1 (f.c1.step f.r1).target (f.c1.duty f.r1);let y4:=f.g0.step f.r0 (f.c0.step f.r0).target (f.c0.duty f.r0);let y5:=f.g1.step f.r1 (f.c1.step f.r1).target (f.c1.duty f.r1);let y1:=Fw.cells {f with c0:=(f.c0.step f.r0),c1:=(f.c1.step f.r1),g0:=y4,g1:=y5};let y0:Tree SV:=.node (f.g1.fault==0) (.req true (.req (true) (.req true (.leaf (.tuple [.agg y1,.agg [.int .i64 y2,.int .i64 y3],.bool (y5.fault != 0)]))))) (.req true (.req (true) (.req true (.leaf (.tuple [.agg y1,.agg [.int .i64 y2,.int .i64 y3],.bool false])))));.req (true) (.req true (.req (true) (.req true (.req (true) (.node (f.g0.fault==0) (.req true (.req (true) (.req true (.req (true) (.req true (.req (true) (.req true (.node (y4.fault != 0) (.req true (.req (true) (.req true (.leaf (.tuple [.agg y1,.agg [.int .i64 y2,.int .i64 y3],.bool true]))))) (.req true y0))))))))) (.req true (.req (true) (.req true (.req (true) (.req true (.req (true) (.req true (.req (true) y0))))))))))))))
  (by kernel_rfl) (by
   repeat' first
    |refine n_req rfl ?_
    |refine n_eq (fun _=>?_) (fun _=>?_)
    |refine n_ne (fun _=>?_) (fun _=>?_)
    |refine n_bool (fun _=>?_) (fun _=>?_)
   all_goals first
    |exact heatS_at (lost_y0 (by assumption) (by assumption))
    |exact heatS_at (lost_y1 (by assumption) (by assumption))
    |exact heatS_at (lost_l (by first|exact .inl (by assumption)|exact .inr (by assumption)) (by assumption))
    |exact heatS_at (lost_n (by first|exact .inl (by assumption)|exact .inr (by assumption)) (by first|exact .inl (by assumption)|exact .inr (by assumption)))) (by kernel_rfl) (by rfl)
def fHeatR:Fact:=factF1 80 fun f=>.leaf (heatS f)
theorem o_heatR:fHeatR.ok Tryz.prog:=factF1_ok (fun f=>s_heatR f)
def warmPre(f:Fw):Bool:=(f.c0.ok&&f.g0.ok)&& (f.c1.ok&&f.g1.ok)
theorem warmPre_iff{f:Fw}:warmPre f=true↔(f.c0.ok=true∧f.g0.ok=true)∧f.c1.ok=true∧f.g1.ok=true:=by simp only[warmPre,Bool.and_eq_true]
theorem warm_w{c:Co}{g:Gu}(hc:c.ok=true)(hg:g.ok=true):i64.wrap (c.target-g.band)=c.target-g.band:=by
 have a:=(Co.ok_iff _).1 hc
 have b:=(Gu.ok_iff _).1 hg
 exact w64 (by omega) (by omega)
theorem sv_fw{f g:Fw}(h:f=g):SV.agg f.cells=g.sv:=by subst h;rfl
theorem s_waitR(f:Fw)(h:warmPre f=true):SCall Tryz.prog 82 [f.sv] ((waitF f).sv):=
 scall_vE (hB (l:=[]) (k:=[]) (j:=[]) (i:=[]) ([] :List Nat) ([] :List Nat) ([] :List Nat) ([] :List Nat) (trivial) noneOk noneOk noneOk) 1000 (.go (.lit (.fork (.go (.lit (.fork (.go (.lit (.all))) (.go (.lit (.all)))))) (.go (.lit (.fork (.go (.lit (.all))) (.go (.lit (.all)))))))))
  (t:=.req (true) (.req true (.req (true) (.node (decide (f.r0≥i64.wrap (f.c0.target-f.g0.band))) (.req true (.req (true) (.req true (.node (decide (f.r1≥i64.wrap (f.c1.target-f.g1.band))) (.leaf (.agg (Fw.cells {f with waits:=(i64.wrap (↑(BitVec.ofInt 64 (i64.wrap (↑(BitVec.ofInt 64 f.waits &&& ~~~BitVec.ofInt 64 1).toNat:Int)) &&& ~~~BitVec.ofInt 64 2).toNat:Int))}))) (.leaf (.agg (Fw.cells {f with waits:=(i64.wrap (↑(BitVec.ofInt 64 f.waits &&& ~~~BitVec.ofInt 64 1).toNat:Int))}))))))) (.req true (.req (true) (.req true (.node (decide (f.r1≥i64.wrap (f.c1.target-f.g1.band))) (.leaf (.agg (Fw.cells {f with waits:=(i64.wrap (↑(BitVec.ofInt 64 f.waits &&& ~~~BitVec.ofInt 64 2).toNat:Int))}))) (.leaf (.agg (Fw.cells f)))))))))))
  (by kernel_rfl) (by
   obtain⟨⟨k1,k2⟩,k3,k4⟩:=warmPre_iff.1 h
   rw[warm_w k1 k2,warm_w k3 k4]
   repeat' (first|refine n_req rfl ?_|refine n_dec (fun _=>?_) (fun _=>?_))
   all_goals first
    |exact sv_fw (waitF_tt (by assumption) (by assumption)).symm
    |exact sv_fw (waitF_tf (by assumption) (by assumption)).symm
    |exact sv_fw (waitF_ft (by assumption) (by assumption)).symm
    |exact sv_fw (waitF_ff (by assumption) (by assumption)).symm) (by kernel_rfl) (by rfl)
def fWaitR:Fact:=factF1 82 fun f=>.req (warmPre f) (.leaf (waitF f).sv)
theorem o_waitR:fWaitR.ok Tryz.prog:=factF1_ok (fun f h=>s_waitR f h)
def runS(f:Fw):SV:=.tuple [(runF f).sv,V4.sv (runP f)]
theorem runS_at{f g:Fw}{p:V4}(a:runF f=g)(b:runP f=p):SV.tuple [.agg g.cells,.agg p.cells] =runS f:=by unfold runS;rw[a,b];rfl
theorem s_runR(f:Fw)(h:validF f=true):SCall Tryz.prog 83 [f.sv] (runS f):=
 scall_vE (hB (l:=[fBegXR,fTickR,fPlsR,fEndedR]) (k:=[]) (j:=[]) (i:=[]) ([] :List Nat) ([] :List Nat) ([] :List Nat) ([] :List Nat) (⟨o_begXR,o_tickR,o_plsR,o_endedR,trivial⟩) noneOk noneOk noneOk) 1000 (.fork (.all) (.fork (.all) (.fork (.all) (.all))))
  (t:=.node (decide (f.dwell>0)) (.leaf (.tuple [.agg (Fw.cells {f with dwell:=(i64.wrap (f.dwell-1))}),.agg [.int .i64 0,.int .i64 0,.int .i64 0,.int .i64 0]])) (.node (!(begX f).moving) (.leaf (.tuple [.agg (Fw.cells (begX f)),.agg [.int .i64 0,.int .i64 0,.int .i64 0,.int .i64 0]])) (.node (endedM (tickM (begX f).mo (begX f).ma.ticks)) (.leaf (.tuple [.agg (Fw.cells { (begX f)with pos:=(wadd4 (begX f).pos (tickP (begX f).mo (begX f).ma.ticks)),mo:=(((0,0,0,0),0,0,0,0),0,0),moving:=false,active:=0}),.agg [.int .i64 (tickP (begX f).mo (begX f).ma.ticks).1,.int .i64 (tickP (begX f).mo (begX f).ma.ticks).2.1,.int .i64 (tickP (begX f).mo (begX f).ma.ticks).2.2.1,.int .i64 (tickP (begX f).mo (begX f).ma.ticks).2.2.2]])) (.leaf (.tuple [.agg (Fw.cells { (begX f)with pos:=(wadd4 (begX f).pos (tickP (begX f).mo (begX f).ma.ticks)),mo:=(tickM (begX f).mo (begX f).ma.ticks)}),.agg [.int .i64 (tickP (begX f).mo (begX f).ma.ticks).1,.int .i64 (tickP (begX f).mo (begX f).ma.ticks).2.1,.int .i64 (tickP (begX f).mo (begX f).ma.ticks).2.2.1,.int .i64 (tickP (begX f).mo (begX f).ma.ticks).2.2.2]])))))
  (by kernel_rfl) (by
   have v:=vf_of h
   have n:=v.nums
   have vb:=vf_of (beg_valid h)
   have wa:wadd4 (begF f).pos (tickP (begF f).mo (begF f).ma.ticks)=add4 (begF f).pos (tickP (begF f).mo (begF f).ma.ticks):=wadd4_eq (near_big vb.pos) (tickP_big _ _)
   rw[begX_yes h,wa]
   refine n_dec (fun d=>?_) fun d=>n_not (fun m=>?_) fun m=>n_bool (fun e=>?_) fun e=>?_
   ·rw[show i64.wrap (f.dwell-1)=f.dwell-1 from w64 (by omega) (by omega)]
    exact runS_at (if_pos d) (if_pos d)
   ·exact runS_at (by unfold runF;rw[if_neg d,m,if_neg Bool.false_ne_true]) (by unfold runP;rw[if_neg d,m,if_neg Bool.false_ne_true])
   ·exact runS_at (by unfold runF;rw[if_neg d,if_pos m];exact step_yes e) (by unfold runP;rw[if_neg d,if_pos m])
   ·exact runS_at (by unfold runF;rw[if_neg d,if_pos m];exact step_no e) (by unfold runP;rw[if_neg d,if_pos m])) (by kernel_rfl) (by rfl)
def fRunR:Fact:=factF1 83 fun f=>.req (validF f) (.leaf (runS f))
theorem o_runR:fRunR.ok Tryz.prog:=factF1_ok (fun f h=>s_runR f h)
section
variable {f g:Fw} {r s:Int}
theorem warm_of{x:Fw}(v:validF x=true):warmPre x=true:=by
 have u:=vf_of v
 exact warmPre_iff.2 ⟨⟨u.c0,u.g0⟩,u.c1,u.g1⟩
theorem tkR_1(v:validF f=true)(h:g=readF f r s)(l:lostB g=true):SV.tuple [.agg (waitF {loseF (heatF g)with mode:=3}).cells,V4.sv z4,.agg [I64 0,I64 0]] =tickX f r s:=by
 subst h
 have e:hotF f r s=waitF {loseF (heatF (readF f r s))with mode:=3}:=by unfold hotF lostF;rw[if_pos l]
 have m:(hotF f r s).mode=3:=by rw[e];rfl
 unfold tickX;rw[tickF_on v,tickQ_on v,tickD_on v,if_pos m,if_pos m,if_pos m,e];rfl
theorem tkR_2(v:validF f=true)(h:g=readF f r s)(l:lostB g=false)(m:(waitF (heatF g)).mode=3):SV.tuple [.agg (waitF (heatF g)).cells,V4.sv z4,.agg [I64 0,I64 0]] =tickX f r s:=by
 subst h
 have e:hotF f r s=waitF (heatF (readF f r s)):=by unfold hotF lostF;rw[l,if_neg Bool.false_ne_true]
 have m:(hotF f r s).mode=3:=by rw[e];exact m
 unfold tickX;rw[tickF_on v,tickQ_on v,tickD_on v,if_pos m,if_pos m,if_pos m,e];rfl
theorem tkR_3(v:validF f=true)(h:g=readF f r s)(l:lostB g=false)(m:¬(waitF (heatF g)).mode=3):SV.tuple [.agg (runF (waitF (heatF g))).cells,V4.sv (runP (waitF (heatF g))),.agg [I64 (duty0 g),I64 (duty1 g)]] =tickX f r s:=by
 subst h
 have e:hotF f r s=waitF (heatF (readF f r s)):=by unfold hotF lostF;rw[l,if_neg Bool.false_ne_true]
 have m:¬(hotF f r s).mode=3:=by rw[e];exact m
 unfold tickX;rw[tickF_on v,tickQ_on v,tickD_on v,if_neg m,if_neg m,if_neg m,e];rfl
theorem tkR_ticks(v:validF f=true):(if i64.wrap (f.ticks+1)<1099511627776 then i64.wrap (f.ticks+1)else 1099511627776)=(if f.ticks+1<1099511627776 then f.ticks+1 else 1099511627776):=by
 have n:=(vf_of v).nums
 rw[w64 (x:=f.ticks+1) (by omega) (by omega)]
end
theorem s_tickRR(f:Fw)(r s:Int):SCall Tryz.prog 28 [f.sv,.agg [I64 r,I64 s]] (tickX f r s):=
 scall_vE (hB (l:=[fValidR,fHeatR,fLoseR,fWaitR,fRunR]) (k:=[]) (j:=[]) (i:=[]) ([] :List Nat) ([] :List Nat) ([] :List Nat) ([] :List Nat) (⟨o_validR,o_heatR,o_loseR,o_waitR,o_runR,trivial⟩) noneOk noneOk noneOk) 1000 (.fork (.all) (.fork (.lit (.all)) (.fork (.all) (.all))))
  (t:=let y0:={f with ticks:=(if i64.wrap (f.ticks+1)<1099511627776 then i64.wrap (f.ticks+1)else 1099511627776),r0:=r,r1:=s};let y1:=waitF (heatF y0);.node (!validF f) (.leaf (.tuple [.agg (Fw.cells f),.agg [.int .i64 0,.int .i64 0,.int .i64 0,.int .i64 0],.agg [.int .i64 0,.int .i64 0]])) (.node (lostB y0) (.req (shapeB (heatF y0)) (.req (warmPre ({ (loseF (heatF y0))with mode:=3})) (.leaf (.tuple [.agg (Fw.cells (waitF ({ (loseF (heatF y0))with mode:=3}))),.agg [.int .i64 0,.int .i64 0,.int .i64 0,.int .i64 0],.agg [.int .i64 0,.int .i64 0]])))) (.req (warmPre (heatF y0)) (.node (y1.mode==3) (.leaf (.tuple [.agg (Fw.cells y1),.agg [.int .i64 0,.int .i64 0,.int .i64 0,.int .i64 0],.agg [.int .i64 0,.int .i64 0]])) (.req (validF y1) (.leaf (.tuple [.agg (Fw.cells (runF y1)),.agg [.int .i64 (runP y1).1,.int .i64 (runP y1).2.1,.int .i64 (runP y1).2.2.1,.int .i64 (runP y1).2.2.2],.agg [.int .i64 (duty0 y0),.int .i64 (duty1 y0)]])))))))
  (by kernel_rfl) (by
   refine n_not (fun v=>tk_no v) fun v=>?_
   have h:({f with ticks:=(if i64.wrap (f.ticks+1)<1099511627776 then i64.wrap (f.ticks+1)else 1099511627776),r0:=r,r1:=s}:Fw)=readF f r s:=by unfold readF;rw[tkR_ticks v]
   have hv:=heat_valid (read_valid (r:=r) (s:=s) v)
   have hh:=hot_valid (r:=r) (s:=s) v
   refine n_bool (fun l=>?_) fun l=>?_
   ·refine n_req (by rw[h];exact(vf_of hv).shape) (n_req (by rw[h];exact warm_of (lose_valid hv)) (tkR_1 v h l))
   ·refine n_req (by rw[h];exact warm_of hv) (n_eq (fun m=>tkR_2 v h l m) fun m=>n_req ?_ (tkR_3 v h l m))
    rw[h]at l ⊢
    have e:hotF f r s=waitF (heatF (readF f r s)):=by unfold hotF lostF;rw[l,if_neg Bool.false_ne_true]
    rw[←e];exact hh) (by kernel_rfl) (by rfl)
def fTickXR:Fact:=factFw 28 fun f rest=>match rest with
 |[.agg [.int .i64 r,.int .i64 s]] =>some (.leaf (tickX f r s))
 |_=>none
theorem o_tickXR:fTickXR.ok Tryz.prog:=factFw_ok fun f rest t ht=>by
 split at ht
 ·injection ht with ht;subst ht;exact s_tickRR f _ _
 ·cases ht
theorem s_lawTicks(f:Fw)(r s:Int):SCall Tryz.prog 8 [f.sv,.agg [I64 r,I64 s]] (.bool true):=
 scall_vE (hB (l:=[fTickX,fTickXR,fSame,fBegX,fBegXR,fValid,fValidR,fIdleX,fIdleXR,fGoalX,fGoalXR,fWorks]) (k:=[]) (j:=[]) (i:=[]) ([] :List Nat) ([] :List Nat) ([] :List Nat) ([] :List Nat) (⟨o_tickX,o_tickXR,o_same,o_begX,o_begXR,o_valid,o_validR,o_idleX,o_idleXR,o_goalX,o_goalXR,o_works,trivial⟩) noneOk noneOk noneOk) 1000 (.fork (.ln 4 (.lit .all)) (.ln 4 (.fork .all (.ln 4 (.fork (.ln 3 (.fork (.ln 7 (.fork (.ln 5 (.fork (.ln 5 (.fork (.ln 5 (.fork (.lit .all) (.lit .all))) (.ln 6 (.lit .all)))) (.ln 12 (.lit .all)))) (.ln 18 (.lit .all)))) (.ln 26 (.lit .all)))) (.ln 30 (.lit .all)))))))
  (t:=.node (decide ((↑f.queue.length:Int)>40)) (.leaf (.bool true)) (.node (decide ((↑f.lines.length:Int)>40)) (.leaf (.bool true)) (.req (eqFw (tickF f r s) (tickF f r s)) (.req (shF (tickF f r s)) (.node ((tickQ f r s).1==(tickQ f r s).1&& ((tickQ f r s).2.1==(tickQ f r s).2.1&& ((tickQ f r s).2.2.1==(tickQ f r s).2.2.1&& ((tickQ f r s).2.2.2==(tickQ f r s).2.2.2&&true)))) (.node ((tickD f r s).1==(tickD f r s).1&& ((tickD f r s).2==(tickD f r s).2&&true)) (.req (eqFw (begX f) (begX f)) (.req (shF (begX f)) (.node (begB f==begB f) (.node (validF f==validF f) (.node (IdleB f==IdleB f) (.node ((goalV f).1==(goalV f).1&& ((goalV f).2.1==(goalV f).2.1&& ((goalV f).2.2.1==(goalV f).2.2.1&& ((goalV f).2.2.2==(goalV f).2.2.2&&true)))) (.leaf (.bool true)) (.leaf (.bool false))) (.leaf (.bool false))) (.leaf (.bool false))) (.leaf (.bool false))))) (.leaf (.bool false))) (.leaf (.bool false)))))))
  (by kernel_rfl) (by
   refine n_dec (fun _=>rfl) fun l1=>n_dec (fun _=>rfl) fun l2=>?_
   have sh:shF f=true:=by unfold shF shB shI;rw[Bool.and_eq_true,decide_eq_true_eq,decide_eq_true_eq];omega
   have st:shF (tickF f r s)=true:=by
    cases v:validF f with
    |true=>exact shF_valid (tick_valid v)
    |false=>rw[show tickF f r s=f by unfold tickF;rw[v];rfl];exact sh
   have sb:shF (begX f)=true:=by
    cases v:validF f with
    |true=>rw[begX_yes v];exact shF_valid (beg_valid v)
    |false=>rw[begX_no v];exact sh
   exact n_req (eqFw_rfl _) (n_req st (n_true (by simp) (n_true (by simp) (n_req (eqFw_rfl _) (n_req sb (n_true (by simp) (n_true (by simp) (n_true (by simp) (n_true (by simp) rfl)))))))))) (by kernel_rfl) (by kernel_rfl)
end Go.Proofs.YtnkaepnblikcdaaGreat
