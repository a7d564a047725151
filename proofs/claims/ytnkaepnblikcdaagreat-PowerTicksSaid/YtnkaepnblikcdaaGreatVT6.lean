/-
  What the statement needs: an evaluator of the model, contracts of the functions that it reaches, and the plain law.
-/
import Derived.Test.YtnkaepnblikcdaaGreatVT5
import Derived.Test.YtnkaepnblikcdaaGreatVT3
import Derived.Laws.IdiomCopy
import Derived.Tactics
import Derived.Shelf.RegionOpenPlain
import Derived.Lib.Walk
import Derived.Lib.ConvBytes
import Derived.Laws.IdiomStrings
import Derived.Laws.AppendOwn
import Derived.WalkKit
import Derived.Test.YtnkaepnblikcdaaGreatVT4
import Derived.Shelf.SlSortCmp.WholeK
import Derived.Shelf.SlicesG.Cmp
import Derived.Ground.SlsfProg
import Derived.Ground.SlgcProg
set_option maxRecDepth 100000
set_option linter.unusedVariables false
set_option linter.unusedSimpArgs false
open Go.IntKind (i64 u64)
namespace Go.Proofs.YtnkaepnblikcdaaGreat
open Go.Sx
theorem o_saI:fSaI.ok Tryz.prog:=fun args t ht=>by
 simp only[fSaI]at ht
 split at ht
 ·injection ht with ht;subst ht
  intro h h2
  obtain rfl:=eqLI_eq h
  exact s_saI _ (by have:=of_decide_eq_true h2;omega)
 ·cases ht
theorem o_saB:fSaB.ok Tryz.prog:=fun args t ht=>by
 simp only[fSaB]at ht
 split at ht
 ·injection ht with ht;subst ht
  intro h h2
  obtain rfl:=eqLB_eq h
  exact s_saB _ (by have:=of_decide_eq_true h2;omega)
 ·cases ht
theorem s_same(f:Fw)(h:shB f.queue=true)(k:shI f.lines=true):SCall Tryz.prog 23 [f.sv,f.sv] (.bool true):=
 scall_vE (hB (l:=[fSaI,fSaB]) (k:=[]) (j:=[]) (i:=[]) ([] :List Nat) ([] :List Nat) ([] :List Nat) ([] :List Nat) (⟨o_saI,o_saB,trivial⟩) noneOk noneOk noneOk) 1000 (.fork (.ln 5 (.fork (.ln 5 (.fork (.ln 5 (.fork (.ln 5 (.fork (.ln 5 (.fork (.ln 5 (.fork (.ln 5 (.fork (.ln 5 (.fork (.ln 5 (.fork (.ln 5 (.fork (.ln 5 (.fork (.ln 5 (.fork (.ln 5 (.fork (.ln 5 (.fork (.ln 5 (.fork (.ln 5 (.fork (.ln 5 (.fork (.ln 5 (.fork (.ln 5 (.fork (.lit (.fork (.ln 10 (.lit .all)) (.ln 10 (.lit .all)))) (.ln 12 (.lit .all)))) (.ln 5 (.fork (.ln 12 (.lit .all)) (.ln 12 (.lit .all)))))) (.ln 11 (.fork (.ln 12 (.lit .all)) (.ln 12 (.lit .all)))))) (.ln 17 (.fork (.ln 12 (.lit .all)) (.ln 12 (.lit .all)))))) (.ln 23 (.fork (.ln 12 (.lit .all)) (.ln 12 (.lit .all)))))) (.ln 29 (.fork (.ln 12 (.lit .all)) (.ln 12 (.lit .all)))))) (.ln 35 (.fork (.ln 12 (.lit .all)) (.ln 12 (.lit .all)))))) (.ln 41 (.fork (.ln 12 (.lit .all)) (.ln 12 (.lit .all)))))) (.ln 47 (.fork (.ln 12 (.lit .all)) (.ln 12 (.lit .all)))))) (.ln 53 (.fork (.ln 12 (.lit .all)) (.ln 12 (.lit .all)))))) (.ln 59 (.fork (.ln 12 (.lit .all)) (.ln 12 (.lit .all)))))) (.ln 5 (.fork (.ln 5 (.fork (.ln 5 (.fork (.ln 5 (.fork (.ln 5 (.fork (.ln 5 (.fork (.ln 5 (.fork (.ln 5 (.fork (.ln 5 (.fork (.ln 5 (.fork (.ln 18 (.lit .all)) (.ln 18 (.lit .all)))) (.ln 24 (.lit .all)))) (.ln 30 (.lit .all)))) (.ln 36 (.lit .all)))) (.ln 42 (.lit .all)))) (.ln 48 (.lit .all)))) (.ln 54 (.lit .all)))) (.ln 60 (.lit .all)))) (.ln 66 (.lit .all)))) (.ln 72 (.lit .all)))))) (.ln 11 (.fork (.ln 5 (.fork (.ln 5 (.fork (.ln 5 (.fork (.ln 5 (.fork (.ln 5 (.fork (.ln 5 (.fork (.ln 5 (.fork (.ln 5 (.fork (.ln 5 (.fork (.ln 18 (.lit .all)) (.ln 18 (.lit .all)))) (.ln 24 (.lit .all)))) (.ln 30 (.lit .all)))) (.ln 36 (.lit .all)))) (.ln 42 (.lit .all)))) (.ln 48 (.lit .all)))) (.ln 54 (.lit .all)))) (.ln 60 (.lit .all)))) (.ln 66 (.lit .all)))) (.ln 72 (.lit .all)))))) (.ln 17 (.fork (.ln 5 (.fork (.ln 5 (.fork (.ln 5 (.fork (.ln 5 (.fork (.ln 5 (.fork (.ln 5 (.fork (.ln 5 (.fork (.ln 5 (.fork (.ln 5 (.fork (.ln 18 (.lit .all)) (.ln 18 (.lit .all)))) (.ln 24 (.lit .all)))) (.ln 30 (.lit .all)))) (.ln 36 (.lit .all)))) (.ln 42 (.lit .all)))) (.ln 48 (.lit .all)))) (.ln 54 (.lit .all)))) (.ln 60 (.lit .all)))) (.ln 66 (.lit .all)))) (.ln 72 (.lit .all)))))) (.ln 23 (.fork (.ln 5 (.fork (.ln 5 (.fork (.ln 5 (.fork (.ln 5 (.fork (.ln 5 (.fork (.ln 5 (.fork (.ln 5 (.fork (.ln 5 (.fork (.ln 5 (.fork (.ln 18 (.lit .all)) (.ln 18 (.lit .all)))) (.ln 24 (.lit .all)))) (.ln 30 (.lit .all)))) (.ln 36 (.lit .all)))) (.ln 42 (.lit .all)))) (.ln 48 (.lit .all)))) (.ln 54 (.lit .all)))) (.ln 60 (.lit .all)))) (.ln 66 (.lit .all)))) (.ln 72 (.lit .all)))))) (.ln 29 (.fork (.ln 5 (.fork (.ln 5 (.fork (.ln 5 (.fork (.ln 5 (.fork (.ln 5 (.fork (.ln 5 (.fork (.ln 5 (.fork (.ln 5 (.fork (.ln 5 (.fork (.ln 18 (.lit .all)) (.ln 18 (.lit .all)))) (.ln 24 (.lit .all)))) (.ln 30 (.lit .all)))) (.ln 36 (.lit .all)))) (.ln 42 (.lit .all)))) (.ln 48 (.lit .all)))) (.ln 54 (.lit .all)))) (.ln 60 (.lit .all)))) (.ln 66 (.lit .all)))) (.ln 72 (.lit .all)))))) (.ln 35 (.fork (.ln 5 (.fork (.ln 5 (.fork (.ln 5 (.fork (.ln 5 (.fork (.ln 5 (.fork (.ln 5 (.fork (.ln 5 (.fork (.ln 5 (.fork (.ln 5 (.fork (.ln 18 (.lit .all)) (.ln 18 (.lit .all)))) (.ln 24 (.lit .all)))) (.ln 30 (.lit .all)))) (.ln 36 (.lit .all)))) (.ln 42 (.lit .all)))) (.ln 48 (.lit .all)))) (.ln 54 (.lit .all)))) (.ln 60 (.lit .all)))) (.ln 66 (.lit .all)))) (.ln 72 (.lit .all)))))) (.ln 41 (.fork (.ln 5 (.fork (.ln 5 (.fork (.ln 5 (.fork (.ln 5 (.fork (.ln 5 (.fork (.ln 5 (.fork (.ln 5 (.fork (.ln 5 (.fork (.ln 5 (.fork (.ln 18 (.lit .all)) (.ln 18 (.lit .all)))) (.ln 24 (.lit .all)))) (.ln 30 (.lit .all)))) (.ln 36 (.lit .all)))) (.ln 42 (.lit .all)))) (.ln 48 (.lit .all)))) (.ln 54 (.lit .all)))) (.ln 60 (.lit .all)))) (.ln 66 (.lit .all)))) (.ln 72 (.lit .all)))))) (.ln 47 (.fork (.ln 5 (.fork (.ln 5 (.fork (.ln 5 (.fork (.ln 5 (.fork (.ln 5 (.fork (.ln 5 (.fork (.ln 5 (.fork (.ln 5 (.fork (.ln 5 (.fork (.ln 18 (.lit .all)) (.ln 18 (.lit .all)))) (.ln 24 (.lit .all)))) (.ln 30 (.lit .all)))) (.ln 36 (.lit .all)))) (.ln 42 (.lit .all)))) (.ln 48 (.lit .all)))) (.ln 54 (.lit .all)))) (.ln 60 (.lit .all)))) (.ln 66 (.lit .all)))) (.ln 72 (.lit .all)))))) (.ln 53 (.fork (.ln 5 (.fork (.ln 5 (.fork (.ln 5 (.fork (.ln 5 (.fork (.ln 5 (.fork (.ln 5 (.fork (.ln 5 (.fork (.ln 5 (.fork (.ln 5 (.fork (.ln 18 (.lit .all)) (.ln 18 (.lit .all)))) (.ln 24 (.lit .all)))) (.ln 30 (.lit .all)))) (.ln 36 (.lit .all)))) (.ln 42 (.lit .all)))) (.ln 48 (.lit .all)))) (.ln 54 (.lit .all)))) (.ln 60 (.lit .all)))) (.ln 66 (.lit .all)))) (.ln 72 (.lit .all)))))
  (t:=let y1:=f.g0.low==f.g0.low&& (f.g0.high==f.g0.high&& (f.g0.watch==f.g0.watch&& (f.g0.rise==f.g0.rise&& (f.g0.band==f.g0.band&& (f.g0.base==f.g0.base&& (f.g0.count==f.g0.count&& (f.g0.idle==f.g0.idle&& (f.g0.quiet==f.g0.quiet&& (f.g0.fault==f.g0.fault&& (f.g0.door==f.g0.door&&true))))))))))&& (f.g1.low==f.g1.low&& (f.g1.high==f.g1.high&& (f.g1.watch==f.g1.watch&& (f.g1.rise==f.g1.rise&& (f.g1.band==f.g1.band&& (f.g1.base==f.g1.base&& (f.g1.count==f.g1.count&& (f.g1.idle==f.g1.idle&& (f.g1.quiet==f.g1.quiet&& (f.g1.fault==f.g1.fault&& (f.g1.door==f.g1.door&&true))))))))))&&true);let y3:=f.c0.target==f.c0.target&& (f.c0.kp==f.c0.kp&& (f.c0.ki==f.c0.ki&& (f.c0.scale==f.c0.scale&& (f.c0.sum==f.c0.sum&& (f.c0.limit==f.c0.limit&&true)))))&& (f.c1.target==f.c1.target&& (f.c1.kp==f.c1.kp&& (f.c1.ki==f.c1.ki&& (f.c1.scale==f.c1.scale&& (f.c1.sum==f.c1.sum&& (f.c1.limit==f.c1.limit&&true)))))&&true);let y4:Tree SV:=.leaf (.bool false);let y2:Tree SV:=.node (f.active==f.active) y4 y4;let y5:=f.ret.1==f.ret.1&& (f.ret.2.1==f.ret.2.1&& (f.ret.2.2.1==f.ret.2.2.1&& (f.ret.2.2.2==f.ret.2.2.2&&true)));let y0:Tree SV:=.node (f.back==f.back) (.node y5 (.node (f.dwell==f.dwell) (.node (f.waits==f.waits) (.node y3 (.node y1 (.node (f.fan==f.fan) (.node (f.line==f.line) (.node (f.ticks==f.ticks) (.node (f.cold==f.cold) y4 y4) y4) y4) y4) y4) y4) y4) y4) y4) y4;.node (f.ma.x.num==f.ma.x.num&& (f.ma.x.den==f.ma.x.den&& (f.ma.x.speed==f.ma.x.speed&& (f.ma.x.accel==f.ma.x.accel&& (f.ma.x.jerk==f.ma.x.jerk&& (f.ma.x.min==f.ma.x.min&& (f.ma.x.max==f.ma.x.max&&true))))))&& (f.ma.y.num==f.ma.y.num&& (f.ma.y.den==f.ma.y.den&& (f.ma.y.speed==f.ma.y.speed&& (f.ma.y.accel==f.ma.y.accel&& (f.ma.y.jerk==f.ma.y.jerk&& (f.ma.y.min==f.ma.y.min&& (f.ma.y.max==f.ma.y.max&&true))))))&& (f.ma.z.num==f.ma.z.num&& (f.ma.z.den==f.ma.z.den&& (f.ma.z.speed==f.ma.z.speed&& (f.ma.z.accel==f.ma.z.accel&& (f.ma.z.jerk==f.ma.z.jerk&& (f.ma.z.min==f.ma.z.min&& (f.ma.z.max==f.ma.z.max&&true))))))&& (f.ma.e.num==f.ma.e.num&& (f.ma.e.den==f.ma.e.den&& (f.ma.e.speed==f.ma.e.speed&& (f.ma.e.accel==f.ma.e.accel&& (f.ma.e.jerk==f.ma.e.jerk&& (f.ma.e.min==f.ma.e.min&& (f.ma.e.max==f.ma.e.max&&true))))))&&true)))&& (f.ma.xy==f.ma.xy&& (f.ma.ticks==f.ma.ticks&&true))) (.node (f.mode==f.mode) (.node (f.homed==f.homed) (.node (f.pos.1==f.pos.1&& (f.pos.2.1==f.pos.2.1&& (f.pos.2.2.1==f.pos.2.2.1&& (f.pos.2.2.2==f.pos.2.2.2&&true)))) (.node (f.loc.1==f.loc.1&& (f.loc.2.1==f.loc.2.1&& (f.loc.2.2==f.loc.2.2&&true))) (.node (f.e==f.e) (.node (f.feed==f.feed) (.node (f.mo.1.1.1==f.mo.1.1.1&& (f.mo.1.1.2.1==f.mo.1.1.2.1&& (f.mo.1.1.2.2.1==f.mo.1.1.2.2.1&& (f.mo.1.1.2.2.2==f.mo.1.1.2.2.2&&true)))&& (f.mo.1.2.1==f.mo.1.2.1&& (f.mo.1.2.2.1==f.mo.1.2.2.1&& (f.mo.1.2.2.2.1==f.mo.1.2.2.2.1&& (f.mo.1.2.2.2.2==f.mo.1.2.2.2.2&&true))))&& (f.mo.2.1==f.mo.2.1&& (f.mo.2.2==f.mo.2.2&&true))) (.node (f.moving==f.moving) (.node (f.back==f.back) (.node y5 (.node (f.dwell==f.dwell) (.node (f.waits==f.waits) (.node y3 (.node y1 (.node (f.fan==f.fan) (.node (f.line==f.line) (.node (f.ticks==f.ticks) (.node (f.cold==f.cold) (.node (f.active==f.active) (.node (f.r0==f.r0&& (f.r1==f.r1&&true)) (.req (eqLB f.queue f.queue) (.req (shB f.queue) (.req (eqLI f.lines f.lines) (.req (shI f.lines) (.leaf (.bool true)))))) y4) y4) y2) y2) y2) y2) y2) y2) y2) y2) y2) y2) y0) y0) y0) y0) y0) y0) y0) y0) y0)
  (by kernel_rfl) (by repeat' first|refine n_true (by simp) ?_|refine n_req (by simp[eqLI,eqLB]) ?_|refine n_req h ?_|refine n_req k ?_|exact rfl) (by kernel_rfl) (by kernel_rfl)
noncomputable def eqFw(x y:Fw):Bool:=@decide (x=y) (Classical.propDecidable _)
theorem eqFw_rfl(x:Fw):eqFw x x=true:=@decide_eq_true _ (Classical.propDecidable _) rfl
theorem eqFw_eq{x y:Fw}(h:eqFw x y=true):x=y:=@of_decide_eq_true _ (Classical.propDecidable _) h
def shF(x:Fw):Bool:=shB x.queue&&shI x.lines
noncomputable def fSame:Fact:=factFw 23 fun x rest=>match rest with
 |[.agg l] =>match asFw l with
  |some y=>some (.req (eqFw x y) (.req (shF x) (.leaf (.bool true))))
  |none=>none
 |_=>none
theorem scall_nil2{P:Program}{f:FuncId}{cs ds:List SV}{a:SV}{v:SV}(hn:NilLs cs ds)(h:SCall P f [a,.agg ds] v):SCall P f [a,.agg cs] v:=by
 intro m w0 R0 ρ w vs hm hvs
 obtain⟨u,us,rfl,h0,u2,us2,rfl,⟨ws,h1,h2⟩,h3⟩:=hvs
 exact h m w0 R0 ρ w _ hm ⟨u,_,rfl,h0,u2,us2,rfl,⟨ws,h1,hn.rep h2⟩,h3⟩
theorem o_same:fSame.ok Tryz.prog:=factFw_ok fun x rest t ht=>by
 split at ht
 ·split at ht
  ·rename_i hy
   injection ht with ht;subst ht
   intro h k
   obtain rfl:=eqFw_eq h
   have k:=(Bool.and_eq_true _ _).mp k
   exact scall_nil2 (asFw_nil hy) (s_same _ k.1 k.2)
  ·cases ht
 ·cases ht
abbrev EvT:=OpT×Int×Int
def flN(n:Nat):Fl:=⟨List.replicate n (List.replicate 64 0),0,false,0⟩
def pg0_p:Plan:=.all
noncomputable def pg0_t(l:Fl):Tree Stop:= .leaf (.at (loopOf Tryz.prog 39 0) 26 (slotsS 26 [(1,.ptr 0 0),(3,.int .i64 0)]) [some (.cells [.list Ty.str l.pages,.int .i64 l.fuse,.bool l.dead,.int .i64 l.keep])])
theorem pg0(l:Fl):segR (Env.of Tryz.prog (sumOf [])) 1000 (fnOf Tryz.prog 39) .unit (keepS 26 [1,3]) (codeS Tryz.prog 39) pg0_p (startS Tryz.prog 39 [l.sv]) [] =pg0_t l:=by kernel_rfl
def pg1_p:Plan:=.fork (.lit (.lit (.fork (.fork .all .all) .all))) (.lit (.lit (.lit .all)))
noncomputable def pg1_t(l:Fl)(i:Int):Tree Stop:= .node (decide (i< (↑l.pages.length:Int))) (.node (decide (i<21)) (.req (decide (0≤i)&&decide (i< (↑l.pages.length:Int))) (.node (decide (((List.length (l.pages.getD i.toNat Ty.str.dflt):Nat):Int)>100)) (.leaf (.done (.bool false))) (.leaf (.at (loopOf Tryz.prog 39 0) 26 (slotsS 26 [(1,.ptr 0 0),(3,.int .i64 (i64.wrap (i+1)))]) [some (.cells [.list Ty.str l.pages,.int .i64 l.fuse,.bool l.dead,.int .i64 l.keep])])))) (.leaf (.done (.bool (decide ((↑l.pages.length:Int)≤20)))))) (.leaf (.done (.bool (decide ((↑l.pages.length:Int)≤20)))))
theorem pg1(l:Fl)(i:Int):segR (Env.of Tryz.prog (sumOf [])) 1000 (fnOf Tryz.prog 39) .unit (keepS 26 [1,3]) (loopOf Tryz.prog 39 0) pg1_p (slotsS 26 [(1,.ptr 0 0),(3,I64 i)]) [some (.cells l.cells)] =pg1_t l i:=by kernel_rfl
def fs0_p:Plan:=.fork (.ln 17 (.lit .all)) (.ln 5 (.fork (.ln 11 (.lit .all)) (.ln 5 (.fork (.ln 5 (.lit .all)) (.ln 5 (.fork .all .all))))))
noncomputable def fs0_t(l:Fl):Tree Stop:= .node ((↑l.pages.length:Int) !=(↑l.pages.length:Int)) (.leaf (.done (.bool false))) (.node (l.fuse != l.fuse) (.leaf (.done (.bool false))) (.node (!l.dead==l.dead) (.leaf (.done (.bool false))) (.node (l.keep != l.keep) (.leaf (.done (.bool false))) (.leaf (.at (loopOf Tryz.prog 45 0) 52 (slotsS 52 [(2,.ptr 0 0),(3,.ptr 1 0),(36,.int .i64 (↑l.pages.length:Int)),(37,.int .i64 0)]) [some (.cells [.list Ty.str l.pages,.int .i64 l.fuse,.bool l.dead,.int .i64 l.keep]),some (.cells [.list Ty.str l.pages,.int .i64 l.fuse,.bool l.dead,.int .i64 l.keep])])))))
theorem fs0(l:Fl):segR (Env.of Tryz.prog (sumOf [])) 1000 (fnOf Tryz.prog 45) .unit (keepS 52 [2,3,36,37]) (codeS Tryz.prog 45) fs0_p (startS Tryz.prog 45 [l.sv,l.sv]) [] =fs0_t l:=by kernel_rfl
def fs1_p:Plan:=.fork (.fork (.all) (.all)) (.all)
noncomputable def fs1_t(l:Fl)(i:Int):Tree Stop:= .node (decide (i< (↑l.pages.length:Int))) (.req (decide (0≤i)&&decide (i< (↑l.pages.length:Int))) (.req (decide (0≤i)&&decide (i< (↑l.pages.length:Int))) (.node (!l.pages.getD i.toNat Ty.str.dflt==l.pages.getD i.toNat Ty.str.dflt) (.leaf (.done (.bool false))) (.leaf (.at (loopOf Tryz.prog 45 0) 52 (slotsS 52 [(2,.ptr 0 0),(3,.ptr 1 0),(36,.int .i64 (↑l.pages.length:Int)),(37,.int .i64 (i64.wrap (i+1)))]) [some (.cells [.list Ty.str l.pages,.int .i64 l.fuse,.bool l.dead,.int .i64 l.keep]),some (.cells [.list Ty.str l.pages,.int .i64 l.fuse,.bool l.dead,.int .i64 l.keep])]))))) (.leaf (.done (.bool true)))
theorem fs1(l:Fl)(i:Int):segR (Env.of Tryz.prog (sumOf [])) 1000 (fnOf Tryz.prog 45) .unit (keepS 52 [2,3,36,37]) (loopOf Tryz.prog 45 0) fs1_p (slotsS 52 [(2,.ptr 0 0),(3,.ptr 1 0),(36,I64 l.pages.length),(37,I64 i)]) [some (.cells l.cells),some (.cells l.cells)] =fs1_t l i:=by kernel_rfl
def fn6_p:Plan:=.ln 4 (.go (.lit (.go (.lit (.go (.lit (.go (.lit (.go (.lit (.go (.lit (.go (.lit .all))))))))))))))
noncomputable def fn6_t(u:Unit):Tree Stop:= .req (true) (.req true (.req (true) (.req true (.req (true) (.req true (.req (true) (.req true (.req (true) (.req true (.req (true) (.req true (.leaf (.done (.tuple [.agg [.list Ty.str ([List.map (fun n=>UInt8.ofNat (Int.toNat n)) (List.replicate 64 0)] ++[List.map (fun n=>UInt8.ofNat (Int.toNat n)) (List.replicate 64 0)] ++[List.map (fun n=>UInt8.ofNat (Int.toNat n)) (List.replicate 64 0)] ++[List.map (fun n=>UInt8.ofNat (Int.toNat n)) (List.replicate 64 0)] ++[List.map (fun n=>UInt8.ofNat (Int.toNat n)) (List.replicate 64 0)] ++[List.map (fun n=>UInt8.ofNat (Int.toNat n)) (List.replicate 64 0)]),.int .i64 0,.bool false,.int .i64 0],.int .i64 0]))))))))))))))
theorem fn6(u:Unit):segR (Env.of Tryz.prog (sumOf [])) 1000 (fnOf Tryz.prog 51) .str (keepS 25 []) (codeS Tryz.prog 51) fn6_p (startS Tryz.prog 51 [I64 6]) [] =fn6_t u:=by kernel_rfl
def fn4_p:Plan:=.ln 4 (.go (.lit (.go (.lit (.go (.lit (.go (.lit (.go (.lit .all))))))))))
noncomputable def fn4_t(u:Unit):Tree Stop:= .req (true) (.req true (.req (true) (.req true (.req (true) (.req true (.req (true) (.req true (.leaf (.done (.tuple [.agg [.list Ty.str ([List.map (fun n=>UInt8.ofNat (Int.toNat n)) (List.replicate 64 0)] ++[List.map (fun n=>UInt8.ofNat (Int.toNat n)) (List.replicate 64 0)] ++[List.map (fun n=>UInt8.ofNat (Int.toNat n)) (List.replicate 64 0)] ++[List.map (fun n=>UInt8.ofNat (Int.toNat n)) (List.replicate 64 0)]),.int .i64 0,.bool false,.int .i64 0],.int .i64 0]))))))))))
theorem fn4(u:Unit):segR (Env.of Tryz.prog (sumOf [])) 1000 (fnOf Tryz.prog 51) .str (keepS 25 []) (codeS Tryz.prog 51) fn4_p (startS Tryz.prog 51 [I64 4]) [] =fn4_t u:=by kernel_rfl
end Go.Proofs.YtnkaepnblikcdaaGreat
namespace Go.Sx
open Go.RowKit
theorem setT_flat{β:Type}:∀ (d:Nat) (t:Tb β) (i:Nat) (v:Option β),(∃t',∀ (α:Type) (k:Tb β→Tree α),setT d t i v k=k t')∨∃n,∀ (α:Type) (k:Tb β→Tree α),setT d t i v k=.fail n
 |0,t,i,v=>.inr ⟨3,fun _ _=>rfl⟩
 |d+1,.e,0,v=>.inl ⟨_,fun _ _=>rfl⟩
 |d+1,.n l u r,0,v=>.inl ⟨_,fun _ _=>rfl⟩
 |d+1,.e,j+1,v=>by
  by_cases hj:j % 2=0
  ·have e:∀ (α:Type) (k:Tb β→Tree α),setT (d+1) .e (j+1) v k=setT d .e (j / 2) v fun l=>k (.n l none .e):=fun α k=>by
    change Tb.pick j (fun i=>setT d .e i v fun l=>k (.n l none .e)) (fun i=>setT d .e i v fun r=>k (.n .e none r))=_
    rw[Tb.pick_even hj]
   rcases setT_flat d .e (j / 2) v with⟨t',h⟩|⟨n,h⟩
   ·exact .inl ⟨_,fun α k=>by rw[e,h]⟩
   ·exact .inr ⟨n,fun α k=>by rw[e,h]⟩
  ·have e:∀ (α:Type) (k:Tb β→Tree α),setT (d+1) .e (j+1) v k=setT d .e (j / 2) v fun r=>k (.n .e none r):=fun α k=>by
    change Tb.pick j (fun i=>setT d .e i v fun l=>k (.n l none .e)) (fun i=>setT d .e i v fun r=>k (.n .e none r))=_
    rw[Tb.pick_odd hj]
   rcases setT_flat d .e (j / 2) v with⟨t',h⟩|⟨n,h⟩
   ·exact .inl ⟨_,fun α k=>by rw[e,h]⟩
   ·exact .inr ⟨n,fun α k=>by rw[e,h]⟩
 |d+1,.n l u r,j+1,v=>by
  by_cases hj:j % 2=0
  ·have e:∀ (α:Type) (k:Tb β→Tree α),setT (d+1) (.n l u r) (j+1) v k=setT d l (j / 2) v fun l=>k (.n l u r):=fun α k=>by
    change Tb.pick j (fun i=>setT d l i v fun l=>k (.n l u r)) (fun i=>setT d r i v fun r=>k (.n l u r))=_
    rw[Tb.pick_even hj]
   rcases setT_flat d l (j / 2) v with⟨t',h⟩|⟨n,h⟩
   ·exact .inl ⟨_,fun α k=>by rw[e,h]⟩
   ·exact .inr ⟨n,fun α k=>by rw[e,h]⟩
  ·have e:∀ (α:Type) (k:Tb β→Tree α),setT (d+1) (.n l u r) (j+1) v k=setT d r (j / 2) v fun r=>k (.n l u r):=fun α k=>by
    change Tb.pick j (fun i=>setT d l i v fun l=>k (.n l u r)) (fun i=>setT d r i v fun r=>k (.n l u r))=_
    rw[Tb.pick_odd hj]
   rcases setT_flat d r (j / 2) v with⟨t',h⟩|⟨n,h⟩
   ·exact .inl ⟨_,fun α k=>by rw[e,h]⟩
   ·exact .inr ⟨n,fun α k=>by rw[e,h]⟩
section
variable {α:Type} {Φ:α→Prop}
theorem setT_says{β:Type}{d:Nat}{t:Tb β}{i:Nat}{v:Option β}{k:Tb β→Tree α}(h:∀t',TbSet t i v t'→(k t').says Φ):(setT d t i v k).says Φ:=by
 rcases setT_flat d t i v with⟨t',h1⟩|⟨n,h1⟩
 ·rw[h1]
  obtain⟨t2,g1,g2⟩:=holds_setT (L:=fun x=>x=t') d t i v .leaf (by rw[h1];exact rfl)
  obtain rfl:t2=t':=g2
  exact h _ g1
 ·rw[h1];trivial
theorem Mem.set_says{m:Mem}{id:Nat}{b:Option Box}{k:Mem→Tree α}(h:∀m',MSet m id b m'→(k m').says Φ):(m.set id b k).says Φ:=
 setT_says fun tb htb=>h _ ⟨htb,rfl⟩
end
theorem not_frozen{w:World}{g o:Nat}{arr:Array Value}{e:TypeId}{fr:Nat×Nat}(hg:w.heap[g]? =some (.cells arr e fr))(hu:unfrozen arr fr)(hl:o<arr.size):w.frozen? ⟨g,o,none⟩=false:=by
 have:=hu o hl
 simp only[World.frozen?,hg]
 by_cases h2:fr.1≤o
 ·have h3:¬o<fr.2:=fun h3=>this ⟨h2,h3⟩
  simp[h3]
 ·simp[h2]
inductive Wk (nz:Bool) (boxes:List (Option Box)) (fz:List Nat):SV→SV→Prop where
 |same (x:SV):Wk nz boxes fz x x
 |top (x:SV):Wk nz boxes fz x .top
 |nil (h:nz=true):Wk nz boxes fz .nilS (.row boxes.length)
 |frz {id:Nat} {t:Ty} {l:List t.T} (hid:id∈fz) (hb:boxes[id]? =some (some (.rows t l))):Wk nz boxes fz (.row id) (.list t l)
def WkL(nz:Bool)(boxes:List (Option Box))(fz:List Nat):List SV→List SV→Prop
 |[],[] =>True
 |x::xs,y::ys=>Wk nz boxes fz x y∧WkL nz boxes fz xs ys
 |_,_=>False
def WkK(nz:Bool)(boxes:List (Option Box))(fz:List Nat):List (Nat×SV)→List (Nat×SV)→Prop
 |[],[] =>True
 |x::xs,y::ys=>x.1=y.1∧Wk nz boxes fz x.2 y.2∧WkK nz boxes fz xs ys
 |_,_=>False
inductive WkB (nz:Bool) (boxes:List (Option Box)) (fz:List Nat):Box→Box→Prop where
 |same (B:Box):WkB nz boxes fz B B
 |cells {cs ds:List SV} (h:WkL nz boxes fz cs ds):WkB nz boxes fz (.cells cs) (.cells ds)
def WkBs(nz:Bool)(boxes:List (Option Box))(fz:List Nat):Nat→List (Option Box)→List (Option Box)→Prop
 |_,[],[] =>nz=false
 |_,[],some (.rows _ [])::[] =>True
 |i,_::bs,none::bs'=>WkBs nz boxes fz (i+1) bs bs'
 |i,some B::bs,some B'::bs'=>i∉fz∧WkB nz boxes fz B B'∧WkBs nz boxes fz (i+1) bs bs'
 |_,_,_=>False
section
variable {nz:Bool} {boxes:List (Option Box)} {fz:List Nat}
theorem WkL.length:∀{l l':List SV},WkL nz boxes fz l l'→l'.length=l.length
 |[],[],_=>rfl
 |x::xs,y::ys,h=>by simp[WkL.length h.2]
theorem WkL.get:∀{l l':List SV},WkL nz boxes fz l l'→∀{i:Nat} {y:SV},l'[i]? =some y→∃x,l[i]? =some x∧Wk nz boxes fz x y
 |[],[],_,i,y,h=>by simp at h
 |x::xs,z::ys,h,0,y,hy=>by
  simp at hy;subst hy
  exact⟨x,rfl,h.1⟩
 |x::xs,z::ys,h,i+1,y,hy=>by
  simpa using WkL.get h.2 (i:=i) (y:=y) (by simpa using hy)
theorem WkK.lookup:∀{ks ks':List (Nat×SV)},WkK nz boxes fz ks ks'→∀i,Wk nz boxes fz ((ks.lookup i).getD .top) ((ks'.lookup i).getD .top)
 |[],[],_,i=>.same _
 |x::xs,y::ys,h,i=>by
  obtain⟨h1,h2,h3⟩:=h
  obtain⟨a,x⟩:=x
  obtain⟨b,y⟩:=y
  dsimp only at h1 h2
  subst h1
  simp only[List.lookup]
  cases(i==a)with
  |true=>exact h2
  |false=>exact WkK.lookup h3 i
theorem slotsS_wk{n:Nat}{ks ks':List (Nat×SV)}(h:WkK nz boxes fz ks ks'):WkL nz boxes fz (slotsS n ks) (slotsS n ks'):=by
 unfold slotsS
 induction List.range n with
 |nil=>trivial
 |cons i l ih=>exact⟨h.lookup i,ih⟩
theorem WkBs.len:∀{i:Nat} {bs bs':List (Option Box)},WkBs nz boxes fz i bs bs'→bs.length≤bs'.length
 |_,[],[],_=>Nat.le_refl _
 |_,[],some (.rows _ [])::[],_=>by simp
 |i,_::bs,none::bs',h=>by simpa using WkBs.len (i:=i+1) (bs:=bs) (bs':=bs') h
 |i,some B::bs,some B'::bs',h=>by simpa using WkBs.len (i:=i+1) h.2.2
theorem WkBs.len2(hz:nz=true):∀{i:Nat} {bs bs':List (Option Box)},WkBs nz boxes fz i bs bs'→bs.length<bs'.length
 |_,[],[],h=>by rw[show nz=false from h]at hz;cases hz
 |_,[],some (.rows _ [])::[],_=>by simp
 |i,_::bs,none::bs',h=>by simpa using WkBs.len2 hz (i:=i+1) (bs:=bs) (bs':=bs') h
 |i,some B::bs,some B'::bs',h=>by simpa using WkBs.len2 hz (i:=i+1) h.2.2
theorem WkBs.get:∀{i:Nat} {bs bs':List (Option Box)},WkBs nz boxes fz i bs bs'→∀{j:Nat} {B':Box},(bs'[j]?).join=some B'→(∃B,(bs[j]?).join=some B∧i+j∉fz∧WkB nz boxes fz B B')∨(j=bs.length∧∃t,B'=.rows t [])
 |_,[],[],_,j,B',h=>by simp at h
 |_,[],some (.rows t [])::[],_,0,B',h=>by
  simp at h;subst h
  exact .inr ⟨rfl,t,rfl⟩
 |_,[],some (.rows t [])::[],_,j+1,B',h=>by simp at h
 |i,_::bs,none::bs',h,0,B',hj=>by simp at hj
 |i,x::bs,none::bs',h,j+1,B',hj=>by
  have:=WkBs.get (i:=i+1) (bs:=bs) (bs':=bs') h (j:=j) (B':=B') (by simpa using hj)
  simpa[Nat.add_assoc,Nat.add_comm 1 j]using this
 |i,some B::bs,some C::bs',h,0,B',hj=>by
  simp at hj;subst hj
  exact .inl ⟨B,rfl,by simpa using h.1,h.2.1⟩
 |i,some B::bs,some C::bs',h,j+1,B',hj=>by
  have:=WkBs.get (i:=i+1) h.2.2 (j:=j) (B':=B') (by simpa using hj)
  simpa[Nat.add_assoc,Nat.add_comm 1 j]using this
theorem SRelD.weak{ds:List Deferred}{slots slots':List SV}{boxes':List (Option Box)}{fr fr':Fr}{m m':Mem}(hc:Canon slots boxes fr m)(hc':Canon slots' boxes' fr' m')(hs:WkL nz boxes fz slots slots')(hb:WkBs nz boxes fz 0 boxes boxes'){w0:World}{R0:RSet}{ρ:Rho}{w:World}{a:Act}(h:SRelD ds w0 R0 ρ w fr m a):
  SRelD ds w0 R0 (upd ρ boxes.length (0,0,0)) w fr' m' a∧∀b,RO w0 R0 ρ w m b→RO w0 R0 (upd ρ boxes.length (0,0,0)) w m' b:=by
 obtain⟨h1,h2,h3⟩:=h
 have hlen:=hb.len
 have hn:m.next=boxes.length:=hc.next
 have hn':m'.next=boxes'.length:=hc'.next
 -- where each box comes from
 have hg:∀id B',m'.get id=some B'→(∃B,m.get id=some B∧id≠boxes.length∧id∉fz∧WkB nz boxes fz B B')∨(id=boxes.length∧∃t,B'=.rows t []):=fun id B' hB=>by
  rw[hc'.box]at hB
  rcases hb.get hB with⟨B,k1,k2,k3⟩|k
  ·refine .inl ⟨B,by rw[hc.box];exact k1,fun e=>?_,by simpa using k2,k3⟩
   subst e
   simp at k1
  ·exact .inr k
 have hsol:∀{B B':Box} {r:Nat×Nat×Nat},WkB nz boxes fz B B'→(solid r B'↔solid r B):=fun hw=>by
  cases hw with
  |same=>exact Iff.rfl
  |cells=>exact Iff.rfl
 have hro:∀b,RO w0 R0 ρ w m b→RO w0 R0 (upd ρ boxes.length (0,0,0)) w m' b:=fun b hb2=>by
  rcases hb2 with hb2|⟨k1,k2,k3,k4⟩
  ·exact .inl hb2
  ·refine .inr ⟨k1,k2,fun id B' hB hs'=>?_,k4⟩
   rcases hg id B' hB with⟨B,g1,g2,g3,g4⟩|⟨rfl,t,rfl⟩
   ·rw[upd_other _ _ g2]at hs' ⊢
    exact k3 id B g1 ((hsol g4).1 hs')
   ·rw[upd_same]at hs';exact absurd hs' (Nat.lt_irrefl _)
 have e:Ext (RO w0 R0 ρ w m) ρ m.next w (RO w0 R0 (upd ρ boxes.length (0,0,0)) w m') (upd ρ boxes.length (0,0,0)) m'.next w:=⟨by omega,fun id hid=>upd_other _ _ (by omega),fun b hb2=>⟨hro b hb2,rfl⟩⟩
 have hval:∀ (x y:SV) (v:Value),Wk nz boxes fz x y→Rep (RO w0 R0 ρ w m) ρ m.next w x v→Rep (RO w0 R0 (upd ρ boxes.length (0,0,0)) w m') (upd ρ boxes.length (0,0,0)) m'.next w y v:=by
  intro x y v hw hr
  cases hw with
  |same=>exact Rep.mono e _ _ hr
  |top=>trivial
  |nil hz=>
   rw[show v=_ from hr]
   have hx:=hb.len2 hz
   exact⟨by omega,none,by rw[upd_same],fun h0=>by rw[upd_same]at h0;exact absurd h0 (Nat.lt_irrefl _)⟩
  |frz hid hb1=>
   rename_i id t l
   obtain⟨_,a,hu,ha⟩:=hr
   have hgid:m.get id=some (.rows t l):=by rw[hc.box,hb1];rfl
   obtain⟨b1,b2,hp⟩:=h1.box id _ hgid
   refine⟨a,(ρ id).2.2,by rw[hu,b1],b2,fun h0=>?_⟩
   have h0:0< (ρ id).2.2:=Nat.lt_of_lt_of_le h0 b2
   obtain⟨arr,el,fr,k1,k2,k3,k4⟩:=hp h0
   refine⟨(ρ id).1,0,ha h0,.inr ⟨h1.lo id _ hgid h0,h1.hi id _ hgid h0,fun id' B' hB hs' heq=>?_,h1.hid.2 id _ hgid h0⟩,fun i hi=>?_⟩
   ·rcases hg id' B' hB with⟨B,g1,g2,g3,g4⟩|⟨rfl,t,rfl⟩
    ·rw[upd_other _ _ g2]at hs' heq
     have:=h1.inj id' id B _ g1 hgid ((hsol g4).1 hs') h0 heq
     subst this
     exact g3 hid
    ·rw[upd_same]at hs';exact absurd hs' (Nat.lt_irrefl _)
   ·obtain⟨cs,c1,c2,c3⟩:=k4 i hi
    refine⟨cs,c1,fun j hj=>?_,RepD.mono e.keep _ _ _ c3⟩
    rw[cell_of_row w _ _ arr el fr k1,Nat.zero_add]
    exact c2 j hj
 have hvalL:∀ (xs ys:List SV) (vs:List Value),WkL nz boxes fz xs ys→RepL (RO w0 R0 ρ w m) ρ m.next w xs vs→RepL (RO w0 R0 (upd ρ boxes.length (0,0,0)) w m') (upd ρ boxes.length (0,0,0)) m'.next w ys vs:=by
  intro xs
  induction xs with
  |nil=>
   intro ys vs hw hr
   cases ys with
   |nil=>exact hr
   |cons _ _=>exact hw.elim
  |cons x xs ih=>
   intro ys vs hw hr
   cases ys with
   |nil=>exact hw.elim
   |cons y ys=>
    obtain⟨u,us,rfl,r1,r2⟩:=hr
    exact⟨u,us,rfl,hval x y u hw.1 r1,ih ys us hw.2 r2⟩
 refine⟨⟨⟨h1.below,fun id B' hB=>?_,fun id B' hB hs'=>?_,fun id B' hB hs'=>?_,fun id id' B' C' hB hC hs1 hs2 heq=>?_,fun id B' hB=>?_,h1.hid.1,fun id B' hB hs'=>?_⟩,⟨?_,fun t=>?_⟩,h3⟩,hro⟩
 ·rw[hn']
  rw[hc'.box]at hB
  rcases Nat.lt_or_ge id boxes'.length with k|k
  ·exact k
  ·rw[List.getElem?_eq_none k]at hB;cases hB
 ·rcases hg id B' hB with⟨B,g1,g2,g3,g4⟩|⟨rfl,t,rfl⟩
  ·rw[upd_other _ _ g2]at hs' ⊢;exact h1.lo id B g1 ((hsol g4).1 hs')
  ·rw[upd_same]at hs';exact absurd hs' (Nat.lt_irrefl _)
 ·rcases hg id B' hB with⟨B,g1,g2,g3,g4⟩|⟨rfl,t,rfl⟩
  ·rw[upd_other _ _ g2]at hs' ⊢;exact h1.hi id B g1 ((hsol g4).1 hs')
  ·rw[upd_same]at hs';exact absurd hs' (Nat.lt_irrefl _)
 ·rcases hg id B' hB with⟨B,g1,g2,g3,g4⟩|⟨rfl,t,rfl⟩
  ·rcases hg id' C' hC with⟨C,g1',g2',g3',g4'⟩|⟨rfl,t',rfl⟩
   ·rw[upd_other _ _ g2]at hs1 heq;rw[upd_other _ _ g2']at hs2 heq
    exact h1.inj id id' B C g1 g1' ((hsol g4).1 hs1) ((hsol g4').1 hs2) heq
   ·rw[upd_same]at hs2;exact absurd hs2 (Nat.lt_irrefl _)
  ·rw[upd_same]at hs1;exact absurd hs1 (Nat.lt_irrefl _)
 ·rcases hg id B' hB with⟨B,g1,g2,g3,g4⟩|⟨rfl,t,rfl⟩
  ·rw[upd_other _ _ g2]
   cases g4 with
   |same=>exact BoxRel.mono e _ (fun _=>rfl) (h1.box id _ g1)
   |cells hw=>
    obtain⟨arr,el,fr2,k1,k2,k3⟩:=h1.box id _ g1
    exact⟨arr,el,fr2,k1,k2,hvalL _ _ _ hw k3⟩
  ·rw[upd_same]
   exact⟨rfl,Nat.le_refl _,fun h0=>absurd h0 (Nat.lt_irrefl _)⟩
 ·rcases hg id B' hB with⟨B,g1,g2,g3,g4⟩|⟨rfl,t,rfl⟩
  ·rw[upd_other _ _ g2]at hs' ⊢;exact h1.hid.2 id B g1 ((hsol g4).1 hs')
  ·rw[upd_same]at hs';exact absurd hs' (Nat.lt_irrefl _)
 ·rw[hc'.size,hs.length,←hc.size];exact h2.1
 ·rw[hc'.get t,List.getD_eq_getElem?_getD]
  cases hx:slots'[t]? with
  |none=>
   have ht:slots'.length≤t:=by simpa using hx
   have:a.tmps.getD t Go.undef=Go.undef:=by
    rw[Array.getD_eq_getD_getElem?,Array.getElem?_eq_none (by rw[←h2.1,hc.size,←hs.length];exact ht)]
    rfl
   rw[this];exact rfl
  |some y=>
   obtain⟨x,hx1,hw⟩:=hs.get hx
   refine hval x y _ hw ?_
   have:=h2.2 t
   rw[hc.get t,List.getD_eq_getElem?_getD,hx1]at this
   exact this
end
theorem runsR_weak{P:Program}(nz:Bool){fn:Func}{v:SV}{items:List Item}{slots slots':List SV}{boxes boxes':List (Option Box)}(fz:List Nat)(hs:WkL nz boxes fz slots slots')(hb:WkBs nz boxes fz 0 boxes boxes')(h:RunsR P fn v items slots' boxes'):RunsR P fn v items slots boxes:=by
 intro fr m hc w0 R0 ρ w a hS b cs
 obtain⟨fr',m',hc'⟩:=Canon.of (slots:=slots') (boxes:=boxes')
 obtain⟨h1,h2⟩:=SRelD.weak hc hc' hs hb hS
 obtain⟨ρ',w',a',todo,u,q1,q2,q3,q4,q5,q6⟩:=h fr' m' hc' w0 R0 _ w a h1 b cs
 exact⟨ρ',w',a',todo,u,q1,q2,fun b hb2=>q3 b (h2 b hb2),q4,q5,q6⟩
end Go.Sx
namespace Go.Proofs.YtnkaepnblikcdaaGreat
open Go.Sx
section
variable {f g:Fw} {line:Int} {c:Gc.C}
end
def retC(d:V4):V4:=(0,0,d.2.2.1,0)
def retD(d:V4):V4:=(d.1,d.2.1,0,0)
def retPre(f:Fw)(d:V4):Bool:=(!nz4 (retC d)||addPre f (retC d) 0)&& (!(backOk f (retC d)&&nz4 (retD d))||addPre (backF f (retC d)) (retD d) 0)
theorem retPre_iff{f:Fw}{d:V4}:retPre f d=true↔(nz4 (retC d)=true→addPre f (retC d) 0=true)∧(backOk f (retC d)=true→nz4 (retD d)=true→addPre (backF f (retC d)) (retD d) 0=true):=by
 unfold retPre
 cases nz4 (retC d)<;>cases nz4 (retD d)<;>cases backOk f (retC d)<;>simp
def retOk(f:Fw)(d:V4):Bool:=backOk f (retC d)&&backOk (backF f (retC d)) (retD d)
def retF(f:Fw)(d:V4):Fw:=backF (backF f (retC d)) (retD d)
theorem nzC{d:V4}:nz4 (retC d)=true↔¬d.2.2.1=0:=by unfold nz4 retC;simp
theorem nzD{d:V4}:nz4 (retD d)=true↔¬d.1=0∨¬d.2.1=0:=by unfold nz4 retD;simp
section
variable {f g:Fw} {line:Int} {r:V4}
end
section
variable {f:Fw} {line:Int} {c:Gc.C}
end
section
variable {f:Fw} {line:Int} {c:Gc.C}
end
section
variable {f g:Fw} {line:Int} {c:Gc.C}
end
theorem shF_valid{x:Fw}(h:validF x=true):shF x=true:=by
 have v:=vf_of h
 have l:=v.len
 have k:=v.lens
 unfold shF shB shI
 rw[Bool.and_eq_true,decide_eq_true_eq,decide_eq_true_eq];omega
def pgsB(l:Fl):Bool:=(l.pages.all fun p=>decide ((p.length:Int)≤100))&&decide ((l.pages.length:Int)≤20)
theorem pgsB_iff{l:Fl}:pgsB l=true↔(∀i,i<l.pages.length→((l.pages.getD i []).length:Int)≤100)∧(l.pages.length:Int)≤20:=by
 simp only[pgsB,Bool.and_eq_true,List.all_eq_true,decide_eq_true_eq]
 refine and_congr ⟨fun h i hi=>?_,fun h x hx=>?_⟩ Iff.rfl
 ·rw[List.getD_eq_getElem?_getD,List.getElem?_eq_getElem hi];exact h _ (List.getElem_mem hi)
 ·obtain⟨i,hi,rfl⟩:=List.getElem_of_mem hx
  have:=h i hi
  rw[List.getD_eq_getElem?_getD,List.getElem?_eq_getElem hi]at this;exact this
theorem pg_loop(l:Fl):∀ (k i:Nat),i+k=21→(∀t,t<i→t<l.pages.length→((l.pages.getD t []).length:Int)≤100)→
  RunsR Tryz.prog (fnOf Tryz.prog 39) (.bool (pgsB l)) (loopOf Tryz.prog 39 0) (slotsS 26 [(1,.ptr 0 0),(3,I64 i)]) [some (.cells l.cells)]
 |k,i,hi,hb=>by
  refine runsR_seg k00 (n:=1000) (hint:=.unit) (keep:=keepS 26 [1,3]) (p:=pg1_p) rfl ?_
  erw [pg1 l i]
  unfold pg1_t
  have t0:(i:Int).toNat=i:=by omega
  have fin:(¬(i:Int)<l.pages.length∨¬(i:Int)<21)→SV.bool (decide ((l.pages.length:Int)≤20))=.bool (pgsB l):=fun h=>by
   refine congrArg SV.bool (Bool.eq_iff_iff.2 ?_)
   rw[pgsB_iff,decide_eq_true_eq]
   refine⟨fun a=>⟨fun t ht=>hb t (by omega) ht,a⟩,fun a=>a.2⟩
  rw[t0]
  match k,hi with
  |0,hi=>exact n_dec (fun a=>n_dec (fun b=>absurd b (by omega)) fun b=>fin (.inr b)) fun a=>fin (.inl a)
  |k+1,hi=>
   have w1:i64.wrap ((i:Int)+1)=((i+1:Nat):Int):=by rw[w64 (by omega) (by omega)];omega
   rw[w1]
   refine n_dec (fun a=>n_dec (fun b=>n_req (by simp;omega) (n_dec (fun c=>?_) (fun c=>?_))) fun b=>fin (.inr b)) fun a=>fin (.inl a)
   ·show SV.bool false=_
    refine congrArg SV.bool (Eq.symm (Bool.eq_false_iff.2 fun h=>?_))
    have:=(pgsB_iff.1 h).1 i (by omega)
    have c:((l.pages.getD i []).length:Int)>100:=c
    omega
   ·refine⟨slotsS_len _ _,pg_loop l k (i+1) (by omega) fun t ht hl=>?_⟩
    rcases Nat.lt_or_ge t i with q|q
    ·exact hb t q hl
    ·obtain rfl:t=i:=by omega
     have c:¬((l.pages.getD t []).length:Int)>100:=c
     omega
theorem s_pages(l:Fl):SCall Tryz.prog 39 [l.sv] (.bool (pgsB l)):=by
 refine scallR_loops rfl rfl (by kernel_rfl) (runsR_seg k00 (n:=1000) (hint:=.unit) (keep:=keepS 26 [1,3]) (p:=pg0_p) (boxes:=[]) rfl ?_)
 have q:=pg0 l
 unfold startS codeS at q
 erw [q]
 unfold pg0_t
 exact⟨slotsS_len _ _,pg_loop l 21 0 (by omega) fun t ht=>absurd ht (Nat.not_lt_zero _)⟩
def fPages:Fact:=factFl 39 fun l=>.leaf (.bool (pgsB l))
theorem o_pages:fPages.ok Tryz.prog:=factFl_ok fun l=>s_pages l
def evN(x:EvT):Int:=opN x.1
def fewB(l:List EvT)(m:Int):Bool:=(l.all fun x=>decide (evN x≤40))&&decide ((l.length:Int)≤m)
def lenE(l:List EvT):Bool:=Nat.ble l.length 9223372036854775807
def fFew:Fact:=⟨52,fun args=>match args with
 |[.list (.pair (.pair (.int .i64) (.pair .bool (.pair (.pair (.int .i64) (.pair (.int .i64) (.pair (.int .i64) (.pair (.int .i64) (.pair (.int .i64) (.pair (.int .i64) (.pair (.int .i64) (.int .i64)))))))) (.pair (.int .i64) (.pair (.int .i64) (.int .i64)))))) (.pair (.int .i64) (.int .i64))) l,.int .i64 m] =>some (.req (lenE l) (.leaf (.bool (fewB l m))))
 |_=>none⟩
theorem fs_loop(l:Fl)(hl:l.pages.length≤1000):∀ (k i:Nat),i+k=l.pages.length→
  RunsR Tryz.prog (fnOf Tryz.prog 45) (.bool true) (loopOf Tryz.prog 45 0) (slotsS 52 [(2,.ptr 0 0),(3,.ptr 1 0),(36,I64 l.pages.length),(37,I64 i)]) [some (.cells l.cells),some (.cells l.cells)]
 |k,i,hi=>by
  refine runsR_seg k00 (n:=1000) (hint:=.unit) (keep:=keepS 52 [2,3,36,37]) (p:=fs1_p) rfl ?_
  erw [fs1 l i]
  unfold fs1_t
  have t0:(i:Int).toNat=i:=by omega
  rw[t0]
  match k,hi with
  |0,hi=>exact n_dec (fun a=>absurd a (by omega)) fun a=>rfl
  |k+1,hi=>
   have w1:i64.wrap ((i:Int)+1)=((i+1:Nat):Int):=by rw[w64 (by omega) (by omega)];omega
   rw[w1]
   have an:∀{a b:Bool},a=true→b=true→(a&&b)=true:=fun ha hb=>by rw[ha,hb];rfl
   have bd:(decide (0≤(i:Int))&&decide ((i:Int)<l.pages.length))=true:=an (decide_eq_true (by omega)) (decide_eq_true (by omega))
   exact n_dec (fun _=>n_req bd (n_req bd (n_not (fun q=>absurd q (by simp)) fun _=>⟨slotsS_len _ _,fs_loop l hl k (i+1) (by omega)⟩))) fun a=>absurd (by omega) a
theorem s_sameL(l:Fl)(h:fewP l=true):SCall Tryz.prog 45 [l.sv,l.sv] (.bool true):=by
 have h:=of_decide_eq_true h
 refine scallR_loops rfl rfl (by kernel_rfl) (runsR_seg k00 (n:=1000) (hint:=.unit) (keep:=keepS 52 [2,3,36,37]) (p:=fs0_p) (boxes:=[]) rfl ?_)
 have q:=fs0 l
 unfold startS codeS at q
 erw [q]
 unfold fs0_t
 exact n_ne (fun q=>absurd rfl q) fun _=>n_ne (fun q=>absurd rfl q) fun _=>n_not (fun q=>absurd q (by simp)) fun _=>n_ne (fun q=>absurd rfl q) fun _=>⟨slotsS_len _ _,fs_loop l h l.pages.length 0 (by omega)⟩
noncomputable def eqFl(x y:Fl):Bool:=@decide (x=y) (Classical.propDecidable _)
theorem eqFl_rfl(x:Fl):eqFl x x=true:=@decide_eq_true _ (Classical.propDecidable _) rfl
theorem eqFl_eq{x y:Fl}(h:eqFl x y=true):x=y:=@of_decide_eq_true _ (Classical.propDecidable _) h
noncomputable def fSameL:Fact:=⟨45,fun args=>match args with
 |[.agg [.list .str p,.int .i64 a,.bool d,.int .i64 k],.agg [.list .str p',.int .i64 a',.bool d',.int .i64 k']] =>some (.req (eqFl ⟨p,a,d,k⟩ ⟨p',a',d',k'⟩) (.req (fewP ⟨p,a,d,k⟩) (.leaf (.bool true))))
 |_=>none⟩
theorem o_sameL:fSameL.ok Tryz.prog:=fun args t ht=>by
 simp only[fSameL]at ht
 split at ht
 ·injection ht with ht;subst ht
  intro h k
  have e:=eqFl_eq h
  injection e with e1 e2 e3 e4
  subst e1;subst e2;subst e3;subst e4
  exact s_sameL _ k
 ·cases ht
theorem s_beginR(f:Fw):SCall Tryz.prog 30 [f.sv] (begS f):=
 scall_vE (hB (l:=[fValidR,fStartR]) (k:=[]) (j:=[]) (i:=[]) ([] :List Nat) ([] :List Nat) ([] :List Nat) ([] :List Nat) (⟨o_validR,o_startR,trivial⟩) noneOk noneOk noneOk) 1000 (.fork (.ln 15 (.lit .all)) (.lit (.lit (.fork (.ln 12 (.lit .all)) (.ln 4 (.fork (.ln 7 (.lit .all)) (.ln 3 (.fork (.ln 3 (.lit .all)) (.ln 3 (.fork .all (.fork .all .all)))))))))))
  (t:=.node (!validF f) (.leaf (.tuple [.agg (Fw.cells f),.bool false])) (.node (f.moving) (.leaf (.tuple [.agg (Fw.cells f),.bool false])) (.node ((↑f.queue.length:Int)==0) (.leaf (.tuple [.agg (Fw.cells f),.bool false])) (.node (f.mode==3) (.leaf (.tuple [.agg (Fw.cells f),.bool false])) (.node (f.dwell != 0) (.leaf (.tuple [.agg (Fw.cells f),.bool false])) (.req (decide (0< (↑f.queue.length:Int))) (.node (okS (f.queue.getD 0 dBk) f.ma.ticks) (.req (decide (0< (↑f.lines.length:Int))) (.req (decide (1≤(↑f.queue.length:Int))) (.req (decide (1≤(↑f.lines.length:Int))) (.leaf (.tuple [.agg (Fw.cells {f with queue:=(List.drop 1 f.queue),lines:=(List.drop 1 f.lines),mo:=(startM (f.queue.getD 0 dBk) f.ma.ticks),moving:=true,active:=(f.lines.getD 0 0)}),.bool true]))))) (.req (decide (0< (↑f.lines.length:Int))) (.req (decide (1≤(↑f.queue.length:Int))) (.req (decide (1≤(↑f.lines.length:Int))) (.leaf (.tuple [.agg (Fw.cells {f with queue:=(List.drop 1 f.queue),lines:=(List.drop 1 f.lines),mo:=(((0,0,0,0),0,0,0,0),0,0),moving:=true,active:=(f.lines.getD 0 0)}),.bool true]))))))))))))
  (by kernel_rfl) (by
   cases v:validF f with
   |false=>
    refine n_not (fun _=>begS_1 v) fun k=>(by cases k)
   |true=>
    have vf:=vf_of v
    have ci:=canStart_iff (f:=f)
    refine n_not (fun k=>(by cases k)) fun _=>?_
    cases hc:canStart f
    ·have hn:¬(f.moving=false∧¬f.queue.length=0∧¬f.mode=3∧f.dwell=0):=fun a=>by rw[ci.2 a]at hc;cases hc
     simp only[Tree.holds,sL,ne_eq,beq_iff_eq,bne_iff_ne,eq_self,beq_eq_false_iff_ne,bne_eq_false_iff_eq,implies_true];(repeat' (first|apply And.intro|intro _));
     all_goals first
      |(exfalso;first|omega|grind)
      |exact begS_2 v hc
    ·have hy:=ci.1 hc
     have sm:=start_mo v hc
     have e:SV.tuple [.agg (startF f).cells,.bool true] =begS f:=by rw[←begS_3 v hc,begF_yes hc]
     have sm1:=sm.1
     unfold startF at e
     rw[startMo_yes sm.1]at e
     have lq:=vf.lens
     simp only[Tree.holds,sL,ne_eq,beq_iff_eq,bne_iff_ne,eq_self,beq_eq_false_iff_ne,bne_eq_false_iff_eq,implies_true];(repeat' (first|apply And.intro|intro _));
     all_goals first
      |(exfalso;first|omega|grind)
      |omega
      |exact e) (by kernel_rfl) (by rfl)
def fBegXR:Fact:=factF1 30 fun f=>.leaf (begS f)
theorem o_begXR:fBegXR.ok Tryz.prog:=factF1_ok (fun f=>s_beginR f)
def heatS(f:Fw):SV:=.tuple [(heatF f).sv,.agg [I64 (duty0 f),I64 (duty1 f)],.bool (lostB f)]
theorem heatS_at{f:Fw}{b:Bool}(h:lostB f=b):SV.tuple [.agg (heatF f).cells,.agg [.int .i64 (duty0 f),.int .i64 (duty1 f)],.bool b] =heatS f:=by unfold heatS;rw[h];rfl
theorem lost_y0{f:Fw}(a:f.g0.fault=0)(b:¬(f.g0.step f.r0 (f.c0.step f.r0).target (f.c0.duty f.r0)).fault=0):lostB f=true:=lostB_iff.2 (.inl ⟨a,b⟩)
theorem lost_y1{f:Fw}(a:f.g1.fault=0)(b:¬(f.g1.step f.r1 (f.c1.step f.r1).target (f.c1.duty f.r1)).fault=0):lostB f=true:=lostB_iff.2 (.inr ⟨a,b⟩)
theorem lost_l{f:Fw}(a:¬f.g0.fault=0∨(f.g0.step f.r0 (f.c0.step f.r0).target (f.c0.duty f.r0)).fault=0)(b:f.g1.fault=0):lostB f=((f.g1.step f.r1 (f.c1.step f.r1).target (f.c1.duty f.r1)).fault != 0):=by
 rw[Bool.eq_iff_iff,lostB_iff,bne_iff_ne];omega
theorem lost_n{f:Fw}(a:¬f.g0.fault=0∨(f.g0.step f.r0 (f.c0.step f.r0).target (f.c0.duty f.r0)).fault=0)(b:¬f.g1.fault=0∨(f.g1.step f.r1 (f.c1.step f.r1).target (f.c1.duty f.r1)).fault=0):lostB f=false:=by
 rw[Bool.eq_false_iff,ne_eq,lostB_iff];omega
theorem s_heatR(f:Fw):SCall Tryz.prog 80 [f.sv] (heatS f):=
 scall_vE (hB (l:=[fCoSR,fGstR]) (k:=[]) (j:=[]) (i:=[]) ([] :List Nat) ([] :List Nat) ([] :List Nat) ([] :List Nat) (⟨o_coSR,o_gstR,trivial⟩) noneOk noneOk noneOk) 1000 (.go (.ln 8 (.fork (.ln 5 (.go (.lit (.fork (.ln 8 (.go (.lit .all))) (.ln 6 (.fork (.ln 5 (.go (.lit .all))) (.ln 5 (.go (.lit .all))))))))) (.ln 5 (.go (.ln 8 (.fork (.ln 5 (.go (.lit .all))) (.ln 5 (.go (.lit .all))))))))))
  (t:=let y2:=f.g0.duty f.r0 (f.c0.step f.r0).target (f.c0.duty f.r0);let y3:=f.g1.duty f.r1 (f.c1.step f.r1).target (f.c1.duty f.r1);let y4:=f.g0.step f.r0 (f.c0.step f.r0).target (f.c0.duty f.r0);let y5:=f.g1.step f.r1 (f.c1.step f.r1).target (f.c1.duty f.r1);let y1:=Fw.cells {f with c0:=(f.c0.step f.r0),c1:=(f.c1.step f.r1),g0:=y4,g1:=y5};let y0:Tree SV:=.node (f.g1.fault==0) (.req true (.req (true) (.req true (.leaf (.tuple [.agg y1,.agg [.int .i64 y2,.int .i64 y3],.bool (y5.fault != 0)]))))) (.req true (.req (true) (.req true (.leaf (.tuple [.agg y1,.agg [.int .i64 y2,.int .i64 y3],.bool false])))));.req (true) (.req true (.req (true) (.req true (.req (true) (.node (f.g0.fault==0) (.req true (.req (true) (.req true (.req (true) (.req true (.req (true) (.req true (.node (y4.fault != 0) (.req true (.req (true) (.req true (.leaf (.tuple [.agg y1,.agg [.int .i64 y2,.int .i64 y3],.bool true]))))) (.req true y0))))))))) (.req true (.req (true) (.req true (.req (true) (.req true (.req (true) (.req true (.req (true) y0))))))))))))))
  (by kernel_rfl) (by
   repeat' first
    |refine n_req rfl ?_
    |refine n_eq (fun _=>?_) (fun _=>?_)
    |refine n_ne (fun _=>?_) (fun _=>?_)
    |refine n_bool (fun _=>?_) (fun _=>?_)
   all_goals first
    |exact heatS_at (lost_y0 (by assumption) (by assumption))
    |exact heatS_at (lost_y1 (by assumption) (by assumption))
    |exact heatS_at (lost_l (by first|exact .inl (by assumption)|exact .inr (by assumption)) (by assumption))
    |exact heatS_at (lost_n (by first|exact .inl (by assumption)|exact .inr (by assumption)) (by first|exact .inl (by assumption)|exact .inr (by assumption)))) (by kernel_rfl) (by rfl)
def fHeatR:Fact:=factF1 80 fun f=>.leaf (heatS f)
theorem o_heatR:fHeatR.ok Tryz.prog:=factF1_ok (fun f=>s_heatR f)
def warmPre(f:Fw):Bool:=(f.c0.ok&&f.g0.ok)&& (f.c1.ok&&f.g1.ok)
theorem warmPre_iff{f:Fw}:warmPre f=true↔(f.c0.ok=true∧f.g0.ok=true)∧f.c1.ok=true∧f.g1.ok=true:=by simp only[warmPre,Bool.and_eq_true]
theorem warm_w{c:Co}{g:Gu}(hc:c.ok=true)(hg:g.ok=true):i64.wrap (c.target-g.band)=c.target-g.band:=by
 have a:=(Co.ok_iff _).1 hc
 have b:=(Gu.ok_iff _).1 hg
 exact w64 (by omega) (by omega)
theorem sv_fw{f g:Fw}(h:f=g):SV.agg f.cells=g.sv:=by subst h;rfl
theorem s_waitR(f:Fw)(h:warmPre f=true):SCall Tryz.prog 82 [f.sv] ((waitF f).sv):=
 scall_vE (hB (l:=[]) (k:=[]) (j:=[]) (i:=[]) ([] :List Nat) ([] :List Nat) ([] :List Nat) ([] :List Nat) (trivial) noneOk noneOk noneOk) 1000 (.go (.lit (.fork (.go (.lit (.fork (.go (.lit (.all))) (.go (.lit (.all)))))) (.go (.lit (.fork (.go (.lit (.all))) (.go (.lit (.all)))))))))
  (t:=.req (true) (.req true (.req (true) (.node (decide (f.r0≥i64.wrap (f.c0.target-f.g0.band))) (.req true (.req (true) (.req true (.node (decide (f.r1≥i64.wrap (f.c1.target-f.g1.band))) (.leaf (.agg (Fw.cells {f with waits:=(i64.wrap (↑(BitVec.ofInt 64 (i64.wrap (↑(BitVec.ofInt 64 f.waits &&& ~~~BitVec.ofInt 64 1).toNat:Int)) &&& ~~~BitVec.ofInt 64 2).toNat:Int))}))) (.leaf (.agg (Fw.cells {f with waits:=(i64.wrap (↑(BitVec.ofInt 64 f.waits &&& ~~~BitVec.ofInt 64 1).toNat:Int))}))))))) (.req true (.req (true) (.req true (.node (decide (f.r1≥i64.wrap (f.c1.target-f.g1.band))) (.leaf (.agg (Fw.cells {f with waits:=(i64.wrap (↑(BitVec.ofInt 64 f.waits &&& ~~~BitVec.ofInt 64 2).toNat:Int))}))) (.leaf (.agg (Fw.cells f)))))))))))
  (by kernel_rfl) (by
   obtain⟨⟨k1,k2⟩,k3,k4⟩:=warmPre_iff.1 h
   rw[warm_w k1 k2,warm_w k3 k4]
   repeat' (first|refine n_req rfl ?_|refine n_dec (fun _=>?_) (fun _=>?_))
   all_goals first
    |exact sv_fw (waitF_tt (by assumption) (by assumption)).symm
    |exact sv_fw (waitF_tf (by assumption) (by assumption)).symm
    |exact sv_fw (waitF_ft (by assumption) (by assumption)).symm
    |exact sv_fw (waitF_ff (by assumption) (by assumption)).symm) (by kernel_rfl) (by rfl)
def fWaitR:Fact:=factF1 82 fun f=>.req (warmPre f) (.leaf (waitF f).sv)
theorem o_waitR:fWaitR.ok Tryz.prog:=factF1_ok (fun f h=>s_waitR f h)
theorem s_ppls(a b:V4):SCall Tryz.prog 106 [V4.sv a,V4.sv b,I64 1] (V4.sv (wadd4 a b)):=
 scall_v mix [] trivial 1000 (.go (.lit (.go (.lit (.go (.lit (.go (.lit (.go (.lit (.all)))))))))))
  (t:=.req (true) (.req true (.req (true) (.req true (.req (true) (.req true (.req (true) (.req true (.req (true) (.req true (.req (true) (.req true (.leaf (.agg [.int .i64 (i64.wrap (a.1+i64.wrap (1*b.1))),.int .i64 (i64.wrap (a.2.1+i64.wrap (1*b.2.1))),.int .i64 (i64.wrap (a.2.2.1+i64.wrap (1*b.2.2.1))),.int .i64 (i64.wrap (a.2.2.2+i64.wrap (1*b.2.2.2)))]))))))))))))))
  (by kernel_rfl) (by
   have w1:∀x y:Int,i64.wrap (x+i64.wrap (1*y))=i64.wrap (x+y):=fun x y=>by
    rw[IntKind.wrap_i64,IntKind.wrap_i64,IntKind.wrap_i64];omega
   rw[w1,w1,w1,w1]
   refine n_req rfl (n_req rfl (n_req rfl (n_req rfl (n_req rfl (n_req rfl (n_req rfl (n_req rfl (n_req rfl (n_req rfl (n_req rfl (n_req rfl rfl)))))))))))) (by kernel_rfl) (by kernel_rfl)
theorem s_pmns(a b:V4):SCall Tryz.prog 106 [V4.sv a,V4.sv b,I64 (-1)] (V4.sv (wsub4 a b)):=
 scall_v mix [] trivial 1000 (.go (.lit (.go (.lit (.go (.lit (.go (.lit (.go (.lit (.all)))))))))))
  (t:=.req (true) (.req true (.req (true) (.req true (.req (true) (.req true (.req (true) (.req true (.req (true) (.req true (.req (true) (.req true (.leaf (.agg [.int .i64 (i64.wrap (a.1+i64.wrap (-1*b.1))),.int .i64 (i64.wrap (a.2.1+i64.wrap (-1*b.2.1))),.int .i64 (i64.wrap (a.2.2.1+i64.wrap (-1*b.2.2.1))),.int .i64 (i64.wrap (a.2.2.2+i64.wrap (-1*b.2.2.2)))]))))))))))))))
  (by kernel_rfl) (by
   have w1:∀x y:Int,i64.wrap (x+i64.wrap (-1*y))=i64.wrap (x-y):=fun x y=>by
    rw[IntKind.wrap_i64,IntKind.wrap_i64,IntKind.wrap_i64];omega
   rw[w1,w1,w1,w1]
   refine n_req rfl (n_req rfl (n_req rfl (n_req rfl (n_req rfl (n_req rfl (n_req rfl (n_req rfl (n_req rfl (n_req rfl (n_req rfl (n_req rfl rfl)))))))))))) (by kernel_rfl) (by kernel_rfl)
theorem s_psm(c:V4):SCall Tryz.prog 105 [V4.sv c] (.bool (near4 c)):=
 scall_v mix [] trivial 1000 (.go (.lit (.fork (.lit (.lit (.lit .all))) (.lit (.lit (.fork .all (.go (.lit (.fork (.lit (.lit (.lit .all))) (.lit (.lit (.fork .all (.go (.lit (.fork (.lit (.lit (.lit .all))) (.lit (.lit (.fork .all (.go (.lit (.fork (.lit (.lit (.lit .all))) (.lit (.lit (.fork .all (.go (.lit .all))))))))))))))))))))))))))
  (t:=.req (true) (.node (decide (c.1 < -16777216)) (.leaf (.bool false)) (.node (decide (c.1>16777216)) (.leaf (.bool false)) (.req true (.node (decide (c.2.1 < -16777216)) (.leaf (.bool false)) (.node (decide (c.2.1>16777216)) (.leaf (.bool false)) (.req true (.node (decide (c.2.2.1 < -16777216)) (.leaf (.bool false)) (.node (decide (c.2.2.1>16777216)) (.leaf (.bool false)) (.req true (.node (decide (c.2.2.2 < -16777216)) (.leaf (.bool false)) (.node (decide (c.2.2.2>16777216)) (.leaf (.bool false)) (.leaf (.bool true))))))))))))))
  (by kernel_rfl) (by
   have q:∀b:Bool,(b=true↔near4 c=true)→SV.bool b=SV.bool (near4 c):=fun b h=>by rw[Bool.eq_iff_iff.2 h]
   have nf:=@near4_iff c
   refine n_req rfl (n_dec (fun a=>q _ ?_) fun a=>n_dec (fun a2=>q _ ?_) fun a2=>n_req rfl (n_dec (fun b=>q _ ?_) fun b=>n_dec (fun b2=>q _ ?_) fun b2=>n_req rfl (n_dec (fun d=>q _ ?_) fun d=>n_dec (fun d2=>q _ ?_) fun d2=>n_req rfl (n_dec (fun e=>q _ ?_) fun e=>n_dec (fun e2=>q _ ?_) fun e2=>q _ ?_))))
   all_goals(rw[nf];simp only[Bool.false_eq_true,false_iff,true_iff];omega)) (by kernel_rfl) (by kernel_rfl)
def po0_p:Plan:=.fork (.ln 3 (.fork .all .all)) (.ln 3 (.lit .all))
noncomputable def po0_t(f:Fw):Tree Stop:= .node (f.moving) (.node (decide (f.active>0)) (.leaf (.done (.int .i64 f.active))) (.leaf (.at (loopOf Tryz.prog 203 0) 28 (slotsS 28 [(1,.ptr 0 0),(15,.list (Ty.int IntKind.i64) f.lines),(16,.int .i64 (↑f.lines.length:Int)),(17,.int .i64 0)]) [some (.cells (Fw.cells f))]))) (.leaf (.at (loopOf Tryz.prog 203 0) 28 (slotsS 28 [(1,.ptr 0 0),(15,.list (Ty.int IntKind.i64) f.lines),(16,.int .i64 (↑f.lines.length:Int)),(17,.int .i64 0)]) [some (.cells (Fw.cells f))]))
theorem po0(f:Fw):segR (Env.of Tryz.prog (sumOf [])) 1000 (fnOf Tryz.prog 203) .unit (keepS 28 [1,15,16,17]) (codeS Tryz.prog 203) po0_p (startS Tryz.prog 203 [f.sv]) [] =po0_t f:=by kernel_rfl
def po1_p:Plan:=.fork (.fork (.all) (.all)) (.all)
noncomputable def po1_t(f:Fw)(i:Int):Tree Stop:= .node (decide (i< (↑f.lines.length:Int))) (.req (decide (0≤i)&&decide (i< (↑f.lines.length:Int))) (.node (decide (f.lines.getD i.toNat 0>0)) (.leaf (.done (.int .i64 (f.lines.getD i.toNat 0)))) (.leaf (.at (loopOf Tryz.prog 203 0) 28 (slotsS 28 [(1,.ptr 0 0),(15,.list (Ty.int IntKind.i64) f.lines),(16,.int .i64 (↑f.lines.length:Int)),(17,.int .i64 (i64.wrap (i+1)))]) [some (.cells (Fw.cells f))])))) (.leaf (.done (.int .i64 (i64.wrap (f.line+1)))))
theorem po1(f:Fw)(i:Int):segR (Env.of Tryz.prog (sumOf [])) 1000 (fnOf Tryz.prog 203) .unit (keepS 28 [1,15,16,17]) (loopOf Tryz.prog 203 0) po1_p (slotsS 28 [(1,.ptr 0 0),(15,LI f.lines),(16,I64 f.lines.length),(17,I64 i)]) [some (.cells f.cells)] =po1_t f i:=by kernel_rfl
theorem s_pret(f:Fw)(h:f.lines.length=f.queue.length):SCall Tryz.prog 204 [f.sv] (.bool (returnsB f)):=
 scall_v mix [] trivial 1000 (.fork .all (.fork (.ln 4 (.lit .all)) (.ln 4 (.lit .all))))
  (t:=.node (f.moving)
 (.leaf (SV.bool (f.active==0)))
 (.node (decide ((↑f.queue.length:Int)>0))
  (.req (decide (0< (↑f.lines.length:Int))) (.leaf (SV.bool (f.lines.getD 0 0==0))))
  (.leaf (SV.bool false))))
   (by kernel_rfl) (by
    unfold returnsB
    refine n_bool (fun m=>by rw[m];rfl) fun m=>n_dec (fun k=>?_) fun k=>?_
    ·rw[m]
     refine n_req (decide_eq_true (by omega)) ?_
     cases hl:f.lines with
     |nil=>rw[hl]at h;simp at h;omega
     |cons n l=>rfl
    ·rw[m]
     have:f.lines=[] :=List.eq_nil_of_length_eq_zero (by omega)
     rw[this];rfl) (by kernel_rfl) (by kernel_rfl)
abbrev eL:SV:=.list Ty.unit []
def cln_p:Plan:=.fork (.fork (.all) (.all)) (.fork (.all) (.all))
noncomputable def cln_t(f:Fw):Tree Stop:= .node (f.queue.isEmpty) (.node (f.lines.isEmpty) (.leaf (.done (.agg [.int .i64 f.ma.x.num,.int .i64 f.ma.x.den,.int .i64 f.ma.x.speed,.int .i64 f.ma.x.accel,.int .i64 f.ma.x.jerk,.int .i64 f.ma.x.min,.int .i64 f.ma.x.max,.int .i64 f.ma.y.num,.int .i64 f.ma.y.den,.int .i64 f.ma.y.speed,.int .i64 f.ma.y.accel,.int .i64 f.ma.y.jerk,.int .i64 f.ma.y.min,.int .i64 f.ma.y.max,.int .i64 f.ma.z.num,.int .i64 f.ma.z.den,.int .i64 f.ma.z.speed,.int .i64 f.ma.z.accel,.int .i64 f.ma.z.jerk,.int .i64 f.ma.z.min,.int .i64 f.ma.z.max,.int .i64 f.ma.e.num,.int .i64 f.ma.e.den,.int .i64 f.ma.e.speed,.int .i64 f.ma.e.accel,.int .i64 f.ma.e.jerk,.int .i64 f.ma.e.min,.int .i64 f.ma.e.max,.bool f.ma.xy,.int .i64 f.ma.ticks,.int .i64 f.mode,.bool f.homed,.int .i64 f.pos.1,.int .i64 f.pos.2.1,.int .i64 f.pos.2.2.1,.int .i64 f.pos.2.2.2,.int .i64 f.loc.1,.int .i64 f.loc.2.1,.int .i64 f.loc.2.2,.int .i64 f.e,.int .i64 f.feed,eL,eL,.int .i64 f.mo.1.1.1,.int .i64 f.mo.1.1.2.1,.int .i64 f.mo.1.1.2.2.1,.int .i64 f.mo.1.1.2.2.2,.int .i64 f.mo.1.2.1,.int .i64 f.mo.1.2.2.1,.int .i64 f.mo.1.2.2.2.1,.int .i64 f.mo.1.2.2.2.2,.int .i64 f.mo.2.1,.int .i64 f.mo.2.2,.bool f.moving,.int .i64 f.active,.bool f.back,.int .i64 f.ret.1,.int .i64 f.ret.2.1,.int .i64 f.ret.2.2.1,.int .i64 f.ret.2.2.2,.int .i64 f.dwell,.int .i64 f.waits,.int .i64 f.c0.target,.int .i64 f.c0.kp,.int .i64 f.c0.ki,.int .i64 f.c0.scale,.int .i64 f.c0.sum,.int .i64 f.c0.limit,.int .i64 f.c1.target,.int .i64 f.c1.kp,.int .i64 f.c1.ki,.int .i64 f.c1.scale,.int .i64 f.c1.sum,.int .i64 f.c1.limit,.int .i64 f.g0.low,.int .i64 f.g0.high,.int .i64 f.g0.watch,.int .i64 f.g0.rise,.int .i64 f.g0.band,.int .i64 f.g0.base,.int .i64 f.g0.count,.int .i64 f.g0.idle,.int .i64 f.g0.quiet,.int .i64 f.g0.fault,.bool f.g0.door,.int .i64 f.g1.low,.int .i64 f.g1.high,.int .i64 f.g1.watch,.int .i64 f.g1.rise,.int .i64 f.g1.band,.int .i64 f.g1.base,.int .i64 f.g1.count,.int .i64 f.g1.idle,.int .i64 f.g1.quiet,.int .i64 f.g1.fault,.bool f.g1.door,.int .i64 f.fan,.int .i64 f.line,.int .i64 f.ticks,.int .i64 f.cold,.int .i64 f.r0,.int .i64 f.r1]))) (.req (decide ((0+f.lines.length)*8≤140737488355328)) (.leaf (.done (.agg [.int .i64 f.ma.x.num,.int .i64 f.ma.x.den,.int .i64 f.ma.x.speed,.int .i64 f.ma.x.accel,.int .i64 f.ma.x.jerk,.int .i64 f.ma.x.min,.int .i64 f.ma.x.max,.int .i64 f.ma.y.num,.int .i64 f.ma.y.den,.int .i64 f.ma.y.speed,.int .i64 f.ma.y.accel,.int .i64 f.ma.y.jerk,.int .i64 f.ma.y.min,.int .i64 f.ma.y.max,.int .i64 f.ma.z.num,.int .i64 f.ma.z.den,.int .i64 f.ma.z.speed,.int .i64 f.ma.z.accel,.int .i64 f.ma.z.jerk,.int .i64 f.ma.z.min,.int .i64 f.ma.z.max,.int .i64 f.ma.e.num,.int .i64 f.ma.e.den,.int .i64 f.ma.e.speed,.int .i64 f.ma.e.accel,.int .i64 f.ma.e.jerk,.int .i64 f.ma.e.min,.int .i64 f.ma.e.max,.bool f.ma.xy,.int .i64 f.ma.ticks,.int .i64 f.mode,.bool f.homed,.int .i64 f.pos.1,.int .i64 f.pos.2.1,.int .i64 f.pos.2.2.1,.int .i64 f.pos.2.2.2,.int .i64 f.loc.1,.int .i64 f.loc.2.1,.int .i64 f.loc.2.2,.int .i64 f.e,.int .i64 f.feed,eL,.list (Ty.int IntKind.i64) f.lines,.int .i64 f.mo.1.1.1,.int .i64 f.mo.1.1.2.1,.int .i64 f.mo.1.1.2.2.1,.int .i64 f.mo.1.1.2.2.2,.int .i64 f.mo.1.2.1,.int .i64 f.mo.1.2.2.1,.int .i64 f.mo.1.2.2.2.1,.int .i64 f.mo.1.2.2.2.2,.int .i64 f.mo.2.1,.int .i64 f.mo.2.2,.bool f.moving,.int .i64 f.active,.bool f.back,.int .i64 f.ret.1,.int .i64 f.ret.2.1,.int .i64 f.ret.2.2.1,.int .i64 f.ret.2.2.2,.int .i64 f.dwell,.int .i64 f.waits,.int .i64 f.c0.target,.int .i64 f.c0.kp,.int .i64 f.c0.ki,.int .i64 f.c0.scale,.int .i64 f.c0.sum,.int .i64 f.c0.limit,.int .i64 f.c1.target,.int .i64 f.c1.kp,.int .i64 f.c1.ki,.int .i64 f.c1.scale,.int .i64 f.c1.sum,.int .i64 f.c1.limit,.int .i64 f.g0.low,.int .i64 f.g0.high,.int .i64 f.g0.watch,.int .i64 f.g0.rise,.int .i64 f.g0.band,.int .i64 f.g0.base,.int .i64 f.g0.count,.int .i64 f.g0.idle,.int .i64 f.g0.quiet,.int .i64 f.g0.fault,.bool f.g0.door,.int .i64 f.g1.low,.int .i64 f.g1.high,.int .i64 f.g1.watch,.int .i64 f.g1.rise,.int .i64 f.g1.band,.int .i64 f.g1.base,.int .i64 f.g1.count,.int .i64 f.g1.idle,.int .i64 f.g1.quiet,.int .i64 f.g1.fault,.bool f.g1.door,.int .i64 f.fan,.int .i64 f.line,.int .i64 f.ticks,.int .i64 f.cold,.int .i64 f.r0,.int .i64 f.r1]))))) (.req (decide ((0+f.queue.length)*64≤140737488355328)) (.node (f.lines.isEmpty) (.leaf (.done (.agg [.int .i64 f.ma.x.num,.int .i64 f.ma.x.den,.int .i64 f.ma.x.speed,.int .i64 f.ma.x.accel,.int .i64 f.ma.x.jerk,.int .i64 f.ma.x.min,.int .i64 f.ma.x.max,.int .i64 f.ma.y.num,.int .i64 f.ma.y.den,.int .i64 f.ma.y.speed,.int .i64 f.ma.y.accel,.int .i64 f.ma.y.jerk,.int .i64 f.ma.y.min,.int .i64 f.ma.y.max,.int .i64 f.ma.z.num,.int .i64 f.ma.z.den,.int .i64 f.ma.z.speed,.int .i64 f.ma.z.accel,.int .i64 f.ma.z.jerk,.int .i64 f.ma.z.min,.int .i64 f.ma.z.max,.int .i64 f.ma.e.num,.int .i64 f.ma.e.den,.int .i64 f.ma.e.speed,.int .i64 f.ma.e.accel,.int .i64 f.ma.e.jerk,.int .i64 f.ma.e.min,.int .i64 f.ma.e.max,.bool f.ma.xy,.int .i64 f.ma.ticks,.int .i64 f.mode,.bool f.homed,.int .i64 f.pos.1,.int .i64 f.pos.2.1,.int .i64 f.pos.2.2.1,.int .i64 f.pos.2.2.2,.int .i64 f.loc.1,.int .i64 f.loc.2.1,.int .i64 f.loc.2.2,.int .i64 f.e,.int .i64 f.feed,.list tyBk f.queue,eL,.int .i64 f.mo.1.1.1,.int .i64 f.mo.1.1.2.1,.int .i64 f.mo.1.1.2.2.1,.int .i64 f.mo.1.1.2.2.2,.int .i64 f.mo.1.2.1,.int .i64 f.mo.1.2.2.1,.int .i64 f.mo.1.2.2.2.1,.int .i64 f.mo.1.2.2.2.2,.int .i64 f.mo.2.1,.int .i64 f.mo.2.2,.bool f.moving,.int .i64 f.active,.bool f.back,.int .i64 f.ret.1,.int .i64 f.ret.2.1,.int .i64 f.ret.2.2.1,.int .i64 f.ret.2.2.2,.int .i64 f.dwell,.int .i64 f.waits,.int .i64 f.c0.target,.int .i64 f.c0.kp,.int .i64 f.c0.ki,.int .i64 f.c0.scale,.int .i64 f.c0.sum,.int .i64 f.c0.limit,.int .i64 f.c1.target,.int .i64 f.c1.kp,.int .i64 f.c1.ki,.int .i64 f.c1.scale,.int .i64 f.c1.sum,.int .i64 f.c1.limit,.int .i64 f.g0.low,.int .i64 f.g0.high,.int .i64 f.g0.watch,.int .i64 f.g0.rise,.int .i64 f.g0.band,.int .i64 f.g0.base,.int .i64 f.g0.count,.int .i64 f.g0.idle,.int .i64 f.g0.quiet,.int .i64 f.g0.fault,.bool f.g0.door,.int .i64 f.g1.low,.int .i64 f.g1.high,.int .i64 f.g1.watch,.int .i64 f.g1.rise,.int .i64 f.g1.band,.int .i64 f.g1.base,.int .i64 f.g1.count,.int .i64 f.g1.idle,.int .i64 f.g1.quiet,.int .i64 f.g1.fault,.bool f.g1.door,.int .i64 f.fan,.int .i64 f.line,.int .i64 f.ticks,.int .i64 f.cold,.int .i64 f.r0,.int .i64 f.r1]))) (.req (decide ((0+f.lines.length)*8≤140737488355328)) (.leaf (.done (.agg [.int .i64 f.ma.x.num,.int .i64 f.ma.x.den,.int .i64 f.ma.x.speed,.int .i64 f.ma.x.accel,.int .i64 f.ma.x.jerk,.int .i64 f.ma.x.min,.int .i64 f.ma.x.max,.int .i64 f.ma.y.num,.int .i64 f.ma.y.den,.int .i64 f.ma.y.speed,.int .i64 f.ma.y.accel,.int .i64 f.ma.y.jerk,.int .i64 f.ma.y.min,.int .i64 f.ma.y.max,.int .i64 f.ma.z.num,.int .i64 f.ma.z.den,.int .i64 f.ma.z.speed,.int .i64 f.ma.z.accel,.int .i64 f.ma.z.jerk,.int .i64 f.ma.z.min,.int .i64 f.ma.z.max,.int .i64 f.ma.e.num,.int .i64 f.ma.e.den,.int .i64 f.ma.e.speed,.int .i64 f.ma.e.accel,.int .i64 f.ma.e.jerk,.int .i64 f.ma.e.min,.int .i64 f.ma.e.max,.bool f.ma.xy,.int .i64 f.ma.ticks,.int .i64 f.mode,.bool f.homed,.int .i64 f.pos.1,.int .i64 f.pos.2.1,.int .i64 f.pos.2.2.1,.int .i64 f.pos.2.2.2,.int .i64 f.loc.1,.int .i64 f.loc.2.1,.int .i64 f.loc.2.2,.int .i64 f.e,.int .i64 f.feed,.list tyBk f.queue,.list (Ty.int IntKind.i64) f.lines,.int .i64 f.mo.1.1.1,.int .i64 f.mo.1.1.2.1,.int .i64 f.mo.1.1.2.2.1,.int .i64 f.mo.1.1.2.2.2,.int .i64 f.mo.1.2.1,.int .i64 f.mo.1.2.2.1,.int .i64 f.mo.1.2.2.2.1,.int .i64 f.mo.1.2.2.2.2,.int .i64 f.mo.2.1,.int .i64 f.mo.2.2,.bool f.moving,.int .i64 f.active,.bool f.back,.int .i64 f.ret.1,.int .i64 f.ret.2.1,.int .i64 f.ret.2.2.1,.int .i64 f.ret.2.2.2,.int .i64 f.dwell,.int .i64 f.waits,.int .i64 f.c0.target,.int .i64 f.c0.kp,.int .i64 f.c0.ki,.int .i64 f.c0.scale,.int .i64 f.c0.sum,.int .i64 f.c0.limit,.int .i64 f.c1.target,.int .i64 f.c1.kp,.int .i64 f.c1.ki,.int .i64 f.c1.scale,.int .i64 f.c1.sum,.int .i64 f.c1.limit,.int .i64 f.g0.low,.int .i64 f.g0.high,.int .i64 f.g0.watch,.int .i64 f.g0.rise,.int .i64 f.g0.band,.int .i64 f.g0.base,.int .i64 f.g0.count,.int .i64 f.g0.idle,.int .i64 f.g0.quiet,.int .i64 f.g0.fault,.bool f.g0.door,.int .i64 f.g1.low,.int .i64 f.g1.high,.int .i64 f.g1.watch,.int .i64 f.g1.rise,.int .i64 f.g1.band,.int .i64 f.g1.base,.int .i64 f.g1.count,.int .i64 f.g1.idle,.int .i64 f.g1.quiet,.int .i64 f.g1.fault,.bool f.g1.door,.int .i64 f.fan,.int .i64 f.line,.int .i64 f.ticks,.int .i64 f.cold,.int .i64 f.r0,.int .i64 f.r1]))))))
theorem cln(f:Fw):segR (Env.of Tryz.prog (sumOf [])) 1000 (fnOf Tryz.prog 104) .unit (keepS 14 []) (codeS Tryz.prog 104) cln_p (startS Tryz.prog 104 [f.sv]) [] =cln_t f:=by kernel_rfl
inductive EmpL:SV→SV→Prop where
 |same (x:SV):EmpL x x
 |emp (t:Ty):EmpL eL (.list t [])
def EmpLs:List SV→List SV→Prop
 |[],[] =>True
 |x::xs,y::ys=>EmpL x y∧EmpLs xs ys
 |_,_=>False
theorem EmpL.rep{R:Nat→Prop}{ρ:Rho}{n:Nat}{w:World}{x y:SV}{v:Value}(h:EmpL x y)(hr:Rep R ρ n w x v):Rep R ρ n w y v:=by
 cases h with
 |same=>exact hr
 |emp t=>
  obtain⟨A,cap,h1,h2,_⟩:=hr
  exact⟨A,cap,h1,h2,fun h=>absurd h (Nat.lt_irrefl _)⟩
theorem EmpLs.rep{R:Nat→Prop}{ρ:Rho}{n:Nat}{w:World}:∀{xs ys:List SV} {vs:List Value},EmpLs xs ys→RepL R ρ n w xs vs→RepL R ρ n w ys vs
 |[],[],_,_,hr=>hr
 |x::xs,y::ys,_,h,hr=>by
  obtain⟨u,us,rfl,h1,h2⟩:=hr
  exact⟨u,us,rfl,h.1.rep h1,h.2.rep h2⟩
def clnC(f:Fw)(q l:SV):List SV:=f.cells.take 41++(q::l::f.cells.drop 43)
theorem clnC_ok(f:Fw){q l:SV}(hq:EmpL q (LB f.queue))(hl:EmpL l (LI f.lines)):EmpLs (clnC f q l) f.cells:=by
 obtain⟨⟩:=f
 dsimp only at hq hl
 repeat(first|exact trivial|refine⟨.same _,?_⟩|refine⟨hq,?_⟩|refine⟨hl,?_⟩)
theorem s_cln(f:Fw)(h:shF f=true):SCall Tryz.prog 104 [f.sv] f.sv:=by
 have h1:f.queue.length≤1000:=of_decide_eq_true ((Bool.and_eq_true _ _).mp h).1
 have h2:f.lines.length≤1000:=of_decide_eq_true ((Bool.and_eq_true _ _).mp h).2
 have key:∀q l:SV,(clnC f q l).length=102→dataL (clnC f q l)=true→EmpL q (LB f.queue)→EmpL l (LI f.lines)→(cln_t f).holds (fun o=>match o with
   |.done v'=>v'=.agg (clnC f q l)
   |.at items' size slots' boxes'=>slots'.length=size∧RunsR Tryz.prog (fnOf Tryz.prog 104) (.agg (clnC f q l)) items' slots' boxes')→SCall Tryz.prog 104 [f.sv] f.sv:=fun q l _ hd hq hl ht=>by
  refine scall_val (v:=.agg (clnC f q l)) (scallR_loops rfl hd (by kernel_rfl) (runsR_seg k000 (n:=1000) (hint:=.unit) (keep:=keepS 14 []) (p:=cln_p) (boxes:=[]) hd ?_)) fun R ρ n w u hu=>?_
  ·have e:=cln f
   unfold startS codeS at e
   erw [e]
   exact ht
  ·obtain⟨ws,hu1,hu2⟩:=hu
   exact⟨ws,hu1,(clnC_ok f hq hl).rep hu2⟩
 by_cases a:f.queue=[]
 ·have ea:EmpL eL (LB f.queue):=by rw[a];exact .emp _
  by_cases b:f.lines=[]
  ·have eb:EmpL eL (LI f.lines):=by rw[b];exact .emp _
   refine key eL eL rfl rfl ea eb ?_
   unfold cln_t
   exact n_bool (fun _=>n_bool (fun _=>rfl) fun k=>absurd k (by rw[b];simp)) fun k=>absurd k (by rw[a];simp)
  ·refine key eL (LI f.lines) rfl rfl ea (.same _) ?_
   unfold cln_t
   exact n_bool (fun _=>n_bool (fun k=>absurd (List.isEmpty_iff.1 k) b) fun _=>n_req (decide_eq_true (by omega)) rfl) fun k=>absurd k (by rw[a];simp)
 ·by_cases b:f.lines=[]
  ·have eb:EmpL eL (LI f.lines):=by rw[b];exact .emp _
   refine key (LB f.queue) eL rfl rfl (.same _) eb ?_
   unfold cln_t
   exact n_bool (fun k=>absurd (List.isEmpty_iff.1 k) a) fun _=>n_req (decide_eq_true (by omega)) (n_bool (fun _=>rfl) fun k=>absurd k (by rw[b];simp))
  ·refine key (LB f.queue) (LI f.lines) rfl rfl (.same _) (.same _) ?_
   unfold cln_t
   exact n_bool (fun k=>absurd (List.isEmpty_iff.1 k) a) fun _=>n_req (decide_eq_true (by omega)) (n_bool (fun k=>absurd (List.isEmpty_iff.1 k) b) fun _=>n_req (decide_eq_true (by omega)) rfl)
theorem po_loop(f:Fw)(hl:f.lines.length≤1000)(hn:0≤f.line∧f.line≤1099511627776):∀ (k i:Nat) (v:Int),i+k=f.lines.length→v=firstL (f.lines.drop i) (f.line+1)→
  RunsR Tryz.prog (fnOf Tryz.prog 203) (I64 v) (loopOf Tryz.prog 203 0) (slotsS 28 [(1,.ptr 0 0),(15,LI f.lines),(16,I64 f.lines.length),(17,I64 i)]) [some (.cells f.cells)]
 |k,i,v,hi,hv=>by
  refine runsR_seg k000 (n:=1000) (hint:=.unit) (keep:=keepS 28 [1,15,16,17]) (p:=po1_p) rfl ?_
  erw [po1 f i]
  unfold po1_t
  have t0:(i:Int).toNat=i:=by omega
  have w1:i64.wrap ((i:Int)+1)=((i+1:Nat):Int):=by rw[w64 (by omega) (by omega)];omega
  have w2:i64.wrap (f.line+1)=f.line+1:=w64 (by omega) (by omega)
  rw[t0,w1,w2]
  match k,hi with
  |0,hi=>
   rw[List.drop_eq_nil_of_le (by omega)]at hv
   subst hv
   exact n_dec (fun a=>absurd a (by omega)) fun _=>rfl
  |k+1,hi=>
   rw[drop_getD (d:=(0:Int)) (by omega:i<f.lines.length)]at hv
   unfold firstL at hv
   refine n_dec (fun _=>n_req (by simp;omega) (n_dec (fun c=>?_) fun c=>?_)) fun a=>absurd (by omega) a
   ·rw[if_pos c]at hv;subst hv;rfl
   ·rw[if_neg c]at hv
    exact⟨slotsS_len _ _,po_loop f hl hn k (i+1) v (by omega) hv⟩
theorem s_popen(f:Fw)(h:shapeB f=true):SCall Tryz.prog 203 [f.sv] (I64 (openV f)):=by
 obtain⟨s1,s2,s3,s4,s5,s6⟩:=shapeB_iff.1 h
 refine scallR_loops rfl rfl (by kernel_rfl) (runsR_seg k000 (n:=1000) (hint:=.unit) (keep:=keepS 28 [1,15,16,17]) (p:=po0_p) (boxes:=[]) rfl ?_)
 have e:=po0 f
 unfold startS codeS at e
 erw [e]
 unfold po0_t
 have go:∀v,openV f=v→v=firstL f.lines (f.line+1)→RunsR Tryz.prog (fnOf Tryz.prog 203) (I64 (openV f)) (loopOf Tryz.prog 203 0) (slotsS 28 [(1,.ptr 0 0),(15,LI f.lines),(16,I64 f.lines.length),(17,I64 (0:Nat))]) [some (.cells f.cells)] :=fun v h1 h2=>by
  rw[h1];exact po_loop f (by omega) s4 f.lines.length 0 v (by omega) (by rw[List.drop_zero];exact h2)
 refine n_bool (fun m=>n_dec (fun a=>?_) fun a=>⟨slotsS_len _ _,?_⟩) fun m=>⟨slotsS_len _ _,?_⟩
 ·have:openV f=f.active:=if_pos ⟨m,a⟩
  rw[this];rfl
 ·exact go _ rfl (if_neg (fun k=>a k.2))
 ·exact go _ rfl (if_neg (fun k=>by rw[m]at k;cases k.1))
def fCln:Fact:=factF1 104 fun f=>.req (shF f) (.leaf f.sv)
theorem o_cln:fCln.ok Tryz.prog:=factF1_ok fun f h=>s_cln f h
def fPOpen:Fact:=factF1 203 fun f=>.req (shapeB f) (.leaf (I64 (openV f)))
theorem o_pOpen:fPOpen.ok Tryz.prog:=factF1_ok fun f h=>s_popen f h
def fPRet:Fact:=factF1 204 fun f=>.req (lensB f) (.leaf (.bool (returnsB f)))
theorem o_pRet:fPRet.ok Tryz.prog:=factF1_ok fun f h=>s_pret f (lensB_iff.1 h)
def fPSm:Fact:=factV 105 fun c=>.leaf (.bool (near4 c))
theorem o_pSm:fPSm.ok Tryz.prog:=factV_ok s_psm
def fPP:Fact:=⟨106,fun args=>match args with
 |[.agg [.int .i64 a0,.int .i64 a1,.int .i64 a2,.int .i64 a3],.agg [.int .i64 b0,.int .i64 b1,.int .i64 b2,.int .i64 b3],.int .i64 s] =>match s==1 with
  |true=>some (.leaf (V4.sv (wadd4 (a0,a1,a2,a3) (b0,b1,b2,b3))))
  |false=>match s== -1 with
   |true=>some (.leaf (V4.sv (wsub4 (a0,a1,a2,a3) (b0,b1,b2,b3))))
   |false=>none
 |_=>none⟩
theorem o_pP:fPP.ok Tryz.prog:=fun args t ht=>by
 simp only[fPP]at ht
 split at ht
 ·split at ht
  ·rename_i hs
   have hs:=beq_iff_eq.1 hs
   subst hs
   injection ht with ht;subst ht
   exact s_ppls (_,_,_,_) (_,_,_,_)
  ·split at ht
   ·rename_i hs
    have hs:=beq_iff_eq.1 hs
    subst hs
    injection ht with ht;subst ht
    exact s_pmns (_,_,_,_) (_,_,_,_)
   ·cases ht
 ·cases ht
def decR(s:List UInt8):Rc:=⟨tk s 6 1,tk s 0 6,tk s 7 6,tk s 13 4,(sg (tk s 17 4),sg (tk s 21 4),sg (tk s 25 4),sg (tk s 29 4)),(sg (tk s 33 4),sg (tk s 37 4),sg (tk s 41 4),sg (tk s 45 4))⟩
def rcZ:Rc:=⟨0,0,0,0,(0,0,0,0),(0,0,0,0)⟩
def decB(s:List UInt8):Bool:=rcB (decR s)&&s==enc (decR s)
def decV(s:List UInt8):SV:=match decide (s.length<64)with
 |true=>.tuple [rcZ.sv,I64 6]
 |false=>match decB s with
  |true=>.tuple [(decR s).sv,I64 0]
  |false=>.tuple [rcZ.sv,I64 19]
theorem decV_data(s:List UInt8):(decV s).data=true:=by unfold decV;split<;>(try split)<;>rfl
theorem s_decR(s:List UInt8)(h:s.length≤100000):SCall Tryz.prog 263 [.str s] (decV s):=
 scall_v mix [fNbR,fFourR,fEncR] ⟨o_nbR,o_fourR,o_encR,trivial⟩ 1000 (.fork .all (.fork (.ln 4 (.fork .all .all)) (.ln 4 (.lit .all))))
  (t:=let y0:Tree SV:=.leaf (.tuple [.agg [.int .i64 0,.int .i64 0,.int .i64 0,.int .i64 0,.int .i64 0,.int .i64 0,.int .i64 0,.int .i64 0,.int .i64 0,.int .i64 0,.int .i64 0,.int .i64 0],.int .i64 19]);let y1:=Rc.mk (tk s 6 1) (tk s 0 6) (tk s 7 6) (tk s 13 4) (sg (tk s 17 4),sg (tk s 21 4),sg (tk s 25 4),sg (tk s 29 4)) (sg (tk s 33 4),sg (tk s 37 4),sg (tk s 41 4),sg (tk s 45 4));let y2:=(↑s.length:Int);let y3:=s.length≤100000;.node (decide (y2<64)) (.leaf (.tuple [.agg [.int .i64 0,.int .i64 0,.int .i64 0,.int .i64 0,.int .i64 0,.int .i64 0,.int .i64 0,.int .i64 0,.int .i64 0,.int .i64 0,.int .i64 0,.int .i64 0],.int .i64 6])) (.req (decide (6≤y2)&&decide y3) (.req (decide (7≤y2)&&decide y3) (.req (decide (13≤y2)&&decide y3) (.req (decide (17≤y2)&&decide y3) (.req (decide (33≤y2)&&decide y3) (.req (decide (49≤y2)&&decide y3) (.node (rcB y1) (.node (!s==enc y1) y0 (.leaf (.tuple [.agg [.int .i64 (tk s 6 1),.int .i64 (tk s 0 6),.int .i64 (tk s 7 6),.int .i64 (tk s 13 4),.int .i64 (sg (tk s 17 4)),.int .i64 (sg (tk s 21 4)),.int .i64 (sg (tk s 25 4)),.int .i64 (sg (tk s 29 4)),.int .i64 (sg (tk s 33 4)),.int .i64 (sg (tk s 37 4)),.int .i64 (sg (tk s 41 4)),.int .i64 (sg (tk s 45 4))],.int .i64 0]))) y0))))))))
  (by kernel_rfl) (by
   have qq:∀x:Int,x≤49→64≤s.length→(decide (x≤(s.length:Int))&&decide (s.length≤100000))=true:=fun x a b=>by simp;omega
   unfold decV
   refine n_dec (fun a=>?_) (fun a=>?_)
   ·rw[decide_eq_true (show s.length<64 by omega)];rfl
   ·rw[decide_eq_false (show ¬s.length<64 by omega)]
    have b:64≤s.length:=by omega
    have e:decB s=(rcB (decR s)&&s==enc (decR s)):=rfl
    refine n_req (qq _ (by decide) b) (n_req (qq _ (by decide) b) (n_req (qq _ (by decide) b) (n_req (qq _ (by decide) b) (n_req (qq _ (by decide) b) (n_req (qq _ (by decide) b) (n_bool (fun v=>?_) fun v=>?_))))))
    ·have v:rcB (decR s)=true:=v
     refine n_not (fun w=>?_) fun w=>?_
     ·have w:(s==enc (decR s))=false:=w
      rw[e,v,w];rfl
     ·have w:(s==enc (decR s))=true:=w
      rw[e,v,w];rfl
    ·have v:rcB (decR s)=false:=v
     rw[e,v];rfl) (by kernel_rfl) (by exact decV_data s)
theorem decB_iff{s:List UInt8}:decB s=true↔rcB (decR s)=true∧s=enc (decR s):=by
 simp only[decB,Bool.and_eq_true,beq_iff_eq]
def recAt(n:Int)(i:Nat)(s:List UInt8):Option Rc:=match decB s&& (decR s).seq.tmod n==(i:Int)with
 |true=>some (decR s)
 |false=>none
theorem recAt_iff{n:Int}{i:Nat}{s:List UInt8}{r:Rc}:recAt n i s=some r↔decB s=true∧(decR s).seq.tmod n=(i:Int)∧decR s=r:=by
 unfold recAt
 split
 ·rename_i h;rw[Bool.and_eq_true,beq_iff_eq]at h;simp[h]
 ·rename_i h
  rw[Bool.and_eq_false_iff]at h
  simp only[reduceCtorEq,false_iff,not_and]
  intro h1 h2
  rcases h with h|h
  ·rw[h1]at h;cases h
  ·rw[h2]at h;simp at h
def recsFrom(n:Int):Nat→List (List UInt8)→List Rc
 |_,[] =>[]
 |i,s::l=>match recAt n i s with
  |some r=>r::recsFrom n (i+1) l
  |none=>recsFrom n (i+1) l
theorem recs_cons{n:Int}{i:Nat}{s:List UInt8}{l:List (List UInt8)}:recsFrom n i (s::l)=match recAt n i s with
  |some r=>r::recsFrom n (i+1) l
  |none=>recsFrom n (i+1) l:=rfl
theorem mem_recs{n:Int}{r:Rc}:∀{l:List (List UInt8)} {i:Nat},r∈recsFrom n i l↔∃j,j<l.length∧recAt n (i+j) (l.getD j [])=some r
 |[],i=>by simp[recsFrom]
 |s::l,i=>by
  have ih:=@mem_recs n r l (i+1)
  have key:(∃j,j< (s::l).length∧recAt n (i+j) ((s::l).getD j [])=some r)↔recAt n i s=some r∨∃j,j<l.length∧recAt n (i+1+j) (l.getD j [])=some r:=by
   constructor
   ·rintro ⟨j,hj,h⟩
    cases j with
    |zero=>exact .inl h
    |succ j=>exact .inr ⟨j,by simpa using hj,by rw[show i+1+j=i+(j+1) by omega];simpa using h⟩
   ·rintro (h|⟨j,hj,h⟩)
    ·exact⟨0,by simp,h⟩
    ·exact⟨j+1,by simpa using hj,by rw[show i+(j+1)=i+1+j by omega];simpa using h⟩
  rw[key,←ih,recs_cons]
  split
  ·rename_i r' h;rw[h,List.mem_cons];simp[eq_comm]
  ·rename_i h;rw[h];simp
def distinct:List Rc→Prop
 |[] =>True
 |r::l=>(∀x∈l,x.seq≠r.seq)∧distinct l
theorem recs_distinct{n:Int}:∀{l:List (List UInt8)} {i:Nat},distinct (recsFrom n i l)
 |[],i=>trivial
 |s::l,i=>by
  unfold recsFrom
  split
  ·rename_i r h
   refine⟨fun x hx e=>?_,recs_distinct⟩
   obtain⟨j,_,hj⟩:=mem_recs.1 hx
   obtain⟨_,h1,rfl⟩:=recAt_iff.1 hj
   obtain⟨_,h2,rfl⟩:=recAt_iff.1 h
   rw[e]at h1;omega
  ·exact recs_distinct
def insR(r:Rc):List Rc→List Rc
 |[] =>[r]
 |x::l=>match decide (r.seq<x.seq)with
  |true=>r::x::l
  |false=>x::insR r l
def sortR(l:List Rc):List Rc:=l.foldl (fun acc r=>insR r acc) []
def ascR:List Rc→Prop
 |[] =>True
 |r::l=>(∀x∈l,r.seq≤x.seq)∧ascR l
theorem insR_perm(r:Rc):∀l:List Rc,(insR r l).Perm (r::l)
 |[] =>.refl _
 |x::l=>by
  unfold insR
  split
  ·exact .refl _
  ·exact((insR_perm r l).cons x).trans (List.Perm.swap r x l)
theorem insR_asc(r:Rc):∀l:List Rc,ascR l→ascR (insR r l)
 |[],_=>⟨fun x hx=>(by cases hx),trivial⟩
 |x::l,h=>by
  unfold insR
  split
  ·rename_i hd
   have hd:=of_decide_eq_true hd
   refine⟨fun y hy=>?_,h⟩
   rcases List.mem_cons.1 hy with rfl|hy
   ·omega
   ·have:=h.1 y hy;omega
  ·rename_i hd
   have hd:=of_decide_eq_false hd
   refine⟨fun y hy=>?_,insR_asc r l h.2⟩
   rcases List.mem_cons.1 ((insR_perm r l).mem_iff.1 hy)with rfl|hy
   ·omega
   ·exact h.1 y hy
theorem sort_perm(l:List Rc):(sortR l).Perm l:=by
 have:∀ (l acc:List Rc),(l.foldl (fun acc r=>insR r acc) acc).Perm (l.reverse++acc):=by
  intro l
  induction l with
  |nil=>intro acc;exact .refl _
  |cons x l ih=>
   intro acc
   rw[List.foldl_cons,List.reverse_cons,List.append_assoc]
   exact(ih (insR x acc)).trans ((insR_perm x acc).append_left l.reverse)
 have h:=this l []
 rw[List.append_nil]at h
 exact h.trans (List.reverse_perm l)
theorem sort_asc(l:List Rc):ascR (sortR l):=by
 have:∀ (l acc:List Rc),ascR acc→ascR (l.foldl (fun acc r=>insR r acc) acc):=by
  intro l
  induction l with
  |nil=>intro acc h;exact h
  |cons x l ih=>intro acc h;exact ih _ (insR_asc x acc h)
 exact this l [] trivial
theorem distinct_iff:∀{l:List Rc},distinct l↔(l.map (·.seq)).Nodup
 |[] =>by simp[distinct]
 |r::l=>by
  simp only[distinct,List.map_cons,List.nodup_cons,distinct_iff (l:=l),List.mem_map,not_exists,not_and]
theorem distinct_perm{a b:List Rc}(h:a.Perm b)(d:distinct a):distinct b:=distinct_iff.2 ((h.map _).nodup_iff.1 (distinct_iff.1 d))
theorem sorted_unique:∀{a b:List Rc},a.Perm b→ascR a→ascR b→distinct a→a=b
 |[],b,h,_,_,_=>(List.Perm.nil_eq h)
 |x::a,[],h,_,_,_=>absurd h.symm (by simp)
 |x::a,y::b,h,ha,hb,d=>by
  have hx:x∈y::b:=h.mem_iff.1 List.mem_cons_self
  have hy:y∈x::a:=h.mem_iff.2 List.mem_cons_self
  have e:x=y:=by
   rcases List.mem_cons.1 hx with e|hx
   ·exact e
   ·rcases List.mem_cons.1 hy with e|hy
    ·exact e.symm
    ·have h1:=ha.1 y hy
     have h2:=hb.1 x hx
     exact absurd (by omega) (d.1 y hy)
  subst e
  rw[sorted_unique h.cons_inv ha.2 hb.2 d.2]
theorem sort_of{l l':List Rc}(d:distinct l)(p:l'.Perm l)(h:ascR l'):l'=sortR l:=
 sorted_unique (p.trans (sort_perm l).symm) h (sort_asc l) (distinct_perm p.symm d)
theorem insR_at{r:Rc}:∀{a b:List Rc},ascR (a++b)→(∀x∈a,x.seq≤r.seq)→(∀x∈b,r.seq<x.seq)→insR r (a++b)=a++r::b
 |[],[],_,_,_=>rfl
 |[],y::b,_,_,h=>by
  show insR r (y::b)=_
  unfold insR
  rw[decide_eq_true (h y List.mem_cons_self)];rfl
 |x::a,b,h,h1,h2=>by
  show insR r (x::(a++b))=_
  unfold insR
  have:=h1 x List.mem_cons_self
  rw[decide_eq_false (by omega)]
  show x::insR r (a++b)=_
  rw[insR_at h.2 (fun y hy=>h1 y (List.mem_cons_of_mem _ hy)) h2];rfl
def wrE(f:Fl)(i:Int)(data:List UInt8):Int:=match hasB f i&&decide (data.length=64)with
 |false=>1
 |true=>match f.dead||f.fuse==1 with
  |true=>17
  |false=>0
def wrF(f:Fl)(i:Int)(data:List UInt8):Fl:=match hasB f i&&decide (data.length=64)&&!f.dead with
 |false=>f
 |true=>match f.fuse==1 with
  |true=>⟨f.pages.set i.toNat (data.take f.keep.toNat++(f.pages.getD i.toNat []).drop f.keep.toNat),0,true,0⟩
  |false=>⟨f.pages.set i.toNat data,if f.fuse-1>0 then f.fuse-1 else 0,f.dead,f.keep⟩
def allL(f:Fl):List Rc:=match flB f&&!f.dead with
 |true=>sortR (recsFrom f.pages.length 0 f.pages)
 |false=>[]
def lastO(f:Fl):Option Rc:=(allL f).getLast?
def lastSeq(f:Fl):Int:=match lastO f with
 |some r=>r.seq
 |none=>0
def apE(f:Fl)(r:Rc):Int:=match rcB r&&flB f with
 |false=>1
 |true=>match f.dead with
  |true=>17
  |false=>match r.seq==lastSeq f+1 with
   |false=>11
   |true=>wrE f (r.seq.tmod f.pages.length) (enc r)
def apF(f:Fl)(r:Rc):Fl:=match rcB r&&flB f&&!f.dead&&r.seq==lastSeq f+1 with
 |true=>wrF f (r.seq.tmod f.pages.length) (enc r)
 |false=>f
def nextR(f:Fl)(r:Rc):Rc:={r with seq:=lastSeq f+1}
def recE(f:Fl)(r:Rc):Int:=apE f (nextR f r)
def recF(f:Fl)(r:Rc):Fl:=apF f (nextR f r)
end Go.Proofs.YtnkaepnblikcdaaGreat
namespace Go.Sx
open Go.RowKit
theorem scall_lib {P : Program} {f : FuncId} {fn : Func} {args : List SV} {v : SV} (hd : dataL args = true) (hv : v.data = true) (hf : P.funcs[f]? = some fn) (hb : fn.body.isSome = true) (hn : (fn.name == "runtime.NumGoroutine") = false)
  (h:∀ (R:Nat→Prop) (w:World) (vs:List Value),(∀b,R b→b<w.heap.size)→Gnd w→RepL R (fun _=>(0,0,0)) 0 w args vs→
    Calls P f vs.toArray w fun e w'=>∃u,e=.returned u∧Below w.heap.size w w'∧Rep (fun b=>R b∨(w.heap.size≤b∧b<w'.heap.size)) (fun _=>(0,0,0)) 0 w' v u):SCall P f args v:=by
 intro m w0 R0 ρ w vs hm hvs
 obtain⟨body,hb⟩:=Option.isSome_iff_exists.1 hb
 rw[callFunc_enter hf hb hn]
 obtain⟨o1,o2⟩:=own_mem hm ρ
 have hvs':=RepL.data (R':=RO w0 R0 ρ w m) (ρ':=fun _=>(0,0,0)) (n':=0) (fun b hb=>hb) args vs hd hvs
 refine Calls.mono (h (RO w0 R0 ρ w m) w vs (fun b hb=>hm.ro_lt hb) hm.gnd hvs') fun e w' ⟨u,he,g1,g3⟩=>⟨u,he,?_⟩
 have g:MRel w (RS w0 R0 ρ w m) ρ w' ⟨0,.e⟩:=⟨⟨g1,hm.gnd⟩,fun id B h=>(by cases h),fun id B h=>(by cases h),fun id B h=>(by cases h),fun id id' B B' h=>(by cases h),fun id B h=>(by cases h),fun b hb=>⟨Nat.lt_of_lt_of_le (hm.ro_lt hb) g1.size,g1.block b (hm.ro_lt hb)⟩,fun id B h=>(by cases h)⟩
 have hst:=Hand.start hm g
 obtain⟨k1,k2⟩:=hst.finish hm g
 refine⟨ρ,k1,k2,Rep.data (fun b hb=>?_) v u hv g3⟩
 rcases hb with hb|hb
 ·exact hst.ro b (.inr (.inl ⟨hb,hm.ro_lt hb⟩))
 ·exact hst.ro b (.inr (.inr ⟨hb.1,hb.2,(fun id B h=>by cases h),fun hr=>by have:=hm.ro_lt hr;omega⟩))
end Go.Sx
namespace Go.Proofs.YtnkaepnblikcdaaGreat
open Go.Sx Go.RowKit Go.Lib
theorem t5_bytes:Tryz.t5.bytes=1:=by kernel_rfl
def padCells(w:World)(s:List UInt8)(k:Nat):Array Value:=
 ⟨s.map fun b=>Value.int .u8 b.toNat⟩++(Builtin.zeroCells #[Value.int .u8 0] k++Builtin.zeroCells #[Value.int .u8 0] (grownCap (bytesWorld w 5 ⟨⟨s⟩⟩) (s.length+k) s.length 5-(s.length+k)))
def padWorld(w:World)(s:List UInt8)(k:Nat):World:=((bytesWorld w 5 ⟨⟨s⟩⟩).alloc (.cells (padCells w s k) 5)).drew
theorem zeroCells_eq(k:Nat):Builtin.zeroCells #[Value.int .u8 0] k=⟨List.replicate k (.int .u8 0)⟩:=by
 unfold Builtin.zeroCells
 apply Array.ext
 ·simp
 ·intro i h1 h2
  simp[Nat.mod_one]
theorem pad_load(w:World)(s:List UInt8):(loadCellsFrom ⟨w.heap.size,0,none⟩ 0 s.length #[]).run Tryz.prog (bytesWorld w 5 ⟨⟨s⟩⟩).drew=.ok ⟨s.map fun b=>Value.int .u8 b.toNat⟩ (bytesWorld w 5 ⟨⟨s⟩⟩).drew:=by
 have h:=run_loadCells_list (P:=Tryz.prog) (bytesWorld w 5 ⟨⟨s⟩⟩).drew ⟨w.heap.size,0,none⟩ (s.map fun b=>Value.int .u8 b.toNat) (fun j v hj=>by
  have hj':j<s.length:=by
   have:=(List.getElem?_eq_some_iff.1 hj).1
   simpa using this
  have h1:(bytesWorld w 5 ⟨⟨s⟩⟩).drew.cell? ((⟨w.heap.size,0,none⟩:Addr).add j)=(bytesWorld w 5 ⟨⟨s⟩⟩).cell? ⟨w.heap.size,j,none⟩:=by rw[Addr.add_lit,Nat.zero_add];rfl
  rw[h1,bytesWorld_cell w 5 ⟨⟨s⟩⟩ j hj']
  rw[List.getElem?_map,List.getElem?_eq_getElem hj']at hj
  simp only[Option.map_some,Option.some.injEq]at hj
  rw[←hj]
  simp[List.getD_eq_getElem?_getD,List.getElem?_eq_getElem hj'])
 rw[List.length_map]at h
 exact h
theorem pad_conv(w:World)(s:List UInt8)(k:Nat)(cap:Nat):(convert 154 9 (.slice (some ⟨(bytesWorld w 5 ⟨⟨s⟩⟩).heap.size,0,none⟩) (s.length+k) cap)).run Tryz.prog (padWorld w s k)=.ok (.string ⟨⟨s++List.replicate k 0⟩⟩) (padWorld w s k):=by
 have h:=run_convert_bytes_back (P:=Tryz.prog) (padWorld w s k) 154 9 5 ⟨(bytesWorld w 5 ⟨⟨s⟩⟩).heap.size,0,none⟩ cap (s++List.replicate k 0) Tryz.underlying154 Tryz.underlying5 Tryz.underlying9 (fun j hj=>by
  rw[Addr.add_lit,Nat.zero_add]
  show((bytesWorld w 5 ⟨⟨s⟩⟩).alloc (.cells (padCells w s k) 5)).cell? _=_
  rw[World.cell?_alloc_mark]
  unfold padCells
  rw[zeroCells_eq,zeroCells_eq]
  by_cases h:j<s.length
  ·rw[Array.getElem?_append_left (by simpa using h),List.getElem_append_left h,←Array.getElem?_toList]
   simp[List.getElem?_eq_getElem h]
  ·rw[List.length_append,List.length_replicate]at hj
   rw[Array.getElem?_append_right (by simpa using h),Array.getElem?_append_left (by simp;omega),List.getElem_append_right (by omega),←Array.getElem?_toList]
   simp[List.getElem?_replicate];omega)
 rw[List.length_append,List.length_replicate]at h
 exact h
theorem pad_below(w:World)(s:List UInt8)(k:Nat):Below w.heap.size w (padWorld w s k):=by
 refine⟨rfl,rfl,rfl,?_,fun j hj=>?_⟩
 ·show w.heap.size≤((bytesWorld w 5 ⟨⟨s⟩⟩).heap.push _).size
  rw[Array.size_push,bytesWorld_size];omega
 ·show((bytesWorld w 5 ⟨⟨s⟩⟩).heap.push _)[j]? =_
  rw[Array.getElem?_push,if_neg (by rw[bytesWorld_size];omega)]
  exact bytesWorld_at_old w 5 _ j hj
set_option maxHeartbeats 4000000 in
theorem pad_walk(s:List UInt8)(k:Nat)(w:World)(h0:0<s.length)(hk:0<k)(hn:s.length+k≤65536):
  Calls Tryz.prog 301 #[.string ⟨⟨s⟩⟩,.int .i64 ((s.length+k:Nat):Int)] w fun e w'=>e=.returned (.tuple #[.string ⟨⟨s++List.replicate k 0⟩⟩,.int .i64 0])∧w'=padWorld w s k:=by
 obtain⟨n,hnn⟩:∃n,n=s.length+k:=⟨_,rfl⟩
 rw[←hnn]
 have h1:s.length<n:=by omega
 have h2:n≤65536:=by omega
 have hsub:(n:Int)-(s.length:Int)=(k:Int):=by omega
 have hN:Hid (n=s.length+k):=hnn
 have hk2:Hid (s.length+k≤65536):=hn
 clear hnn hn
 have hC2:Hid (s.length≤grownCap w s.length 0 5):=grownCap_ge _ _ _ _
 have hL:=pad_load w s
 have hV:=pad_conv w s k
 have hq:Hid (¬(281474976710656<Builtin.nextslicecap (s.length+k) s.length)):=by
  have:Builtin.nextslicecap (s.length+k) s.length*1≤281474976710656:=growslice_fits (by omega) (by have:=hk2.out;omega)
  show ¬_
  omega
 go_enter Tryz.func301,Tryz.ntmps301
 go_wp2
 rw[Lib.run_convert_string_bytes w 9 154 5 ⟨⟨s⟩⟩ Tryz.underlying9 Tryz.underlying154 Tryz.underlying5]
 simp only[Result.andThen]
 rw[Oper.upon_value]
 go_wp2
 ·rename_i h1 h2;exfalso;rw[t5_bytes]at h1;have:=hk2.out;omega
 ·rename_i h1 h2;exfalso;rw[t5_bytes]at h1;have:=hk2.out;omega
 ·rename_i h1 h2 h3 h4;exfalso;rw[t5_bytes]at h1;have:=hq.out;omega
 ·erw [hV]
  simp only[Result.andThen]
  rw[Oper.upon_value]
  go_wp2
  go_ret2
  exact⟨rfl,rfl⟩
theorem s_pad(s:List UInt8)(n:Int)(h0:0<s.length)(h:(s.length:Int)<n)(hn:n≤65536):SCall Tryz.prog 301 [.str s,I64 n] (.tuple [.str (padS s n),I64 0]):=by
 refine scall_lib (fn:=Tryz.f301) rfl rfl Tryz.func301 (by kernel_rfl) (by kernel_rfl) fun R w vs hR hg hvs=>?_
 obtain⟨u,us,rfl,h1,u2,us2,rfl,h2,h3⟩:=hvs
 rw[show us2=[]from h3,show u=_ from h1,show u2=_ from h2]
 obtain⟨k,hk⟩:∃k:Nat,n=((s.length+k:Nat):Int):=⟨(n-s.length).toNat,by omega⟩
 subst hk
 refine(pad_walk s k w h0 (by omega) (by omega)).mono fun e w' ⟨he,hw⟩=>⟨_,he,by rw[hw];exact pad_below w s k,?_⟩
 refine⟨_,rfl,_,_,rfl,?_,_,_,rfl,rfl,rfl⟩
 show Value.string _=Value.string _
 have:(((s.length+k:Nat):Int)-(s.length:Int)).toNat=k:=by omega
 simp only[padS,this]
def fPad:Fact:=⟨301,fun args=>match args with
 |[.str s,.int .i64 n] =>some (.req (decide (0<s.length)&& (decide ((s.length:Int)<n)&&decide (n≤65536))) (.leaf (.tuple [.str (padS s n),I64 0])))
 |_=>none⟩
theorem o_pad:fPad.ok Tryz.prog:=fun args t ht=>by
 simp only[fPad]at ht
 split at ht
 ·injection ht with ht;subst ht
  intro h
  simp only[Bool.and_eq_true,decide_eq_true_eq]at h
  exact s_pad _ _ h.1 h.2.1 h.2.2
 ·cases ht
open Go.Sx
def wrp_p:Plan:=.fork (.fork (.ln 3 (.lit .all)) (.ln 3 (.fork .all (.fork .all (.fork .all .all))))) (.fork (.ln 3 (.lit .all)) (.ln 3 (.fork .all (.fork .all (.fork .all .all)))))
noncomputable def wrp_t(f:Fl)(i:Int)(d:List UInt8):Tree Stop:= .node (f.pages.isEmpty) (.req (fewP f) (.node (!hasB f i) (.leaf (.done (.tuple [.agg [.list Ty.str [],.int .i64 f.fuse,.bool f.dead,.int .i64 f.keep],.int .i64 1]))) (.node ((↑d.length:Int) != 64) (.leaf (.done (.tuple [.agg [.list Ty.str [],.int .i64 f.fuse,.bool f.dead,.int .i64 f.keep],.int .i64 1]))) (.node (f.dead) (.leaf (.done (.tuple [.agg [.list Ty.str [],.int .i64 f.fuse,.bool f.dead,.int .i64 f.keep],.int .i64 17]))) (.req (decide (0≤i)&&decide (i< (↑f.pages.length:Int))) (.node (f.fuse==1) (.req (decide (0≤f.keep)&&decide (f.keep≤(↑d.length:Int))) (.req (decide ((List.map (fun b=>(↑b.toNat:Int)) (List.take f.keep.toNat d)).length≤(List.map (fun b=>(↑b.toNat:Int)) (f.pages.getD i.toNat ([] :List UInt8))).length)&&!(List.map (fun b=>(↑b.toNat:Int)) (f.pages.getD i.toNat ([] :List UInt8))).isEmpty) (.req (decide (0≤i)&&decide (i<0)) (.fail 6)))) (.req (decide ((List.map (fun b=>(↑b.toNat:Int)) d).length≤(List.map (fun b=>(↑b.toNat:Int)) (f.pages.getD i.toNat ([] :List UInt8))).length)&&!(List.map (fun b=>(↑b.toNat:Int)) (f.pages.getD i.toNat ([] :List UInt8))).isEmpty) (.req (decide (0≤i)&&decide (i<0)) (.fail 6))))))))) (.req (decide ((0+f.pages.length)*16≤140737488355328)) (.req (fewP f) (.node (!hasB f i) (.leaf (.done (.tuple [.agg [.list Ty.str f.pages,.int .i64 f.fuse,.bool f.dead,.int .i64 f.keep],.int .i64 1]))) (.node ((↑d.length:Int) != 64) (.leaf (.done (.tuple [.agg [.list Ty.str f.pages,.int .i64 f.fuse,.bool f.dead,.int .i64 f.keep],.int .i64 1]))) (.node (f.dead) (.leaf (.done (.tuple [.agg [.list Ty.str f.pages,.int .i64 f.fuse,.bool f.dead,.int .i64 f.keep],.int .i64 17]))) (.req (decide (0≤i)&&decide (i< (↑f.pages.length:Int))) (.node (f.fuse==1) (.req (decide (0≤f.keep)&&decide (f.keep≤(↑d.length:Int))) (.req (decide ((List.map (fun b=>(↑b.toNat:Int)) (List.take f.keep.toNat d)).length≤(List.map (fun b=>(↑b.toNat:Int)) (f.pages.getD i.toNat ([] :List UInt8))).length)&&!(List.map (fun b=>(↑b.toNat:Int)) (f.pages.getD i.toNat ([] :List UInt8))).isEmpty) (.req (decide (0≤i)&&decide (i< (↑f.pages.length:Int))) (.req (decide (i.toNat<f.pages.length)) (.leaf (.done (.tuple [.agg [.list Ty.str (f.pages.set i.toNat (List.map (fun n=>UInt8.ofNat (Int.toNat n)) (List.map (fun b=>(↑b.toNat:Int)) (List.take f.keep.toNat d)++List.drop (List.map (fun b=>(↑b.toNat:Int)) (List.take f.keep.toNat d)).length (List.map (fun b=>(↑b.toNat:Int)) (f.pages.getD i.toNat ([] :List UInt8)))))),.int .i64 0,.bool true,.int .i64 0],.int .i64 17]))))))) (.req (decide ((List.map (fun b=>(↑b.toNat:Int)) d).length≤(List.map (fun b=>(↑b.toNat:Int)) (f.pages.getD i.toNat ([] :List UInt8))).length)&&!(List.map (fun b=>(↑b.toNat:Int)) (f.pages.getD i.toNat ([] :List UInt8))).isEmpty) (.req (decide (0≤i)&&decide (i< (↑f.pages.length:Int))) (.req (decide (i.toNat<f.pages.length)) (.leaf (.done (.tuple [.agg [.list Ty.str (f.pages.set i.toNat (List.map (fun n=>UInt8.ofNat (Int.toNat n)) (List.map (fun b=>(↑b.toNat:Int)) d++List.drop (List.map (fun b=>(↑b.toNat:Int)) d).length (List.map (fun b=>(↑b.toNat:Int)) (f.pages.getD i.toNat ([] :List UInt8)))))),.int .i64 (if i64.wrap (f.fuse-1)>0 then i64.wrap (f.fuse-1)else 0),.bool f.dead,.int .i64 f.keep],.int .i64 0])))))))))))))
theorem wrp(f:Fl)(i:Int)(d:List UInt8):segR (Env.ofB Tryz.prog (sumOf [fHas]) (wrOf []) (pnOf []) (bxOf []) (rdOf []) (rdOf [130]) (rdOf []) (rdOf [])) 1000 (fnOf Tryz.prog 267) .str (keepS 65 []) (codeS Tryz.prog 267) wrp_p (startS Tryz.prog 267 [f.sv,I64 i,.str d]) [] =wrp_t f i d:=by kernel_rfl
def wrr_p:Plan:=.fork (.fork (.ln 12 (.lit .all)) (.lit (.lit (.fork (.ln 9 (.lit .all)) (.ln 5 (.fork (.ln 3 (.lit .all)) (.ln 3 (.fork .all (.fork .all (.fork .all .all)))))))))) (.fork (.ln 12 (.lit .all)) (.lit (.lit (.fork (.ln 9 (.lit .all)) (.ln 5 (.fork (.ln 3 (.lit .all)) (.ln 3 (.fork .all (.fork .all (.fork .all .all))))))))))
noncomputable def wrr_t(f:Fl)(i:Int)(d:List UInt8):Tree Stop:= .node (f.pages.isEmpty) (.req (fewP f) (.node (!flB f) (.leaf (.done (.tuple [.agg [.list Ty.str [],.int .i64 f.fuse,.bool f.dead,.int .i64 f.keep],.int .i64 1]))) (.node (decide (i<0)) (.leaf (.done (.tuple [.agg [.list Ty.str [],.int .i64 f.fuse,.bool f.dead,.int .i64 f.keep],.int .i64 1]))) (.node (decide (i≥(↑f.pages.length:Int))) (.leaf (.done (.tuple [.agg [.list Ty.str [],.int .i64 f.fuse,.bool f.dead,.int .i64 f.keep],.int .i64 1]))) (.node ((↑d.length:Int) != 64) (.leaf (.done (.tuple [.agg [.list Ty.str [],.int .i64 f.fuse,.bool f.dead,.int .i64 f.keep],.int .i64 1]))) (.node (f.dead) (.leaf (.done (.tuple [.agg [.list Ty.str [],.int .i64 f.fuse,.bool f.dead,.int .i64 f.keep],.int .i64 17]))) (.node (f.fuse==1) (.req (decide (0≤f.keep)&&decide (f.keep≤(↑d.length:Int))) (.req (decide (0≤i)&&decide (i< (↑f.pages.length:Int))) (.req (decide (0≤f.keep)&&decide (f.keep≤((List.length (f.pages.getD i.toNat ([] :List UInt8)):Nat):Int))) (.req (decide ((((List.take f.keep.toNat d).length+(List.drop f.keep.toNat (f.pages.getD i.toNat ([] :List UInt8))).length:Nat):Int)≤(9223372036854775807:Int))) (.req (decide (0≤i)&&decide (i<0)) (.fail 6)))))) (.req (decide (0≤i)&&decide (i<0)) (.fail 6))))))))) (.req (decide ((0+f.pages.length)*16≤140737488355328)) (.req (fewP f) (.node (!flB f) (.leaf (.done (.tuple [.agg [.list Ty.str f.pages,.int .i64 f.fuse,.bool f.dead,.int .i64 f.keep],.int .i64 1]))) (.node (decide (i<0)) (.leaf (.done (.tuple [.agg [.list Ty.str f.pages,.int .i64 f.fuse,.bool f.dead,.int .i64 f.keep],.int .i64 1]))) (.node (decide (i≥(↑f.pages.length:Int))) (.leaf (.done (.tuple [.agg [.list Ty.str f.pages,.int .i64 f.fuse,.bool f.dead,.int .i64 f.keep],.int .i64 1]))) (.node ((↑d.length:Int) != 64) (.leaf (.done (.tuple [.agg [.list Ty.str f.pages,.int .i64 f.fuse,.bool f.dead,.int .i64 f.keep],.int .i64 1]))) (.node (f.dead) (.leaf (.done (.tuple [.agg [.list Ty.str f.pages,.int .i64 f.fuse,.bool f.dead,.int .i64 f.keep],.int .i64 17]))) (.node (f.fuse==1) (.req (decide (0≤f.keep)&&decide (f.keep≤(↑d.length:Int))) (.req (decide (0≤i)&&decide (i< (↑f.pages.length:Int))) (.req (decide (0≤f.keep)&&decide (f.keep≤((List.length (f.pages.getD i.toNat ([] :List UInt8)):Nat):Int))) (.req (decide ((((List.take f.keep.toNat d).length+(List.drop f.keep.toNat (f.pages.getD i.toNat ([] :List UInt8))).length:Nat):Int)≤(9223372036854775807:Int))) (.req (decide (0≤i)&&decide (i< (↑f.pages.length:Int))) (.req (decide (i.toNat<f.pages.length)) (.leaf (.done (.tuple [.agg [.list Ty.str (f.pages.set i.toNat (List.take f.keep.toNat d++List.drop f.keep.toNat (f.pages.getD i.toNat ([] :List UInt8)))),.int .i64 0,.bool true,.int .i64 0],.int .i64 17]))))))))) (.req (decide (0≤i)&&decide (i< (↑f.pages.length:Int))) (.req (decide (i.toNat<f.pages.length)) (.leaf (.done (.tuple [.agg [.list Ty.str (f.pages.set i.toNat d),.int .i64 (if i64.wrap (f.fuse-1)>0 then i64.wrap (f.fuse-1)else 0),.bool f.dead,.int .i64 f.keep],.int .i64 0])))))))))))))
theorem wrr(f:Fl)(i:Int)(d:List UInt8):segR (Env.ofB Tryz.prog (sumOf [fFlBR]) (wrOf []) (pnOf []) (bxOf []) (rdOf []) (rdOf [131]) (rdOf []) (rdOf [])) 1000 (fnOf Tryz.prog 190) .str (keepS 69 []) (codeS Tryz.prog 190) wrr_p (startS Tryz.prog 190 [f.sv,I64 i,.str d]) [] =wrr_t f i d:=by kernel_rfl
open Go.Sx
def encP(r:Rc):List UInt8:=beN r.seq 6++beN r.kind 1++beN r.line 6++beN r.done 4++beN r.src.fst 4++beN r.src.snd.fst 4++beN r.src.snd.snd.fst 4++beN r.src.snd.snd.snd 4++beN r.dst.fst 4++beN r.dst.snd.fst 4++beN r.dst.snd.snd.fst 4++beN r.dst.snd.snd.snd 4
theorem encP_eq(r:Rc):encP r=encS r:=by simp only[encP,encS,List.append_assoc]
theorem s_enc(r:Rc):SCall Tryz.prog 266 [r.sv] (encV r):=
 scall_v mix [fRcB,fUi,fIi,fCrc,fPad] ⟨o_rcB,o_ui,o_ii,o_crc,o_pad,trivial⟩ 1000 (.fork (.all) (.go (.lit (.go (.lit (.go (.lit (.go (.lit (.go (.lit (.go (.lit (.go (.lit (.go (.lit (.go (.lit (.go (.lit (.go (.lit (.go (.lit (.go (.lit (.all))))))))))))))))))))))))))))
  (t:=let y0:=(9223372036854775807:Int);let y1:=encP r++beN ((crc (encP r):Nat):Int) 2;.node (!rcB r) (.leaf (.tuple [SV.str [],.int .i64 1])) (.req (inR r.seq 0 281474976710655) (.req (decide (((0+(beN r.seq 6).length:Nat):Int)≤y0)) (.req (inR r.kind 0 255) (.req (decide ((((beN r.seq 6).length+(beN r.kind 1).length:Nat):Int)≤y0)) (.req (inR r.line 0 281474976710655) (.req (decide ((((beN r.seq 6++beN r.kind 1).length+(beN r.line 6).length:Nat):Int)≤y0)) (.req (inR r.done 0 4294967295) (.req (decide ((((beN r.seq 6++beN r.kind 1++beN r.line 6).length+(beN r.done 4).length:Nat):Int)≤y0)) (.req true (.req (true) (.req (inR r.src.1 (-2147483648) 2147483647) (.req (decide ((((beN r.seq 6++beN r.kind 1++beN r.line 6++beN r.done 4).length+(beN r.src.1 4).length:Nat):Int)≤y0)) (.req true (.req (inR r.src.2.1 (-2147483648) 2147483647) (.req (decide ((((beN r.seq 6++beN r.kind 1++beN r.line 6++beN r.done 4++beN r.src.1 4).length+(beN r.src.2.1 4).length:Nat):Int)≤y0)) (.req true (.req (inR r.src.2.2.1 (-2147483648) 2147483647) (.req (decide ((((beN r.seq 6++beN r.kind 1++beN r.line 6++beN r.done 4++beN r.src.1 4++beN r.src.2.1 4).length+(beN r.src.2.2.1 4).length:Nat):Int)≤y0)) (.req true (.req (inR r.src.2.2.2 (-2147483648) 2147483647) (.req (decide ((((beN r.seq 6++beN r.kind 1++beN r.line 6++beN r.done 4++beN r.src.1 4++beN r.src.2.1 4++beN r.src.2.2.1 4).length+(beN r.src.2.2.2 4).length:Nat):Int)≤y0)) (.req true (.req (true) (.req (inR r.dst.1 (-2147483648) 2147483647) (.req (decide ((((beN r.seq 6++beN r.kind 1++beN r.line 6++beN r.done 4++beN r.src.1 4++beN r.src.2.1 4++beN r.src.2.2.1 4++beN r.src.2.2.2 4).length+(beN r.dst.1 4).length:Nat):Int)≤y0)) (.req true (.req (inR r.dst.2.1 (-2147483648) 2147483647) (.req (decide ((((beN r.seq 6++beN r.kind 1++beN r.line 6++beN r.done 4++beN r.src.1 4++beN r.src.2.1 4++beN r.src.2.2.1 4++beN r.src.2.2.2 4++beN r.dst.1 4).length+(beN r.dst.2.1 4).length:Nat):Int)≤y0)) (.req true (.req (inR r.dst.2.2.1 (-2147483648) 2147483647) (.req (decide ((((beN r.seq 6++beN r.kind 1++beN r.line 6++beN r.done 4++beN r.src.1 4++beN r.src.2.1 4++beN r.src.2.2.1 4++beN r.src.2.2.2 4++beN r.dst.1 4++beN r.dst.2.1 4).length+(beN r.dst.2.2.1 4).length:Nat):Int)≤y0)) (.req true (.req (inR r.dst.2.2.2 (-2147483648) 2147483647) (.req (decide ((((beN r.seq 6++beN r.kind 1++beN r.line 6++beN r.done 4++beN r.src.1 4++beN r.src.2.1 4++beN r.src.2.2.1 4++beN r.src.2.2.2 4++beN r.dst.1 4++beN r.dst.2.1 4++beN r.dst.2.2.1 4).length+(beN r.dst.2.2.2 4).length:Nat):Int)≤y0)) (.req (decide ((encP r).length≤100000)) (.req (inR ((crc (encP r):Nat):Int) 0 65535) (.req (decide ((((encP r).length+(beN ((crc (encP r):Nat):Int) 2).length:Nat):Int)≤y0)) (.req (decide (0<y1.length)&& (decide ((↑y1.length:Int)<58)&&true)) (.req (inR r.seq 0 281474976710655) (.req (decide ((((padS y1 58).length+(beN r.seq 6).length:Nat):Int)≤y0)) (.leaf (.tuple [SV.str (padS y1 58++beN r.seq 6),.int .i64 0])))))))))))))))))))))))))))))))))))))))))))
  (by kernel_rfl) (by
   unfold encV
   refine n_not (fun v=>by rw[v];rfl) fun v=>?_
   rw[v]
   have q:=rcB_iff.1 v
   have c:=crc_lt (encS r)
   have l:=encS_len r
   rw[encP_eq]
   have R:∀{x lo hi:Int},lo≤x→x≤hi→inR x lo hi=true:=fun a b=>inR_iff.2 ⟨a,b⟩
   have D:∀{x:Nat},x≤100000→decide (((x:Nat):Int)≤(9223372036854775807:Int))=true:=fun h=>decide_eq_true (by omega)
   have hl:∀n w,(beN n w).length=w:=beN_len
   have p58:(padS (encS r++beN ((crc (encS r):Nat):Int) 2) 58).length=58:=by
    simp only[padS,List.length_append,hl,l,List.length_replicate];omega
   refine n_req (R (by omega) (by omega)) ?_
   refine n_req (D (by simp only[List.length_append,hl,List.length_nil];omega)) ?_
   refine n_req (R (by omega) (by omega)) ?_
   refine n_req (D (by simp only[List.length_append,hl,List.length_nil];omega)) ?_
   refine n_req (R (by omega) (by omega)) ?_
   refine n_req (D (by simp only[List.length_append,hl,List.length_nil];omega)) ?_
   refine n_req (R (by omega) (by omega)) ?_
   refine n_req (D (by simp only[List.length_append,hl,List.length_nil];omega)) ?_
   refine n_req rfl ?_
   refine n_req rfl ?_
   refine n_req (R (by omega) (by omega)) ?_
   refine n_req (D (by simp only[List.length_append,hl,List.length_nil];omega)) ?_
   refine n_req rfl ?_
   refine n_req (R (by omega) (by omega)) ?_
   refine n_req (D (by simp only[List.length_append,hl,List.length_nil];omega)) ?_
   refine n_req rfl ?_
   refine n_req (R (by omega) (by omega)) ?_
   refine n_req (D (by simp only[List.length_append,hl,List.length_nil];omega)) ?_
   refine n_req rfl ?_
   refine n_req (R (by omega) (by omega)) ?_
   refine n_req (D (by simp only[List.length_append,hl,List.length_nil];omega)) ?_
   refine n_req rfl ?_
   refine n_req rfl ?_
   refine n_req (R (by omega) (by omega)) ?_
   refine n_req (D (by simp only[List.length_append,hl,List.length_nil];omega)) ?_
   refine n_req rfl ?_
   refine n_req (R (by omega) (by omega)) ?_
   refine n_req (D (by simp only[List.length_append,hl,List.length_nil];omega)) ?_
   refine n_req rfl ?_
   refine n_req (R (by omega) (by omega)) ?_
   refine n_req (D (by simp only[List.length_append,hl,List.length_nil];omega)) ?_
   refine n_req rfl ?_
   refine n_req (R (by omega) (by omega)) ?_
   refine n_req (D (by simp only[List.length_append,hl,List.length_nil];omega)) ?_
   refine n_req (decide_eq_true (by rw[l];omega)) ?_
   refine n_req (R (by omega) (by omega)) ?_
   refine n_req (D (by rw[l,hl];omega)) ?_
   refine n_req (by
    have e:(encS r++beN ((crc (encS r):Nat):Int) 2).length=51:=by rw[List.length_append,hl,l]
    rw[e];rfl) ?_
   refine n_req (R (by omega) (by omega)) ?_
   refine n_req (D (by rw[p58,hl];omega)) ?_
   rfl) (by kernel_rfl) (by exact encV_data r)
open Go.Sx
def nxu6_p:Plan:=.lit (.all)
noncomputable def nxu6_t(s:List UInt8)(a:Int):Tree StopX:= .req (decide (0≤a)&& (decide (a+6≤(↑s.length:Int))&&decide (s.length≤100000))) (.leaf (.fin (.ret (.int .i64 (tk s a.toNat 6)) [some (.cells [SV.str s,.int .i64 (a+6),.int .i64 6,SV.fn 282 [] []])])))
theorem nxu6(s:List UInt8)(a:Int):segX (Env.ofB Tryz.prog (sumOf [fTu,fTi]) (wrOf []) (pnOf []) (bxOf []) (rdOf []) (rdOf []) (rdOf []) (rdOf [])) 1000 (fnOf Tryz.prog 283) 1 (keepS 34 []) (codeS Tryz.prog 283) nxu6_p (startS Tryz.prog 283 [.ptr 0 0]) [some (.cells [.str s,I64 a,I64 6,.fn 282 [] []])] =nxu6_t s a:=by kernel_rfl
theorem b_nxu6(s:List UInt8)(a:Int)(h0:0≤a)(h1:a+6≤(s.length:Int))(h2:s.length≤100000):BCall Tryz.prog 283 [] (.cells [.str s,I64 a,I64 6,.fn 282 [] []]) (false,I64 (tk s a.toNat 6),.cells [.str s,I64 (a+6),I64 6,.fn 282 [] []]):=by
 refine bcall_one (r:=.ret (I64 (tk s a.toNat 6)) [some (.cells [.str s,I64 (a+6),I64 6,.fn 282 [] []])]) (by kernel_rfl) (runsX_seg (hB (l:=[fTu,fTi]) (k:=[]) (j:=[]) (i:=[]) ([] :List Nat) ([] :List Nat) ([] :List Nat) ([] :List Nat) (⟨o_tu,o_ti,trivial⟩) noneOk noneOk noneOk) (n:=1000) (keep:=(keepS 34 [])) (p:=nxu6_p) (Nat.le_refl _) ?_) rfl rfl rfl rfl rfl
 erw [nxu6 s a]
 unfold nxu6_t
 exact⟨by simp only[Bool.and_eq_true,decide_eq_true_eq];exact⟨h0,h1,h2⟩,rfl⟩
def nxu1_p:Plan:=.lit (.all)
noncomputable def nxu1_t(s:List UInt8)(a:Int):Tree StopX:= .req (decide (0≤a)&& (decide (a+1≤(↑s.length:Int))&&decide (s.length≤100000))) (.leaf (.fin (.ret (.int .i64 (tk s a.toNat 1)) [some (.cells [SV.str s,.int .i64 (a+1),.int .i64 1,SV.fn 282 [] []])])))
theorem nxu1(s:List UInt8)(a:Int):segX (Env.ofB Tryz.prog (sumOf [fTu,fTi]) (wrOf []) (pnOf []) (bxOf []) (rdOf []) (rdOf []) (rdOf []) (rdOf [])) 1000 (fnOf Tryz.prog 283) 1 (keepS 34 []) (codeS Tryz.prog 283) nxu1_p (startS Tryz.prog 283 [.ptr 0 0]) [some (.cells [.str s,I64 a,I64 1,.fn 282 [] []])] =nxu1_t s a:=by kernel_rfl
theorem b_nxu1(s:List UInt8)(a:Int)(h0:0≤a)(h1:a+1≤(s.length:Int))(h2:s.length≤100000):BCall Tryz.prog 283 [] (.cells [.str s,I64 a,I64 1,.fn 282 [] []]) (false,I64 (tk s a.toNat 1),.cells [.str s,I64 (a+1),I64 1,.fn 282 [] []]):=by
 refine bcall_one (r:=.ret (I64 (tk s a.toNat 1)) [some (.cells [.str s,I64 (a+1),I64 1,.fn 282 [] []])]) (by kernel_rfl) (runsX_seg (hB (l:=[fTu,fTi]) (k:=[]) (j:=[]) (i:=[]) ([] :List Nat) ([] :List Nat) ([] :List Nat) ([] :List Nat) (⟨o_tu,o_ti,trivial⟩) noneOk noneOk noneOk) (n:=1000) (keep:=(keepS 34 [])) (p:=nxu1_p) (Nat.le_refl _) ?_) rfl rfl rfl rfl rfl
 erw [nxu1 s a]
 unfold nxu1_t
 exact⟨by simp only[Bool.and_eq_true,decide_eq_true_eq];exact⟨h0,h1,h2⟩,rfl⟩
def nxu4_p:Plan:=.lit (.all)
noncomputable def nxu4_t(s:List UInt8)(a:Int):Tree StopX:= .req (decide (0≤a)&& (decide (a+4≤(↑s.length:Int))&&decide (s.length≤100000))) (.leaf (.fin (.ret (.int .i64 (tk s a.toNat 4)) [some (.cells [SV.str s,.int .i64 (a+4),.int .i64 4,SV.fn 282 [] []])])))
theorem nxu4(s:List UInt8)(a:Int):segX (Env.ofB Tryz.prog (sumOf [fTu,fTi]) (wrOf []) (pnOf []) (bxOf []) (rdOf []) (rdOf []) (rdOf []) (rdOf [])) 1000 (fnOf Tryz.prog 283) 1 (keepS 34 []) (codeS Tryz.prog 283) nxu4_p (startS Tryz.prog 283 [.ptr 0 0]) [some (.cells [.str s,I64 a,I64 4,.fn 282 [] []])] =nxu4_t s a:=by kernel_rfl
theorem b_nxu4(s:List UInt8)(a:Int)(h0:0≤a)(h1:a+4≤(s.length:Int))(h2:s.length≤100000):BCall Tryz.prog 283 [] (.cells [.str s,I64 a,I64 4,.fn 282 [] []]) (false,I64 (tk s a.toNat 4),.cells [.str s,I64 (a+4),I64 4,.fn 282 [] []]):=by
 refine bcall_one (r:=.ret (I64 (tk s a.toNat 4)) [some (.cells [.str s,I64 (a+4),I64 4,.fn 282 [] []])]) (by kernel_rfl) (runsX_seg (hB (l:=[fTu,fTi]) (k:=[]) (j:=[]) (i:=[]) ([] :List Nat) ([] :List Nat) ([] :List Nat) ([] :List Nat) (⟨o_tu,o_ti,trivial⟩) noneOk noneOk noneOk) (n:=1000) (keep:=(keepS 34 [])) (p:=nxu4_p) (Nat.le_refl _) ?_) rfl rfl rfl rfl rfl
 erw [nxu4 s a]
 unfold nxu4_t
 exact⟨by simp only[Bool.and_eq_true,decide_eq_true_eq];exact⟨h0,h1,h2⟩,rfl⟩
def nxi4_p:Plan:=.lit (.all)
noncomputable def nxi4_t(s:List UInt8)(a:Int):Tree StopX:= .req (decide (0≤a)&& (decide (a+4≤(↑s.length:Int))&&decide (s.length≤100000))) (.leaf (.fin (.ret (.int .i64 (sg (tk s a.toNat 4))) [some (.cells [SV.str s,.int .i64 (a+4),.int .i64 4,SV.fn 284 [] []])])))
theorem nxi4(s:List UInt8)(a:Int):segX (Env.ofB Tryz.prog (sumOf [fTu,fTi]) (wrOf []) (pnOf []) (bxOf []) (rdOf []) (rdOf []) (rdOf []) (rdOf [])) 1000 (fnOf Tryz.prog 283) 1 (keepS 34 []) (codeS Tryz.prog 283) nxi4_p (startS Tryz.prog 283 [.ptr 0 0]) [some (.cells [.str s,I64 a,I64 4,.fn 284 [] []])] =nxi4_t s a:=by kernel_rfl
theorem b_nxi4(s:List UInt8)(a:Int)(h0:0≤a)(h1:a+4≤(s.length:Int))(h2:s.length≤100000):BCall Tryz.prog 283 [] (.cells [.str s,I64 a,I64 4,.fn 284 [] []]) (false,I64 (sg (tk s a.toNat 4)),.cells [.str s,I64 (a+4),I64 4,.fn 284 [] []]):=by
 refine bcall_one (r:=.ret (I64 (sg (tk s a.toNat 4))) [some (.cells [.str s,I64 (a+4),I64 4,.fn 284 [] []])]) (by kernel_rfl) (runsX_seg (hB (l:=[fTu,fTi]) (k:=[]) (j:=[]) (i:=[]) ([] :List Nat) ([] :List Nat) ([] :List Nat) ([] :List Nat) (⟨o_tu,o_ti,trivial⟩) noneOk noneOk noneOk) (n:=1000) (keep:=(keepS 34 [])) (p:=nxi4_p) (Nat.le_refl _) ?_) rfl rfl rfl rfl rfl
 erw [nxi4 s a]
 unfold nxi4_t
 exact⟨by simp only[Bool.and_eq_true,decide_eq_true_eq];exact⟨h0,h1,h2⟩,rfl⟩
def bNext:BFact:=⟨283,fun args B=>match args with
 |[] =>match B with
  |.cells [.str s,.int .i64 a,.int .i64 w,.fn g [] []] =>match Nat.beq g 282 with
   |true=>match w==6 with
    |true=>some (.req (decide (0≤a)&& (decide (a+6≤(s.length:Int))&&decide (s.length≤100000))) (.leaf (false,I64 (tk s a.toNat 6),.cells [.str s,I64 (a+6),I64 6,.fn 282 [] []])))
    |false=>match w==1 with
     |true=>some (.req (decide (0≤a)&& (decide (a+1≤(s.length:Int))&&decide (s.length≤100000))) (.leaf (false,I64 (tk s a.toNat 1),.cells [.str s,I64 (a+1),I64 1,.fn 282 [] []])))
     |false=>match w==4 with
      |true=>some (.req (decide (0≤a)&& (decide (a+4≤(s.length:Int))&&decide (s.length≤100000))) (.leaf (false,I64 (tk s a.toNat 4),.cells [.str s,I64 (a+4),I64 4,.fn 282 [] []])))
      |false=>none
   |false=>match Nat.beq g 284 with
    |true=>match w==4 with
     |true=>some (.req (decide (0≤a)&& (decide (a+4≤(s.length:Int))&&decide (s.length≤100000))) (.leaf (false,I64 (sg (tk s a.toNat 4)),.cells [.str s,I64 (a+4),I64 4,.fn 284 [] []])))
     |false=>none
    |false=>none
  |_=>none
 |_=>none⟩
theorem o_next:bNext.ok Tryz.prog:=fun args B t ht=>by
 simp only[bNext]at ht
 split at ht
 ·split at ht
  ·rename_i s a w g
   have sp:∀{x:Int} {k:Nat},(decide (0≤a)&& (decide (a+x≤(s.length:Int))&&decide (s.length≤100000)))=true→0≤a∧a+x≤(s.length:Int)∧s.length≤100000:=fun h=>by simpa using h
   split at ht
   ·rename_i hg
    have hg:=Nat.eq_of_beq_eq_true hg
    subst hg
    split at ht
    ·rename_i hw
     have hw:=beq_iff_eq.1 hw
     subst hw
     injection ht with ht;subst ht
     intro h;obtain⟨h0,h1,h2⟩:=sp (k:=0) h;exact b_nxu6 s a h0 h1 h2
    ·split at ht
     ·rename_i hw
      have hw:=beq_iff_eq.1 hw
      subst hw
      injection ht with ht;subst ht
      intro h;obtain⟨h0,h1,h2⟩:=sp (k:=0) h;exact b_nxu1 s a h0 h1 h2
     ·split at ht
      ·rename_i hw
       have hw:=beq_iff_eq.1 hw
       subst hw
       injection ht with ht;subst ht
       intro h;obtain⟨h0,h1,h2⟩:=sp (k:=0) h;exact b_nxu4 s a h0 h1 h2
      ·cases ht
   ·split at ht
    ·rename_i hg
     have hg:=Nat.eq_of_beq_eq_true hg
     subst hg
     split at ht
     ·rename_i hw
      have hw:=beq_iff_eq.1 hw
      subst hw
      injection ht with ht;subst ht
      intro h;obtain⟨h0,h1,h2⟩:=sp (k:=0) h;exact b_nxi4 s a h0 h1 h2
     ·cases ht
    ·cases ht
  ·cases ht
 ·cases ht
def fEnc:Fact:=factRc 266 fun r=>.node (rcB r) (.leaf (.tuple [.str (enc r),I64 0])) (.leaf (.tuple [.str [],I64 1]))
theorem o_enc:fEnc.ok Tryz.prog:=factRc_ok fun r=>by
 have q:=s_enc r
 unfold encV at q
 exact⟨fun v=>by rw[v]at q;exact q,fun v=>by rw[v]at q;exact q⟩
open Go.Sx
theorem s_dec(s:List UInt8)(h:s.length≤100000):SCall Tryz.prog 255 [.str s] (decV s):=
 scall_vE (hB (l:=[fEnc]) (k:=[]) (j:=[BFact.toP bNext]) (i:=[bNext]) ([] :List Nat) ([] :List Nat) ([] :List Nat) ([] :List Nat) (⟨o_enc,trivial⟩) noneOk (allQ.all (p:=PFact.ok Tryz.prog) (l:=[BFact.toP bNext]) ⟨BFact.toP_ok o_next,trivial⟩) (allQ.all (p:=BFact.ok Tryz.prog) (l:=[bNext]) ⟨o_next,trivial⟩)) 1000 (.fork .all (.go (.lit (.go (.lit (.go (.lit (.go (.lit (.go (.lit (.go (.lit (.go (.lit (.go (.lit (.go (.lit (.go (.lit (.go (.lit (.go (.lit (.go (.lit (.fork (.ln 4 (.fork .all .all)) (.ln 4 (.lit .all))))))))))))))))))))))))))))))
  (t:=let y0:=s.length≤100000;let y1:=(↑s.length:Int);let y2:Tree SV:=.leaf (.tuple [.agg [.int .i64 0,.int .i64 0,.int .i64 0,.int .i64 0,.int .i64 0,.int .i64 0,.int .i64 0,.int .i64 0,.int .i64 0,.int .i64 0,.int .i64 0,.int .i64 0],.int .i64 19]);let y3:=Rc.mk (tk s 6 1) (tk s 0 6) (tk s 7 6) (tk s 13 4) (sg (tk s 17 4),sg (tk s 21 4),sg (tk s 25 4),sg (tk s 29 4)) (sg (tk s 33 4),sg (tk s 37 4),sg (tk s 41 4),sg (tk s 45 4));.node (decide (y1<64)) (.leaf (.tuple [.agg [.int .i64 0,.int .i64 0,.int .i64 0,.int .i64 0,.int .i64 0,.int .i64 0,.int .i64 0,.int .i64 0,.int .i64 0,.int .i64 0,.int .i64 0,.int .i64 0],.int .i64 6])) (.req (decide (6≤y1)&&decide y0) (.req (decide (7≤y1)&&decide y0) (.req (decide (13≤y1)&&decide y0) (.req (decide (17≤y1)&&decide y0) (.req true (.req (decide (21≤y1)&&decide y0) (.req (decide (21≤y1)&&decide y0) (.req true (.req (decide (25≤y1)&&decide y0) (.req (decide (25≤y1)&&decide y0) (.req true (.req (decide (29≤y1)&&decide y0) (.req (decide (29≤y1)&&decide y0) (.req true (.req (decide (33≤y1)&&decide y0) (.req (decide (33≤y1)&&decide y0) (.req true (.req (true) (.req (decide (37≤y1)&&decide y0) (.req (decide (37≤y1)&&decide y0) (.req true (.req (decide (41≤y1)&&decide y0) (.req (decide (41≤y1)&&decide y0) (.req true (.req (decide (45≤y1)&&decide y0) (.req (decide (45≤y1)&&decide y0) (.req true (.req (decide (49≤y1)&&decide y0) (.req (decide (49≤y1)&&decide y0) (.req true (.node (rcB y3) (.node (!enc y3==s) y2 (.leaf (.tuple [.agg [.int .i64 (tk s 6 1),.int .i64 (tk s 0 6),.int .i64 (tk s 7 6),.int .i64 (tk s 13 4),.int .i64 (sg (tk s 17 4)),.int .i64 (sg (tk s 21 4)),.int .i64 (sg (tk s 25 4)),.int .i64 (sg (tk s 29 4)),.int .i64 (sg (tk s 33 4)),.int .i64 (sg (tk s 37 4)),.int .i64 (sg (tk s 41 4)),.int .i64 (sg (tk s 45 4))],.int .i64 0]))) y2))))))))))))))))))))))))))))))))
  (by kernel_rfl) (by
   have qq:∀x:Int,x≤49→64≤s.length→(decide (x≤(s.length:Int))&&decide (s.length≤100000))=true:=fun x a b=>by simp;omega
   unfold decV
   refine n_dec (fun a=>?_) (fun a=>?_)
   ·rw[decide_eq_true (show s.length<64 by omega)];rfl
   ·rw[decide_eq_false (show ¬s.length<64 by omega)]
    have b:64≤s.length:=by omega
    have e:decB s=(rcB (decR s)&&s==enc (decR s)):=rfl
    refine n_req (qq _ (by decide) b) ?_
    refine n_req (qq _ (by decide) b) ?_
    refine n_req (qq _ (by decide) b) ?_
    refine n_req (qq _ (by decide) b) ?_
    refine n_req rfl ?_
    refine n_req (qq _ (by decide) b) ?_
    refine n_req (qq _ (by decide) b) ?_
    refine n_req rfl ?_
    refine n_req (qq _ (by decide) b) ?_
    refine n_req (qq _ (by decide) b) ?_
    refine n_req rfl ?_
    refine n_req (qq _ (by decide) b) ?_
    refine n_req (qq _ (by decide) b) ?_
    refine n_req rfl ?_
    refine n_req (qq _ (by decide) b) ?_
    refine n_req (qq _ (by decide) b) ?_
    refine n_req rfl ?_
    refine n_req rfl ?_
    refine n_req (qq _ (by decide) b) ?_
    refine n_req (qq _ (by decide) b) ?_
    refine n_req rfl ?_
    refine n_req (qq _ (by decide) b) ?_
    refine n_req (qq _ (by decide) b) ?_
    refine n_req rfl ?_
    refine n_req (qq _ (by decide) b) ?_
    refine n_req (qq _ (by decide) b) ?_
    refine n_req rfl ?_
    refine n_req (qq _ (by decide) b) ?_
    refine n_req (qq _ (by decide) b) ?_
    refine n_req rfl ?_
    refine n_bool (fun v=>?_) fun v=>?_
    ·have v:rcB (decR s)=true:=v
     refine n_not (fun w=>?_) fun w=>?_
     ·have w:(enc (decR s)==s)=false:=w
      have w:(s==enc (decR s))=false:=by
       rw[beq_eq_false_iff_ne]at w ⊢;exact fun h=>w h.symm
      rw[e,v,w];rfl
     ·have w:(enc (decR s)==s)=true:=w
      have w:(s==enc (decR s))=true:=by
       rw[beq_iff_eq]at w ⊢;exact w.symm
      rw[e,v,w];rfl
    ·have v:rcB (decR s)=false:=v
     rw[e,v];rfl) (by kernel_rfl) (by exact decV_data s)
open Go.Sx
def wrV(f:Fl)(i:Int)(d:List UInt8):SV:=.tuple [(wrF f i d).sv,I64 (wrE f i d)]
theorem wr_bad{f:Fl}{i:Int}{d:List UInt8}(h:hasB f i=false∨¬d.length=64):wrV f i d=.tuple [f.sv,I64 1] :=by
 have e:(hasB f i&&decide (d.length=64))=false:=by rcases h with h|h<;>simp[h]
 unfold wrV wrF wrE;rw[e];rfl
theorem wr_dead{f:Fl}{i:Int}{d:List UInt8}(h:hasB f i=true)(hd:d.length=64)(hf:f.dead=true):wrV f i d=.tuple [f.sv,I64 17] :=by
 unfold wrV wrF wrE;rw[h,hd,hf];rfl
theorem wr_torn{f:Fl}{i:Int}{d:List UInt8}(h:hasB f i=true)(hd:d.length=64)(hf:f.dead=false)(hu:f.fuse=1):wrV f i d=.tuple [.agg [.list .str (f.pages.set i.toNat (d.take f.keep.toNat++(f.pages.getD i.toNat []).drop f.keep.toNat)),I64 0,.bool true,I64 0],I64 17] :=by
 have e:(f.fuse==1)=true:=by simpa using hu
 unfold wrV wrF wrE;rw[h,hd,hf,e];rfl
theorem wr_ok{f:Fl}{i:Int}{d:List UInt8}(h:hasB f i=true)(hd:d.length=64)(hf:f.dead=false)(hu:¬f.fuse=1):wrV f i d=.tuple [.agg [.list .str (f.pages.set i.toNat d),I64 (if f.fuse-1>0 then f.fuse-1 else 0),.bool f.dead,I64 f.keep],I64 0] :=by
 have e:(f.fuse==1)=false:=by simpa using hu
 unfold wrV wrF wrE;rw[h,hd,hf,e];rfl
theorem u8_back(x:List UInt8):(x.map fun b=>(b.toNat:Int)).map (fun n=>UInt8.ofNat (Int.toNat n))=x:=by
 rw[List.map_map]
 exact(List.map_congr_left fun b _=>by simp).trans (List.map_id x)
theorem hasB_iff{f:Fl}{i:Int}:hasB f i=true↔flB f=true∧0≤i∧i≤(f.pages.length:Int)-1:=by simp only[hasB,Bool.and_eq_true,inR_iff]
theorem page_len{f:Fl}{i:Int}(h:hasB f i=true):(f.pages.getD i.toNat []).length=64∧0≤i∧i< (f.pages.length:Int)∧i.toNat<f.pages.length∧(0≤f.keep∧f.keep≤64)∧0≤f.fuse∧f.fuse≤1048576:=by
 obtain⟨h1,h2,h3⟩:=hasB_iff.1 h
 have fb:=flB_iff.1 h1
 have hi:i.toNat<f.pages.length:=by omega
 refine⟨?_,h2,by omega,hi,fb.2.2.2.2,fb.2.2.2.1⟩
 rw[List.getD_eq_getElem?_getD,List.getElem?_eq_getElem hi]
 exact fb.1 _ (List.getElem_mem hi)
theorem wrV_data(f:Fl)(i:Int)(d:List UInt8):(wrV f i d).data=true:=rfl
theorem kWr:Known Tryz.prog (Env.ofB Tryz.prog (sumOf [fHas]) (wrOf []) (pnOf []) (bxOf []) (rdOf []) (rdOf [130]) (rdOf []) (rdOf [])):=hB (l:=[fHas]) (k:=[]) (j:=[]) (i:=[]) [] [130] [] [] ⟨o_has,trivial⟩ noneOk noneOk noneOk
theorem kWrR:Known Tryz.prog (Env.ofB Tryz.prog (sumOf [fFlBR]) (wrOf []) (pnOf []) (bxOf []) (rdOf []) (rdOf [131]) (rdOf []) (rdOf [])):=hB (l:=[fFlBR]) (k:=[]) (j:=[]) (i:=[]) [] [131] [] [] ⟨o_flBR,trivial⟩ noneOk noneOk noneOk
theorem len64{d:List UInt8}:((d.length:Int)=64)↔d.length=64:=by omega
theorem none_has{f:Fl}{i:Int}(e:f.pages.isEmpty=true):hasB f i=false:=by
 have e:=List.isEmpty_iff.1 e
 rw[Bool.eq_false_iff]
 intro h
 have:=(page_len h).2.1
 have:=(page_len h).2.2.1
 rw[e]at this;simp at this;omega
theorem empty_sv{f:Fl}(e:f.pages.isEmpty=true):f.sv=.agg [.list .str [],I64 f.fuse,.bool f.dead,I64 f.keep] :=by
 have e:=List.isEmpty_iff.1 e
 show SV.agg f.cells=_
 unfold Fl.cells;rw[e];rfl
theorem s_wr(f:Fl)(i:Int)(d:List UInt8)(h:fewP f=true):SCall Tryz.prog 267 [f.sv,I64 i,.str d] (wrV f i d):=by
 have hl:f.pages.length≤1000:=of_decide_eq_true h
 refine scallR_loops rfl (wrV_data f i d) (by kernel_rfl) (runsR_seg kWr (n:=1000) (hint:=.str) (keep:=keepS 65 []) (p:=wrp_p) (boxes:=[]) (wrV_data f i d) ?_)
 have q:=wrp f i d
 unfold startS codeS at q
 erw [q]
 unfold wrp_t
 refine n_bool (fun e=>n_req h (n_not (fun b=>?_) fun b=>?_)) fun e=>n_req (decide_eq_true (by omega)) (n_req h (n_not (fun b=>?_) fun b=>n_ne (fun k=>?_) fun k=>n_bool (fun dd=>?_) fun dd=>n_req ?_ (n_eq (fun u=>n_req ?_ (n_req ?_ (n_req ?_ (n_req ?_ ?_)))) fun u=>n_req ?_ (n_req ?_ (n_req ?_ ?_)))))
 ·exact((wr_bad (.inl b)).trans (by rw[empty_sv e];rfl)).symm
 ·rw[none_has e]at b;cases b
 ·exact(wr_bad (.inl b)).symm
 ·exact(wr_bad (.inr fun k'=>k (len64.2 k'))).symm
 ·exact(wr_dead b (len64.1 k) dd).symm
 all_goals
  obtain⟨p1,p2,p3,p4,p5,p6⟩:=page_len b
  have k:=len64.1 k
 ·simp;omega
 ·simp[k];omega
 ·rw[List.length_map,List.length_map,List.length_take,p1]
  cases hp:f.pages.getD i.toNat ([] :List UInt8)with
  |nil=>rw[hp]at p1;simp at p1
  |cons x l=>simp;omega
 ·simp;omega
 ·exact decide_eq_true p4
 ·rw[←List.map_drop,←List.map_append,u8_back,List.length_map,List.length_take,k,show min f.keep.toNat 64=f.keep.toNat by omega]
  exact(wr_torn b k dd u).symm
 ·rw[List.length_map,List.length_map,p1,k]
  cases hp:f.pages.getD i.toNat ([] :List UInt8)with
  |nil=>rw[hp]at p1;simp at p1
  |cons x l=>simp
 ·simp;omega
 ·exact decide_eq_true p4
 ·rw[←List.map_drop,←List.map_append,u8_back,List.length_map,k,List.drop_eq_nil_of_le (Nat.le_of_eq p1),List.append_nil,w64 (by omega) (by omega)]
  exact(wr_ok b k dd u).symm
theorem s_wrR(f:Fl)(i:Int)(d:List UInt8)(h:fewP f=true)(hd:d.length≤100000):SCall Tryz.prog 190 [f.sv,I64 i,.str d] (wrV f i d):=by
 have hl:f.pages.length≤1000:=of_decide_eq_true h
 refine scallR_loops rfl (wrV_data f i d) (by kernel_rfl) (runsR_seg kWrR (n:=1000) (hint:=.str) (keep:=keepS 69 []) (p:=wrr_p) (boxes:=[]) (wrV_data f i d) ?_)
 have q:=wrr f i d
 unfold startS codeS at q
 erw [q]
 unfold wrr_t
 have nb:∀{x:Bool},flB f=x→(x=false∨i<0∨i≥(f.pages.length:Int))→hasB f i=false:=fun hx hy=>by
  rw[Bool.eq_false_iff]
  intro hh
  obtain⟨h1,h2,h3⟩:=hasB_iff.1 hh
  rw[h1]at hx;subst hx
  rcases hy with hy|hy|hy
  ·cases hy
  ·omega
  ·omega
 have yb:flB f=true→¬i<0→¬i≥(f.pages.length:Int)→hasB f i=true:=fun h1 h2 h3=>hasB_iff.2 ⟨h1,by omega,by omega⟩
 refine n_bool (fun e=>n_req h (n_not (fun b=>?_) fun b=>n_dec (fun b1=>?_) fun b1=>n_dec (fun b2=>?_) fun b2=>?_)) fun e=>n_req (decide_eq_true (by omega)) (n_req h (n_not (fun b=>?_) fun b=>n_dec (fun b1=>?_) fun b1=>n_dec (fun b2=>?_) fun b2=>n_ne (fun k=>?_) fun k=>n_bool (fun dd=>?_) fun dd=>(n_eq (fun u=>n_req ?_ (n_req ?_ (n_req ?_ (n_req ?_ (n_req ?_ (n_req ?_ ?_)))))) fun u=>n_req ?_ (n_req ?_ ?_))))
 ·exact((wr_bad (.inl (nb b (.inl rfl)))).trans (by rw[empty_sv e];rfl)).symm
 ·exact((wr_bad (.inl (nb b (.inr (.inl b1))))).trans (by rw[empty_sv e];rfl)).symm
 ·exact((wr_bad (.inl (nb b (.inr (.inr b2))))).trans (by rw[empty_sv e];rfl)).symm
 ·have:=none_has (i:=i) e
  rw[yb b b1 b2]at this;cases this
 ·exact(wr_bad (.inl (nb b (.inl rfl)))).symm
 ·exact(wr_bad (.inl (nb b (.inr (.inl b1))))).symm
 ·exact(wr_bad (.inl (nb b (.inr (.inr b2))))).symm
 ·exact(wr_bad (.inr fun k'=>k (len64.2 k'))).symm
 ·exact(wr_dead (yb b b1 b2) (len64.1 k) dd).symm
 all_goals
  have hb:=yb b b1 b2
  obtain⟨p1,p2,p3,p4,p5,p6⟩:=page_len hb
  have k:=len64.1 k
 ·simp[k];omega
 ·simp;omega
 ·rw[p1];simp;omega
 ·refine decide_eq_true ?_
  rw[List.length_take,List.length_drop,p1,k];omega
 ·simp;omega
 ·exact decide_eq_true p4
 ·exact(wr_torn hb k dd u).symm
 ·simp;omega
 ·exact decide_eq_true p4
 ·rw[w64 (by omega) (by omega)]
  exact(wr_ok hb k dd u).symm
def factFlIS(f:FuncId)(h:Fl→Int→List UInt8→Tree SV):Fact:=⟨f,fun args=>match args with
 |[.agg [.list .str p,.int .i64 a,.bool d,.int .i64 k],.int .i64 i,.str s] =>some (h ⟨p,a,d,k⟩ i s)
 |_=>none⟩
theorem factFlIS_ok{P:Program}{f:FuncId}{h:Fl→Int→List UInt8→Tree SV}(k:∀c i s,(h c i s).says (SCall P f [c.sv,I64 i,.str s])):(factFlIS f h).ok P:=fun args t ht=>by
 simp only[factFlIS]at ht
 split at ht
 ·injection ht with ht;subst ht;exact k ⟨_,_,_,_⟩ _ _
 ·cases ht
def fWr:Fact:=factFlIS 267 fun f i s=>.req (fewP f) (.leaf (wrV f i s))
theorem o_wr:fWr.ok Tryz.prog:=factFlIS_ok fun f i s h=>s_wr f i s h
def fWrR:Fact:=factFlIS 190 fun f i s=>.req (fewP f) (.req (decide (s.length≤100000)) (.leaf (wrV f i s)))
theorem o_wrR:fWrR.ok Tryz.prog:=factFlIS_ok fun f i s h hd=>s_wrR f i s h (of_decide_eq_true hd)
def decT(s:List UInt8):Tree SV:=.req (decide (s.length≤100000)) (.node (decide (s.length<64)) (.leaf (.tuple [rcZ.sv,I64 6])) (.node (decB s) (.leaf (.tuple [(decR s).sv,I64 0])) (.leaf (.tuple [rcZ.sv,I64 19]))))
theorem decT_says{P:Program}{g:FuncId}{s:List UInt8}(k:s.length≤100000→SCall P g [.str s] (decV s)):(decT s).says (SCall P g [.str s]):=fun h=>by
 have q:=k (of_decide_eq_true h)
 unfold decV at q
 exact⟨fun a=>by rw[a]at q;exact q,fun a=>⟨fun b=>by rw[a,b]at q;exact q,fun b=>by rw[a,b]at q;exact q⟩⟩
def fDec:Fact:=factS 255 decT
theorem o_dec:fDec.ok Tryz.prog:=factS_ok fun s=>decT_says (s_dec s)
def fDecR:Fact:=factS 263 decT
theorem o_decR:fDecR.ok Tryz.prog:=factS_ok fun s=>decT_says (s_decR s)
open Go.Sx
abbrev tyRc:Ty:=.pair (.int .i64) (.pair (.int .i64) (.pair (.int .i64) (.pair (.int .i64) (.pair (.pair (.int .i64) (.pair (.int .i64) (.pair (.int .i64) (.int .i64)))) (.pair (.int .i64) (.pair (.int .i64) (.pair (.int .i64) (.int .i64))))))))
abbrev RT:=Int×Int×Int×Int×V4×V4
def Rc.t(r:Rc):RT:=(r.kind,r.seq,r.line,r.done,r.src,r.dst)
def rcOf(x:RT):Rc:=⟨x.1,x.2.1,x.2.2.1,x.2.2.2.1,x.2.2.2.2.1,x.2.2.2.2.2⟩
theorem rcOf_t(r:Rc):rcOf r.t=r:=rfl
theorem t_rcOf(x:RT):(rcOf x).t=x:=rfl
theorem rcs_t(l:List Rc):(l.map Rc.t).map rcOf=l:=by rw[List.map_map];exact(List.map_congr_left fun x _=>rcOf_t x).trans (List.map_id l)
theorem t_rcs(l:List RT):(l.map rcOf).map Rc.t=l:=by rw[List.map_map];exact(List.map_congr_left fun x _=>t_rcOf x).trans (List.map_id l)
abbrev LR(l:List Rc):SV:=.list tyRc (l.map Rc.t)
def distB:List Rc→Bool
 |[] =>true
 |r::l=>(l.all fun x=>!(x.seq==r.seq))&&distB l
theorem distB_iff:∀{l:List Rc},distB l=true↔distinct l
 |[] =>by simp[distB,distinct]
 |r::l=>by simp[distB,distinct,distB_iff (l:=l)]
open Go.Sx
def ra0_p:Plan:=.fork (.lit (.lit (.lit .all))) (.lit (.lit (.fork .all .all)))
noncomputable def ra0_t(f:Fl):Tree Stop:= .req (fewP f) (.node (!flB f) (.leaf (.done (.list tyRc []))) (.node (f.dead) (.leaf (.done (.list tyRc []))) (.leaf (.at (loopOf Tryz.prog 196 0) 88 (slotsS 88 [(1,.ptr 0 0),(3,SV.nilS),(4,.int .i64 0),(7,SV.undef)]) [some (.cells f.cells)]))))
theorem ra0(f:Fl):segR (Env.of Tryz.prog (sumOf [fFlBR])) 1000 (fnOf Tryz.prog 196) tyRc (keepS 88 [1,3,4,7]) (codeS Tryz.prog 196) ra0_p (startS Tryz.prog 196 [f.sv]) [] =ra0_t f:=by kernel_rfl
def ra1_p:Plan:=.fork (.fork (.ln 9 (.lit .all)) (.fork (.ln 9 (.fork .all .all)) (.ln 9 (.lit .all)))) .all
noncomputable def ra1_t(f:Fl)(l:List RT)(i:Int):Tree Stop:= .node (decide (i< (↑f.pages.length:Int))) (.req (decide (0≤i)&&decide (i< (↑f.pages.length:Int))) (.req (decide (List.length (f.pages.getD i.toNat ([] :List UInt8))≤100000)) (.node (decide (List.length (f.pages.getD i.toNat ([] :List UInt8))<64)) (.leaf (.at (loopOf Tryz.prog 196 0) 88 (slotsS 88 [(1,.ptr 0 0),(3,SV.row 1),(4,.int .i64 (i64.wrap (i+1)))]) [some (.cells f.cells),some (.rows tyRc l)])) (.node (decB (f.pages.getD i.toNat ([] :List UInt8))) (.req (!(↑f.pages.length:Int)==0) (.node ((decR (f.pages.getD i.toNat ([] :List UInt8))).seq.tmod (↑f.pages.length:Int) != i) (.leaf (.at (loopOf Tryz.prog 196 0) 88 (slotsS 88 [(1,.ptr 0 0),(3,SV.row 1),(4,.int .i64 (i64.wrap (i+1)))]) [some (.cells f.cells),some (.rows tyRc l)])) (.req (decide ((l.length+ [(decR (f.pages.getD i.toNat ([] :List UInt8))).t].length)*96≤140737488355328)) (.leaf (.at (loopOf Tryz.prog 196 1) 88 (slotsS 88 [(1,.ptr 0 0),(3,SV.row 1),(4,.int .i64 i),(7,.int .i64 (i64.wrap ((↑(l++[(decR (f.pages.getD i.toNat ([] :List UInt8))).t]).length:Int)-1)))]) [some (.cells f.cells),some (.rows tyRc (l++[(decR (f.pages.getD i.toNat ([] :List UInt8))).t]))]))))) (.leaf (.at (loopOf Tryz.prog 196 0) 88 (slotsS 88 [(1,.ptr 0 0),(3,SV.row 1),(4,.int .i64 (i64.wrap (i+1)))]) [some (.cells f.cells),some (.rows tyRc l)])))))) (.leaf (.done (.list tyRc l)))
theorem ra1(f:Fl)(l:List RT)(i:Int):segR (Env.of Tryz.prog (sumOf [fDecR])) 1000 (fnOf Tryz.prog 196) tyRc (keepS 88 [1,3,4,7]) (loopOf Tryz.prog 196 0) ra1_p (slotsS 88 [(1,.ptr 0 0),(3,.row 1),(4,I64 i)]) [some (.cells f.cells),some (.rows tyRc l)] =ra1_t f l i:=by kernel_rfl
def ra2_p:Plan:=.fork (.ln 12 (.fork .all .all)) (.ln 12 (.lit .all))
noncomputable def ra2_t(f:Fl)(l:List RT)(i k:Int):Tree Stop:= .node (decide (k>0)) (.req (decide (0≤k)&&decide (k< (↑l.length:Int))) (.req (decide (k.toNat<l.length)) (.req (decide (0≤i64.wrap (k-1))&&decide (i64.wrap (k-1)< (↑l.length:Int))) (.req (decide ((i64.wrap (k-1)).toNat<l.length)) (.node (decide ((l.getD k.toNat rcZ.t).2.1< (l.getD (i64.wrap (k-1)).toNat rcZ.t).2.1)) (.req (decide (0≤k)&&decide (k< (↑l.length:Int))) (.req (decide (k.toNat<l.length)) (.req (decide (0≤i64.wrap (k-1))&&decide (i64.wrap (k-1)< (↑l.length:Int))) (.req (decide ((i64.wrap (k-1)).toNat<l.length)) (.req (decide (0≤k)&&decide (k< (↑l.length:Int))) (.req (decide (k.toNat<l.length)) (.req (decide (0≤i64.wrap (k-1))&&decide (i64.wrap (k-1)< (↑(l.set k.toNat (l.getD (i64.wrap (k-1)).toNat rcZ.t)).length:Int))) (.req (decide ((i64.wrap (k-1)).toNat< (l.set k.toNat (l.getD (i64.wrap (k-1)).toNat rcZ.t)).length)) (.leaf (.at (loopOf Tryz.prog 196 1) 88 (slotsS 88 [(1,.ptr 0 0),(3,SV.row 1),(4,.int .i64 i),(7,.int .i64 (i64.wrap (k-1)))]) [some (.cells f.cells),some (.rows tyRc ((l.set k.toNat (l.getD (i64.wrap (k-1)).toNat rcZ.t)).set (i64.wrap (k-1)).toNat (l.getD k.toNat rcZ.t)))])))))))))) (.leaf (.at (loopOf Tryz.prog 196 0) 88 (slotsS 88 [(1,.ptr 0 0),(3,SV.row 1),(4,.int .i64 (i64.wrap (i+1))),(7,.int .i64 k)]) [some (.cells f.cells),some (.rows tyRc l)]))))))) (.leaf (.at (loopOf Tryz.prog 196 0) 88 (slotsS 88 [(1,.ptr 0 0),(3,SV.row 1),(4,.int .i64 (i64.wrap (i+1))),(7,.int .i64 k)]) [some (.cells f.cells),some (.rows tyRc l)]))
theorem ra2(f:Fl)(l:List RT)(i k:Int):segR (Env.of Tryz.prog (sumOf [])) 1000 (fnOf Tryz.prog 196) tyRc (keepS 88 [1,3,4,7]) (loopOf Tryz.prog 196 1) ra2_p (slotsS 88 [(1,.ptr 0 0),(3,.row 1),(4,I64 i),(7,I64 k)]) [some (.cells f.cells),some (.rows tyRc l)] =ra2_t f l i k:=by kernel_rfl
open Go.Sx
theorem kDecR:Known Tryz.prog (Env.of Tryz.prog (sumOf [fDecR])):=kW (l:=[fDecR]) ⟨o_decR,trivial⟩
theorem kFlBR:Known Tryz.prog (Env.of Tryz.prog (sumOf [fFlBR])):=kW (l:=[fFlBR]) ⟨o_flBR,trivial⟩
abbrev slA(i:Int):List SV:=slotsS 88 [(1,.ptr 0 0),(3,.row 1),(4,I64 i)]
abbrev bxA(f:Fl)(l:List Rc):List (Option Box):=[some (.cells f.cells),some (.rows tyRc (l.map Rc.t))]
theorem map_getD{l:List Rc}{i:Nat}(h:i<l.length):(l.map Rc.t).getD i rcZ.t=(l.getD i rcZ).t:=by
 rw[List.getD_eq_getElem?_getD,List.getElem?_map,List.getD_eq_getElem?_getD,List.getElem?_eq_getElem h];rfl
theorem set_at{α:Type}:∀ (A:List α) (x y:α) (B:List α),(A++x::B).set A.length y=A++y::B
 |[],_,_,_=>rfl
 |a::A,x,y,B=>congrArg (a::·) (set_at A x y B)
theorem forget7{f:Fl}{v:SV}{l:List Rc}{i k:Int}(h:RunsR Tryz.prog (fnOf Tryz.prog 196) v (loopOf Tryz.prog 196 0) (slA i) (bxA f l)):RunsR Tryz.prog (fnOf Tryz.prog 196) v (loopOf Tryz.prog 196 0) (slotsS 88 [(1,.ptr 0 0),(3,.row 1),(4,I64 i),(7,I64 k)]) (bxA f l):=by
 have e:slotsS 88 [(1,.ptr 0 0),(3,.row 1),(4,I64 i),(7,.top)] =slA i:=rfl
 rw[←e]at h
 exact runsR_weak false [] (slots':=slotsS 88 [(1,.ptr 0 0),(3,.row 1),(4,I64 i),(7,.top)]) (boxes':=bxA f l) (slotsS_wk ⟨rfl,.same _,rfl,.same _,rfl,.same _,rfl,.top _,trivial⟩) ⟨by simp,.same _,by simp,.same _,rfl⟩ h
theorem ra_inner(f:Fl)(v:SV)(hv:v.data=true)(r:Rc)(i:Int)(hi:0≤i∧i≤1000):∀ (n:Nat) (A B:List Rc),A.length=n→n≤1000→ascR (A++B)→(∀x∈B,r.seq<x.seq)→
  RunsR Tryz.prog (fnOf Tryz.prog 196) v (loopOf Tryz.prog 196 0) (slA (i+1)) (bxA f (insR r (A++B)))→
  RunsR Tryz.prog (fnOf Tryz.prog 196) v (loopOf Tryz.prog 196 1) (slotsS 88 [(1,.ptr 0 0),(3,.row 1),(4,I64 i),(7,I64 n)]) (bxA f (A++r::B))
 |n,A,B,hn,hl,ha,hb,h=>by
  have w1:i64.wrap (i+1)=i+1:=w64 (by omega) (by omega)
  refine runsR_seg k000 (n:=1000) (hint:=tyRc) (keep:=keepS 88 [1,3,4,7]) (p:=ra2_p) hv ?_
  erw [ra2 f ((A++r::B).map Rc.t) i n]
  unfold ra2_t
  rw[w1]
  match n,hn with
  |0,hn=>
   have:A=[] :=List.length_eq_zero_iff.1 hn
   subst this
   refine n_dec (fun k=>absurd k (by omega)) fun _=>⟨slotsS_len _ _,forget7 ?_⟩
   have e:insR r ([] ++B)=[] ++r::B:=insR_at (a:=[]) (b:=B) ha (fun x hx=>by cases hx) hb
   rw[e]at h;exact h
  |m+1,hn=>
   obtain⟨A',x,rfl⟩:∃A' x,A=A'++[x] :=⟨A.dropLast,A.getLast (by intro e;rw[e]at hn;cases hn),(List.dropLast_concat_getLast _).symm⟩
   have hA:A'.length=m:=by simpa using hn
   have w2:i64.wrap (((m+1:Nat):Int)-1)=(m:Int):=by rw[w64 (by omega) (by omega)];omega
   have t1:(((m+1:Nat):Int)).toNat=m+1:=by omega
   have t2:((m:Int)).toNat=m:=by omega
   have len:(A'++[x] ++r::B).length=m+1+1+B.length:=by simp[hA];omega
   have g1:(A'++[x] ++r::B).getD (m+1) rcZ=r:=by
    rw[List.getD_eq_getElem?_getD,List.getElem?_append_right (by simp;omega)];simp[hA]
   have g2:(A'++[x] ++r::B).getD m rcZ=x:=by
    rw[List.append_assoc,List.getD_eq_getElem?_getD,List.getElem?_append_right (by omega)];simp[hA]
   have G:∀j,j< (A'++[x] ++r::B).length→((A'++[x] ++r::B).map Rc.t).getD j rcZ.t=((A'++[x] ++r::B).getD j rcZ).t:=fun j hj=>map_getD hj
   have L:((A'++[x] ++r::B).map Rc.t).length=m+1+1+B.length:=by rw[List.length_map,len]
   rw[w2,t1,t2,G _ (by omega),G _ (by omega),g1,g2]
   have sets:(((A'++[x] ++r::B).map Rc.t).set (m+1) x.t).set m r.t=(A'++r::(x::B)).map Rc.t:=by
    rw[←List.map_set,←List.map_set]
    congr 1
    have e1:=set_at (A'++[x]) r x B
    rw[show(A'++[x]).length=m+1 by simp[hA]]at e1
    have e2:=set_at A' x r (x::B)
    rw[hA]at e2
    rw[e1,show A'++[x] ++x::B=A'++x::x::B by simp,e2]
   have q:∀b:Nat,b<m+1+1+B.length→(decide (0≤((b:Nat):Int))&&decide (((b:Nat):Int)< (((A'++[x] ++r::B).map Rc.t).length:Int)))=true:=fun b hb=>by rw[L];simp;omega
   have q2:∀b:Nat,b<m+1+1+B.length→decide (b< ((A'++[x] ++r::B).map Rc.t).length)=true:=fun b hb=>decide_eq_true (by rw[L];exact hb)
   refine n_dec (fun _=>n_req (q _ (by omega)) (n_req (q2 _ (by omega)) (n_req (q _ (by omega)) (n_req (q2 _ (by omega)) (n_dec (fun c=>?_) fun c=>?_))))) fun k=>absurd (by omega) k
   ·refine n_req (q _ (by omega)) (n_req (q2 _ (by omega)) (n_req (q _ (by omega)) (n_req (q2 _ (by omega)) (n_req (q _ (by omega)) (n_req (q2 _ (by omega)) (n_req ?_ (n_req ?_ ⟨slotsS_len _ _,?_⟩)))))))
    ·rw[List.length_set];exact q _ (by omega)
    ·rw[List.length_set];exact q2 _ (by omega)
    ·rw[sets]
     refine ra_inner f v hv r i hi m A' (x::B) hA (by omega) (by simpa using ha) (fun y hy=>?_) (by simpa using h)
     rcases List.mem_cons.1 hy with rfl|hy
     ·exact c
     ·exact hb y hy
   ·refine⟨slotsS_len _ _,forget7 ?_⟩
    have le:∀y∈A'++[x],y.seq≤r.seq:=fun y hy=>by
     have c':¬r.seq<x.seq:=c
     have asc:∀ (a b:List Rc),ascR (a++b)→∀y∈a,∀z∈b,y.seq≤z.seq:=by
      intro a b
      induction a with
      |nil=>intro _ y hy;cases hy
      |cons w a ih=>
       intro h y hy z hz
       rcases List.mem_cons.1 hy with rfl|hy
       ·exact h.1 z (List.mem_append_right _ hz)
       ·exact ih h.2 y hy z hz
     rcases List.mem_append.1 hy with hy|hy
     ·have:=asc A' ([x] ++B) (by simpa using ha) y hy x (by simp)
      omega
     ·rcases List.mem_cons.1 hy with rfl|hy
      ·omega
      ·cases hy
    rw[insR_at ha le hb]at h
    exact h
def allFrom(n:Int)(acc:List Rc)(i:Nat)(l:List (List UInt8)):List Rc:=(recsFrom n i l).foldl (fun acc r=>insR r acc) acc
theorem allFrom_none{n:Int}{acc:List Rc}{i:Nat}{s:List UInt8}{l:List (List UInt8)}(h:recAt n i s=none):allFrom n acc i (s::l)=allFrom n acc (i+1) l:=by
 unfold allFrom;rw[recs_cons,h]
theorem allFrom_some{n:Int}{acc:List Rc}{i:Nat}{s:List UInt8}{l:List (List UInt8)}{r:Rc}(h:recAt n i s=some r):allFrom n acc i (s::l)=allFrom n (insR r acc) (i+1) l:=by
 unfold allFrom;rw[recs_cons,h];rfl
theorem ra_outer(f:Fl)(hl:f.pages.length≤1000)(hp:∀p∈f.pages,p.length=64):∀ (k i:Nat) (acc L:List Rc),i+k=f.pages.length→ascR acc→acc.length≤i→L=allFrom f.pages.length acc i (f.pages.drop i)→
  RunsR Tryz.prog (fnOf Tryz.prog 196) (LR L) (loopOf Tryz.prog 196 0) (slA i) (bxA f acc)
 |k,i,acc,L,hi,ha,hn,hL=>by
  have w1:i64.wrap ((i:Int)+1)=(i:Int)+1:=w64 (by omega) (by omega)
  have t0:(i:Int).toNat=i:=by omega
  refine runsR_seg kDecR (n:=1000) (hint:=tyRc) (keep:=keepS 88 [1,3,4,7]) (p:=ra1_p) rfl ?_
  erw [ra1 f (acc.map Rc.t) i]
  unfold ra1_t
  rw[w1,t0]
  match k,hi with
  |0,hi=>
   refine n_dec (fun a=>absurd a (by omega)) fun _=>?_
   have z:f.pages.drop i=[] :=List.drop_eq_nil_of_le (by omega)
   rw[z]at hL
   have hL:L=acc:=hL
   subst hL
   rfl
  |k+1,hi=>
   have hip:i<f.pages.length:=by omega
   have p64:(f.pages.getD i ([] :List UInt8)).length=64:=by
    rw[List.getD_eq_getElem?_getD,List.getElem?_eq_getElem hip];exact hp _ (List.getElem_mem hip)
   rw[drop_getD (d:=([] :List UInt8)) hip]at hL
   have nx:((i:Int)+1)=((i+1:Nat):Int):=by omega
   have skip:recAt f.pages.length i (f.pages.getD i ([] :List UInt8))=none→RunsR Tryz.prog (fnOf Tryz.prog 196) (LR L) (loopOf Tryz.prog 196 0) (slA ((i:Int)+1)) (bxA f acc):=fun e=>by
    rw[allFrom_none e]at hL
    rw[nx]
    exact ra_outer f hl hp k (i+1) acc L (by omega) ha (by omega) hL
   have nz:(!(((f.pages.length:Nat):Int)==0))=true:=by
    rw[Bool.not_eq_true',beq_eq_false_iff_ne];omega
   refine n_dec (fun _=>n_req (by simp;omega) (n_req (decide_eq_true (by rw[p64];omega)) (n_dec (fun c=>absurd c (by rw[p64];omega)) fun _=>n_bool (fun b=>n_req nz (n_ne (fun c=>?_) fun c=>n_req (decide_eq_true ?_) ?_)) fun b=>?_))) fun a=>absurd (by omega) a
   ·refine⟨slotsS_len _ _,skip ?_⟩
    cases e:recAt f.pages.length i (f.pages.getD i ([] :List UInt8))with
    |none=>rfl
    |some r=>exact absurd (recAt_iff.1 e).2.1 c
   ·rw[List.length_map]
    show(acc.length+1)*96≤_
    omega
   ·have e:recAt f.pages.length i (f.pages.getD i ([] :List UInt8))=some (decR (f.pages.getD i ([] :List UInt8))):=recAt_iff.2 ⟨b,c,rfl⟩
    rw[allFrom_some e]at hL
    have el:(acc.map Rc.t)++[(decR (f.pages.getD i ([] :List UInt8))).t] =(acc++decR (f.pages.getD i ([] :List UInt8))::[]).map Rc.t:=by rw[List.map_append];rfl
    have len:(((acc.map Rc.t++[(decR (f.pages.getD i ([] :List UInt8))).t]).length:Nat):Int)-1=(acc.length:Int):=by
     rw[List.length_append,List.length_map];show(((acc.length+1:Nat)):Int)-1=_;omega
    rw[len,w64 (by omega) (by omega),el]
    refine⟨slotsS_len _ _,?_⟩
    refine ra_inner f (LR L) rfl (decR (f.pages.getD i ([] :List UInt8))) i (by omega) acc.length acc [] rfl (by omega) (by rw[List.append_nil];exact ha) (fun x hx=>by cases hx) ?_
    rw[List.append_nil,nx]
    refine ra_outer f hl hp k (i+1) (insR (decR (f.pages.getD i ([] :List UInt8))) acc) L (by omega) (insR_asc _ _ ha) ?_ hL
    rw[(insR_perm _ acc).length_eq,List.length_cons];omega
   ·refine⟨slotsS_len _ _,skip ?_⟩
    cases e:recAt f.pages.length i (f.pages.getD i ([] :List UInt8))with
    |none=>rfl
    |some r=>have:=(recAt_iff.1 e).1;rw[this]at b;cases b
theorem s_allR(f:Fl)(h:fewP f=true):SCall Tryz.prog 196 [f.sv] (LR (allL f)):=by
 have hl:f.pages.length≤1000:=of_decide_eq_true h
 refine scallR_loops rfl rfl (by kernel_rfl) (runsR_seg kFlBR (n:=1000) (hint:=tyRc) (keep:=keepS 88 [1,3,4,7]) (p:=ra0_p) (boxes:=[]) rfl ?_)
 have q:=ra0 f
 unfold startS codeS at q
 erw [q]
 unfold ra0_t
 refine n_req h (n_not (fun b=>?_) fun b=>n_bool (fun d=>?_) fun d=>⟨slotsS_len _ _,?_⟩)
 ·have:allL f=[] :=by unfold allL;rw[b];rfl
  rw[this];rfl
 ·have:allL f=[] :=by unfold allL;rw[b,d];rfl
  rw[this];rfl
 ·have e:allL f=allFrom f.pages.length [] 0 (f.pages.drop 0):=by unfold allL;rw[b,d];rfl
  have r:=ra_outer f hl (flB_iff.1 b).1 f.pages.length 0 [] (allL f) (by omega) trivial (Nat.le_refl _) e
  exact runsR_weak true [] (slots':=slotsS 88 [(1,.ptr 0 0),(3,.row 1),(4,I64 0),(7,.top)]) (boxes':=bxA f []) (slotsS_wk ⟨rfl,.same _,rfl,.nil rfl,rfl,.same _,rfl,.top _,trivial⟩) ⟨by simp,.same _,trivial⟩ r
def fAllR:Fact:=factFl 196 fun f=>.req (fewP f) (.leaf (LR (allL f)))
theorem o_allR:fAllR.ok Tryz.prog:=factFl_ok fun f h=>s_allR f h
open Go.Sx
def lastR(f:Fl):Rc:=(lastO f).getD rcZ
def lastV(f:Fl):SV:=.tuple [(lastR f).sv,.bool (lastO f).isSome]
def apV(f:Fl)(r:Rc):SV:=.tuple [(apF f r).sv,I64 (apE f r)]
theorem lastSeq_R(f:Fl):lastSeq f=(lastR f).seq:=by unfold lastSeq lastR;cases lastO f<;>rfl
def factFlRc(g:FuncId)(h:Fl→Rc→Tree SV):Fact:=⟨g,fun args=>match args with
 |[.agg [.list .str p,.int .i64 a,.bool d,.int .i64 k],.agg [.int .i64 r0,.int .i64 r1,.int .i64 r2,.int .i64 r3,.int .i64 p0,.int .i64 p1,.int .i64 p2,.int .i64 p3,.int .i64 q0,.int .i64 q1,.int .i64 q2,.int .i64 q3]] =>some (h ⟨p,a,d,k⟩ ⟨r0,r1,r2,r3,(p0,p1,p2,p3),(q0,q1,q2,q3)⟩)
 |_=>none⟩
theorem factFlRc_ok{P:Program}{g:FuncId}{h:Fl→Rc→Tree SV}(k:∀c r,(h c r).says (SCall P g [c.sv,r.sv])):(factFlRc g h).ok P:=fun args t ht=>by
 simp only[factFlRc]at ht
 split at ht
 ·injection ht with ht;subst ht;exact k ⟨_,_,_,_⟩ ⟨_,_,_,_,(_,_,_,_),(_,_,_,_)⟩
 ·cases ht
def fLast:Fact:=factFl 103 fun f=>.req (fewP f) (.leaf (lastV f))
def fLastR:Fact:=factFl 110 fun f=>.req (fewP f) (.leaf (lastV f))
def fAp:Fact:=factFlRc 202 fun f r=>.req (fewP f) (.leaf (apV f r))
def fApR:Fact:=factFlRc 101 fun f r=>.req (fewP f) (.leaf (apV f r))
theorem recs_len{n:Int}:∀{l:List (List UInt8)} {i:Nat},(recsFrom n i l).length≤l.length
 |[],i=>Nat.le_refl _
 |s::l,i=>by
  have:=@recs_len n l (i+1)
  rw[recs_cons]
  split<;>simp<;>omega
theorem allL_len(f:Fl):(allL f).length≤f.pages.length:=by
 unfold allL
 split
 ·rw[(sort_perm _).length_eq];exact recs_len
 ·simp
theorem allL_mem{f:Fl}{r:Rc}(h:r∈allL f):rcB r=true:=by
 unfold allL at h
 split at h
 ·obtain⟨j,_,hj⟩:=mem_recs.1 ((sort_perm _).mem_iff.1 h)
  obtain⟨h1,_,rfl⟩:=recAt_iff.1 hj
  exact(decB_iff.1 h1).1
 ·cases h
theorem lastR_rng(f:Fl):0≤(lastR f).seq∧(lastR f).seq≤1099511627776:=by
 unfold lastR
 cases h:lastO f with
 |none=>exact⟨Int.le_refl _,by decide⟩
 |some r=>
  have:=rcB_iff.1 (allL_mem (List.mem_of_getLast? h))
  exact⟨by show 0≤r.seq;omega,this.2.1.2⟩
theorem lastV_none{f:Fl}(h:allL f=[]):lastV f=.tuple [rcZ.sv,.bool false] :=by
 unfold lastV lastR lastO;rw[h];rfl
theorem lastV_some{f:Fl}{A:List Rc}{x:Rc}(h:allL f=A++[x]):lastV f=.tuple [x.sv,.bool true] :=by
 unfold lastV lastR lastO;rw[h,List.getLast?_concat];rfl
theorem apV_arg{f:Fl}{r:Rc}(h:rcB r=false∨flB f=false):apV f r=.tuple [f.sv,I64 1] :=by
 have e:(rcB r&&flB f)=false:=by rcases h with h|h<;>simp[h]
 unfold apV apF apE;rw[e];rfl
theorem apV_dead{f:Fl}{r:Rc}(h:rcB r=true)(k:flB f=true)(d:f.dead=true):apV f r=.tuple [f.sv,I64 17] :=by
 unfold apV apF apE;rw[h,k,d];rfl
theorem apV_order{f:Fl}{r:Rc}(h:rcB r=true)(k:flB f=true)(d:f.dead=false)(s:¬r.seq=lastSeq f+1):apV f r=.tuple [f.sv,I64 11] :=by
 have e:(r.seq==lastSeq f+1)=false:=by simpa using s
 unfold apV apF apE;rw[h,k,d,e];rfl
theorem apV_ok{f:Fl}{r:Rc}(h:rcB r=true)(k:flB f=true)(d:f.dead=false)(s:r.seq=lastSeq f+1):apV f r=wrV f (r.seq.tmod f.pages.length) (enc r):=by
 have e:(r.seq==lastSeq f+1)=true:=by simpa using s
 unfold apV apF apE wrV;rw[h,k,d,e];rfl
theorem s_lastR(f:Fl)(h:fewP f=true):SCall Tryz.prog 110 [f.sv] (lastV f):=
 scall_v mix [fAllR] ⟨o_allR,trivial⟩ 1000 (.fork (.all) (.all))
  (t:=let y1:=(↑(List.map Rc.t (allL f)).length:Int);let y0:=(List.map Rc.t (allL f)).getD (i64.wrap (y1-1)).toNat rcZ.t;.req (fewP f) (.node (y1==0) (.leaf (.tuple [.agg [.int .i64 0,.int .i64 0,.int .i64 0,.int .i64 0,.int .i64 0,.int .i64 0,.int .i64 0,.int .i64 0,.int .i64 0,.int .i64 0,.int .i64 0,.int .i64 0],.bool false])) (.req (decide (0≤i64.wrap (y1-1))&&decide (i64.wrap (y1-1)<y1)) (.leaf (.tuple [.agg [.int .i64 y0.1,.int .i64 y0.2.1,.int .i64 y0.2.2.1,.int .i64 y0.2.2.2.1,.int .i64 y0.2.2.2.2.1.1,.int .i64 y0.2.2.2.2.1.2.1,.int .i64 y0.2.2.2.2.1.2.2.1,.int .i64 y0.2.2.2.2.1.2.2.2,.int .i64 y0.2.2.2.2.2.1,.int .i64 y0.2.2.2.2.2.2.1,.int .i64 y0.2.2.2.2.2.2.2.1,.int .i64 y0.2.2.2.2.2.2.2.2],.bool true])))))
  (by kernel_rfl) (by
   refine n_req h (n_eq (fun e=>?_) fun e=>?_)
   ·have e:allL f=[] :=by
     rw[List.length_map]at e
     exact List.eq_nil_of_length_eq_zero (by omega)
    rw[lastV_none e];rfl
   ·have hl:f.pages.length≤1000:=of_decide_eq_true h
    have len:=allL_len f
    rw[List.length_map]at e ⊢
    have w:i64.wrap (((allL f).length:Int)-1)=((allL f).length:Int)-1:=w64 (by omega) (by omega)
    rw[w]
    obtain⟨A,x,hA⟩:∃A x,allL f=A++[x] :=⟨(allL f).dropLast,(allL f).getLast (by intro k;rw[k]at e;exact e rfl),(List.dropLast_concat_getLast _).symm⟩
    have g:((allL f).map Rc.t).getD (((allL f).length:Int)-1).toNat rcZ.t=x.t:=by
     rw[map_getD (by omega),hA]
     have:((((A++[x]).length:Nat):Int)-1).toNat=A.length:=by simp
     rw[this,List.getD_eq_getElem?_getD,List.getElem?_append_right (Nat.le_refl _)];simp
    rw[g,lastV_some hA]
    exact n_req (by simp;omega) rfl) (by kernel_rfl) (by kernel_rfl)
theorem o_lastR:fLastR.ok Tryz.prog:=factFl_ok fun f h=>s_lastR f h
theorem s_apR(f:Fl)(r:Rc)(h:fewP f=true):SCall Tryz.prog 101 [f.sv,r.sv] (apV f r):=
 scall_v mix [fEncR,fFlBR,fLastR,fWrR] ⟨o_encR,o_flBR,o_lastR,o_wrR,trivial⟩ 1000 (.fork (.ln 4 (.fork .all (.fork .all (.fork .all .all)))) (.ln 4 (.lit .all)))
  (t:=.node (rcB r) (.req (fewP f) (.node (!flB f) (.leaf (.tuple [.agg f.cells,.int .i64 1])) (.node (f.dead) (.leaf (.tuple [.agg f.cells,.int .i64 17])) (.req (fewP f) (.node (r.seq != i64.wrap ((lastR f).seq+1)) (.leaf (.tuple [.agg f.cells,.int .i64 11])) (.req (!(↑f.pages.length:Int)==0) (.req (fewP f) (.req (decide ((enc r).length≤100000)) (.leaf (.tuple [.agg [.list Ty.str (wrF f (r.seq.tmod (↑f.pages.length:Int)) (enc r)).pages,.int .i64 (wrF f (r.seq.tmod (↑f.pages.length:Int)) (enc r)).fuse,.bool (wrF f (r.seq.tmod (↑f.pages.length:Int)) (enc r)).dead,.int .i64 (wrF f (r.seq.tmod (↑f.pages.length:Int)) (enc r)).keep],.int .i64 (wrE f (r.seq.tmod (↑f.pages.length:Int)) (enc r))])))))))))) (.leaf (.tuple [.agg f.cells,.int .i64 1])))
  (by kernel_rfl) (by
   have w:i64.wrap ((lastR f).seq+1)=lastSeq f+1:=by rw[lastSeq_R,w64 (by have:=lastR_rng f;omega) (by have:=lastR_rng f;omega)]
   rw[w]
   refine n_bool (fun a=>n_req h (n_not (fun b=>(apV_arg (.inr b)).symm) fun b=>n_bool (fun d=>(apV_dead a b d).symm) fun d=>n_req h (n_ne (fun s=>(apV_order a b d s).symm) fun s=>n_req ?_ (n_req h (n_req (by rw[enc_len];rfl) ?_))))) fun a=>(apV_arg (.inl a)).symm
   ·have:=(flB_iff.1 b).2.1
    rw[Bool.not_eq_true',beq_eq_false_iff_ne];omega
   ·rw[apV_ok a b d s];rfl) (by kernel_rfl) (by kernel_rfl)
theorem o_apR:fApR.ok Tryz.prog:=factFlRc_ok fun f r h=>s_apR f r h
open Go.Sx
def recV(f:Fl)(r:Rc):SV:=.tuple [(recF f r).sv,.bool (recE f r==0)]
def fRecR:Fact:=factFlRc 121 fun f r=>.req (fewP f) (.leaf (recV f r))
theorem s_recR(f:Fl)(r:Rc)(h:fewP f=true):SCall Tryz.prog 121 [f.sv,r.sv] (recV f r):=
 scall_v mix [fLastR,fApR] ⟨o_lastR,o_apR,trivial⟩ 1000 (.fork (.all) (.all))
  (t:=let y0:=Rc.mk r.kind (i64.wrap ((lastR f).seq+1)) r.line r.done r.src r.dst;let y1:=Rc.mk r.kind 1 r.line r.done r.src r.dst;.req (fewP f) (.node ((lastO f).isSome) (.req (fewP f) (.leaf (.tuple [.agg [.list Ty.str (apF f y0).pages,.int .i64 (apF f y0).fuse,.bool (apF f y0).dead,.int .i64 (apF f y0).keep],.bool (apE f y0==0)]))) (.req (fewP f) (.leaf (.tuple [.agg [.list Ty.str (apF f y1).pages,.int .i64 (apF f y1).fuse,.bool (apF f y1).dead,.int .i64 (apF f y1).keep],.bool (apE f y1==0)])))))
  (by kernel_rfl) (by
   have w:i64.wrap ((lastR f).seq+1)=lastSeq f+1:=by rw[lastSeq_R,w64 (by have:=lastR_rng f;omega) (by have:=lastR_rng f;omega)]
   have e0:(lastO f).isSome=false→Rc.mk r.kind 1 r.line r.done r.src r.dst=nextR f r:=fun k=>by
    have:lastO f=none:=by cases q:lastO f with
     |none=>rfl
     |some x=>rw[q]at k;cases k
    unfold nextR lastSeq;rw[this];rfl
   refine n_req h (n_bool (fun k=>n_req h ?_) fun k=>n_req h ?_)
   ·rw[w];rfl
   ·rw[e0 k];rfl) (by kernel_rfl) (by kernel_rfl)
def rcX_p:Plan:=.fork (.all) (.all)
noncomputable def rcX_t(f:Fl)(r:Rc):Tree StopX:= .req (fewP f) (.req (fewP f) (.node (apE f (Rc.mk r.kind (i64.wrap ((lastR f).seq+1)) r.line r.done r.src r.dst) != 0) (.leaf (.fin (.pan (SV.raw (Value.iface 200 (Value.agg (Array.mk [])))) [some (.cells [.list Ty.str (apF f (Rc.mk r.kind (i64.wrap ((lastR f).seq+1)) r.line r.done r.src r.dst)).pages,.int .i64 (apF f (Rc.mk r.kind (i64.wrap ((lastR f).seq+1)) r.line r.done r.src r.dst)).fuse,.bool (apF f (Rc.mk r.kind (i64.wrap ((lastR f).seq+1)) r.line r.done r.src r.dst)).dead,.int .i64 (apF f (Rc.mk r.kind (i64.wrap ((lastR f).seq+1)) r.line r.done r.src r.dst)).keep])]))) (.leaf (.fin (.ret (.tuple []) [some (.cells [.list Ty.str (apF f (Rc.mk r.kind (i64.wrap ((lastR f).seq+1)) r.line r.done r.src r.dst)).pages,.int .i64 (apF f (Rc.mk r.kind (i64.wrap ((lastR f).seq+1)) r.line r.done r.src r.dst)).fuse,.bool (apF f (Rc.mk r.kind (i64.wrap ((lastR f).seq+1)) r.line r.done r.src r.dst)).dead,.int .i64 (apF f (Rc.mk r.kind (i64.wrap ((lastR f).seq+1)) r.line r.done r.src r.dst)).keep])])))))
theorem rcX(f:Fl)(r:Rc):segX (Env.ofB Tryz.prog (sumOf [fLast,fAp]) (wrOf []) (pnOf []) (bxOf []) (rdOf []) (rdOf []) (rdOf []) (rdOf [])) 1000 (fnOf Tryz.prog 119) 1 (keepS 37 []) (codeS Tryz.prog 119) rcX_p (startS Tryz.prog 119 [.ptr 0 0,r.sv]) [some (.cells f.cells)] =rcX_t f r:=by kernel_rfl
abbrev failS:SV:=.raw (.iface 200 (.agg (Array.mk [])))
def bRec:BFact:=⟨119,fun args B=>match args with
 |[.agg [.int .i64 r0,.int .i64 r1,.int .i64 r2,.int .i64 r3,.int .i64 p0,.int .i64 p1,.int .i64 p2,.int .i64 p3,.int .i64 q0,.int .i64 q1,.int .i64 q2,.int .i64 q3]] =>match B with
  |.cells [.list .str p,.int .i64 a,.bool d,.int .i64 k] =>some (.req (fewP ⟨p,a,d,k⟩) (.node (recE ⟨p,a,d,k⟩ ⟨r0,r1,r2,r3,(p0,p1,p2,p3),(q0,q1,q2,q3)⟩==0)
    (.leaf (false,.tuple [],.cells (recF ⟨p,a,d,k⟩ ⟨r0,r1,r2,r3,(p0,p1,p2,p3),(q0,q1,q2,q3)⟩).cells))
    (.leaf (true,failS,.cells (recF ⟨p,a,d,k⟩ ⟨r0,r1,r2,r3,(p0,p1,p2,p3),(q0,q1,q2,q3)⟩).cells))))
  |_=>none
 |_=>none⟩
theorem o_recR:fRecR.ok Tryz.prog:=factFlRc_ok fun f r h=>s_recR f r h
end Go.Proofs.YtnkaepnblikcdaaGreat
namespace Go.Sx
open Go.RowKit
theorem says_of{β:Type}{Φ:β→Prop}:∀ (t:Tree β),(∀x,t.holds (fun y=>y=x)→Φ x)→t.says Φ
 |.leaf a,h=>h a rfl
 |.node b t f,h=>⟨fun hb=>says_of t fun x hx=>h x ⟨fun _=>hx,fun hb'=>by rw[hb]at hb';cases hb'⟩,fun hb=>says_of f fun x hx=>h x ⟨fun hb'=>(by rw[hb]at hb';cases hb'),fun _=>hx⟩⟩
 |.req b t,h=>fun hb=>says_of t fun x hx=>h x ⟨hb,hx⟩
 |.fail _,_=>trivial
noncomputable def goS(E:Env)(n:Nat)(f:FuncId)(args:List SV)(m:Mem):Tree Ex:=
 match E.fn f with
 |some fn=>match fn.body with
  | some body => match fn.name == "runtime.NumGoroutine" with
    |false=>Fr.make fn.ntmps args fun fr=>exec E n [.code body] .all fr m fun o=>match o with
     |.ret _ fr m=>results E fn m fr fun v=>.leaf (.ok v m)
     |.pan v _ m=>.leaf (.pan v m)
     |.stop _ _ _=>.fail 200
    |true=>.fail 143
  |none=>.fail 144
 |none=>.fail 145
noncomputable def goP(E:Env)(n:Nat)(f:FuncId):PFact:=⟨f,fun args m=>some (goS E n f args m)⟩
theorem goP_ok{P:Program}{E:Env}(hK:Known P E)(n:Nat)(f:FuncId):(goP E n f).ok P:=by
 intro args m t ht
 injection ht with ht
 subst ht
 refine says_of _ fun x h=>?_
 unfold goS at h
 split at h
 ·rename_i fn hfn
  have hf:=hK.e.fn f fn hfn
  split at h
  ·rename_i body hb
   split at h
   ·rename_i hn
    obtain⟨fr,h1,h2,h3,h4⟩:=make_holds h
    obtain⟨out,h5,h6⟩:=exec_ok hK.e hK.s hK.mix n _ _ _ _ _ _ h1
    cases out with
    |stop it fr' m'=>exact h5.elim
    |ret p' fr' mc=>
     dsimp only at h5
     obtain⟨v',h7,h8⟩:=results_holds hK.e h5
     have h7:Ex.ok v' mc=x:=h7
     subst h7
     intro w0 R0 ρ w vs hm hvs
     show OpPost P _ ((Go.callFunc f vs.toArray).run P w)
     rw[callFunc_enter hf hb hn]
     exact calls_of_reach hf hb h6 h8 hm (frame_rel h2 h3 h4 hvs)
    |pan v' fr' mc=>
     have h5:Ex.pan v' mc=x:=h5
     subst h5
     intro w0 R0 ρ w vs hm hvs
     show PanPost P _ ((Go.callFunc f vs.toArray).run P w)
     rw[callFunc_enter hf hb hn]
     have hfr:=frame_rel h2 h3 h4 hvs
     intro cs
     let b:Frame:={ (default:Frame)with fn:=f,kind:=.normal}
     have henter:Frame.enter P f vs.toArray .normal=b.at {tmps:=vs.toArray++Array.replicate (fn.ntmps-vs.toArray.size) Go.undef,defers:=[]} [.code body] :=by
      simp[Frame.enter,Frame.at,hf,hb,b]
     obtain⟨ρ',w',a',todo,u,g1,g2,g3,g4⟩:=h6 w0 R0 ρ w {tmps:=vs.toArray++Array.replicate (fn.ntmps-vs.toArray.size) Go.undef,defers:=[]} ⟨hm,hfr,rfl⟩ b cs
     exact⟨.panicked [{v:=u,recovered:=false}],w',_,⟨u,rfl,ρ',g1.1,g2,g3⟩,by rw[henter];exact g4,rfl,rfl,g1.2.2,_,hf⟩
   ·exact h.elim
  ·exact h.elim
 ·exact h.elim
def isDef(d:Tmp)(c:Call):Bool:=match c.callee with
 |.value g=>match g with
  |.tmp t=>Nat.beq t d&&c.args.toList.isEmpty
  |_=>false
 |_=>false
def layOf(ops:List Oper):Option (Tmp×FuncId×List Operand):=match ops with
 |[o1,o2] =>match o1.guard,o2.guard,o2.dst with
  |none,none,none=>match o1.dst with
   |some d=>match o1.op with
    |.makeFunc (.func g) first cap=>match o2.op with
     |.defer c=>match first.toList.isEmpty&&isDef d c with
      |true=>some (d,g,cap.toList)
      |false=>none
     |_=>none
    |_=>none
   |none=>none
  |_,_,_=>none
 |_=>none
theorem layOf_spec{ops:List Oper}{x:Tmp×FuncId×List Operand}(h:layOf ops=some x):∃o1 o2 cap c,ops=[o1,o2] ∧o1.op=.makeFunc (.func x.2.1) #[] cap∧o1.guard=none∧o1.dst=some x.1∧o2.op=.defer c∧c.callee=.value (.tmp x.1)∧c.args=#[] ∧o2.guard=none∧o2.dst=none∧cap.toList=x.2.2:=by
 unfold layOf at h
 split at h
 ·rename_i o1 o2
  split at h
  ·rename_i g1 g2 g3
   split at h
   ·rename_i d hd
    split at h
    ·rename_i g first cap hop
     split at h
     ·rename_i c hc
      split at h
      ·rename_i hb
       injection h with h
       subst h
       rw[Bool.and_eq_true]at hb
       have e1:first=#[] :=by
        have:=hb.1
        apply Array.ext'
        simpa using this
       subst e1
       have h2:=hb.2
       unfold isDef at h2
       split at h2
       ·rename_i g' hg'
        split at h2
        ·rename_i t
         rw[Bool.and_eq_true]at h2
         have e2:=Nat.eq_of_beq_eq_true h2.1
         subst e2
         refine⟨o1,o2,cap,c,rfl,hop,g1,hd,hc,hg',?_,g2,g3,rfl⟩
         apply Array.ext'
         simpa using h2.2
        ·cases h2
       ·cases h2
      ·cases h
     ·cases h
    ·cases h
   ·cases h
  ·cases h
 ·cases h
def recOf(ops:List Oper):Option Tmp:=match ops with
 |o::_=>match o.guard with
  |none=>match o.op with
   |.call c=>match c.callee with
    |.builtin .recover=>o.dst
    |_=>none
   |_=>none
  |some _=>none
 |[] =>none
theorem recOf_spec{P:Program}{ops:List Oper}{d:Tmp}(h:recOf ops=some d):∃o rest,ops=o::rest∧o.guard=none∧o.dst=some d∧∀ev w,(Go.execOp ev o).run P w=.ok .recover w:=by
 unfold recOf at h
 split at h
 ·rename_i o rest
  split at h
  ·rename_i hg
   split at h
   ·rename_i c hop
    split at h
    ·rename_i hc
     refine⟨o,rest,rfl,hg,h,fun ev w=>?_⟩
     obtain⟨dst,op,ty,pos,after,guard⟩:=o
     dsimp only at hop
     subst hop
     simp[Go.execOp,resolve,invoke,builtin,hc]
    ·cases h
   ·cases h
  ·cases h
 ·cases h
section
variable {α:Type}
noncomputable def recS(Ec Eb:Env)(n:Nat)(g:FuncId)(caps:List SV)(hand:SV)(m:Mem)(k:Mem→Tree α):Tree α:=
 match Eb.fn g with
 |some fg=>match fg.body with
  | some cg => match fg.name == "runtime.NumGoroutine" with
    |false=>Fr.make fg.ntmps caps fun fr=>exec Ec n [.code cg] .all fr m fun o=>match o with
     |.stop items fr m=>match items with
      |.code c::kg=>match c with
       |.region _ ops false=>match recOf ops.toList with
        |some d=>putK fr (some d) hand fun fr=>exec Eb n (.inRegion ops (List.range' 1 (ops.size-1))::kg) .all fr m fun o=>match o with
         |.ret _ fr m=>results Eb fg m fr fun _=>k m
         |_=>.fail 204
        |none=>.fail 203
       |_=>.fail 203
      |_=>.fail 203
     |_=>.fail 203
    |true=>.fail 143
  |none=>.fail 144
 |none=>.fail 145
noncomputable def defS(Ea Eb Ec:Env)(n:Nat)(f:FuncId)(args:List SV)(m:Mem):Tree (SV×Mem):=
 match Eb.fn f with
 |some fn=>match fn.body with
  | some body => match fn.name == "runtime.NumGoroutine" with
    |false=>Fr.make fn.ntmps args fun fr=>exec Ea n [.code body] .all fr m fun o=>match o with
     |.stop items fr1 m=>match items with
      |.code c::k=>match c with
       |.region _ ops false=>match layOf ops.toList with
        |some x=>putK fr1 (some x.1) .top fun fr=>exec Eb n k .all fr m fun o=>match o with
         |.ret _ fr m=>recS Ec Eb n x.2.1 (x.2.2.map (evalIn fr1)) (.raw .nilIface) m fun m=>results Eb fn m fr fun v=>.leaf (v,m)
         |.pan u fr m=>recS Ec Eb n x.2.1 (x.2.2.map (evalIn fr1)) u m fun m=>results Eb fn m fr fun v=>.leaf (v,m)
         |_=>.fail 202
        |none=>.fail 201
       |_=>.fail 201
      |_=>.fail 201
     |_=>.fail 201
    |true=>.fail 143
  |none=>.fail 144
 |none=>.fail 145
end
noncomputable def defW(Ea Eb Ec:Env)(n:Nat)(f:FuncId):WFact:=⟨f,fun args m=>some (defS Ea Eb Ec n f args m)⟩
theorem recS_ok{P:Program}{Ec Eb:Env}(hc:Known P Ec)(hb:Known P Eb){n:Nat}{g:FuncId}{caps:List SV}{m:Mem}{α:Type}{k:Mem→Tree α}{L:α→Prop}{r:Fin}(h:(recS Ec Eb n g caps r.hand m k).holds L):
  ∃m',(k m').holds L∧∀w0 R0 ρ w (a:Act) (b:Frame) (cs:List Frame) (todo:List Item) (u:Value) (cap:Array Value),MRel w0 R0 ρ w m→RepL (RO w0 R0 ρ w m) ρ m.next w caps cap.toList→a.defers=[{target:=.fn (.func g) cap,args:=#[]}] →
   Rep (RO w0 R0 ρ w m) ρ m.next w r.hand (r.got u)→∃ρ' w',MRel w0 R0 ρ' w' m'∧MExt w0 R0 ρ w m ρ' w' m'∧Steps P (lone {b.at a todo with mode:=r.mode u} cs w) (lone {b.at {a with defers:=[]} todo with mode:=.returning} cs w'):=by
 unfold recS at h
 split at h
 case h_2=>exact h.elim
 rename_i fg hfg
 have hfg:=hb.e.fn g fg hfg
 split at h
 case h_2=>exact h.elim
 rename_i cg hbg
 split at h
 case h_2=>exact h.elim
 rename_i hng
 obtain⟨frg,h1,h2,h3,h4⟩:=make_holds h
 obtain⟨out,h5,h6⟩:=exec_ok hc.e hc.s hc.mix n _ _ _ _ _ _ h1
 cases out with
 |ret p fr' m'=>exact h5.elim
 |pan v fr' m'=>exact h5.elim
 |stop items fr1 m1=>
  dsimp only at h5
  split at h5
  case h_2=>exact h5.elim
  rename_i c kg
  split at h5
  case h_2=>exact h5.elim
  rename_i i0 opsg
  split at h5
  case h_2=>exact h5.elim
  rename_i d0 hrec
  obtain⟨o0,rest,hops,hog,hod,hrun⟩:=recOf_spec (P:=P) hrec
  obtain⟨fr2,h7,h8⟩:=putK_holds h5
  obtain⟨out2,h9,h10⟩:=exec_ok hb.e hb.s hb.mix n _ _ _ _ _ _ h8
  cases out2 with
  |stop it fr' m'=>exact h9.elim
  |pan v fr' m'=>exact h9.elim
  |ret p3 fr3 m3=>
   dsimp only at h9
   obtain⟨vg,h11,h12⟩:=results_holds hb.e h9
   refine⟨m3,h11,fun w0 R0 ρ w a b cs todo u cap hm hcap hdef hhand=>?_⟩
   have hop:opsg[0]? =some o0:=by rw[←Array.getElem?_toList,hops];rfl
   have hszg:0<opsg.size:=by rw[←Array.length_toList,hops];simp
   have hMrun:r.mode u≠.run:=by cases r<;>simp[Fin.mode]
   have hstep2:=step_defer (P:=P) (fr:={b.at a todo with mode:=r.mode u}) (cs:=cs) (w:=w) (d:={target:=.fn (.func g) cap,args:=#[]}) (ds:=[]) (fv:=.func g) (cap:=cap) (f:=g) (args:=cap) hMrun hdef rfl (by
    show(Go.callFunc g (#[] ++cap)).run P w=_
    rw[Array.empty_append]
    exact callFunc_enter hfg hbg hng _ _)
   let bg:Frame:={ (default:Frame)with fn:=g,kind:=.deferred}
   have henter:Frame.enter P g cap .deferred=bg.at {tmps:=cap.toList.toArray++Array.replicate (fg.ntmps-cap.toList.toArray.size) Go.undef,defers:=[]} [.code cg] :=by
    simp[Frame.enter,Frame.at,hfg,hbg,bg]
   obtain⟨ρ1,w1,a1,s1,x1,st1⟩:=h6 w0 R0 ρ w {tmps:=cap.toList.toArray++Array.replicate (fg.ntmps-cap.toList.toArray.size) Go.undef,defers:=[]} ⟨hm,frame_rel h2 h3 h4 hcap,rfl⟩ bg ({{b.at a todo with mode:=r.mode u} with defers:=[]}::cs)
   have hrange:List.range opsg.size=0::List.range' 1 (opsg.size-1):=by
    rw[List.range_eq_range',show opsg.size=(opsg.size-1)+1 by omega,List.range'_succ];simp
   have hstep3:=step_region (P:=P) (b:=bg) (a:=a1) (k:=kg) (cs:={{b.at a todo with mode:=r.mode u} with defers:=[]}::cs) (w:=w1) (ops:=opsg) (id:=i0)
   rw[hrange]at hstep3
   have hstep4:=rec_step (P:=P) (b:=bg) (a:=a1) (k:=kg) (cs:={{b.at a todo with mode:=r.mode u} with defers:=[]}::cs) (cs':={{b.at a todo with mode:=r.mode2 u} with defers:=[]}::cs) (w:=w1) (ops:=opsg) (i:=0) (rest:=List.range' 1 (opsg.size-1)) (v:=r.got u) rfl hop hog (hrun _ _) (by
    cases r with
    |ret v0 bs=>exact .inr ⟨rfl,rfl,rfl⟩
    |pan v0 bs=>exact .inl rfl)
   rw[hod]at hstep4
   have s2:SRelD [] w0 R0 ρ1 w1 fr2 m1 (a1.put (some d0) (r.got u)):=⟨s1.1,FRel.put s1.2.1 h7 (Rep.mono x1 _ _ hhand),by rw[put_defers];exact s1.2.2⟩
   obtain⟨ρ2,w2,a2,todo2,g1,g2,g3⟩:=h10 w0 R0 ρ1 w1 _ s2 bg ({{b.at a todo with mode:=r.mode2 u} with defers:=[]}::cs)
   obtain⟨u3,r1,r2⟩:=h12 w0 R0 ρ2 w2 a2 g1
   have hstep5:=step_going_returned (P:=P) (fr:={bg.at a2 todo2 with mode:=.returning}) (c:={{b.at a todo with mode:=r.mode2 u} with defers:=[]}) (cs:=cs) (w:=w2) (v:=u3) rfl ⟨rfl,g1.2.2,fg,hfg,r1⟩
   have hsettle:settle (r.mode2 u)=.returning:=by cases r<;>rfl
   refine⟨ρ2,w2,g1.1,x1.trans g2,?_⟩
   rw[henter]at hstep2
   refine .head hstep2 (Steps.trans st1 (.head hstep3 (.head hstep4 (Steps.trans g3 (.one ?_)))))
   rw[hstep5]
   dsimp only
   rw[hsettle]
   rfl
theorem defW_ok{P:Program}{Ea Eb Ec:Env}(ha:Known P Ea)(hb:Known P Eb)(hc:Known P Ec)(n:Nat)(f:FuncId):(defW Ea Eb Ec n f).ok P:=by
 intro args m t ht
 injection ht with ht
 subst ht
 refine says_of _ fun y h=>?_
 unfold defS at h
 split at h
 case h_2=>exact h.elim
 rename_i fn hfn
 have hf:=hb.e.fn f fn hfn
 split at h
 case h_2=>exact h.elim
 rename_i body hbd
 split at h
 case h_2=>exact h.elim
 rename_i hn
 obtain⟨fr,h1,h2,h3,h4⟩:=make_holds h
 obtain⟨out,h5,h6⟩:=exec_ok ha.e ha.s ha.mix n _ _ _ _ _ _ h1
 cases out with
 |ret p fr' m'=>exact h5.elim
 |pan v fr' m'=>exact h5.elim
 |stop items fr1 m1=>
  dsimp only at h5
  split at h5
  case h_2=>exact h5.elim
  rename_i c k
  split at h5
  case h_2=>exact h5.elim
  rename_i id ops
  split at h5
  case h_2=>exact h5.elim
  rename_i x hlay
  obtain⟨o1,o2,cap,c,hops,g1,g1g,g1d,g2,g2c,g2a,g2g,g2d,hcap⟩:=layOf_spec hlay
  obtain⟨fr2,h7,h8⟩:=putK_holds h5
  obtain⟨out2,h9,h10⟩:=exec_ok hb.e hb.s hb.mix n _ _ _ _ _ _ h8
  -- all that is left, for both ends
  have fin:∀ (r:Fin) (fr3:Fr) (m2:Mem),(recS Ec Eb n x.2.1 (x.2.2.map (evalIn fr1)) r.hand m2 fun m=>results Eb fn m fr3 fun v=>.leaf (v,m)).holds (fun z=>z=y)→
    (∀ds w0 R0 ρ w a,SRelD ds w0 R0 ρ w fr2 m1 a→∀ (b:Frame) (cs:List Frame),∃ρ' w' a' todo u,SRelD ds w0 R0 ρ' w' fr3 m2 a'∧MExt w0 R0 ρ w m1 ρ' w' m2∧Rep (RO w0 R0 ρ' w' m2) ρ' m2.next w' r.hand (r.got u)∧Steps P (lone (b.at a k) cs w) (lone {b.at a' todo with mode:=r.mode u} cs w'))→WCall P f args m y:=by
   intro r fr3 m2 hr hgo
   obtain⟨m3,h11,h12⟩:=recS_ok hc hb hr
   obtain⟨v,h13,h14⟩:=results_holds hb.e h11
   have h13:(v,m3)=y:=h13
   subst h13
   intro w0 R0 ρ w vs hm hvs
   show OpPost P _ ((Go.callFunc f vs.toArray).run P w)
   rw[callFunc_enter hf hbd hn]
   have hfr:=frame_rel h2 h3 h4 hvs
   intro cs
   let b:Frame:={ (default:Frame)with fn:=f,kind:=.normal}
   have henter:Frame.enter P f vs.toArray .normal=b.at {tmps:=vs.toArray++Array.replicate (fn.ntmps-vs.toArray.size) Go.undef,defers:=[]} [.code body] :=by
    simp[Frame.enter,Frame.at,hf,hbd,b]
   obtain⟨ρ1,w1,a1,s1,x1,st1⟩:=h6 w0 R0 ρ w {tmps:=vs.toArray++Array.replicate (fn.ntmps-vs.toArray.size) Go.undef,defers:=[]} ⟨hm,hfr,rfl⟩ b cs
   have hda:x.1<a1.tmps.size:=by rw[←s1.2.1.1];exact h7.2.1 _ rfl
   obtain⟨e,a2,w2,⟨rfl,rfl,rfl⟩,harr⟩:=defer_region (P:=P) (id:=id) hops g1 g1g g1d g2 g2c g2a g2g g2d a1 w1 hda b k cs
   have s2:SRelD [{target:=.fn (.func x.2.1) (cap.map a1.eval),args:=#[]}] w0 R0 ρ1 w2 fr2 m1 {tmps:=a1.tmps.setIfInBounds x.1 (.func (.func x.2.1) #[] (cap.map a1.eval)),defers:={target:=.fn (.func x.2.1) (cap.map a1.eval),args:=#[]}::a1.defers}:=
    ⟨s1.1,FRel.put (d:=some x.1) (u:=.func (.func x.2.1) #[] (cap.map a1.eval)) s1.2.1 h7 trivial,by rw[s1.2.2]⟩
   obtain⟨ρ3,w3,a3,todo,u,s3,x3,hu,st3⟩:=hgo _ w0 R0 ρ1 w2 _ s2 b cs
   have hcv:RepL (RO w0 R0 ρ3 w3 m2) ρ3 m2.next w3 (x.2.2.map (evalIn fr1)) (cap.map a1.eval).toList:=by
    rw[Array.toList_map,hcap]
    exact RepL.mono x3 _ _ (RepL.map _ _ _ fun z _=>s1.2.1.eval z)
   obtain⟨ρ4,w4,g5,g6,st4⟩:=h12 w0 R0 ρ3 w3 a3 b cs todo u (cap.map a1.eval) s3.1 hcv s3.2.2 hu
   obtain⟨uv,r1,r2⟩:=h14 w0 R0 ρ4 w4 {a3 with defers:=[]} (⟨g5,s3.2.1.mono g6,rfl⟩:SRelD [] w0 R0 ρ4 w4 fr3 m3 {a3 with defers:=[]})
   exact⟨.returned uv,w4,_,⟨uv,rfl,ρ4,g5,x1.trans (x3.trans g6),r2⟩,by rw[henter];exact Steps.trans st1 (Steps.trans harr (Steps.trans st3 st4)),rfl,rfl,rfl,rfl,fn,hf,r1⟩
  cases out2 with
  |stop it fr' m'=>exact h9.elim
  |ret p3 fr3 m2=>
   dsimp only at h9
   refine fin (.ret .undef []) fr3 m2 h9 fun ds w0 R0 ρ w a hs b cs=>?_
   obtain⟨ρ',w',a',todo,q1,q2,q3⟩:=h10 w0 R0 ρ w a hs b cs
   exact⟨ρ',w',a',todo,.nilIface,q1,q2,rfl,q3⟩
  |pan v fr3 m2=>
   dsimp only at h9
   refine fin (.pan v []) fr3 m2 h9 fun ds w0 R0 ρ w a hs b cs=>?_
   obtain⟨ρ',w',a',todo,u,q1,q2,q3,q4⟩:=h10 w0 R0 ρ w a hs b cs
   exact⟨ρ',w',a',todo,u,q1,q2,q3,q4⟩
end Go.Sx
namespace Go.Proofs
open Go.Shelf Go.RowKit Go.Lib Go.Sort
def Tryz.sortRc_ren:Ren:=⟨fun|6=>256|15=>286|14=>285|28=>317|29=>318|20=>309|21=>310|22=>311|23=>312|24=>313|25=>314|26=>315|27=>316|46=>326|47=>327|48=>328|49=>329|50=>330|57=>336|n=>n,fun|22=>190|24=>134|25=>239|3=>3|39=>170|0=>0|53=>281|55=>225|4=>4|46=>274|45=>273|50=>278|5=>5|9=>9|66=>287|70=>161|76=>295|77=>164|n=>n,fun|n=>n⟩
theorem Tryz.sortRc:SlLaysF0.n6 Tryz.prog Tryz.sortRc_ren:={
 mixed:=by kernel_rfl
 f6:=⟨Tryz.f256.name,by decide,Tryz.func256.trans (congrArg some (by kernel_rfl))⟩
 f14:=⟨Tryz.f285.name,by decide,Tryz.func285.trans (congrArg some (by kernel_rfl))⟩
 f15:=Tryz.func286.trans (congrArg some (by kernel_rfl))
 f20:=⟨Tryz.f309.name,by decide,Tryz.func309.trans (congrArg some (by kernel_rfl))⟩
 f21:=⟨Tryz.f310.name,by decide,Tryz.func310.trans (congrArg some (by kernel_rfl))⟩
 f22:=⟨Tryz.f311.name,by decide,Tryz.func311.trans (congrArg some (by kernel_rfl))⟩
 f23:=⟨Tryz.f312.name,by decide,Tryz.func312.trans (congrArg some (by kernel_rfl))⟩
 f24:=⟨Tryz.f313.name,by decide,Tryz.func313.trans (congrArg some (by kernel_rfl))⟩
 f25:=⟨Tryz.f314.name,by decide,Tryz.func314.trans (congrArg some (by kernel_rfl))⟩
 f26:=⟨Tryz.f315.name,by decide,Tryz.func315.trans (congrArg some (by kernel_rfl))⟩
 f27:=⟨Tryz.f316.name,by decide,Tryz.func316.trans (congrArg some (by kernel_rfl))⟩
 f28:=Tryz.func317.trans (congrArg some (by kernel_rfl))
 f29:=Tryz.func318.trans (congrArg some (by kernel_rfl))
 f46:=⟨Tryz.f326.name,by decide,Tryz.func326.trans (congrArg some (by kernel_rfl))⟩
 f47:=Tryz.func327.trans (congrArg some (by kernel_rfl))
 f48:=Tryz.func328.trans (congrArg some (by kernel_rfl))
 f49:=⟨Tryz.f329.name,by decide,Tryz.func329.trans (congrArg some (by kernel_rfl))⟩
 f50:=⟨Tryz.f330.name,by decide,Tryz.func330.trans (congrArg some (by kernel_rfl))⟩
 f57:=⟨Tryz.f336.name,by decide,Tryz.func336.trans (congrArg some (by kernel_rfl))⟩
 t0:=Tryz.underlying0
 a0:=Tryz.isAgg0
 z0:=Tryz.sizeOf0
 v0:=Tryz.zeroValue0
 t3:=Tryz.underlying3
 a3:=Tryz.isAgg3
 z3:=Tryz.sizeOf3
 v3:=Tryz.zeroValue3
 t4:=Tryz.underlying4
 a4:=Tryz.isAgg4
 z4:=Tryz.sizeOf4
 v4:=Tryz.zeroValue4
 t5:=Tryz.underlying5
 a5:=Tryz.isAgg5
 z5:=Tryz.sizeOf5
 v5:=Tryz.zeroValue5
 t9:=Tryz.underlying9
 a9:=Tryz.isAgg9
 z9:=Tryz.sizeOf9
 v9:=Tryz.zeroValue9
 t22:=Tryz.underlying190
 a22:=Tryz.isAgg190
 z22:=Tryz.sizeOf190
 v22:=Tryz.zeroValue190
 t25:=Tryz.underlying239
 a25:=Tryz.isAgg239
 z25:=Tryz.sizeOf239
 v25:=Tryz.zeroValue239
 t39:=Tryz.underlying170
 a39:=Tryz.isAgg170
 z39:=Tryz.sizeOf170
 v39:=Tryz.zeroValue170
 t45:=Tryz.underlying273
 a45:=Tryz.isAgg273
 z45:=Tryz.sizeOf273
 v45:=Tryz.zeroValue273
 t46:=Tryz.underlying274
 a46:=Tryz.isAgg274
 z46:=Tryz.sizeOf274
 v46:=Tryz.zeroValue274
 t50:=Tryz.underlying278
 a50:=Tryz.isAgg278
 z50:=Tryz.sizeOf278
 v50:=Tryz.zeroValue278
 t53:=Tryz.underlying281
 a53:=Tryz.isAgg281
 z53:=Tryz.sizeOf281
 v53:=Tryz.zeroValue281
 t55:=Tryz.underlying225
 a55:=Tryz.isAgg225
 z55:=Tryz.sizeOf225
 v55:=Tryz.zeroValue225
 t66:=Tryz.underlying287
 a66:=Tryz.isAgg287
 z66:=Tryz.sizeOf287
 v66:=Tryz.zeroValue287
 t70:=Tryz.underlying161
 a70:=Tryz.isAgg161
 z70:=Tryz.sizeOf161
 v70:=Tryz.zeroValue161
 t76:=Tryz.underlying295
 a76:=Tryz.isAgg295
 z76:=Tryz.sizeOf295
 v76:=Tryz.zeroValue295
 t77:=Tryz.underlying164
 a77:=Tryz.isAgg164
 z77:=Tryz.sizeOf164
 v77:=Tryz.zeroValue164 }
def Tryz.cmpInt_ren:Ren:=⟨fun|5=>258|7=>287|n=>n,fun|22=>3|3=>3|4=>4|n=>n,fun|n=>n⟩
theorem Tryz.cmpInt:SlLaysC2.n5 Tryz.prog Tryz.cmpInt_ren:={
 mixed:=by kernel_rfl
 f5:=⟨Tryz.f258.name,by decide,Tryz.func258.trans (congrArg some (by kernel_rfl))⟩
 f7:=⟨Tryz.f287.name,by decide,Tryz.func287.trans (congrArg some (by kernel_rfl))⟩
 t3:=Tryz.underlying3
 a3:=Tryz.isAgg3
 z3:=Tryz.sizeOf3
 v3:=Tryz.zeroValue3
 t4:=Tryz.underlying4
 a4:=Tryz.isAgg4
 z4:=Tryz.sizeOf4
 v4:=Tryz.zeroValue4
 t22:=Tryz.underlying3
 a22:=Tryz.isAgg3
 z22:=Tryz.sizeOf3
 v22:=Tryz.zeroValue3 }
end Go.Proofs
namespace Go.Proofs.YtnkaepnblikcdaaGreat
open Go.Sx Go.RowKit Go.Lib Go.Sort
def encT(x:RT):List Value:=[.int .i64 x.1,.int .i64 x.2.1,.int .i64 x.2.2.1,.int .i64 x.2.2.2.1,.int .i64 x.2.2.2.2.1.1,.int .i64 x.2.2.2.2.1.2.1,.int .i64 x.2.2.2.2.1.2.2.1,.int .i64 x.2.2.2.2.1.2.2.2,.int .i64 x.2.2.2.2.2.1,.int .i64 x.2.2.2.2.2.2.1,.int .i64 x.2.2.2.2.2.2.2.1,.int .i64 x.2.2.2.2.2.2.2.2]
theorem encT_one(x:RT):∀v∈encT x,v.oneCell'=true:=by
 intro v hv
 simp only[encT,List.mem_cons,List.not_mem_nil,or_false]at hv
 rcases hv with rfl|rfl|rfl|rfl|rfl|rfl|rfl|rfl|rfl|rfl|rfl|rfl<;>rfl
set_option maxHeartbeats 1000000 in
theorem all_closure(x y:RT)(W:World):Calls Tryz.prog 257 #[.agg (encT x).toArray,.agg (encT y).toArray] W fun e w'=>e=.returned (.int .i64 (Lib.compareInt x.2.1 y.2.1))∧∃q os',w'=grow (W.drewN q) os':=by
 have hcon:=fun W'=>AnyG.cmp_Compare_int Tryz.cmpInt x.2.1 y.2.1 W'
 change ∀W',Calls Tryz.prog 258 _ _ _ at hcon
 generalize Lib.compareInt x.2.1 y.2.1=r at hcon ⊢
 unfold encT
 go_enter Tryz.func257,Tryz.ntmps257
 go_wp2_with (go_at_call 258;refine(hcon _).mono ?_;rintro e w' ⟨rfl,rfl⟩)
 go_ret
 exact⟨rfl,0,_,by rw[alloc_eq_grow,alloc_eq_grow,grow_grow];rfl⟩
theorem ltSeq(x y:RT):ltOf (fun x y:RT=>Lib.compareInt x.2.1 y.2.1) x y=decide (x.2.1<y.2.1):=by
 unfold ltOf Lib.compareInt
 by_cases h1:x.2.1<y.2.1
 ·simp[h1]
 ·by_cases h2:y.2.1<x.2.1<;>simp[h1,h2]
theorem swoSeq:SWO (ltOf fun x y:RT=>Lib.compareInt x.2.1 y.2.1) where
 irrefl x:=by rw[ltSeq];simp
 trans x y z h1 h2:=by rw[ltSeq]at *;simp at *;omega
 ntrans x y z h1 h2:=by rw[ltSeq]at *;simp at *;omega
theorem isAggRc(w:World):(isAgg 134).run Tryz.prog w=.ok true w:=by
 simp[isAgg,run_underlying Tryz.underlying134]
theorem infoRc:(Tryz.prog.info? 134).map (fun i=>(i.zero,i.size,i.bytes))=some (some (.agg #[.int .i64 0,.int .i64 0,.int .i64 0,.int .i64 0,.int .i64 0,.int .i64 0,.int .i64 0,.int .i64 0,.int .i64 0,.int .i64 0,.int .i64 0,.int .i64 0]),12,96):=by kernel_rfl
theorem sizeRc(w:World):(Go.sizeOf 134).run Tryz.prog w=.ok 12 w:=by
 obtain⟨i0,hi0,hz0,hz1,hz2⟩:=info_parts infoRc
 simp[Go.sizeOf,typeInfo,hi0,hz1]
theorem sort_walk(blk cap:Nat)(d:Array RT)(w:World)(hH:HoldsK encT 12 w blk 0 d)(hblk:blk<w.heap.size)(hsz:d.size<4611686018427387904):
  Calls Tryz.prog 256 #[.slice (some ⟨blk,0,none⟩) d.size cap,.func (.func 257) #[] #[]] w fun e w'=>e=.returned (.tuple #[])∧∃d' n os,PermIn 0 d.size d d'∧SortedIn (ltOf fun x y:RT=>Lib.compareInt x.2.1 y.2.1) 0 d.size d'∧w'=sortWorldK encT 12 w blk 0 n d' os:=by
 have eg:∀args w,(Go.callFunc 257 args).run Tryz.prog w=.ok (.enter 257 args) w:=enters_of Tryz.func257 (by kernel_rfl) rfl
 have hcon:=AnyQ.slices_SortFunc Tryz.sortRc 12 isAggRc sizeRc encT (fun _=>rfl) encT_one (fun x y=>Lib.compareInt x.2.1 y.2.1) swoSeq 257 #[] blk 0 cap d w eg (fun _ _ _ _ x y=>all_closure x y _) hH hblk hsz
 exact hcon
open Go.Sx
theorem s_sort0 :SCall Tryz.prog 256 [.list tyRc [],.fn 257 [] []] (.tuple []):=
 scall_v mix [] trivial 2000 (.auto)
  (t:=.req (true) (.leaf (SV.tuple [])))
  (by kernel_rfl) (by exact⟨rfl,rfl⟩) (by kernel_rfl) (by kernel_rfl)
theorem MRel.grown{w0:World}{R0:RSet}{ρ:Rho}{w w':World}{m:Mem}(h:MRel w0 R0 ρ w m)(hos:w'.os=w.os)(ht:w'.tape=w.tape)(hp:w'.output=w.output)(hsz:w.heap.size≤w'.heap.size)(hold:∀k,k<w.heap.size→w'.heap[k]? =w.heap[k]?):MRel w0 R0 ρ w' m∧MExt w0 R0 ρ w m ρ w' m:=by
 have hro:∀b,RO w0 R0 ρ w m b→RO w0 R0 ρ w' m b:=fun b hb=>by
  rcases hb with hb|⟨h1,h2,h3⟩
  ·exact .inl hb
  ·exact .inr ⟨h1,by omega,h3⟩
 have e:MExt w0 R0 ρ w m ρ w' m:=⟨Nat.le_refl _,fun _ _=>rfl,fun b hb=>⟨hro b hb,hold b (h.ro_lt hb)⟩⟩
 have hs0:=h.size_le
 exact⟨⟨h.below.trans ⟨hos,ht,hp,hsz,fun k hk=>hold k (by omega)⟩,h.lt,h.lo,fun k C hk hs=>Nat.lt_of_lt_of_le (h.hi k C hk hs) hsz,h.inj,fun k C hk=>BoxRel.mono e C (fun hs=>hold _ (h.hi k C hk hs)) (h.box k C hk),fun b hb=>⟨by have:=(h.hid.1 b hb).1;omega,(hold b (h.hid.1 b hb).1).trans (h.hid.1 b hb).2⟩,h.hid.2⟩,e⟩
theorem repD_enc{R:Nat→Prop}{w:World}{x:RT}{v:List Value}:RepD R w tyRc x v↔v=encT x:=by
 constructor
 ·intro h
  simp only[tyRc,RepD]at h
  obtain⟨_,_,rfl,rfl,_,_,rfl,rfl,_,_,rfl,rfl,_,_,rfl,rfl,_,_,rfl,⟨_,_,rfl,rfl,_,_,rfl,rfl,_,_,rfl,rfl,rfl⟩,_,_,rfl,rfl,_,_,rfl,rfl,_,_,rfl,rfl,rfl⟩:=h
  rfl
 ·rintro rfl
  simp only[tyRc,RepD]
  exact⟨[_],_,rfl,rfl,[_],_,rfl,rfl,[_],_,rfl,rfl,[_],_,rfl,rfl,[_,_,_,_],_,rfl,⟨[_],_,rfl,rfl,[_],_,rfl,rfl,[_],_,rfl,rfl,rfl⟩,[_],_,rfl,rfl,[_],_,rfl,rfl,[_],_,rfl,rfl,rfl⟩
theorem sorted_list{l:List RT}{d':Array RT}(hd:distinct (l.map rcOf))(hp:PermIn 0 l.toArray.size l.toArray d')(hs:SortedIn (ltOf fun x y:RT=>Lib.compareInt x.2.1 y.2.1) 0 l.toArray.size d'):d'.toList=(sortR (l.map rcOf)).map Rc.t:=by
 obtain⟨p1,p2,p3⟩:=hp
 have e1:(d'.extract 0 l.toArray.size).toList=d'.toList:=by rw[←p1];simp
 have e2:(l.toArray.extract 0 l.toArray.size).toList=l:=by simp
 rw[e1,e2]at p3
 have asc:∀ (k:List RT),(∀i j,i<j→j<k.length→¬(k.getD j default).2.1< (k.getD i default).2.1)→ascR (k.map rcOf):=by
  intro k
  induction k with
  |nil=>intro _;trivial
  |cons x k ih=>
   intro h
   refine⟨fun y hy=>?_,ih fun i j hij hj=>?_⟩
   ·obtain⟨z,hz,rfl⟩:=List.mem_map.1 hy
    obtain⟨j,hj,rfl⟩:=List.getElem_of_mem hz
    have:=h 0 (j+1) (by omega) (by simpa using hj)
    simp only[List.getD_cons_zero,List.getD_cons_succ]at this
    rw[List.getD_eq_getElem?_getD,List.getElem?_eq_getElem hj]at this
    show x.2.1≤k[j].2.1
    simp only[Option.getD_some]at this
    omega
   ·have:=h (i+1) (j+1) (by omega) (by simpa using hj)
    simpa using this
 have key:=sort_of hd (p3.map rcOf) (asc d'.toList fun i j hij hj=>by
  have hj':j<l.toArray.size:=by rw[←p1];simpa using hj
  have:=hs i j (Nat.zero_le _) hij hj'
  rw[ltSeq]at this
  have:=of_decide_eq_false this
  have g:∀t,t<d'.size→d'.toList.getD t default=d'[t]! :=fun t ht=>by
   rw[List.getD_eq_getElem?_getD,Array.getElem?_toList,Array.getElem?_eq_getElem ht,getElem!_pos d' t ht];rfl
  have hjs:j<d'.size:=by simpa using hj
  rw[g j hjs,g i (by omega)]
  exact this)
 rw[←key,t_rcs]
theorem flat_get(d:Array RT)(t:Nat)(h:t<d.size*12):(flatK encT 12 d)[t]? =(encT d[t / 12]!)[t % 12]? :=by
 have h1:t< (flatK encT 12 d).size:=by rw[size_flatK];exact h
 have h2:t % 12< (encT d[t / 12]!).length:=by show t % 12<12;omega
 rw[Array.getElem?_eq_getElem h1,List.getElem?_eq_getElem h2]
 have:=get_flatK encT 12 d t h
 rw[getElem!_pos (flatK encT 12 d) t h1,getElem!_pos (encT d[t / 12]!) (t % 12) h2]at this
 rw[this]
noncomputable def wSort:WFact:=⟨256,fun args m=>match args with
 |[x,y] =>match x with
  |.row id=>match y with
   |.fn g first cap=>match Nat.beq g 257&& (first.isEmpty&&cap.isEmpty)with
    |true=>match m.get id with
     |some B=>match B with
      |.rows t l=>if h:t=tyRc then some (.req (decide (l.length≤1000)&&distB ((h▸l:List tyRc.T).map rcOf)) (m.set id (some (.rows tyRc ((sortR ((h▸l:List tyRc.T).map rcOf)).map Rc.t))) fun m=>.leaf (.tuple [],m)))else none
      |_=>none
     |none=>none
    |false=>none
   |_=>none
  |_=>none
 |_=>none⟩
theorem sort_sem{m m':Mem}{id:Nat}{l:List RT}(hg:m.get id=some (.rows tyRc l))(hl:l.length≤1000)(hd:distinct (l.map rcOf))(hm':MSet m id (some (.rows tyRc ((sortR (l.map rcOf)).map Rc.t))) m'):WCall Tryz.prog 256 [.row id,.fn 257 [] []] m (.tuple [],m'):=by
 intro w0 R0 ρ w vs hm hvs
 obtain⟨a,us,rfl,hra,b,us2,rfl,hrb,hnil⟩:=hvs
 rw[show us2=[]from hnil]
 obtain⟨hid,ad,rfl,had⟩:=hra
 obtain⟨fv,fu,rfl,h5,h6⟩:=hrb
 rw[show fv=[]from h5,show fu=[]from h6]
 obtain⟨b1,b2,b3⟩:=hm.box id _ hg
 have b1:l.length=(ρ id).2.1:=b1
 have b2:l.length≤(ρ id).2.2:=b2
 by_cases h0:l=[]
 ·subst h0
  have q:=s_sort0 m w0 R0 ρ w [.slice ad (ρ id).2.1 (ρ id).2.2,.func (.func 257) #[] #[]] hm ⟨_,_,rfl,⟨ad,(ρ id).2.2,by rw[←b1];rfl,Nat.zero_le _,fun hp=>absurd hp (Nat.lt_irrefl 0)⟩,_,_,rfl,⟨[],[],rfl,rfl,rfl⟩,rfl⟩
  have eg:∀k,m'.get k=m.get k:=fun k=>by
   rw[hm'.1 k]
   split
   ·rename_i e;rw[e,hg];rfl
   ·rfl
  refine OpPost.mono (fun u w' hu=>?_) q
  obtain⟨ρ',g1,g2,g3⟩:=hu
  refine⟨ρ',g1.congr eg hm'.2,⟨by rw[hm'.2];exact g2.le,g2.same,fun b hb=>?_⟩,g3⟩
  obtain⟨k1,k2⟩:=g2.keep b hb
  exact⟨by rw[RO.congr eg];exact k1,k2⟩
 ·have hpos:0<l.length:=List.length_pos_iff.2 h0
  have hc0:0< (ρ id).2.2:=by omega
  obtain⟨arr,e,fr,q1,q2,q3,q4⟩:=b3 hc0
  have q3:arr.size=(ρ id).2.2*12:=q3
  have blk:=hm.hi id _ hg hc0
  rw[had hc0,←b1]
  have cells:∀i (hi:i<l.length) j,j<12→arr[i*12+j]? =(encT l[i])[j]? :=fun i hi j hj=>by
   obtain⟨cs,k1,k2,k3⟩:=q4 i hi
   rw[show cs=encT l[i]from repD_enc.1 k3]at k2
   exact k2 j hj
  have hH:HoldsK encT 12 w (ρ id).1 0 l.toArray:=by
   intro j hj
   rw[size_flatK]at hj
   have hj:j<l.length*12:=by simpa using hj
   have hi:j / 12<l.length:=by omega
   have hlt:j<arr.size:=by rw[q3];have:=Nat.mul_le_mul_right 12 b2;omega
   rw[Nat.zero_add]
   refine⟨?_,not_frozen q1 q2.1 (by omega)⟩
   rw[cell_of_row w _ _ arr e fr q1]
   have c:=cells (j / 12) hi (j % 12) (by omega)
   rw[show j / 12*12+j % 12=j by omega]at c
   rw[c]
   have f:=flat_get l.toArray j (by simpa using hj)
   have hsz:j< (flatK encT 12 l.toArray).size:=by rw[size_flatK];simpa using hj
   rw[Array.getElem?_eq_getElem hsz]at f
   rw[getElem!_pos (flatK encT 12 l.toArray) j hsz]
   show _=some (_root_.id (flatK encT 12 l.toArray)[j])
   rw[show(l.toArray[j / 12]! :RT)=l[j / 12] by simp[hi]]at f
   exact f.symm
  have hrun:=sort_walk (ρ id).1 (ρ id).2.2 l.toArray w hH blk (by simp;omega)
  dsimp only
  rw[callFunc_enter (P:=Tryz.prog) Tryz.func256 (body:=_) rfl (by kernel_rfl)]
  refine Calls.mono hrun fun ex w' ⟨he,d',n,os,hp,hs,hw⟩=>⟨_,he,?_⟩
  have hd':=sorted_list hd hp hs
  have hsz':d'.size=l.length:=by have:=hp.1;simpa using this
  -- the world grown
  have gw:(grow (Sort.ahead w n) os).heap.size=w.heap.size+os.size:=by simp[grow,Sort.ahead]
  obtain⟨m1,m2⟩:=MRel.grown (w':=grow (Sort.ahead w n) os) hm rfl rfl rfl (by rw[gw];omega) (fun k hk=>heap_grow_old (Sort.ahead w n) os hk)
  have hw2:w'=putRowK encT 12 (grow (Sort.ahead w n) os) (ρ id).1 0 d':=by
   rw[hw];unfold sortWorldK
   exact(putRowK_grow encT 12 (Sort.ahead w n) os (ρ id).1 0 d' blk).symm
  have hq1:(grow (Sort.ahead w n) os).heap[(ρ id).1]? =some (.cells arr e fr):=(heap_grow_old (Sort.ahead w n) os blk).trans q1
  have hheap:w'.heap[(ρ id).1]? =some (.cells (putCells _root_.id 0 (flatK encT 12 d') arr) e fr):=by
   rw[hw2]
   show((grow (Sort.ahead w n) os).heap.modify (ρ id).1 _)[(ρ id).1]? =_
   rw[Array.getElem?_modify,if_pos rfl,hq1];rfl
  have hoth:∀k,k≠(ρ id).1→w'.heap[k]? =(grow (Sort.ahead w n) os).heap[k]? :=fun k hk=>by
   rw[hw2]
   show((grow (Sort.ahead w n) os).heap.modify (ρ id).1 _)[k]? =_
   rw[Array.getElem?_modify,if_neg (Ne.symm hk)]
  have hs1:w'.heap.size=(grow (Sort.ahead w n) os).heap.size:=by
   rw[hw2]
   show((grow (Sort.ahead w n) os).heap.modify (ρ id).1 _).size=_
   rw[Array.size_modify]
  have ho:w'.os=(grow (Sort.ahead w n) os).os:=by rw[hw2];rfl
  have ht:w'.tape=(grow (Sort.ahead w n) os).tape:=by rw[hw2];rfl
  have hpt:w'.output=(grow (Sort.ahead w n) os).output:=by rw[hw2];rfl
  have lenS:((sortR (l.map rcOf)).map Rc.t).length=l.length:=by rw[List.length_map,(sort_perm _).length_eq,List.length_map]
  obtain⟨g1,g2⟩:=m1.setBox (B':=.rows tyRc ((sortR (l.map rcOf)).map Rc.t)) hg hc0 hm' ho ht hpt hs1 hoth fun R e'=>by
   refine⟨lenS.trans b1,Nat.le_trans (Nat.le_of_eq lenS) b2,fun _=>⟨_,_,_,hheap,⟨fun i hi=>q2.1 i (by simpa[putCells]using hi),q2.2⟩,(show(putCells _root_.id 0 (flatK encT 12 d') arr).size=arr.size by simp[putCells]).trans q3,fun i hi=>⟨encT ((sortR (l.map rcOf)).map Rc.t)[i],rfl,fun j hj=>?_,repD_enc.2 rfl⟩⟩⟩
   have hi:i<l.length:=Nat.lt_of_lt_of_eq hi lenS
   have hj:j<12:=hj
   have hlt:i*12+j<arr.size:=by rw[q3];have:=Nat.mul_le_mul_right 12 b2;omega
   have hk:i*12+j< (flatK encT 12 d').size:=by rw[size_flatK,hsz'];omega
   show(putCells _root_.id 0 (flatK encT 12 d') arr)[i*12+j]? =_
   unfold putCells
   rw[Array.getElem?_mapIdx,Array.getElem?_eq_getElem hlt]
   simp only[Option.map_some]
   rw[if_pos (by omega),Nat.sub_zero]
   have f:=flat_get d' (i*12+j) (by rw[hsz'];omega)
   rw[show(i*12+j) / 12=i by omega,show(i*12+j) % 12=j by omega,Array.getElem?_eq_getElem hk]at f
   rw[getElem!_pos (flatK encT 12 d') (i*12+j) hk]
   show some (flatK encT 12 d')[i*12+j] =_
   rw[f]
   have:(d'[i]! :RT)=((sortR (l.map rcOf)).map Rc.t)[i] :=by
    have hi':i<d'.size:=by omega
    rw[getElem!_pos d' i hi']
    simp only[←hd',Array.getElem_toList]
   rw[this]
  exact⟨ρ,g1,m2.trans g2,[],rfl,rfl⟩
theorem o_wsort:wSort.ok Tryz.prog:=by
 intro args m t ht
 simp only[wSort]at ht
 split at ht
 ·split at ht
  ·rename_i id
   split at ht
   ·rename_i g first cap
    split at ht
    ·rename_i hb
     rw[Bool.and_eq_true,Bool.and_eq_true]at hb
     have e1:=Nat.eq_of_beq_eq_true hb.1
     have e2:first=[] :=by simpa using hb.2.1
     have e3:cap=[] :=by simpa using hb.2.2
     subst e1 e2 e3
     split at ht
     ·rename_i B hB
      split at ht
      ·rename_i ty l
       split at ht
       ·rename_i hty
        subst hty
        injection ht with ht
        subst ht
        intro h
        rw[Bool.and_eq_true]at h
        exact Mem.set_says fun m' hm'=>sort_sem hB (of_decide_eq_true h.1) (distB_iff.1 h.2) hm'
       ·cases ht
      ·cases ht
     ·cases ht
    ·cases ht
   ·cases ht
  ·cases ht
 ·cases ht
open Go.Sx
def aa0_p:Plan:=.fork (.lit (.lit (.lit .all))) (.lit (.lit (.fork .all .all)))
noncomputable def aa0_t(f:Fl):Tree Stop:= .req (fewP f) (.node (!flB f) (.leaf (.done (.list tyRc []))) (.node (f.dead) (.leaf (.done (.list tyRc []))) (.leaf (.at (loopOf Tryz.prog 191 0) 48 (slotsS 48 [(1,.ptr 0 0),(3,SV.nilS),(16,.list Ty.str f.pages),(17,.int .i64 (↑f.pages.length:Int)),(18,.int .i64 0)]) [some (.cells f.cells)]))))
theorem aa0(f:Fl):segR (Env.of Tryz.prog (sumOf [fFlB])) 1000 (fnOf Tryz.prog 191) tyRc (keepS 48 [1,3,16,17,18]) (codeS Tryz.prog 191) aa0_p (startS Tryz.prog 191 [f.sv]) [] =aa0_t f:=by kernel_rfl
def aa1_p:Plan:=.fork (.fork (.ln 9 (.lit .all)) (.fork (.ln 9 (.fork .all .all)) (.ln 9 (.lit .all)))) .all
noncomputable def aa1_t(f:Fl)(l:List RT)(i:Int):Tree Stop:= .node (decide (i< (↑f.pages.length:Int))) (.req (decide (0≤i)&&decide (i< (↑f.pages.length:Int))) (.req (decide (List.length (f.pages.getD i.toNat ([] :List UInt8))≤100000)) (.node (decide (List.length (f.pages.getD i.toNat ([] :List UInt8))<64)) (.leaf (.at (loopOf Tryz.prog 191 0) 48 (slotsS 48 [(1,.ptr 0 0),(3,SV.row 1),(16,.list Ty.str f.pages),(17,.int .i64 (↑f.pages.length:Int)),(18,.int .i64 (i64.wrap (i+1)))]) [some (.cells f.cells),some (.rows tyRc l)])) (.node (decB (f.pages.getD i.toNat ([] :List UInt8))) (.req (!(↑f.pages.length:Int)==0) (.node ((decR (f.pages.getD i.toNat ([] :List UInt8))).seq.tmod (↑f.pages.length:Int)==i) (.req (decide ((l.length+ [(decR (f.pages.getD i.toNat ([] :List UInt8))).t].length)*96≤140737488355328)) (.leaf (.at (loopOf Tryz.prog 191 0) 48 (slotsS 48 [(1,.ptr 0 0),(3,SV.row 1),(16,.list Ty.str f.pages),(17,.int .i64 (↑f.pages.length:Int)),(18,.int .i64 (i64.wrap (i+1)))]) [some (.cells f.cells),some (.rows tyRc (l++[(decR (f.pages.getD i.toNat ([] :List UInt8))).t]))]))) (.leaf (.at (loopOf Tryz.prog 191 0) 48 (slotsS 48 [(1,.ptr 0 0),(3,SV.row 1),(16,.list Ty.str f.pages),(17,.int .i64 (↑f.pages.length:Int)),(18,.int .i64 (i64.wrap (i+1)))]) [some (.cells f.cells),some (.rows tyRc l)])))) (.leaf (.at (loopOf Tryz.prog 191 0) 48 (slotsS 48 [(1,.ptr 0 0),(3,SV.row 1),(16,.list Ty.str f.pages),(17,.int .i64 (↑f.pages.length:Int)),(18,.int .i64 (i64.wrap (i+1)))]) [some (.cells f.cells),some (.rows tyRc l)])))))) (.req (decide (l.length≤1000)&&distB (List.map rcOf l)) (.leaf (.done (.list tyRc (List.map Rc.t (sortR (List.map rcOf l)))))))
theorem aa1(f:Fl)(l:List RT)(i:Int):segR (Env.ofW Tryz.prog (sumOf [fDec]) (wrOf [wSort])) 1000 (fnOf Tryz.prog 191) tyRc (keepS 48 [1,3,16,17,18]) (loopOf Tryz.prog 191 0) aa1_p (slotsS 48 [(1,.ptr 0 0),(3,.row 1),(16,.list .str f.pages),(17,I64 f.pages.length),(18,I64 i)]) [some (.cells f.cells),some (.rows tyRc l)] =aa1_t f l i:=by kernel_rfl
open Go.Sx
theorem kFlB:Known Tryz.prog (Env.of Tryz.prog (sumOf [fFlB])):=kW (l:=[fFlB]) ⟨o_flB,trivial⟩
theorem kAll:Known Tryz.prog (Env.ofW Tryz.prog (sumOf [fDec]) (wrOf [wSort])):=known_ofW mix (l:=[fDec]) (k:=[wSort]) (by intro x hx;rcases List.mem_cons.1 hx with rfl|hx;exact o_dec;cases hx) (by intro x hx;rcases List.mem_cons.1 hx with rfl|hx;exact o_wsort;cases hx)
abbrev slP(f:Fl)(i:Int):List SV:=slotsS 48 [(1,.ptr 0 0),(3,.row 1),(16,.list .str f.pages),(17,I64 f.pages.length),(18,I64 i)]
abbrev bxP(f:Fl)(l:List Rc):List (Option Box):=[some (.cells f.cells),some (.rows tyRc (l.map Rc.t))]
theorem aa_loop(f:Fl)(hl:f.pages.length≤1000)(hp:∀p∈f.pages,p.length=64)(R:List Rc)(hR:distinct R):∀ (k i:Nat) (acc:List Rc),i+k=f.pages.length→acc.length≤i→R=acc++recsFrom f.pages.length i (f.pages.drop i)→
  RunsR Tryz.prog (fnOf Tryz.prog 191) (LR (sortR R)) (loopOf Tryz.prog 191 0) (slP f i) (bxP f acc)
 |k,i,acc,hi,hn,hL=>by
  have w1:i64.wrap ((i:Int)+1)=(i:Int)+1:=w64 (by omega) (by omega)
  have t0:(i:Int).toNat=i:=by omega
  refine runsR_seg kAll (n:=1000) (hint:=tyRc) (keep:=keepS 48 [1,3,16,17,18]) (p:=aa1_p) rfl ?_
  erw [aa1 f (acc.map Rc.t) i]
  unfold aa1_t
  rw[w1,t0]
  match k,hi with
  |0,hi=>
   refine n_dec (fun a=>absurd a (by omega)) fun _=>?_
   have z:f.pages.drop i=[] :=List.drop_eq_nil_of_le (by omega)
   rw[z,show recsFrom f.pages.length i [] =[]from rfl,List.append_nil]at hL
   subst hL
   rw[rcs_t,List.length_map]
   exact n_req (by rw[Bool.and_eq_true];exact⟨decide_eq_true (by omega),distB_iff.2 hR⟩) rfl
  |k+1,hi=>
   have hip:i<f.pages.length:=by omega
   have p64:(f.pages.getD i ([] :List UInt8)).length=64:=by
    rw[List.getD_eq_getElem?_getD,List.getElem?_eq_getElem hip];exact hp _ (List.getElem_mem hip)
   rw[drop_getD (d:=([] :List UInt8)) hip,recs_cons]at hL
   have nx:((i:Int)+1)=((i+1:Nat):Int):=by omega
   have skip:recAt f.pages.length i (f.pages.getD i ([] :List UInt8))=none→RunsR Tryz.prog (fnOf Tryz.prog 191) (LR (sortR R)) (loopOf Tryz.prog 191 0) (slP f ((i:Int)+1)) (bxP f acc):=fun e=>by
    rw[e]at hL
    rw[nx]
    exact aa_loop f hl hp R hR k (i+1) acc (by omega) (by omega) hL
   have nz:(!(((f.pages.length:Nat):Int)==0))=true:=by
    rw[Bool.not_eq_true',beq_eq_false_iff_ne];omega
   refine n_dec (fun _=>n_req (by simp;omega) (n_req (decide_eq_true (by rw[p64];omega)) (n_dec (fun c=>absurd c (by rw[p64];omega)) fun _=>n_bool (fun b=>n_req nz (n_eq (fun c=>n_req (decide_eq_true ?_) ?_) fun c=>?_)) fun b=>?_))) fun a=>absurd (by omega) a
   ·rw[List.length_map]
    show(acc.length+1)*96≤_
    omega
   ·have e:recAt f.pages.length i (f.pages.getD i ([] :List UInt8))=some (decR (f.pages.getD i ([] :List UInt8))):=recAt_iff.2 ⟨b,c,rfl⟩
    rw[e]at hL
    have el:(acc.map Rc.t)++[(decR (f.pages.getD i ([] :List UInt8))).t] =(acc++[decR (f.pages.getD i ([] :List UInt8))]).map Rc.t:=by rw[List.map_append];rfl
    rw[el,nx]
    refine⟨slotsS_len _ _,?_⟩
    refine aa_loop f hl hp R hR k (i+1) (acc++[decR (f.pages.getD i ([] :List UInt8))]) (by omega) (by rw[List.length_append];show acc.length+1≤_;omega) ?_
    rw[hL,List.append_assoc];rfl
   ·refine⟨slotsS_len _ _,skip ?_⟩
    cases e:recAt f.pages.length i (f.pages.getD i ([] :List UInt8))with
    |none=>rfl
    |some r=>exact absurd (recAt_iff.1 e).2.1 c
   ·refine⟨slotsS_len _ _,skip ?_⟩
    cases e:recAt f.pages.length i (f.pages.getD i ([] :List UInt8))with
    |none=>rfl
    |some r=>have:=(recAt_iff.1 e).1;rw[this]at b;cases b
theorem s_all(f:Fl)(h:fewP f=true):SCall Tryz.prog 191 [f.sv] (LR (allL f)):=by
 have hl:f.pages.length≤1000:=of_decide_eq_true h
 refine scallR_loops rfl rfl (by kernel_rfl) (runsR_seg kFlB (n:=1000) (hint:=tyRc) (keep:=keepS 48 [1,3,16,17,18]) (p:=aa0_p) (boxes:=[]) rfl ?_)
 have q:=aa0 f
 unfold startS codeS at q
 erw [q]
 unfold aa0_t
 refine n_req h (n_not (fun b=>?_) fun b=>n_bool (fun d=>?_) fun d=>⟨slotsS_len _ _,?_⟩)
 ·have:allL f=[] :=by unfold allL;rw[b];rfl
  rw[this];rfl
 ·have:allL f=[] :=by unfold allL;rw[b,d];rfl
  rw[this];rfl
 ·have e:allL f=sortR (recsFrom f.pages.length 0 f.pages):=by unfold allL;rw[b,d];rfl
  rw[e]
  have r:=aa_loop f hl (flB_iff.1 b).1 (recsFrom f.pages.length 0 f.pages) recs_distinct f.pages.length 0 [] (by omega) (Nat.le_refl _) rfl
  exact runsR_weak true [] (slots':=slP f 0) (boxes':=bxP f []) (slotsS_wk ⟨rfl,.same _,rfl,.nil rfl,rfl,.same _,rfl,.same _,rfl,.same _,trivial⟩) ⟨by simp,.same _,trivial⟩ r
def fAll:Fact:=factFl 191 fun f=>.req (fewP f) (.leaf (LR (allL f)))
theorem o_all:fAll.ok Tryz.prog:=factFl_ok fun f h=>s_all f h
open Go.Sx
theorem s_last(f:Fl)(h:fewP f=true):SCall Tryz.prog 103 [f.sv] (lastV f):=
 scall_v mix [fAll] ⟨o_all,trivial⟩ 1000 (.fork (.all) (.all))
  (t:=let y1:=(↑(List.map Rc.t (allL f)).length:Int);let y0:=(List.map Rc.t (allL f)).getD (i64.wrap (y1-1)).toNat rcZ.t;.req (fewP f) (.node (y1==0) (.leaf (.tuple [.agg [.int .i64 0,.int .i64 0,.int .i64 0,.int .i64 0,.int .i64 0,.int .i64 0,.int .i64 0,.int .i64 0,.int .i64 0,.int .i64 0,.int .i64 0,.int .i64 0],.bool false])) (.req (decide (0≤i64.wrap (y1-1))&&decide (i64.wrap (y1-1)<y1)) (.leaf (.tuple [.agg [.int .i64 y0.1,.int .i64 y0.2.1,.int .i64 y0.2.2.1,.int .i64 y0.2.2.2.1,.int .i64 y0.2.2.2.2.1.1,.int .i64 y0.2.2.2.2.1.2.1,.int .i64 y0.2.2.2.2.1.2.2.1,.int .i64 y0.2.2.2.2.1.2.2.2,.int .i64 y0.2.2.2.2.2.1,.int .i64 y0.2.2.2.2.2.2.1,.int .i64 y0.2.2.2.2.2.2.2.1,.int .i64 y0.2.2.2.2.2.2.2.2],.bool true])))))
  (by kernel_rfl) (by
   refine n_req h (n_eq (fun e=>?_) fun e=>?_)
   ·have e:allL f=[] :=by
     rw[List.length_map]at e
     exact List.eq_nil_of_length_eq_zero (by omega)
    rw[lastV_none e];rfl
   ·have hl:f.pages.length≤1000:=of_decide_eq_true h
    have len:=allL_len f
    rw[List.length_map]at e ⊢
    have w:i64.wrap (((allL f).length:Int)-1)=((allL f).length:Int)-1:=w64 (by omega) (by omega)
    rw[w]
    obtain⟨A,x,hA⟩:∃A x,allL f=A++[x] :=⟨(allL f).dropLast,(allL f).getLast (by intro k;rw[k]at e;exact e rfl),(List.dropLast_concat_getLast _).symm⟩
    have g:((allL f).map Rc.t).getD (((allL f).length:Int)-1).toNat rcZ.t=x.t:=by
     rw[map_getD (by omega),hA]
     have:((((A++[x]).length:Nat):Int)-1).toNat=A.length:=by simp
     rw[this,List.getD_eq_getElem?_getD,List.getElem?_append_right (Nat.le_refl _)];simp
    rw[g,lastV_some hA]
    exact n_req (by simp;omega) rfl) (by kernel_rfl) (by kernel_rfl)
theorem o_last:fLast.ok Tryz.prog:=factFl_ok fun f h=>s_last f h
theorem s_ap(f:Fl)(r:Rc)(h:fewP f=true):SCall Tryz.prog 202 [f.sv,r.sv] (apV f r):=
 scall_v mix [fEnc,fFlB,fLast,fWr] ⟨o_enc,o_flB,o_last,o_wr,trivial⟩ 1000 (.fork (.ln 4 (.fork .all (.fork .all (.fork .all .all)))) (.ln 4 (.lit .all)))
  (t:=.node (rcB r) (.req (fewP f) (.req (fewP f) (.node (!flB f) (.leaf (.tuple [.agg f.cells,.int .i64 1])) (.node (f.dead) (.leaf (.tuple [.agg f.cells,.int .i64 17])) (.node (r.seq != i64.wrap ((lastR f).seq+1)) (.leaf (.tuple [.agg f.cells,.int .i64 11])) (.req (!(↑f.pages.length:Int)==0) (.req (fewP f) (.leaf (.tuple [.agg [.list Ty.str (wrF f (r.seq.tmod (↑f.pages.length:Int)) (enc r)).pages,.int .i64 (wrF f (r.seq.tmod (↑f.pages.length:Int)) (enc r)).fuse,.bool (wrF f (r.seq.tmod (↑f.pages.length:Int)) (enc r)).dead,.int .i64 (wrF f (r.seq.tmod (↑f.pages.length:Int)) (enc r)).keep],.int .i64 (wrE f (r.seq.tmod (↑f.pages.length:Int)) (enc r))]))))))))) (.req (fewP f) (.leaf (.tuple [.agg f.cells,.int .i64 1]))))
  (by kernel_rfl) (by
   have w:i64.wrap ((lastR f).seq+1)=lastSeq f+1:=by rw[lastSeq_R,w64 (by have:=lastR_rng f;omega) (by have:=lastR_rng f;omega)]
   rw[w]
   refine n_bool (fun a=>n_req h (n_req h (n_not (fun b=>(apV_arg (.inr b)).symm) fun b=>n_bool (fun d=>(apV_dead a b d).symm) fun d=>n_ne (fun s=>(apV_order a b d s).symm) fun s=>n_req ?_ (n_req h ?_)))) fun a=>n_req h (apV_arg (.inl a)).symm
   ·have:=(flB_iff.1 b).2.1
    rw[Bool.not_eq_true',beq_eq_false_iff_ne];omega
   ·rw[apV_ok a b d s];rfl) (by kernel_rfl) (by kernel_rfl)
theorem o_ap:fAp.ok Tryz.prog:=factFlRc_ok fun f r h=>s_ap f r h
open Go.Sx
theorem kRec:Known Tryz.prog (Env.ofB Tryz.prog (sumOf [fLast,fAp]) (wrOf []) (pnOf []) (bxOf []) (rdOf []) (rdOf []) (rdOf []) (rdOf [])):=hB (l:=[fLast,fAp]) (k:=[]) (j:=[]) (i:=[]) [] [] [] [] ⟨o_last,o_ap,trivial⟩ noneOk noneOk noneOk
theorem next_wrap(f:Fl):i64.wrap ((lastR f).seq+1)=lastSeq f+1:=by rw[lastSeq_R,w64 (by have:=lastR_rng f;omega) (by have:=lastR_rng f;omega)]
theorem b_rec(f:Fl)(r:Rc)(h:fewP f=true)(e:recE f r=0):BCall Tryz.prog 119 [r.sv] (.cells f.cells) (false,.tuple [],.cells (recF f r).cells):=by
 refine bcall_one (r:=.ret (.tuple []) [some (.cells (recF f r).cells)]) (by kernel_rfl) (runsX_seg kRec (n:=1000) (keep:=keepS 37 []) (p:=rcX_p) (Nat.le_refl _) ?_) rfl rfl rfl rfl rfl
 erw [rcX f r]
 unfold rcX_t
 rw[next_wrap]
 exact n_req h (n_req h (n_ne (fun k=>absurd e k) fun _=>rfl))
theorem b_rec_pan(f:Fl)(r:Rc)(h:fewP f=true)(e:¬recE f r=0):BCall Tryz.prog 119 [r.sv] (.cells f.cells) (true,failS,.cells (recF f r).cells):=by
 refine bcall_one (r:=.pan failS [some (.cells (recF f r).cells)]) (by kernel_rfl) (runsX_seg kRec (n:=1000) (keep:=keepS 37 []) (p:=rcX_p) (Nat.le_refl _) ?_) rfl rfl rfl rfl rfl
 erw [rcX f r]
 unfold rcX_t
 rw[next_wrap]
 exact n_req h (n_req h (n_ne (fun _=>rfl) fun k=>absurd k e))
theorem o_rec:bRec.ok Tryz.prog:=fun args B t ht=>by
 simp only[bRec]at ht
 split at ht
 ·split at ht
  ·injection ht with ht;subst ht
   intro h
   exact⟨fun e=>b_rec ⟨_,_,_,_⟩ ⟨_,_,_,_,(_,_,_,_),(_,_,_,_)⟩ h (beq_iff_eq.1 e),fun e=>b_rec_pan ⟨_,_,_,_⟩ ⟨_,_,_,_,(_,_,_,_),(_,_,_,_)⟩ h (beq_eq_false_iff_ne.1 e)⟩
  ·cases ht
 ·cases ht
open Go.Sx
def begR(f:Fw):Rc:=match headZ f.lines with
 |true=>⟨1,0,openV f,0,f.ret,f.ret⟩
 |false=>⟨1,0,openV f,0,f.pos,wadd4 f.pos (f.queue.getD 0 dBk).1⟩
def begPre(f:Fw):Bool:=shapeB f&& (!f.moving&&decide (0<f.lines.length))
def failR(f:Fw):Rc:=match returnsB f with
 |true=>⟨3,0,openV f-1,0,f.pos,(f.ret.1,f.ret.2.1,f.ret.2.2.1,f.pos.2.2.2)⟩
 |false=>match f.moving with
  |true=>⟨2,0,f.active,f.mo.2.1,f.pos,wadd4 (wsub4 f.pos (madeM f.mo)) f.mo.1.1⟩
  |false=>⟨2,0,openV f-1,0,f.pos,f.pos⟩
def backV(f:Fw)(line:Int):V4:=if line=0∧f.homed=true then f.pos else if f.back=true then(f.ret.1,f.ret.2.1,f.ret.2.2.1,f.pos.2.2.2)else(0,0,0,f.pos.2.2.2)
theorem begPre_iff{f:Fw}:begPre f=true↔shapeB f=true∧f.moving=false∧0<f.lines.length:=by simp[begPre]
theorem begR_z{f:Fw}(h:0<f.lines.length)(k:f.lines.getD 0 0=0):begR f=⟨1,0,openV f,0,f.ret,f.ret⟩:=by
 have e:headZ f.lines=true:=headZ_iff.2 ⟨h,k⟩
 unfold begR;rw[e]
theorem begR_n{f:Fw}(k:¬f.lines.getD 0 0=0):begR f=⟨1,0,openV f,0,f.pos,wadd4 f.pos (f.queue.getD 0 dBk).1⟩:=by
 have e:headZ f.lines=false:=by rw[Bool.eq_false_iff];intro h;exact k (headZ_iff.1 h).2
 unfold begR;rw[e]
theorem open_head{f:Fw}(h:begPre f=true)(k:¬f.lines.getD 0 0=0):openV f=f.lines.getD 0 0:=by
 obtain⟨h1,h2,h3⟩:=begPre_iff.1 h
 have r:=(shapeB_iff.1 h1).2.2.2.2.2
 unfold openV
 rw[if_neg (fun q=>by rw[h2]at q;cases q.1)]
 cases hl:f.lines with
 |nil=>rw[hl]at h3;cases h3
 |cons n l=>
  rw[hl]at k
  have k:¬n=0:=k
  have:=r n (by rw[hl];exact List.mem_cons_self)
  unfold firstL
  rw[if_pos (by omega)];rfl
theorem fail_ret{f:Fw}(a:returnsB f=true):failR f=⟨3,0,openV f-1,0,f.pos,(f.ret.1,f.ret.2.1,f.ret.2.2.1,f.pos.2.2.2)⟩:=by unfold failR;rw[a]
theorem fail_mov{f:Fw}(a:returnsB f=false)(m:f.moving=true):failR f=⟨2,0,f.active,f.mo.2.1,f.pos,wadd4 (wsub4 f.pos (madeM f.mo)) f.mo.1.1⟩:=by unfold failR;rw[a,m]
theorem fail_not{f:Fw}(a:returnsB f=false)(m:f.moving=false):failR f=⟨2,0,openV f-1,0,f.pos,f.pos⟩:=by unfold failR;rw[a,m]
theorem open_w{f:Fw}(h:shapeB f=true):i64.wrap (openV f-1)=openV f-1:=w64 (by have:=openV_rng h;omega) (by have:=openV_rng h;omega)
theorem s_bgn(f:Fw)(h:begPre f=true):SCall Tryz.prog 120 [f.sv] ((begR f).sv):=
 scall_v mix [fPOpen,fPP,fPRet,fMade] ⟨o_pOpen,o_pP,o_pRet,o_made,trivial⟩ 1000 (.fork (.all) (.all))
  (t:=.req (decide (0< (↑f.lines.length:Int))) (.node (f.lines.getD 0 0==0) (.req (shapeB f) (.leaf (.agg [.int .i64 1,.int .i64 0,.int .i64 (openV f),.int .i64 0,.int .i64 f.ret.1,.int .i64 f.ret.2.1,.int .i64 f.ret.2.2.1,.int .i64 f.ret.2.2.2,.int .i64 f.ret.1,.int .i64 f.ret.2.1,.int .i64 f.ret.2.2.1,.int .i64 f.ret.2.2.2]))) (.req (shapeB f) (.req (decide (0< (↑f.queue.length:Int))) (.leaf (.agg [.int .i64 1,.int .i64 0,.int .i64 (openV f),.int .i64 0,.int .i64 f.pos.1,.int .i64 f.pos.2.1,.int .i64 f.pos.2.2.1,.int .i64 f.pos.2.2.2,.int .i64 (wadd4 f.pos (f.queue.getD 0 dBk).1).1,.int .i64 (wadd4 f.pos (f.queue.getD 0 dBk).1).2.1,.int .i64 (wadd4 f.pos (f.queue.getD 0 dBk).1).2.2.1,.int .i64 (wadd4 f.pos (f.queue.getD 0 dBk).1).2.2.2]))))))
  (by kernel_rfl) (by
   obtain⟨sh,nm,ln⟩:=begPre_iff.1 h
   have lens:=(shapeB_iff.1 sh).2.1
   refine n_req (decide_eq_true (by omega)) (n_eq (fun k=>n_req sh (by rw[begR_z ln k];rfl)) fun k=>n_req sh (n_req (decide_eq_true (by omega)) (by rw[begR_n k];rfl)))) (by kernel_rfl) (by kernel_rfl)
theorem s_flr(f:Fw)(h:shapeB f=true):SCall Tryz.prog 124 [f.sv] ((failR f).sv):=
 scall_v mix [fPOpen,fPP,fPRet,fMade] ⟨o_pOpen,o_pP,o_pRet,o_made,trivial⟩ 1000 (.fork (.all) (.fork (.all) (.all)))
  (t:=.req (shapeB f) (.req (lensB f) (.node (returnsB f) (.req true (.req (true) (.leaf (.agg [.int .i64 3,.int .i64 0,.int .i64 (i64.wrap (openV f-1)),.int .i64 0,.int .i64 f.pos.1,.int .i64 f.pos.2.1,.int .i64 f.pos.2.2.1,.int .i64 f.pos.2.2.2,.int .i64 f.ret.1,.int .i64 f.ret.2.1,.int .i64 f.ret.2.2.1,.int .i64 f.pos.2.2.2])))) (.node (f.moving) (.leaf (.agg [.int .i64 2,.int .i64 0,.int .i64 f.active,.int .i64 f.mo.2.1,.int .i64 f.pos.1,.int .i64 f.pos.2.1,.int .i64 f.pos.2.2.1,.int .i64 f.pos.2.2.2,.int .i64 (wadd4 (wsub4 f.pos (madeM f.mo)) f.mo.1.1).1,.int .i64 (wadd4 (wsub4 f.pos (madeM f.mo)) f.mo.1.1).2.1,.int .i64 (wadd4 (wsub4 f.pos (madeM f.mo)) f.mo.1.1).2.2.1,.int .i64 (wadd4 (wsub4 f.pos (madeM f.mo)) f.mo.1.1).2.2.2])) (.leaf (.agg [.int .i64 2,.int .i64 0,.int .i64 (i64.wrap (openV f-1)),.int .i64 0,.int .i64 f.pos.1,.int .i64 f.pos.2.1,.int .i64 f.pos.2.2.1,.int .i64 f.pos.2.2.2,.int .i64 f.pos.1,.int .i64 f.pos.2.1,.int .i64 f.pos.2.2.1,.int .i64 f.pos.2.2.2]))))))
  (by kernel_rfl) (by
   have lens:=(shapeB_iff.1 h).2.1
   exact n_req h (n_req (lensB_iff.2 lens) (n_bool (fun a=>n_req rfl (n_req rfl (by rw[fail_ret a,open_w h];rfl))) fun a=>n_bool (fun m=>by rw[fail_mov a m];rfl) fun m=>by rw[fail_not a m,open_w h];rfl))) (by kernel_rfl) (by kernel_rfl)
def fBgn:Fact:=factF1 120 fun f=>.req (begPre f) (.leaf (begR f).sv)
def fFlr:Fact:=factF1 124 fun f=>.req (shapeB f) (.leaf (failR f).sv)
theorem o_bgn:fBgn.ok Tryz.prog:=factF1_ok fun f h=>s_bgn f h
theorem o_flr:fFlr.ok Tryz.prog:=factF1_ok fun f h=>s_flr f h
theorem s_bgnR(f:Fw)(h:begPre f=true):SCall Tryz.prog 122 [f.sv] ((begR f).sv):=
 scall_v mix [fOpenR,fPlsR,fMnsR,fReturnsR,fMadeR] ⟨o_openR,o_plsR,o_mnsR,o_returnsR,o_madeR,trivial⟩ 1000 (.fork (.all) (.all))
  (t:=.req (decide (0< (↑f.lines.length:Int))) (.node (f.lines.getD 0 0==0) (.req (shapeB f) (.leaf (.agg [.int .i64 1,.int .i64 0,.int .i64 (openV f),.int .i64 0,.int .i64 f.ret.1,.int .i64 f.ret.2.1,.int .i64 f.ret.2.2.1,.int .i64 f.ret.2.2.2,.int .i64 f.ret.1,.int .i64 f.ret.2.1,.int .i64 f.ret.2.2.1,.int .i64 f.ret.2.2.2]))) (.req (decide (0< (↑f.lines.length:Int))) (.req (decide (0< (↑f.queue.length:Int))) (.leaf (.agg [.int .i64 1,.int .i64 0,.int .i64 (f.lines.getD 0 0),.int .i64 0,.int .i64 f.pos.1,.int .i64 f.pos.2.1,.int .i64 f.pos.2.2.1,.int .i64 f.pos.2.2.2,.int .i64 (wadd4 f.pos (f.queue.getD 0 dBk).1).1,.int .i64 (wadd4 f.pos (f.queue.getD 0 dBk).1).2.1,.int .i64 (wadd4 f.pos (f.queue.getD 0 dBk).1).2.2.1,.int .i64 (wadd4 f.pos (f.queue.getD 0 dBk).1).2.2.2]))))))
  (by kernel_rfl) (by
   obtain⟨sh,nm,ln⟩:=begPre_iff.1 h
   have lens:=(shapeB_iff.1 sh).2.1
   refine n_req (decide_eq_true (by omega)) (n_eq (fun k=>n_req sh (by rw[begR_z ln k];rfl)) fun k=>n_req (decide_eq_true (by omega)) (n_req (decide_eq_true (by omega)) (by rw[begR_n k,←open_head h k];rfl)))) (by kernel_rfl) (by kernel_rfl)
theorem s_flrR(f:Fw)(h:shapeB f=true):SCall Tryz.prog 125 [f.sv] ((failR f).sv):=
 scall_v mix [fOpenR,fPlsR,fMnsR,fReturnsR,fMadeR] ⟨o_openR,o_plsR,o_mnsR,o_returnsR,o_madeR,trivial⟩ 1000 (.fork (.all) (.fork (.all) (.all)))
  (t:=.node (returnsB f) (.req (shapeB f) (.req true (.req (true) (.req true (.req (true) (.leaf (.agg [.int .i64 3,.int .i64 0,.int .i64 (i64.wrap (openV f-1)),.int .i64 0,.int .i64 f.pos.1,.int .i64 f.pos.2.1,.int .i64 f.pos.2.2.1,.int .i64 f.pos.2.2.2,.int .i64 f.ret.1,.int .i64 f.ret.2.1,.int .i64 f.ret.2.2.1,.int .i64 f.pos.2.2.2]))))))) (.req (shapeB f) (.node (f.moving) (.leaf (.agg [.int .i64 2,.int .i64 0,.int .i64 f.active,.int .i64 f.mo.2.1,.int .i64 f.pos.1,.int .i64 f.pos.2.1,.int .i64 f.pos.2.2.1,.int .i64 f.pos.2.2.2,.int .i64 (wadd4 (wsub4 f.pos (madeM f.mo)) f.mo.1.1).1,.int .i64 (wadd4 (wsub4 f.pos (madeM f.mo)) f.mo.1.1).2.1,.int .i64 (wadd4 (wsub4 f.pos (madeM f.mo)) f.mo.1.1).2.2.1,.int .i64 (wadd4 (wsub4 f.pos (madeM f.mo)) f.mo.1.1).2.2.2])) (.leaf (.agg [.int .i64 2,.int .i64 0,.int .i64 (i64.wrap (openV f-1)),.int .i64 0,.int .i64 f.pos.1,.int .i64 f.pos.2.1,.int .i64 f.pos.2.2.1,.int .i64 f.pos.2.2.2,.int .i64 f.pos.1,.int .i64 f.pos.2.1,.int .i64 f.pos.2.2.1,.int .i64 f.pos.2.2.2])))))
  (by kernel_rfl) (by
   exact n_bool (fun a=>n_req h (n_req rfl (n_req rfl (n_req rfl (n_req rfl (by rw[fail_ret a,open_w h];rfl)))))) fun a=>n_req h (n_bool (fun m=>by rw[fail_mov a m];rfl) fun m=>by rw[fail_not a m,open_w h];rfl)) (by kernel_rfl) (by kernel_rfl)
def fBgnR:Fact:=factF1 122 fun f=>.req (begPre f) (.leaf (begR f).sv)
def fFlrR:Fact:=factF1 125 fun f=>.req (shapeB f) (.leaf (failR f).sv)
theorem o_bgnR:fBgnR.ok Tryz.prog:=factF1_ok fun f h=>s_bgnR f h
theorem o_flrR:fFlrR.ok Tryz.prog:=factF1_ok fun f h=>s_flrR f h
open Go.Sx
def nearR(r:Rc):Bool:=near4 r.src&& (near4 r.dst&&near4 (wsub4 r.dst r.src))
def rLost(f:Fw)(r:Rc):Fw:={f with line:=if r.line-1>0 then r.line-1 else 0,pos:=r.src,e:=unitsN f.ma.e r.src.2.2.2,back:=true,ret:=r.src}
def rResu(f:Fw)(r:Rc):Fw:={f with homed:=true,pos:=r.src,loc:=posL f.ma r.dst,e:=(posV f.ma r.dst).2.2.2,line:=r.line}
def rRet(f:Fw)(r:Rc):Fw:={rResu f r with ret:=r.dst}
def rsF(f:Fw)(r:Rc):Fw:=if r.kind=3 then retF (rRet f r) (wsub4 r.dst r.src)else if r.src=r.dst then rResu f r else addF (rResu f r) (wsub4 r.dst r.src) 0 r.line
def rgE(r:Rc):Int:=if nearR r=true then 0 else 19
def rgF(f:Fw)(r:Rc):Fw:=if r.kind=1 then rLost f r else rsF f r
def rvB(f:Fw)(l:Fl):Bool:=validF f&& (idleB f&& (flB l&&!f.homed))
def rvE(f:Fw)(l:Fl):Int:=if rvB f l=false then 1 else if l.dead=true then 17 else match lastO l with
 |none=>0
 |some r=>rgE r
def rvF(f:Fw)(l:Fl):Fw:=match lastO l with
 |none=>f
 |some r=>rgF f r
def rvS(f:Fw)(l:Fl):SV:=if rvE f l=0 then .tuple [(rvF f l).sv,I64 0]else .tuple [.agg (nilC fw0),I64 (rvE f l)]
theorem add_ok0{f:Fw}{c:V4}{len:Int}(h:addPre f c len=true)(e:entryV f=0):addOk f c len=true:=by
 have p:=add_plOk h
 have ql:=addQ_len f c len
 rw[addOk_iff,e]
 rw[e]at p
 have g:=gL_rng p (i:=0) (Nat.zero_le _)
 have k:gL (addQ f c len) (capsV f.ma (addQ f c len)) 0 0≤0:=by
  rw[gL_step (by omega)]
  exact Int.le_trans (Int.min_le_left _ _) (Int.le_refl _)
 exact⟨(p.crR 0).1,by omega⟩
theorem resu_pre{f g:Fw}(v:VF f)(hi:idleB f=true)(e1:g.ma=f.ma)(e2:g.feed=f.feed)(e3:g.queue=f.queue)(e4:g.lines=f.lines)(e5:g.moving=f.moving){c:V4}(hn:near4 c=true)(hz:nz4 c=true):addPre g c 0=true∧entryV g=0:=by
 obtain⟨i1,i2,i3⟩:=idleB_iff.1 hi
 have n:=v.nums
 have en:entryV g=0:=by
  unfold entryV
  rw[if_neg (show ¬g.moving=true by rw[e5,i1];exact Bool.false_ne_true),if_pos (show g.queue.length=0 by rw[e3];exact i2)]
 exact⟨addPre_iff.2 ⟨by rw[e1];exact okL_of v.ma hn hz,by decide,by rw[e2];exact ok63_iff.2 (by omega),by rw[e3];exact v.sound,by rw[e3,e4];exact v.lens,by rw[e3];omega,by omega,by omega⟩,en⟩
theorem retC_near{d:V4}(h:near4 d=true):near4 (retC d)=true:=by have:=near4_iff.1 h;exact near4_iff.2 (by unfold retC;dsimp only;omega)
theorem retD_near{d:V4}(h:near4 d=true):near4 (retD d)=true:=by have:=near4_iff.1 h;exact near4_iff.2 (by unfold retD;dsimp only;omega)
theorem ret_pre{f g:Fw}(v:VF f)(hi:idleB f=true)(e1:g.ma=f.ma)(e2:g.feed=f.feed)(e3:g.queue=f.queue)(e4:g.lines=f.lines)(e5:g.moving=f.moving){d:V4}(hn:near4 d=true):
  retPre g d=true∧entryV g=0∧entryV (backF g (retC d))=0∧retOk g d=true:=by
 obtain⟨i1,i2,i3⟩:=idleB_iff.1 hi
 have en:entryV g=0:=by
  unfold entryV
  rw[if_neg (show ¬g.moving=true by rw[e5,i1];exact Bool.false_ne_true),if_pos (show g.queue.length=0 by rw[e3];exact i2)]
 have p1:nz4 (retC d)=true→addPre g (retC d) 0=true:=fun z=>(resu_pre v hi e1 e2 e3 e4 e5 (retC_near hn) z).1
 have o1:backOk g (retC d)=true:=by
  cases z:nz4 (retC d)with
  |false=>exact backOk_no z
  |true=>rw[backOk_yes z];exact add_ok0 (p1 z) en
 have en2:entryV (backF g (retC d))=0:=by
  cases z:nz4 (retC d)with
  |false=>rw[backF_no z];exact en
  |true=>
   rw[backF_yes z,addF_entry (by rw[←backOk_yes z];exact o1)];exact en
 have p2:nz4 (retD d)=true→addPre (backF g (retC d)) (retD d) 0=true:=fun y=>by
  cases z:nz4 (retC d)with
  |false=>rw[backF_no z];exact(resu_pre v hi e1 e2 e3 e4 e5 (retD_near hn) y).1
  |true=>
   rw[backF_yes z]
   exact addF_pre (p1 z) (by rw[←backOk_yes z];exact o1) (by rw[e1];exact okL_of v.ma (retD_near hn) y) (by decide) (by rw[e3];omega)
 have o2:backOk (backF g (retC d)) (retD d)=true:=by
  cases y:nz4 (retD d)with
  |false=>exact backOk_no y
  |true=>rw[backOk_yes y];exact add_ok0 (p2 y) en2
 exact⟨retPre_iff.2 ⟨p1,fun _=>p2⟩,en,en2,by unfold retOk;rw[o1,o2];rfl⟩
open Go.Sx
section
variable {f:Fw} {r s line:Int} {c:Gc.C}
end
theorem v4beq{a b:V4}(h:a=b):(a.1==b.1&& (a.2.1==b.2.1&& (a.2.2.1==b.2.2.1&& (a.2.2.2==b.2.2.2&&true))))=true:=by subst h;simp
section
variable {kd:Int} {nb:Bool} {c:Gc.C} {n r s:Int}
end
open Go.Sx
open Go.Sx
section
variable {f:Fw} {line:Int} {c:Gc.C}
end
open Go.Sx
section
variable {f:Fw}
structure Rec (r:Rc) (real:V4):Prop where
 near:nearR r=true
 kd:1≤r.kind∧r.kind≤3
 ln:0≤r.line∧r.line≤1099511627776
 real:¬r.kind=1→r.src=real
 blk:r.kind=2→¬r.src=r.dst→1≤r.line
end
open Go.Sx
noncomputable def eClo:Env:=Env.ofB Tryz.prog (sumOf [fBgn,fFlr]) (wrOf []) (pnOf [BFact.toP bRec]) (bxOf [bRec]) (rdOf []) (rdOf []) (rdOf []) (rdOf [])
theorem kClo:Known Tryz.prog eClo:=hB (l:=[fBgn,fFlr]) (k:=[]) (j:=[BFact.toP bRec]) (i:=[bRec]) [] [] [] [] ⟨o_bgn,o_flr,trivial⟩ noneOk (allQ.all (p:=PFact.ok Tryz.prog) (l:=[BFact.toP bRec]) ⟨BFact.toP_ok o_rec,trivial⟩) (allQ.all (p:=BFact.ok Tryz.prog) (l:=[bRec]) ⟨o_rec,trivial⟩)
noncomputable def pTick:PFact:=goP eClo 1000 118
noncomputable def pFail:PFact:=goP eClo 1000 123
noncomputable def pAcc:PFact:=goP eClo 1000 127
noncomputable def eAtA:Env:=Env.ofB Tryz.prog (sumOf []) (wrOf []) (pnOf []) (bxOf []) (rdOf []) (rdOf []) (rdOf []) (rdOf [1])
noncomputable def eAtB:Env:=Env.ofB Tryz.prog (sumOf []) (wrOf []) (pnOf [pTick,pFail,pAcc]) (bxOf []) (rdOf []) (rdOf []) (rdOf []) (rdOf [])
noncomputable def eAtC:Env:=Env.ofB Tryz.prog (sumOf []) (wrOf []) (pnOf []) (bxOf []) (rdOf []) (rdOf []) (rdOf []) (rdOf [0])
theorem kAtA:Known Tryz.prog eAtA:=hB (l:=[]) (k:=[]) (j:=[]) (i:=[]) [] [] [] [1] trivial noneOk noneOk noneOk
theorem kAtB:Known Tryz.prog eAtB:=hB (l:=[]) (k:=[]) (j:=[pTick,pFail,pAcc]) (i:=[]) [] [] [] [] trivial noneOk (allQ.all (p:=PFact.ok Tryz.prog) (l:=[pTick,pFail,pAcc]) ⟨goP_ok kClo 1000 _,goP_ok kClo 1000 _,goP_ok kClo 1000 _,trivial⟩) noneOk
theorem kAtC:Known Tryz.prog eAtC:=hB (l:=[]) (k:=[]) (j:=[]) (i:=[]) [] [] [] [0] trivial noneOk noneOk noneOk
noncomputable def wAtt:WFact:=defW eAtA eAtB eAtC 1000 117
theorem o_watt:wAtt.ok Tryz.prog:=defW_ok kAtA kAtB kAtC 1000 _
open Go.Sx
def runS(f:Fw):SV:=.tuple [(runF f).sv,V4.sv (runP f)]
theorem runS_at{f g:Fw}{p:V4}(a:runF f=g)(b:runP f=p):SV.tuple [.agg g.cells,.agg p.cells] =runS f:=by unfold runS;rw[a,b];rfl
theorem s_runR(f:Fw)(h:validF f=true):SCall Tryz.prog 83 [f.sv] (runS f):=
 scall_vE (hB (l:=[fBegXR,fTickR,fPlsR,fEndedR]) (k:=[]) (j:=[]) (i:=[]) ([] :List Nat) ([] :List Nat) ([] :List Nat) ([] :List Nat) (⟨o_begXR,o_tickR,o_plsR,o_endedR,trivial⟩) noneOk noneOk noneOk) 1000 (.fork (.all) (.fork (.all) (.fork (.all) (.all))))
  (t:=.node (decide (f.dwell>0)) (.leaf (.tuple [.agg (Fw.cells {f with dwell:=(i64.wrap (f.dwell-1))}),.agg [.int .i64 0,.int .i64 0,.int .i64 0,.int .i64 0]])) (.node (!(begX f).moving) (.leaf (.tuple [.agg (Fw.cells (begX f)),.agg [.int .i64 0,.int .i64 0,.int .i64 0,.int .i64 0]])) (.node (endedM (tickM (begX f).mo (begX f).ma.ticks)) (.leaf (.tuple [.agg (Fw.cells { (begX f)with pos:=(wadd4 (begX f).pos (tickP (begX f).mo (begX f).ma.ticks)),mo:=(((0,0,0,0),0,0,0,0),0,0),moving:=false,active:=0}),.agg [.int .i64 (tickP (begX f).mo (begX f).ma.ticks).1,.int .i64 (tickP (begX f).mo (begX f).ma.ticks).2.1,.int .i64 (tickP (begX f).mo (begX f).ma.ticks).2.2.1,.int .i64 (tickP (begX f).mo (begX f).ma.ticks).2.2.2]])) (.leaf (.tuple [.agg (Fw.cells { (begX f)with pos:=(wadd4 (begX f).pos (tickP (begX f).mo (begX f).ma.ticks)),mo:=(tickM (begX f).mo (begX f).ma.ticks)}),.agg [.int .i64 (tickP (begX f).mo (begX f).ma.ticks).1,.int .i64 (tickP (begX f).mo (begX f).ma.ticks).2.1,.int .i64 (tickP (begX f).mo (begX f).ma.ticks).2.2.1,.int .i64 (tickP (begX f).mo (begX f).ma.ticks).2.2.2]])))))
  (by kernel_rfl) (by
   have v:=vf_of h
   have n:=v.nums
   have vb:=vf_of (beg_valid h)
   have wa:wadd4 (begF f).pos (tickP (begF f).mo (begF f).ma.ticks)=add4 (begF f).pos (tickP (begF f).mo (begF f).ma.ticks):=wadd4_eq (near_big vb.pos) (tickP_big _ _)
   rw[begX_yes h,wa]
   refine n_dec (fun d=>?_) fun d=>n_not (fun m=>?_) fun m=>n_bool (fun e=>?_) fun e=>?_
   ·rw[show i64.wrap (f.dwell-1)=f.dwell-1 from w64 (by omega) (by omega)]
    exact runS_at (if_pos d) (if_pos d)
   ·exact runS_at (by unfold runF;rw[if_neg d,m,if_neg Bool.false_ne_true]) (by unfold runP;rw[if_neg d,m,if_neg Bool.false_ne_true])
   ·exact runS_at (by unfold runF;rw[if_neg d,if_pos m];exact step_yes e) (by unfold runP;rw[if_neg d,if_pos m])
   ·exact runS_at (by unfold runF;rw[if_neg d,if_pos m];exact step_no e) (by unfold runP;rw[if_neg d,if_pos m])) (by kernel_rfl) (by rfl)
def fRunR:Fact:=factF1 83 fun f=>.req (validF f) (.leaf (runS f))
theorem o_runR:fRunR.ok Tryz.prog:=factF1_ok (fun f h=>s_runR f h)
section
variable {f g:Fw} {r s:Int}
theorem warm_of{x:Fw}(v:validF x=true):warmPre x=true:=by
 have u:=vf_of v
 exact warmPre_iff.2 ⟨⟨u.c0,u.g0⟩,u.c1,u.g1⟩
theorem tkR_1(v:validF f=true)(h:g=readF f r s)(l:lostB g=true):SV.tuple [.agg (waitF {loseF (heatF g)with mode:=3}).cells,V4.sv z4,.agg [I64 0,I64 0]] =tickX f r s:=by
 subst h
 have e:hotF f r s=waitF {loseF (heatF (readF f r s))with mode:=3}:=by unfold hotF lostF;rw[if_pos l]
 have m:(hotF f r s).mode=3:=by rw[e];rfl
 unfold tickX;rw[tickF_on v,tickQ_on v,tickD_on v,if_pos m,if_pos m,if_pos m,e];rfl
theorem tkR_2(v:validF f=true)(h:g=readF f r s)(l:lostB g=false)(m:(waitF (heatF g)).mode=3):SV.tuple [.agg (waitF (heatF g)).cells,V4.sv z4,.agg [I64 0,I64 0]] =tickX f r s:=by
 subst h
 have e:hotF f r s=waitF (heatF (readF f r s)):=by unfold hotF lostF;rw[l,if_neg Bool.false_ne_true]
 have m:(hotF f r s).mode=3:=by rw[e];exact m
 unfold tickX;rw[tickF_on v,tickQ_on v,tickD_on v,if_pos m,if_pos m,if_pos m,e];rfl
theorem tkR_3(v:validF f=true)(h:g=readF f r s)(l:lostB g=false)(m:¬(waitF (heatF g)).mode=3):SV.tuple [.agg (runF (waitF (heatF g))).cells,V4.sv (runP (waitF (heatF g))),.agg [I64 (duty0 g),I64 (duty1 g)]] =tickX f r s:=by
 subst h
 have e:hotF f r s=waitF (heatF (readF f r s)):=by unfold hotF lostF;rw[l,if_neg Bool.false_ne_true]
 have m:¬(hotF f r s).mode=3:=by rw[e];exact m
 unfold tickX;rw[tickF_on v,tickQ_on v,tickD_on v,if_neg m,if_neg m,if_neg m,e];rfl
theorem tkR_ticks(v:validF f=true):(if i64.wrap (f.ticks+1)<1099511627776 then i64.wrap (f.ticks+1)else 1099511627776)=(if f.ticks+1<1099511627776 then f.ticks+1 else 1099511627776):=by
 have n:=(vf_of v).nums
 rw[w64 (x:=f.ticks+1) (by omega) (by omega)]
end
theorem s_tickRR(f:Fw)(r s:Int):SCall Tryz.prog 28 [f.sv,.agg [I64 r,I64 s]] (tickX f r s):=
 scall_vE (hB (l:=[fValidR,fHeatR,fLoseR,fWaitR,fRunR]) (k:=[]) (j:=[]) (i:=[]) ([] :List Nat) ([] :List Nat) ([] :List Nat) ([] :List Nat) (⟨o_validR,o_heatR,o_loseR,o_waitR,o_runR,trivial⟩) noneOk noneOk noneOk) 1000 (.fork (.all) (.fork (.lit (.all)) (.fork (.all) (.all))))
  (t:=let y0:={f with ticks:=(if i64.wrap (f.ticks+1)<1099511627776 then i64.wrap (f.ticks+1)else 1099511627776),r0:=r,r1:=s};let y1:=waitF (heatF y0);.node (!validF f) (.leaf (.tuple [.agg (Fw.cells f),.agg [.int .i64 0,.int .i64 0,.int .i64 0,.int .i64 0],.agg [.int .i64 0,.int .i64 0]])) (.node (lostB y0) (.req (shapeB (heatF y0)) (.req (warmPre ({ (loseF (heatF y0))with mode:=3})) (.leaf (.tuple [.agg (Fw.cells (waitF ({ (loseF (heatF y0))with mode:=3}))),.agg [.int .i64 0,.int .i64 0,.int .i64 0,.int .i64 0],.agg [.int .i64 0,.int .i64 0]])))) (.req (warmPre (heatF y0)) (.node (y1.mode==3) (.leaf (.tuple [.agg (Fw.cells y1),.agg [.int .i64 0,.int .i64 0,.int .i64 0,.int .i64 0],.agg [.int .i64 0,.int .i64 0]])) (.req (validF y1) (.leaf (.tuple [.agg (Fw.cells (runF y1)),.agg [.int .i64 (runP y1).1,.int .i64 (runP y1).2.1,.int .i64 (runP y1).2.2.1,.int .i64 (runP y1).2.2.2],.agg [.int .i64 (duty0 y0),.int .i64 (duty1 y0)]])))))))
  (by kernel_rfl) (by
   refine n_not (fun v=>tk_no v) fun v=>?_
   have h:({f with ticks:=(if i64.wrap (f.ticks+1)<1099511627776 then i64.wrap (f.ticks+1)else 1099511627776),r0:=r,r1:=s}:Fw)=readF f r s:=by unfold readF;rw[tkR_ticks v]
   have hv:=heat_valid (read_valid (r:=r) (s:=s) v)
   have hh:=hot_valid (r:=r) (s:=s) v
   refine n_bool (fun l=>?_) fun l=>?_
   ·refine n_req (by rw[h];exact(vf_of hv).shape) (n_req (by rw[h];exact warm_of (lose_valid hv)) (tkR_1 v h l))
   ·refine n_req (by rw[h];exact warm_of hv) (n_eq (fun m=>tkR_2 v h l m) fun m=>n_req ?_ (tkR_3 v h l m))
    rw[h]at l ⊢
    have e:hotF f r s=waitF (heatF (readF f r s)):=by unfold hotF lostF;rw[l,if_neg Bool.false_ne_true]
    rw[←e];exact hh) (by kernel_rfl) (by rfl)
def fTickXR:Fact:=factFw 28 fun f rest=>match rest with
 |[.agg [.int .i64 r,.int .i64 s]] =>some (.leaf (tickX f r s))
 |_=>none
theorem o_tickXR:fTickXR.ok Tryz.prog:=factFw_ok fun f rest t ht=>by
 split at ht
 ·injection ht with ht;subst ht;exact s_tickRR f _ _
 ·cases ht
open Go.Sx
def failL(f:Fw)(l:Fl):Fl:=match validF f&&f.homed with
 |true=>recF l (failR f)
 |false=>l
def goB(f:Fw)(l:Fl):Bool:=!begB f||recE l (begR f)==0
def pwL(f:Fw)(l:Fl):Fl:=match begB f with
 |true=>recF l (begR f)
 |false=>l
def pwF(f:Fw)(l:Fl)(r s:Int):Fw:=match goB f l with
 |true=>tickF f r s
 |false=>f
def pwQ(f:Fw)(l:Fl)(r s:Int):V4:=match goB f l with
 |true=>tickQ f r s
 |false=>z4
def pwD(f:Fw)(l:Fl)(r s:Int):Int×Int:=match goB f l with
 |true=>tickD f r s
 |false=>(0,0)
def pwV(f:Fw)(l:Fl)(r s:Int):SV:=.tuple [(pwF f l r s).sv,(pwL f l).sv,V4.sv (pwQ f l r s),.agg [I64 (pwD f l r s).1,I64 (pwD f l r s).2]]
def hmR1(f:Fw)(n:Int):Rc:=⟨1,0,f.line+1,0,backV f n,backV f n⟩
def hmR2(f:Fw)(n:Int)(c:Gc.C):Rc:=⟨3,0,(accF f n c).line,0,(accF f n c).pos,backV f n⟩
def axE(f:Fw)(l:Fl)(n:Int)(c:Gc.C):Int:=if accE f n c=0 then(if c.code=28 then(if recE l (hmR1 f n)=0∧recE (recF l (hmR1 f n)) (hmR2 f n c)=0 then 0 else 17)else 0)else accE f n c
def axL(f:Fw)(l:Fl)(n:Int)(c:Gc.C):Fl:=if accE f n c=0∧c.code=28 then(if recE l (hmR1 f n)=0 then recF (recF l (hmR1 f n)) (hmR2 f n c)else recF l (hmR1 f n))else l
def axF(f:Fw)(l:Fl)(n:Int)(c:Gc.C):Fw:=if axE f l n c=0 then accF f n c else f
def axH(f:Fw)(l:Fl)(n:Int)(c:Gc.C):Bool:=decide (accE f n c=0)&& (decide (c.code=28)&&decide (recE l (hmR1 f n)=0))
def axV(f:Fw)(l:Fl)(n:Int)(c:Gc.C):SV:=.tuple [(axF f l n c).sv,(axL f l n c).sv,.bool (axH f l n c),I64 (axE f l n c)]
theorem few_rec{l:Fl}{r:Rc}(h:fewP l=true):fewP (recF l r)=true:=by
 have h:=of_decide_eq_true h
 refine decide_eq_true ?_
 unfold recF apF wrF
 repeat' split
 all_goals(first|exact h|(show(List.set _ _ _).length≤1000;rw[List.length_set];exact h))
theorem fail_y{f:Fw}{l:Fl}(v:validF f=true)(k:f.homed=true):failL f l=recF l (failR f):=by unfold failL;rw[v,k];rfl
theorem fail_n{f:Fw}{l:Fl}(v:validF f=false):failL f l=l:=by unfold failL;rw[v];rfl
theorem fail_h{f:Fw}{l:Fl}(k:f.homed=false):failL f l=l:=by unfold failL;rw[k,Bool.and_false]
theorem begB_iff{f:Fw}:begB f=true↔validF f=true∧canStart f=true:=by unfold begB;rw[Bool.and_eq_true]
theorem begB_pre{f:Fw}(b:begB f=true):begPre f=true:=by
 obtain⟨v,c⟩:=begB_iff.1 b
 obtain⟨c1,c2,_,_⟩:=canStart_iff.1 c
 exact begPre_iff.2 ⟨(vf_of v).shape,c1,by have:=(vf_of v).lens;omega⟩
theorem pw_n{f:Fw}{l:Fl}{r s:Int}(v:validF f=false):SV.tuple [.agg f.cells,.agg l.cells,.agg [.int .i64 0,.int .i64 0,.int .i64 0,.int .i64 0],.agg [.int .i64 0,.int .i64 0]] =pwV f l r s:=by
 have b:begB f=false:=by unfold begB;rw[v];rfl
 have g:goB f l=true:=by unfold goB;rw[b];rfl
 unfold pwV pwF pwL pwQ pwD
 rw[g,b]
 unfold tickF tickQ tickD
 rw[v];rfl
theorem pw_yy{f:Fw}{l:Fl}{r s:Int}(b:begB f=true)(e:(recE l (begR f)==0)=true):SV.tuple [.agg (tickF f r s).cells,.agg (recF l (begR f)).cells,V4.sv (tickQ f r s),.agg [I64 (tickD f r s).1,I64 (tickD f r s).2]] =pwV f l r s:=by
 have g:goB f l=true:=by unfold goB;rw[e,Bool.or_true]
 unfold pwV pwF pwL pwQ pwD
 rw[g,b];rfl
theorem pw_yn{f:Fw}{l:Fl}{r s:Int}(b:begB f=true)(e:(recE l (begR f)==0)=false):SV.tuple [.agg f.cells,.agg (recF l (begR f)).cells,.agg [.int .i64 0,.int .i64 0,.int .i64 0,.int .i64 0],.agg [.int .i64 0,.int .i64 0]] =pwV f l r s:=by
 have g:goB f l=false:=by unfold goB;rw[e,b];rfl
 unfold pwV pwF pwL pwQ pwD
 rw[g,b];rfl
theorem pw_no{f:Fw}{l:Fl}{r s:Int}(b:begB f=false):SV.tuple [.agg (tickF f r s).cells,.agg l.cells,V4.sv (tickQ f r s),.agg [I64 (tickD f r s).1,I64 (tickD f r s).2]] =pwV f l r s:=by
 have g:goB f l=true:=by unfold goB;rw[b];rfl
 unfold pwV pwF pwL pwQ pwD
 rw[g,b];rfl
theorem s_pFail(f:Fw)(l:Fl)(h:fewP l=true):SCall Tryz.prog 46 [f.sv,l.sv] ((failL f l).sv):=
 scall_vE (hB (l:=[fFlCP,fValid]) (k:=[wAtt]) (j:=[]) (i:=[]) ([] :List Nat) ([] :List Nat) ([] :List Nat) ([] :List Nat) (⟨o_flCP,o_valid,trivial⟩) (allQ.all (p:=WFact.ok Tryz.prog) (l:=[wAtt]) ⟨o_watt,trivial⟩) noneOk noneOk) 1000 (.fork (.lit (.lit (.fork (.fork (.fork (.ln 3 (.lit .all)) .all) (.ln 3 (.lit .all))) .all))) (.lit (.lit (.lit .all))))
  (t:=.req (fewP l) (.node (validF f) (.node (f.homed) (.req (shapeB f) (.req (fewP l) (.node (recE l (failR f)==0) (.req (shapeB f) (.req (fewP l) (.node (recE l (failR f)==0) (.leaf (.agg (Fl.cells (recF l (failR f))))) (.fail 177)))) (.leaf (.agg (Fl.cells (recF l (failR f)))))))) (.leaf (.agg (Fl.cells l)))) (.leaf (.agg (Fl.cells l)))))
  (by kernel_rfl) (by
   refine n_req h (n_bool (fun v=>n_bool (fun k=>?_) fun k=>by rw[fail_h k];rfl) fun v=>by rw[fail_n v];rfl)
   have s:=(vf_of v).shape
   rw[fail_y v k]
   exact n_req s (n_req h (n_bool (fun e=>n_req s (n_req h (n_bool (fun _=>rfl) fun q=>by rw[e]at q;cases q))) fun _=>rfl))) (by kernel_rfl) (by kernel_rfl)
theorem s_pFailR(f:Fw)(l:Fl)(h:fewP l=true):SCall Tryz.prog 47 [f.sv,l.sv] ((failL f l).sv):=
 scall_v mix [fValidR,fRecR,fFlrR] ⟨o_validR,o_recR,o_flrR,trivial⟩ 1000 (.fork (.ln 3 (.lit .all)) (.ln 3 (.fork .all .all)))
  (t:=.node (!validF f)
 (.leaf (SV.agg (Fl.cells l)))
 (.node (!f.homed)
  (.leaf (SV.agg (Fl.cells l)))
  (.req (shapeB f) (.req (fewP l) (.leaf (SV.agg (Fl.cells (recF l (failR f)))))))))
   (by kernel_rfl) (by
    refine n_not (fun v=>by rw[fail_n v];rfl) fun v=>n_not (fun k=>by rw[fail_h k];rfl) fun k=>?_
    rw[fail_y v k]
    exact n_req (vf_of v).shape (n_req h rfl)) (by kernel_rfl) (by kernel_rfl)
theorem s_pTick(f:Fw)(l:Fl)(r s:Int)(h:fewP l=true)(k:shF f=true):SCall Tryz.prog 43 [f.sv,l.sv,.agg [I64 r,I64 s]] (pwV f l r s):=
 scall_vE (hB (l:=[fFlCP,fValid,fCln,fBegX,fTickX]) (k:=[wAtt]) (j:=[]) (i:=[]) ([] :List Nat) ([] :List Nat) ([] :List Nat) ([] :List Nat) (⟨o_flCP,o_valid,o_cln,o_begX,o_tickX,trivial⟩) (allQ.all (p:=WFact.ok Tryz.prog) (l:=[wAtt]) ⟨o_watt,trivial⟩) noneOk noneOk) 1000 (.fork .all (.fork (.lit (.fork (.fork (.ln 6 (.lit .all)) .all) (.ln 6 (.lit .all)))) (.ln 3 (.lit .all))))
  (t:=.req (fewP l) (.node (!validF f) (.req (shF f) (.leaf (.tuple [.agg (Fw.cells f),.agg (Fl.cells l),.agg [.int .i64 0,.int .i64 0,.int .i64 0,.int .i64 0],.agg [.int .i64 0,.int .i64 0]]))) (.node (begB f) (.req (begPre f) (.req (fewP l) (.node (recE l (begR f)==0) (.req (begPre f) (.req (fewP l) (.node (recE l (begR f)==0) (.leaf (.tuple [.agg (Fw.cells (tickF f r s)),.agg (Fl.cells (recF l (begR f))),.agg [.int .i64 (tickQ f r s).1,.int .i64 (tickQ f r s).2.1,.int .i64 (tickQ f r s).2.2.1,.int .i64 (tickQ f r s).2.2.2],.agg [.int .i64 (tickD f r s).1,.int .i64 (tickD f r s).2]])) (.fail 177)))) (.req (shF f) (.leaf (.tuple [.agg (Fw.cells f),.agg (Fl.cells (recF l (begR f))),.agg [.int .i64 0,.int .i64 0,.int .i64 0,.int .i64 0],.agg [.int .i64 0,.int .i64 0]])))))) (.leaf (.tuple [.agg (Fw.cells (tickF f r s)),.agg (Fl.cells l),.agg [.int .i64 (tickQ f r s).1,.int .i64 (tickQ f r s).2.1,.int .i64 (tickQ f r s).2.2.1,.int .i64 (tickQ f r s).2.2.2],.agg [.int .i64 (tickD f r s).1,.int .i64 (tickD f r s).2]])))))
  (by kernel_rfl) (by
   refine n_req h (n_not (fun v=>n_req k (pw_n v)) fun v=>n_bool (fun b=>?_) fun b=>pw_no b)
   have p:=begB_pre b
   exact n_req p (n_req h (n_bool (fun e=>n_req p (n_req h (n_bool (fun _=>pw_yy b e) fun q=>by rw[e]at q;cases q))) fun e=>n_req k (pw_yn b e)))) (by kernel_rfl) (by kernel_rfl)
theorem s_pTickR(f:Fw)(l:Fl)(r s:Int)(h:fewP l=true):SCall Tryz.prog 44 [f.sv,l.sv,.agg [I64 r,I64 s]] (pwV f l r s):=
 scall_v mix [fValidR,fBegXR,fTickXR,fRecR,fBgnR] ⟨o_validR,o_begXR,o_tickXR,o_recR,o_bgnR,trivial⟩ 1000 (.fork (.all) (.fork (.fork (.all) (.all)) (.all)))
  (t:=.node (!validF f) (.leaf (.tuple [.agg (Fw.cells f),.agg (Fl.cells l),.agg [.int .i64 0,.int .i64 0,.int .i64 0,.int .i64 0],.agg [.int .i64 0,.int .i64 0]])) (.node (begB f) (.req (begPre f) (.req (fewP l) (.node (!recE l (begR f)==0) (.leaf (.tuple [.agg (Fw.cells f),.agg (Fl.cells (recF l (begR f))),.agg [.int .i64 0,.int .i64 0,.int .i64 0,.int .i64 0],.agg [.int .i64 0,.int .i64 0]])) (.leaf (.tuple [.agg (Fw.cells (tickF f r s)),.agg (Fl.cells (recF l (begR f))),.agg [.int .i64 (tickQ f r s).1,.int .i64 (tickQ f r s).2.1,.int .i64 (tickQ f r s).2.2.1,.int .i64 (tickQ f r s).2.2.2],.agg [.int .i64 (tickD f r s).1,.int .i64 (tickD f r s).2]]))))) (.leaf (.tuple [.agg (Fw.cells (tickF f r s)),.agg (Fl.cells l),.agg [.int .i64 (tickQ f r s).1,.int .i64 (tickQ f r s).2.1,.int .i64 (tickQ f r s).2.2.1,.int .i64 (tickQ f r s).2.2.2],.agg [.int .i64 (tickD f r s).1,.int .i64 (tickD f r s).2]]))))
  (by kernel_rfl) (by
   refine n_not (fun v=>pw_n v) fun v=>n_bool (fun b=>?_) fun b=>pw_no b
   have p:=begB_pre b
   exact n_req p (n_req h (n_not (fun e=>pw_yn b e) fun e=>pw_yy b e))) (by kernel_rfl) (by kernel_rfl)
open Go.Sx
open Go.Sx
def newW(f:Fw)(c:V4):Bk:=(c,accV f.ma c,0,i64.wrap (spdV f.ma c 0 f.feed*spdV f.ma c 0 f.feed),0)
def pd0_p:Plan:=.fork (.lit (.all)) (.all)
noncomputable def pd0_t(f:Fw)(c:V4)(line:Int):Tree Stop:= .req (ok63 f.feed) (.node (f.queue.isEmpty) (.req (decide ((0+ [newW f c].length)*64≤140737488355328)) (.req (decide (0≤(↑[newW f c].length:Int))&& (↑[newW f c].length:Int)==(↑[newW f c].length:Int)&&decide (8*(↑[newW f c].length:Int)≤140737488355328)&&decide ((↑[newW f c].length:Int)≤(9223372036854775807:Int))) (.leaf (.at (loopOf Tryz.prog 195 0) 85 (slotsS 85 [(2,.int .i64 line),(3,.ptr 0 0),(6,.ptr 1 0),(9,SV.row 2),(10,SV.row 3),(11,.int .i64 1)]) [some (.cells (Fw.cells f)),some (.cells (nilC fw0)),some (.rows tyBk [newW f c]),some (.rows (Ty.int IntKind.i64) (List.replicate (↑[newW f c].length:Int).toNat (0:Int)))])))) (.req (decide ((0+f.queue.length)*64≤140737488355328)) (.req (decide ((f.queue.length+ [newW f c].length)*64≤140737488355328)) (.req (decide (0≤(↑(f.queue++[newW f c]).length:Int))&& (↑(f.queue++[newW f c]).length:Int)==(↑(f.queue++[newW f c]).length:Int)&&decide (8*(↑(f.queue++[newW f c]).length:Int)≤140737488355328)&&decide ((↑(f.queue++[newW f c]).length:Int)≤(9223372036854775807:Int))) (.leaf (.at (loopOf Tryz.prog 195 0) 85 (slotsS 85 [(2,.int .i64 line),(3,.ptr 0 0),(6,.ptr 1 0),(9,SV.row 2),(10,SV.row 3),(11,.int .i64 1)]) [some (.cells (Fw.cells f)),some (.cells (nilC fw0)),some (.rows tyBk (f.queue++[newW f c])),some (.rows (Ty.int IntKind.i64) (List.replicate (↑(f.queue++[newW f c]).length:Int).toNat (0:Int)))]))))))
theorem pd0(f:Fw)(c:V4)(line:Int):segR (Env.ofB Tryz.prog (sumOf [fSpd,fAcc,fJun]) (wrOf [fPla.frz]) (pnOf []) (bxOf []) (rdOf []) (rdOf []) (rdOf []) (rdOf [])) 1000 (fnOf Tryz.prog 195) .unit (keepS 85 [2,3,6,9,10,11]) (codeS Tryz.prog 195) pd0_p (startS Tryz.prog 195 [f.sv,V4.sv c,I64 line]) [] =pd0_t f c line:=by kernel_rfl
def pd1_p:Plan:=.fork (.all) (.fork (.fork (.lit (.fork (.lit (.all)) (.all))) (.lit (.all))) (.lit (.all)))
noncomputable def pd1_t(f:Fw)(line:Int)(q:List Bk)(s:List Int)(i:Int):Tree Stop:= .node (decide (i< (↑q.length:Int))) (.req (decide (0≤i64.wrap (i-1))&&decide (i64.wrap (i-1)< (↑q.length:Int))) (.req (decide ((i64.wrap (i-1)).toNat<q.length)) (.req (decide (0≤i)&&decide (i< (↑q.length:Int))) (.req (decide (i.toNat<q.length)) (.req (decide (0≤i)&&decide (i< (↑s.length:Int))) (.req (decide (i.toNat<s.length)) (.leaf (.at (loopOf Tryz.prog 195 0) 85 (slotsS 85 [(2,.int .i64 line),(3,.ptr 0 0),(6,.ptr 1 0),(9,SV.row 2),(10,SV.row 3),(11,.int .i64 (i64.wrap (i+1)))]) [some (.cells (Fw.cells f)),some (.cells (nilC fw0)),some (.rows tyBk q),some (.rows (Ty.int IntKind.i64) (s.set i.toNat (i64.wrap (junV f.ma (q.getD (i64.wrap (i-1)).toNat dBk).1 (q.getD i.toNat dBk).1*junV f.ma (q.getD (i64.wrap (i-1)).toNat dBk).1 (q.getD i.toNat dBk).1))))])))))))) (.req (okPl q s 0) (.node (decide (0≤crL q 0)) (.node (decide (gL q s 0 0=0)) (.node (f.lines.isEmpty) (.req (decide ((0+ [line].length)*8≤140737488355328)) (.leaf (.done (.tuple [.agg (Fw.cells {f with queue:=(plB q (gL q s 0)),lines:=[line]}),.int .i64 0])))) (.req (decide ((0+f.lines.length)*8≤140737488355328)) (.req (decide ((f.lines.length+ [line].length)*8≤140737488355328)) (.leaf (.done (.tuple [.agg (Fw.cells {f with queue:=(plB q (gL q s 0)),lines:=(f.lines++[line])}),.int .i64 0])))))) (.leaf (.done (.tuple [.agg (nilC fw0),.int .i64 2])))) (.leaf (.done (.tuple [.agg (nilC fw0),.int .i64 2])))))
theorem pd1(f:Fw)(line:Int)(q:List Bk)(s:List Int)(i:Int):segR (Env.ofB Tryz.prog (sumOf [fSpd,fAcc,fJun]) (wrOf [fPla.frz]) (pnOf []) (bxOf []) (rdOf []) (rdOf []) (rdOf []) (rdOf [])) 1000 (fnOf Tryz.prog 195) .unit (keepS 85 [2,3,6,9,10,11]) (loopOf Tryz.prog 195 0) pd1_p (slotsS 85 [(2,I64 line),(3,.ptr 0 0),(6,.ptr 1 0),(9,.row 2),(10,.row 3),(11,I64 i)]) [some (.cells f.cells),some (.cells (nilC fw0)),some (.rows tyBk q),some (.rows (.int .i64) s)] =pd1_t f line q s i:=by kernel_rfl
open Go.Sx
def paddS(f:Fw)(c:V4)(line:Int):SV:=.tuple [(addF f c 0 line).sv,I64 0]
theorem kPA:Known Tryz.prog (Env.ofB Tryz.prog (sumOf [fSpd,fAcc,fJun]) (wrOf [fPla.frz]) (pnOf []) (bxOf []) (rdOf []) (rdOf []) (rdOf []) (rdOf [])):=
 hB (l:=[fSpd,fAcc,fJun]) (k:=[fPla.frz]) (j:=[]) (i:=[]) [] [] [] [] ⟨o_spd,o_acc,o_jun,trivial⟩ wrA noneOk noneOk
theorem pd1_loop{f:Fw}{c:V4}(line:Int)(h:addPre f c 0=true)(en:entryV f=0):∀ (k i:Nat) (s:List Int),i+k=f.queue.length+1→1≤i→s.length=f.queue.length+1→(∀t,t<i→s.getD t 0=capJ f.ma (addQ f c 0) t)→
  RunsR Tryz.prog (fnOf Tryz.prog 195) (paddS f c line) (loopOf Tryz.prog 195 0) (slotsS 85 [(2,I64 line),(3,.ptr 0 0),(6,.ptr 1 0),(9,.row 2),(10,.row 3),(11,I64 i)]) [some (.cells f.cells),some (.cells (nilC fw0)),some (.rows tyBk (addQ f c 0)),some (.rows (.int .i64) s)]
 |k,i,s,hi,h1,hs,hc=>by
  have p:=addPre_iff.1 h
  have pl:=add_okPl h
  have ok:=addOk_iff.1 (add_ok0 h en)
  rw[en]at pl ok
  have ql:=addQ_len f c 0
  refine runsR_seg kPA (n:=1000) (hint:=.unit) (keep:=keepS 85 [2,3,6,9,10,11]) (p:=pd1_p) rfl ?_
  erw [pd1 f line (addQ f c 0) s i]
  unfold pd1_t
  have t0:(i:Int).toNat=i:=by omega
  have wm:i64.wrap ((i:Int)-1)=((i-1:Nat):Int):=by rw[w64 (by omega) (by omega)];omega
  have tm:((i-1:Nat):Int).toNat=i-1:=by omega
  have w1:i64.wrap ((i:Int)+1)=((i+1:Nat):Int):=by rw[w64 (by omega) (by omega)];omega
  have jr:=junV_rng f.ma ((addQ f c 0).getD (i-1) dBk).1 ((addQ f c 0).getD i dBk).1
  have an:∀{a b:Bool},a=true→b=true→(a&&b)=true:=fun ha hb=>by rw[ha,hb];rfl
  match k,hi with
  |k+1,hi=>
   have ih:=pd1_loop line h en k (i+1) (s.set i (capJ f.ma (addQ f c 0) i)) (by omega) (by omega) (by simpa using hs) (fun t ht=>by
    rw[set_getD (by omega)]
    split
    ·rename_i e;rw[e]
    ·exact hc t (by omega))
   rw[capJ_succ f.ma (addQ f c 0) h1]at ih
   rw[wm,tm,t0,wsq jr,w1]
   exact n_dec (fun _=>n_req (an (decide_eq_true (by omega)) (decide_eq_true (by omega))) (n_req (decide_eq_true (by omega)) (n_req (an (decide_eq_true (by omega)) (decide_eq_true (by omega))) (n_req (decide_eq_true (by omega)) (n_req (an (decide_eq_true (by omega)) (decide_eq_true (by omega))) (n_req (decide_eq_true (by omega)) ⟨slotsS_len _ _,ih⟩)))))) fun a=>absurd (by omega) a
  |0,hi=>
   have es:s=capsV f.ma (addQ f c 0):=caps_list (by omega) fun t ht=>hc t (by omega)
   subst es
   have fin:SV.tuple [SV.agg (Fw.cells {f with queue:=plB (addQ f c 0) (gL (addQ f c 0) (capsV f.ma (addQ f c 0)) 0),lines:=f.lines++[line]}),SV.int IntKind.i64 0] =paddS f c line:=by
    unfold paddS addF;rw[en];rfl
   refine n_dec (fun a=>absurd a (by omega)) fun _=>n_req pl (n_dec (fun _=>n_dec (fun _=>n_bool (fun e=>n_req rfl ?_) fun e=>n_req (decide_eq_true (by omega)) (n_req (decide_eq_true (by simp;omega)) fin)) fun a=>absurd ok.2 a) fun a=>absurd ok.1 a)
   have e0:f.lines=[] :=by simpa using e
   rw[e0]at fin;exact fin
theorem s_padd(f:Fw)(c:V4)(line:Int)(h:addPre f c 0=true)(en:entryV f=0):SCall Tryz.prog 195 [f.sv,V4.sv c,I64 line] (paddS f c line):=by
 have p:=addPre_iff.1 h
 have ql:=addQ_len f c 0
 have sr:=spdV_rng p.1 (l:=0) (f:=f.feed) (ok63_iff.1 p.2.1).2 (ok63_iff.1 p.2.2.1).2
 have w:=wsq (v:=spdV f.ma c 0 f.feed) (by omega)
 have nw:newW f c=newB f.ma c 0 f.feed:=by unfold newW newB;rw[w]
 refine scallR_loops rfl rfl (by kernel_rfl) (runsR_seg kPA (n:=1000) (hint:=.unit) (keep:=keepS 85 [2,3,6,9,10,11]) (p:=pd0_p) (boxes:=[]) rfl ?_)
 have q:=pd0 f c line
 unfold startS codeS at q
 erw [q]
 unfold pd0_t
 rw[nw]
 have an:∀{a b:Bool},a=true→b=true→(a&&b)=true:=fun ha hb=>by rw[ha,hb];rfl
 have lp:=pd1_loop line h en f.queue.length 1 (List.replicate (addQ f c 0).length 0) (by omega) (by omega) (by simp[ql]) (fun t ht=>by
  have:t=0:=by omega
  subst this
  rw[ql];rfl)
 refine n_req p.2.2.1 (n_bool (fun e=>?_) fun e=>?_)
 ·have e0:f.queue=[] :=by simpa using e
  have aq:addQ f c 0=[newB f.ma c 0 f.feed] :=by unfold addQ;rw[e0];rfl
  rw[aq]at lp
  exact n_req rfl (n_req rfl ⟨slotsS_len _ _,lp⟩)
 ·have aq:f.queue++[newB f.ma c 0 f.feed] =addQ f c 0:=rfl
  rw[aq]
  have tn:((addQ f c 0).length:Int).toNat=(addQ f c 0).length:=by omega
  rw[tn]
  exact n_req (decide_eq_true (by omega)) (n_req (decide_eq_true (by simp;omega)) (n_req (an (an (an (decide_eq_true (by omega)) (beq_self_eq_true _)) (decide_eq_true (by omega))) (decide_eq_true (by omega))) ⟨slotsS_len _ _,lp⟩))
open Go.Sx
def hwPre(f:Fw)(p:V4):Bool:=retPre f (wsub4 p f.pos)&& (decide (entryV f=0)&& (decide (entryV (backF f (retC (wsub4 p f.pos)))=0)&&retOk f (wsub4 p f.pos)))
theorem hwPre_iff{f:Fw}{p:V4}:hwPre f p=true↔retPre f (wsub4 p f.pos)=true∧entryV f=0∧entryV (backF f (retC (wsub4 p f.pos)))=0∧retOk f (wsub4 p f.pos)=true:=by simp only[hwPre,Bool.and_eq_true,decide_eq_true_eq]
def loPre(f:Fw)(r:Rc):Bool:=f.ma.ok&& (near4 r.src&&inR r.line 0 1099511627776)
def rePre(f:Fw)(r:Rc):Bool:=validF f&& (idleB f&&nearR r)
def paPre(f:Fw)(c:V4):Bool:=addPre f c 0&&decide (entryV f=0)
theorem paPre_iff{f:Fw}{c:V4}:paPre f c=true↔addPre f c 0=true∧entryV f=0:=by simp only[paPre,Bool.and_eq_true,decide_eq_true_eq]
def fPAdd:Fact:=factFw 195 fun f rest=>match rest with
 |[.agg [.int .i64 a,.int .i64 b,.int .i64 c,.int .i64 d],.int .i64 line] =>some (.req (paPre f (a,b,c,d)) (.leaf (.tuple [(addF f (a,b,c,d) 0 line).sv,I64 0])))
 |_=>none
theorem o_pAdd:fPAdd.ok Tryz.prog:=factFw_ok fun f rest t ht=>by
 split at ht
 ·injection ht with ht;subst ht;exact fun h=>s_padd f (_,_,_,_) _ (paPre_iff.1 h).1 (paPre_iff.1 h).2
 ·cases ht
theorem loPre_iff{f:Fw}{r:Rc}:loPre f r=true↔f.ma.ok=true∧near4 r.src=true∧0≤r.line∧r.line≤1099511627776:=by simp only[loPre,Bool.and_eq_true,inR_iff]
theorem rePre_iff{f:Fw}{r:Rc}:rePre f r=true↔validF f=true∧idleB f=true∧nearR r=true:=by simp only[rePre,Bool.and_eq_true]
theorem nearQ_iff{r:Rc}:nearR r=true↔near4 r.src=true∧near4 r.dst=true∧near4 (wsub4 r.dst r.src)=true:=by simp only[nearR,Bool.and_eq_true]
theorem v4eq_of{a b:V4}(h:(a.1==b.1&& (a.2.1==b.2.1&& (a.2.2.1==b.2.2.1&& (a.2.2.2==b.2.2.2&&true))))=true):a=b:=by
 simp only[Bool.and_eq_true,beq_iff_eq]at h
 obtain⟨a1,a2,a3,a4⟩:=a
 obtain⟨b1,b2,b3,b4⟩:=b
 simp only[Prod.mk.injEq]
 exact⟨h.1,h.2.1,h.2.2.1,h.2.2.2.1⟩
theorem wsub_nz{a b:V4}(ha:near4 a=true)(hb:near4 b=true)(ne:¬a=b):nz4 (wsub4 b a)=true:=by
 rw[wsub4_eq (near_big hb) (near_big ha),nz4_iff]
 unfold sub4
 intro h
 refine ne ?_
 obtain⟨a1,a2,a3,a4⟩:=a
 obtain⟨b1,b2,b3,b4⟩:=b
 dsimp only at h
 simp only[Prod.mk.injEq];omega
theorem rv_1{f:Fw}{l:Fl}(b:rvB f l=false):SV.tuple [SV.agg (nilC fw0),SV.int IntKind.i64 1] =rvS f l:=by
 have e:rvE f l=1:=if_pos b
 unfold rvS;rw[e];rfl
theorem rv_17{f:Fw}{l:Fl}(b:rvB f l=true)(d:l.dead=true):SV.tuple [SV.agg (nilC fw0),SV.int IntKind.i64 17] =rvS f l:=by
 have e:rvE f l=17:=by unfold rvE;rw[b,d];rfl
 unfold rvS;rw[e];rfl
theorem rv_none{f:Fw}{l:Fl}(b:rvB f l=true)(d:l.dead=false)(o:(lastO l).isSome=false):SV.tuple [SV.agg f.cells,SV.int IntKind.i64 0] =rvS f l:=by
 have n:lastO l=none:=by simpa using o
 have e:rvE f l=0:=by unfold rvE;rw[b,d,n];rfl
 have g:rvF f l=f:=by unfold rvF;rw[n]
 unfold rvS;rw[e,g];rfl
theorem last_some{l:Fl}(o:(lastO l).isSome=true):lastO l=some (lastR l):=by
 unfold lastR
 cases q:lastO l with
 |none=>rw[q]at o;cases o
 |some r=>rfl
theorem rv_19{f:Fw}{l:Fl}(b:rvB f l=true)(d:l.dead=false)(o:(lastO l).isSome=true)(n:nearR (lastR l)=false):SV.tuple [SV.agg (nilC fw0),SV.int IntKind.i64 19] =rvS f l:=by
 have e:rvE f l=19:=by unfold rvE;rw[b,d,last_some o];show rgE (lastR l)=19;unfold rgE;rw[n];rfl
 unfold rvS;rw[e];rfl
theorem rv_some{f g:Fw}{l:Fl}(b:rvB f l=true)(d:l.dead=false)(o:(lastO l).isSome=true)(n:nearR (lastR l)=true)(h:rgF f (lastR l)=g):SV.tuple [SV.agg g.cells,SV.int IntKind.i64 0] =rvS f l:=by
 have e:rvE f l=0:=by unfold rvE;rw[b,d,last_some o];show rgE (lastR l)=0;unfold rgE;rw[n];rfl
 have q:rvF f l=g:=by unfold rvF;rw[last_some o];exact h
 unfold rvS;rw[e,q];rfl
theorem last_rcB{l:Fl}(o:(lastO l).isSome=true):rcB (lastR l)=true:=allL_mem (List.mem_of_getLast? (last_some o))
theorem rv_b0{f:Fw}{l:Fl}(h:validF f=false∨IdleB f=false∨flB l=false∨f.homed=true):rvB f l=false:=by
 unfold IdleB at h
 unfold rvB
 rcases h with h|h|h|h
 ·rw[h];rfl
 ·cases v:validF f
  ·rfl
  ·rw[v,Bool.true_and]at h;rw[h];rfl
 ·rw[h,Bool.false_and,Bool.and_false,Bool.and_false]
 ·rw[h,Bool.not_true,Bool.and_false,Bool.and_false,Bool.and_false]
theorem idl_parts{f:Fw}(h:IdleB f=true):validF f=true∧idleB f=true:=by
 unfold IdleB at h
 exact(Bool.and_eq_true _ _).mp h
theorem rv_b1{f:Fw}{l:Fl}(i:IdleB f=true)(b:flB l=true)(h:f.homed=false):rvB f l=true:=by
 obtain⟨v,i⟩:=idl_parts i
 unfold rvB;rw[v,i,b,h];rfl
theorem near_no{r:Rc}(h:near4 r.src=false∨near4 r.dst=false∨near4 (wsub4 r.dst r.src)=false):nearR r=false:=by
 unfold nearR
 rcases h with h|h|h<;>rw[h]<;>simp
theorem s_hwd(f:Fw)(p:V4)(h:hwPre f p=true):SCall Tryz.prog 194 [f.sv,V4.sv p] (.tuple [(retF f (wsub4 p f.pos)).sv,I64 0]):=
 scall_vE (hB (l:=[fPP,fPAdd]) (k:=[]) (j:=[]) (i:=[]) ([] :List Nat) ([] :List Nat) ([] :List Nat) ([] :List Nat) (⟨o_pP,o_pAdd,trivial⟩) noneOk noneOk noneOk) 1000 (.fork (.ln 4 (.fork (.ln 5 (.lit .all)) (.ln 5 (.fork .all .all)))) (.ln 4 (.fork (.ln 5 (.lit .all)) (.ln 5 (.fork .all .all)))))
  (t:=let y0:=wsub4 p f.pos;let y3:=addF f (0,0,y0.2.2.1,0) 0 0;let y4:=(y0.1,y0.2.1,0,0);let y1:Tree SV:=.req true (.req (true) (.req (paPre y3 y4) (.leaf (.tuple [.agg (Fw.cells (addF y3 y4 0 0)),.int .i64 0]))));let y2:Tree SV:=.req true (.req (true) (.req (paPre f y4) (.leaf (.tuple [.agg (Fw.cells (addF f y4 0 0)),.int .i64 0]))));.req (true) (.node (y0.2.2.1 != 0) (.req true (.req (paPre f (0,0,y0.2.2.1,0)) (.req true (.node (y0.1 != 0) y1 (.req true (.node (y0.2.1 != 0) y1 (.leaf (.tuple [.agg (Fw.cells y3),.int .i64 0])))))))) (.req true (.node (y0.1 != 0) y2 (.req true (.node (y0.2.1 != 0) y2 (.leaf (.tuple [.agg (Fw.cells f),.int .i64 0]))))))))
  (by kernel_rfl) (by
   obtain⟨p0,en,en2,ok⟩:=hwPre_iff.1 h
   obtain⟨p1,p2⟩:=retPre_iff.1 p0
   unfold retOk at ok
   obtain⟨o1,_⟩:=(Bool.and_eq_true _ _).mp ok
   generalize wsub4 p f.pos=d at p1 p2 en2 o1 ⊢
   have p2:=p2 o1
   have fin:∀g:Fw,retF f d=g→SV.tuple [SV.agg g.cells,SV.int IntKind.i64 0] =SV.tuple [(retF f d).sv,I64 0] :=fun g e=>by rw[e];rfl
   refine n_req rfl (n_ne (fun a=>?_) fun a=>?_)
   ·have z:=nzC.2 a
    rw[backF_yes z]at p2 en2
    refine n_req rfl (n_req (paPre_iff.2 ⟨p1 z,en⟩) (n_req rfl (n_ne (fun b=>?_) fun b=>n_req rfl (n_ne (fun c=>?_) fun c=>?_))))
    ·have y:=nzD.2 (.inl b)
     exact n_req rfl (n_req rfl (n_req (paPre_iff.2 ⟨p2 y,en2⟩) (fin _ (by unfold retF;rw[backF_yes z,backF_yes y];rfl))))
    ·have y:=nzD.2 (.inr c)
     exact n_req rfl (n_req rfl (n_req (paPre_iff.2 ⟨p2 y,en2⟩) (fin _ (by unfold retF;rw[backF_yes z,backF_yes y];rfl))))
    ·exact fin _ (by unfold retF;rw[backF_yes z,backF_no (Bool.eq_false_iff.2 fun y=>by have:=nzD.1 y;omega)];rfl)
   ·have z:nz4 (retC d)=false:=Bool.eq_false_iff.2 fun y=>nzC.1 y a
    rw[backF_no z]at p2 en2
    refine n_req rfl (n_ne (fun b=>?_) fun b=>n_req rfl (n_ne (fun c=>?_) fun c=>?_))
    ·have y:=nzD.2 (.inl b)
     exact n_req rfl (n_req rfl (n_req (paPre_iff.2 ⟨p2 y,en2⟩) (fin _ (by unfold retF;rw[backF_no z,backF_yes y];rfl))))
    ·have y:=nzD.2 (.inr c)
     exact n_req rfl (n_req rfl (n_req (paPre_iff.2 ⟨p2 y,en2⟩) (fin _ (by unfold retF;rw[backF_no z,backF_yes y];rfl))))
    ·exact fin _ (by unfold retF;rw[backF_no z,backF_no (Bool.eq_false_iff.2 fun y=>by have:=nzD.1 y;omega)])) (by kernel_rfl) (by kernel_rfl)
def fHwd:Fact:=factFw 194 fun f rest=>match rest with
 |[.agg [.int .i64 a,.int .i64 b,.int .i64 c,.int .i64 d]] =>some (.req (hwPre f (a,b,c,d)) (.leaf (.tuple [(retF f (wsub4 (a,b,c,d) f.pos)).sv,I64 0])))
 |_=>none
theorem o_hwd:fHwd.ok Tryz.prog:=factFw_ok fun f rest t ht=>by
 split at ht
 ·injection ht with ht;subst ht;exact fun h=>s_hwd f (_,_,_,_) h
 ·cases ht
theorem s_lost(f:Fw)(r:Rc)(h:loPre f r=true):SCall Tryz.prog 107 [f.sv,r.sv] (.tuple [(rLost f r).sv,I64 0]):=
 scall_vE (hB (l:=[fUni]) (k:=[]) (j:=[]) (i:=[]) ([] :List Nat) ([] :List Nat) ([] :List Nat) ([] :List Nat) (⟨o_uni,trivial⟩) noneOk noneOk noneOk) 1000 (.fork (.lit (.all)) (.lit (.all)))
  (t:=.req (true) (.req true (.node (unOk f.ma r.src.2.2.2) (.leaf (.tuple [.agg (Fw.cells {f with pos:=r.src,e:=(unitsN (axM f.ma 3) r.src.2.2.2),back:=true,ret:=r.src,line:=(if i64.wrap (r.line-1)>0 then i64.wrap (r.line-1)else 0)}),.int .i64 0])) (.leaf (.tuple [.agg (nilC fw0),.int .i64 1])))))
  (by kernel_rfl) (by
   obtain⟨h1,h2,h3⟩:=loPre_iff.1 h
   have n:=near4_iff.1 h2
   have u:unOk f.ma r.src.2.2.2=true:=unOk_iff.2 ⟨h1,by omega⟩
   have w:i64.wrap (r.line-1)=r.line-1:=w64 (by omega) (by omega)
   rw[w]
   exact n_req rfl (n_req rfl (n_bool (fun _=>rfl) fun q=>by rw[u]at q;cases q))) (by kernel_rfl) (by kernel_rfl)
def fLost:Fact:=factFw 107 fun f rest=>match rest with
 |[.agg [.int .i64 r0,.int .i64 r1,.int .i64 r2,.int .i64 r3,.int .i64 p0,.int .i64 p1,.int .i64 p2,.int .i64 p3,.int .i64 q0,.int .i64 q1,.int .i64 q2,.int .i64 q3]] =>some (.req (loPre f ⟨r0,r1,r2,r3,(p0,p1,p2,p3),(q0,q1,q2,q3)⟩) (.leaf (.tuple [(rLost f ⟨r0,r1,r2,r3,(p0,p1,p2,p3),(q0,q1,q2,q3)⟩).sv,I64 0])))
 |_=>none
theorem o_lost:fLost.ok Tryz.prog:=factFw_ok fun f rest t ht=>by
 split at ht
 ·injection ht with ht;subst ht;exact fun h=>s_lost f ⟨_,_,_,_,(_,_,_,_),(_,_,_,_)⟩ h
 ·cases ht
theorem s_resu(f:Fw)(r:Rc)(h:rePre f r=true):SCall Tryz.prog 108 [f.sv,r.sv] (.tuple [(rsF f r).sv,I64 0]):=
 scall_vE (hB (l:=[fPos,fPP,fHwd,fPAdd]) (k:=[]) (j:=[]) (i:=[]) ([] :List Nat) ([] :List Nat) ([] :List Nat) ([] :List Nat) (⟨o_pos,o_pP,o_hwd,o_pAdd,trivial⟩) noneOk noneOk noneOk) 1000 (.lit (.fork (.all) (.fork (.all) (.all))))
  (t:=let y0:=posV f.ma r.dst;let y1:={f with homed:=true,pos:=r.src,loc:=(y0.1,y0.2.1,y0.2.2.1),e:=y0.2.2.2,ret:=r.dst,line:=r.line};let y2:={f with homed:=true,pos:=r.src,loc:=(y0.1,y0.2.1,y0.2.2.1),e:=y0.2.2.2,line:=r.line};.req (f.ma.ok&&near4 r.dst) (.node (r.kind==3) (.req (hwPre y1 r.dst) (.leaf (.tuple [.agg (Fw.cells (retF y1 (wsub4 r.dst r.src))),.int .i64 0]))) (.node (!(r.src.1==r.dst.1&& (r.src.2.1==r.dst.2.1&& (r.src.2.2.1==r.dst.2.2.1&& (r.src.2.2.2==r.dst.2.2.2&&true))))) (.req (paPre y2 (wsub4 r.dst r.src)) (.leaf (.tuple [.agg (Fw.cells (addF y2 (wsub4 r.dst r.src) 0 r.line)),.int .i64 0]))) (.leaf (.tuple [.agg (Fw.cells {f with homed:=true,pos:=r.src,loc:=(y0.1,y0.2.1,y0.2.2.1),e:=y0.2.2.2,line:=r.line}),.int .i64 0])))))
  (by kernel_rfl) (by
   obtain⟨v,i,n⟩:=rePre_iff.1 h
   have hv:=vf_of v
   obtain⟨n1,n2,n3⟩:=nearQ_iff.1 n
   refine n_req (by rw[hv.ma,n2];rfl) (n_eq (fun k=>?_) fun k=>n_not (fun e=>?_) fun e=>?_)
   ·obtain⟨p,e1,e2,o⟩:=ret_pre (g:=rRet f r) hv i rfl rfl rfl rfl rfl n3
    exact n_req (hwPre_iff.2 ⟨p,e1,e2,o⟩) (by unfold rsF;rw[if_pos k];rfl)
   ·have ne:¬r.src=r.dst:=fun q=>by rw[q]at e;simp at e
    have z:nz4 (wsub4 r.dst r.src)=true:=wsub_nz n1 n2 ne
    obtain⟨p,e1⟩:=resu_pre (g:=rResu f r) hv i rfl rfl rfl rfl rfl n3 z
    exact n_req (paPre_iff.2 ⟨p,e1⟩) (by unfold rsF;rw[if_neg k,if_neg ne];rfl)
   ·have eq:r.src=r.dst:=v4eq_of e
    show SV.tuple [(rResu f r).sv,I64 0] =_
    unfold rsF;rw[if_neg k,if_pos eq]) (by kernel_rfl) (by kernel_rfl)
def fResu:Fact:=factFw 108 fun f rest=>match rest with
 |[.agg [.int .i64 r0,.int .i64 r1,.int .i64 r2,.int .i64 r3,.int .i64 p0,.int .i64 p1,.int .i64 p2,.int .i64 p3,.int .i64 q0,.int .i64 q1,.int .i64 q2,.int .i64 q3]] =>some (.req (rePre f ⟨r0,r1,r2,r3,(p0,p1,p2,p3),(q0,q1,q2,q3)⟩) (.leaf (.tuple [(rsF f ⟨r0,r1,r2,r3,(p0,p1,p2,p3),(q0,q1,q2,q3)⟩).sv,I64 0])))
 |_=>none
theorem o_resu:fResu.ok Tryz.prog:=factFw_ok fun f rest t ht=>by
 split at ht
 ·injection ht with ht;subst ht;exact fun h=>s_resu f ⟨_,_,_,_,(_,_,_,_),(_,_,_,_)⟩ h
 ·cases ht
theorem s_rcv(f:Fw)(l:Fl)(h:fewP l=true)(k:shF f=true):SCall Tryz.prog 41 [f.sv,l.sv] (rvS f l):=
 scall_vE (hB (l:=[fValid,fIdleX,fFlB,fLast,fPSm,fPP,fCln,fLost,fResu]) (k:=[]) (j:=[]) (i:=[]) ([] :List Nat) ([] :List Nat) ([] :List Nat) ([] :List Nat) (⟨o_valid,o_idleX,o_flB,o_last,o_pSm,o_pP,o_cln,o_lost,o_resu,trivial⟩) noneOk noneOk noneOk) 1000 (.fork (.ln 10 (.lit .all)) (.ln 3 (.fork (.ln 6 (.lit .all)) (.ln 3 (.fork (.lit (.lit (.lit .all))) (.lit (.lit (.fork .all (.fork .all (.fork .all (.fork (.ln 12 (.lit .all)) (.ln 4 (.fork (.ln 7 (.lit .all)) (.ln 7 (.fork .all (.fork .all .all))))))))))))))))
  (t:=.node (!validF f) (.leaf (.tuple [.agg (nilC fw0),.int .i64 1])) (.node (!IdleB f) (.leaf (.tuple [.agg (nilC fw0),.int .i64 1])) (.req (fewP l) (.node (!flB l) (.leaf (.tuple [.agg (nilC fw0),.int .i64 1])) (.node (f.homed) (.leaf (.tuple [.agg (nilC fw0),.int .i64 1])) (.node (l.dead) (.leaf (.tuple [.agg (nilC fw0),.int .i64 17])) (.req (fewP l) (.node (!(lastO l).isSome) (.req (shF f) (.leaf (.tuple [.agg (Fw.cells f),.int .i64 0]))) (.node (!near4 (lastR l).src) (.leaf (.tuple [.agg (nilC fw0),.int .i64 19])) (.node (!near4 (lastR l).dst) (.leaf (.tuple [.agg (nilC fw0),.int .i64 19])) (.node (!near4 (wsub4 (lastR l).dst (lastR l).src)) (.leaf (.tuple [.agg (nilC fw0),.int .i64 19])) (.node ((lastR l).kind==1) (.req (shF f) (.req (loPre f (lastR l)) (.leaf (.tuple [.agg (Fw.cells (rLost f (lastR l))),.int .i64 0])))) (.req (shF f) (.req (rePre f (lastR l)) (.leaf (.tuple [.agg (Fw.cells (rsF f (lastR l))),.int .i64 0]))))))))))))))))
  (by kernel_rfl) (by
   refine n_not (fun v=>rv_1 (rv_b0 (.inl v))) fun v=>n_not (fun i=>rv_1 (rv_b0 (.inr (.inl i)))) fun i=>n_req h (n_not (fun b=>rv_1 (rv_b0 (.inr (.inr (.inl b))))) fun b=>n_bool (fun hh=>rv_1 (rv_b0 (.inr (.inr (.inr hh))))) fun hh=>?_)
   have B:=rv_b1 i b hh
   obtain⟨_,i2⟩:=idl_parts i
   refine n_bool (fun d=>rv_17 B d) fun d=>n_req h (n_not (fun o=>n_req k (rv_none B d o)) fun o=>n_not (fun n=>rv_19 B d o (near_no (.inl n))) fun n1=>n_not (fun n=>rv_19 B d o (near_no (.inr (.inl n)))) fun n2=>n_not (fun n=>rv_19 B d o (near_no (.inr (.inr n)))) fun n3=>?_)
   have N:nearR (lastR l)=true:=nearQ_iff.2 ⟨n1,n2,n3⟩
   have rb:=rcB_iff.1 (last_rcB o)
   exact n_eq (fun q=>n_req k (n_req (loPre_iff.2 ⟨(vf_of v).ma,n1,rb.2.2.1⟩) (rv_some B d o N (if_pos q)))) fun q=>n_req k (n_req (rePre_iff.2 ⟨v,i2,N⟩) (rv_some B d o N (if_neg q)))) (by kernel_rfl) (by unfold rvS;split<;>rfl)
end Go.Proofs.YtnkaepnblikcdaaGreat
