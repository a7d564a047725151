/-
  What the statement needs: an evaluator of the model, contracts of the functions that it reaches, and the plain law.
-/
import Derived.Test.YtnkaepnblikcdaaGreatVT2
import Derived.ProofKit
import Derived.Recover
import Derived.Test.YtnkaepnblikcdaaGreatProg
set_option maxRecDepth 100000
set_option linter.unusedVariables false
set_option linter.unusedSimpArgs false
open Go.IntKind (i64 u64)
namespace Go.Sx
open Go.RowKit
section moves
variable {P:Program} {b:Frame} {a:Act} {k:List Item} {cs:List Frame} {w:World}
theorem step_scope{x:Code}:step P (lone (b.at a (.code (.scope x)::k)) cs w)=.next (lone (b.at a (.code x::.inScope x::k)) cs w):=
 step_lone_go (by simp[stepG,stepG.exec,Frame.at])
theorem step_inScope{x:Code}:step P (lone (b.at a (.inScope x::k)) cs w)=.next (lone (b.at a k) cs w):=
 step_lone_go (by simp[stepG,stepG.exec,Frame.at])
end moves
section
variable {P:Program} {E:Env} {α:Type}
def Reach(P:Program)(items:List Item)(fr:Fr)(m:Mem)(out:Out):Prop:=
 ∀⦃ds:List Deferred⦄ w0 R0 ρ w a,SRelD ds w0 R0 ρ w fr m a→∀ (b:Frame) (cs:List Frame),match out with
  |.ret _ fr' m'=>∃ρ' w' a' todo,SRelD ds w0 R0 ρ' w' fr' m' a'∧MExt w0 R0 ρ w m ρ' w' m'∧Steps P (lone (b.at a items) cs w) (lone {b.at a' todo with mode:=.returning} cs w')
  |.stop items' fr' m'=>∃ρ' w' a',SRelD ds w0 R0 ρ' w' fr' m' a'∧MExt w0 R0 ρ w m ρ' w' m'∧Steps P (lone (b.at a items) cs w) (lone (b.at a' items') cs w')
  |.pan v fr' m'=>∃ρ' w' a' todo u,SRelD ds w0 R0 ρ' w' fr' m' a'∧MExt w0 R0 ρ w m ρ' w' m'∧Rep (RO w0 R0 ρ' w' m') ρ' m'.next w' v u∧Steps P (lone (b.at a items) cs w) (lone {b.at a' todo with mode:=.panicking [{v:=u,recovered:=false}]} cs w')
theorem Reach.trans{items items':List Item}{fr fr':Fr}{m m':Mem}{out:Out}(h:Reach P items fr m (.stop items' fr' m'))(k:Reach P items' fr' m' out):Reach P items fr m out:=by
 intro ds w0 R0 ρ w a hs b cs
 obtain⟨ρ1,w1,a1,h1,h2,h3⟩:=h w0 R0 ρ w a hs b cs
 have h4:=k w0 R0 ρ1 w1 a1 h1 b cs
 cases out with
 |ret p fr2 m2=>
  obtain⟨ρ2,w2,a2,todo,g1,g2,g3⟩:=h4
  exact⟨ρ2,w2,a2,todo,g1,h2.trans g2,h3.trans g3⟩
 |stop it fr2 m2=>
  obtain⟨ρ2,w2,a2,g1,g2,g3⟩:=h4
  exact⟨ρ2,w2,a2,g1,h2.trans g2,h3.trans g3⟩
 |pan v fr2 m2=>
  obtain⟨ρ2,w2,a2,todo,u,g1,g2,g3,g4⟩:=h4
  exact⟨ρ2,w2,a2,todo,u,g1,h2.trans g2,g3,h3.trans g4⟩
theorem Reach.step{items items':List Item}{fr:Fr}{m:Mem}(h:∀ (b:Frame) (a:Act) cs w,(∀x,∃R ρ n,Rep R ρ n w (evalIn fr x) (a.eval x))→Go.step P (lone (b.at a items) cs w)=.next (lone (b.at a items') cs w)):Reach P items fr m (.stop items' fr m):=
 fun ds w0 R0 ρ w a hs b cs=>⟨ρ,w,a,hs,Ext.refl _ _ _ _,.one (h b a cs w fun x=>⟨_,_,_,hs.2.1.eval x⟩)⟩
theorem Reach.refl(items:List Item)(fr:Fr)(m:Mem):Reach P items fr m (.stop items fr m):=
 fun ds w0 R0 ρ w a hs b cs=>⟨ρ,w,a,hs,Ext.refl _ _ _ _,Steps.refl _ _⟩
def ExecOK(P:Program)(ih:ExecK α):Prop:=
 ∀items p fr m (κ:Out→Tree α) (L:α→Prop),(ih items p fr m κ).holds L→∃out,(κ out).holds L∧Reach P items fr m out
theorem callFunc_enter {f : FuncId} {fn : Func} {body : Code} (hf : P.funcs[f]? = some fn) (hb : fn.body = some body) (hn : (fn.name == "runtime.NumGoroutine") = false) (args : Array Value) (w : World) : (Go.callFunc f args).run P w = .ok (.enter f args) w := by
 simp only[Go.callFunc,Sem.run_bind,run_program,Result.andThen_ok,hf,hn,Bool.false_eq_true,if_false,hb,Option.isNone_some,Sem.run_pure]
theorem calls_of_reach{f:FuncId}{fn:Func}{body:Code}(hf:P.funcs[f]? =some fn)(hb:fn.body=some body){fr fr':Fr}{m m':Mem}{p:Plan}(hr:Reach P [.code body] fr m (.ret p fr' m')){v:SV}
  (hv:∀⦃ds:List Deferred⦄ w0 R0 ρ w a,SRelD ds w0 R0 ρ w fr' m' a→∃u,(Go.results fn a.tmps).run P w=.ok u w∧Rep (RO w0 R0 ρ w m') ρ m'.next w v u) {w0:World} {R0:RSet} {ρ:Rho} {w:World} {vs:List Value} (hm:MRel w0 R0 ρ w m)
  (hfr:FRel (RO w0 R0 ρ w m) ρ m.next w fr (vs.toArray++Array.replicate (fn.ntmps-vs.toArray.size) Go.undef)):
  Calls P f vs.toArray w fun e w'=>∃u,e=.returned u∧∃ρ',MRel w0 R0 ρ' w' m'∧MExt w0 R0 ρ w m ρ' w' m'∧Rep (RO w0 R0 ρ' w' m') ρ' m'.next w' v u:=by
 intro cs
 let b:Frame:={ (default:Frame)with fn:=f,kind:=.normal}
 have henter:Frame.enter P f vs.toArray .normal=b.at {tmps:=vs.toArray++Array.replicate (fn.ntmps-vs.toArray.size) Go.undef,defers:=[]} [.code body] :=by
  simp[Frame.enter,Frame.at,hf,hb,b]
 obtain⟨ρ',w',a',todo,g1,g2,g3⟩:=hr w0 R0 ρ w {tmps:=vs.toArray++Array.replicate (fn.ntmps-vs.toArray.size) Go.undef,defers:=[]} ⟨hm,hfr,rfl⟩ b cs
 obtain⟨u,h1,h2⟩:=hv w0 R0 ρ' w' a' g1
 refine⟨.returned u,w',_,⟨u,rfl,ρ',g1.1,g2,h2⟩,by rw[henter];exact g3,rfl,rfl,g1.2.2,rfl,fn,hf,h1⟩
mutual
theorem Rep.noRef{R R':Nat→Prop}{ρ:Rho}{n:Nat}{w:World}:∀ (x:SV) (v:Value),Go.Sx.noRef x=true→Rep R ρ n w x v→Rep R' ρ n w x v
 |.undef,_,_,h=>h
 |.top,_,_,_=>trivial
 |.int _ _,_,_,h=>h
 |.bool _,_,_,h=>h
 |.str _,_,_,h=>h
 |.nilS,_,_,h=>h
 |.list _ _,_,hd,_=>by cases hd
 |.row _,_,_,h=>h
 |.arr _ _ _,_,hd,_=>by cases hd
 |.ptr _ _,_,hd,_=>by cases hd
 |.nilP,_,_,h=>h
 |.eptr _ _ _ _,_,hd,_=>by cases hd
 |.rptr _ _ _ _,_,hd,_=>by cases hd
 |.agg cs,v,hd,h=>by
  obtain⟨vs,h1,h2⟩:=h
  exact⟨vs,h1,RepL.noRef cs vs hd h2⟩
 |.tuple cs,v,hd,h=>by
  obtain⟨vs,h1,h2⟩:=h
  exact⟨vs,h1,RepL.noRef cs vs hd h2⟩
 |.fn _ _ _,_,hd,_=>by cases hd
 |.raw _,_,hd,_=>by cases hd
theorem RepL.noRef{R R':Nat→Prop}{ρ:Rho}{n:Nat}{w:World}:∀ (xs:List SV) (vs:List Value),Go.Sx.noRefL xs=true→RepL R ρ n w xs vs→RepL R' ρ n w xs vs
 |[],_,_,h=>h
 |x::xs,vs,hd,h=>by
  obtain⟨u,us,h1,h2,h3⟩:=h
  have hd:(Go.Sx.noRef x&&Go.Sx.noRefL xs)=true:=hd
  rw[Bool.and_eq_true]at hd
  exact⟨u,us,h1,Rep.noRef x u hd.1 h2,RepL.noRef xs us hd.2 h3⟩
end
theorem RepD.flatT{R R':Nat→Prop}{w:World}:∀ (t:Ty) (x:t.T) (vs:List Value),t.flatT=true→RepD R w t x vs→RepD R' w t x vs
 |.unit,_,_,_,h=>h
 |.int _,_,_,_,h=>h
 |.bool,_,_,_,h=>h
 |.str,_,_,_,h=>h
 |.list _,_,_,hd,_=>by cases hd
 |.pair a b,x,vs,hd,h=>by
  obtain⟨v1,v2,h1,h2,h3⟩:=h
  have hd:(a.flatT&&b.flatT)=true:=hd
  rw[Bool.and_eq_true]at hd
  exact⟨v1,v2,h1,RepD.flatT a _ _ hd.1 h2,RepD.flatT b _ _ hd.2 h3⟩
theorem Tb.get_filt{β:Type}(f:β→Bool):∀ (t:Tb β) (i:Nat),(t.filt f).get i=match t.get i with
  |some x=>match f x with
   |true=>some x
   |false=>none
  |none=>none
 |.e,i=>rfl
 |.n l v r,0=>rfl
 |.n l v r,j+1=>by
  show(Tb.n (l.filt f) _ (r.filt f)).get (j+1)=_
  rw[Tb.get_n_succ,Tb.get_n_succ]
  by_cases h:j % 2=0
  ·rw[Tb.pick_even h,Tb.pick_even h,Tb.get_filt f l]
  ·rw[Tb.pick_odd h,Tb.pick_odd h,Tb.get_filt f r]
theorem flats_get{m:Mem}{id:Nat}{B:Box}(h:m.flats.get id=some B):m.get id=some B∧flatB B=true:=by
 unfold Mem.flats Mem.get at h
 dsimp only at h
 rw[Tb.get_filt]at h
 split at h
 ·rename_i x hx
  split at h
  ·rename_i hf
   injection h with h;subst h
   exact⟨hx,hf⟩
  ·cases h
 ·cases h
theorem MRel.flats{w0:World}{R0 R1:RSet}{ρ:Rho}{w:World}{m:Mem}(h:MRel w0 R0 ρ w m)(hs:∀b,R1 b→R0 b∧R1.keep b=R0.keep b):MRel w0 R1 ρ w m.flats:=by
 refine⟨h.below,fun id B hB=>h.lt id B (flats_get hB).1,fun id B hB=>h.lo id B (flats_get hB).1,fun id B hB=>h.hi id B (flats_get hB).1,fun id id' B B' hB hB'=>h.inj id id' B B' (flats_get hB).1 (flats_get hB').1,fun id B hB=>?_,fun b hb=>⟨(h.hid.1 b (hs b hb).1).1,by rw[(hs b hb).2];exact(h.hid.1 b (hs b hb).1).2⟩,fun id B hB hsol hr=>h.hid.2 id B (flats_get hB).1 hsol (hs _ hr).1⟩
 obtain⟨h1,h2⟩:=flats_get hB
 cases B with
 |cells cs=>cases h2
 |iter s p=>cases h2
 |obj _ _=>cases h2
 |rows t l=>
  obtain⟨b1,b2,b3⟩:=h.box id _ h1
  refine⟨b1,b2,fun h0=>?_⟩
  obtain⟨arr,e,fr,k1,k2,k3,k4⟩:=b3 h0
  refine⟨arr,e,fr,k1,k2,k3,fun i hi=>?_⟩
  obtain⟨cs,c1,c2,c3⟩:=k4 i hi
  exact⟨cs,c1,c2,RepD.flatT t _ _ h2 c3⟩
theorem argR_rep{w0:World}{R0:RSet}{ρ:Rho}{w:World}{m:Mem}(h:MRel w0 R0 ρ w m){R:Nat→Prop}(hR:∀b,b<w.heap.size→R b):∀{xs:List SV} {vs:List Value},RepL (RO w0 R0 ρ w m) ρ m.next w xs vs→dataL (xs.map (argR m))=true→RepL R ρ 0 w (xs.map (argR m)) vs
 |[],_,hr,_=>hr
 |x::xs,vs,hr,hd=>by
  obtain⟨u,us,rfl,r1,r2⟩:=hr
  have hd:dataL (argR m x::xs.map (argR m))=true:=hd
  rw[dataL_cons]at hd
  cases hx:(argR m x).data with
  |false=>rw[hx]at hd;cases hd
  |true=>
   rw[hx]at hd
   refine⟨u,us,rfl,?_,argR_rep h hR r2 hd⟩
   have hlt:∀b,RO w0 R0 ρ w m b→R b:=fun b hb=>hR b (h.ro_lt hb)
   have plain:argR m x=x→Rep R ρ 0 w (argR m x) u:=fun e=>by
    rw[e]at hx ⊢
    exact Rep.data hlt x u hx r1
   cases x with
   |row id=>
    cases hg:m.get id with
    |none=>exact plain (by simp only[argR,hg])
    |some B=>
     cases B with
     |cells cs=>exact plain (by simp only[argR,hg])
     |iter s p=>exact plain (by simp only[argR,hg])
     |obj _ _=>exact plain (by simp only[argR,hg])
     |rows t l=>
      have e:argR m (.row id)=.list t l:=by simp only[argR,hg]
      rw[e]
      obtain⟨_,a,hu,ha⟩:=r1
      obtain⟨b1,b2,hp⟩:=h.box id _ hg
      refine⟨a,(ρ id).2.2,by rw[hu,b1],b2,fun h0=>?_⟩
      have h0:0< (ρ id).2.2:=Nat.lt_of_lt_of_le h0 b2
      obtain⟨arr,e,fr,k1,k2,k3,k4⟩:=hp h0
      refine⟨(ρ id).1,0,ha h0,hR _ (h.hi id _ hg h0),fun i hi=>?_⟩
      obtain⟨cs,c1,c2,c3⟩:=k4 i hi
      refine⟨cs,c1,fun j hj=>?_,RepD.mono (fun b hb=>⟨hlt b hb,rfl⟩) _ _ _ c3⟩
      rw[cell_of_row w _ _ arr e fr k1,Nat.zero_add]
      exact c2 j hj
   |_=>exact plain rfl
theorem SemCall.congr{m m2 m' m2':Mem}{v:SV}{f:FuncId}{args:List SV}(hg:∀id,m2.get id=m.get id)(hn:m2.next=m.next)(hg':∀id,m2'.get id=m'.get id)(hn':m2'.next=m'.next)(h:SemCall P m v m' f args):SemCall P m2 v m2' f args:=by
 intro w0 R0 ρ w vs hm hvs
 have h1:=h w0 R0 ρ w vs (hm.congr (fun id=>(hg id).symm) hn.symm) (by rw[←RO.congr hg,←hn];exact hvs)
 exact OpPost.mono (fun u w' hu=>hu.congr hg hn hg' hn') h1
theorem adopt_self{v:SV}{mc m:Mem}{k:SV→Mem→Tree α}{L:α→Prop}(h:(adopt v mc m k).holds L):∃v' m',(k v' m').holds L∧∀ (δ:Type) (k2:SV→Mem→Tree δ),adopt v mc m k2=k2 v' m':=by
 obtain⟨v',_,_,_,_,ha⟩:=adopt_at h
 obtain⟨m',_,_,hk⟩:=ha m rfl
 rw[hk]at h
 exact⟨v',m',h,hk⟩
theorem callR_core(hE:EOK P E){ih:ExecK α}(hih:ExecOK P ih){f:FuncId}{args:List SV}{p:Plan}{m:Mem}{κ:Kont α}{L:α→Prop}(h:(callR E ih f args p m κ).holds L):
  ∃v0 mc p',(adopt v0 mc m fun v m=>κ v p' m).holds L∧∀m2 v' m2',args.map (argR m2)=args.map (argR m)→(adopt v0 mc m2 fun v m=>.leaf (v,m)).holds (fun y=>y=(v',m2'))→SemCall P m2 v' m2' f args:=by
 unfold callR at h
 split at h
 ·rename_i fn hfn
  have hf:=hE.fn f fn hfn
  split at h
  ·rename_i body hb
   split at h
   ·rename_i hn
    split at h
    ·rename_i hd
     obtain⟨fr,h1,h2,h3,h4⟩:=make_holds h
     obtain⟨out,h5,h6⟩:=hih _ _ _ _ _ _ h1
     cases out with
     |stop it fr' m'=>exact h5.elim
     |pan v fr' m'=>exact h5.elim
     |ret p' fr' mc=>
      dsimp only at h5
      obtain⟨v,h7,h8⟩:=results_holds hE h5
      split at h7
      ·rename_i hnr
       refine⟨v,mc.flats,p',h7,fun m2 v' m2' he ha w0 R0 ρ w vs hm hvs=>?_⟩
       obtain⟨v1,m1,hl,hsem⟩:=adopt_holds ha
       injection hl with e1 e2
       subst e1 e2
       rw[callFunc_enter hf hb hn]
       have o1:MRel w (.all w) ρ w ⟨0,.e⟩:=⟨⟨Below.refl _ _,hm.gnd⟩,fun id B h=>(by cases h),fun id B h=>(by cases h),fun id B h=>(by cases h),fun id id' B B' h=>(by cases h),fun id B h=>(by cases h),fun b hb=>⟨hb,rfl⟩,fun id B h=>(by cases h)⟩
       have hvs':=argR_rep hm (R:=RO w (.all w) ρ w ⟨0,.e⟩) (fun b hb=>.inl ⟨hb,hb⟩) hvs (by rw[he];exact hd)
       rw[he]at hvs'
       have hfr:=frame_rel h2 h3 h4 hvs'
       refine Calls.mono (calls_of_reach hf hb h6 h8 o1 hfr) fun e w' ⟨u,he,ρ',g1,g2,g3⟩=>⟨u,he,?_⟩
       exact hsem w0 R0 ρ w ρ' w' u hm (g1.flats fun b hb=>⟨hm.ro_lt hb,rfl⟩) (Rep.noRef v u hnr g3)
      ·exact h7.elim
    ·exact h.elim
   ·exact h.elim
  ·exact h.elim
 ·exact h.elim
theorem callD_core(hE:EOK P E){ih:ExecK α}(hih:ExecOK P ih){f:FuncId}{args:List SV}{p:Plan}{m:Mem}{κ:Kont α}{L:α→Prop}(h:(callD E ih f args p m κ).holds L):
  ∃v0 mc p',(adopt v0 mc m fun v m=>κ v p' m).holds L∧∀m2 v' m2',(adopt v0 mc m2 fun v m=>.leaf (v,m)).holds (fun y=>y=(v',m2'))→SemCall P m2 v' m2' f args:=by
 unfold callD at h
 split at h
 ·rename_i fn hfn
  have hf:=hE.fn f fn hfn
  split at h
  ·rename_i body hb
   split at h
   ·rename_i hn
    split at h
    ·rename_i hd
     obtain⟨fr,h1,h2,h3,h4⟩:=make_holds h
     obtain⟨out,h5,h6⟩:=hih _ _ _ _ _ _ h1
     cases out with
     |stop it fr' m'=>exact h5.elim
     |pan v fr' m'=>exact h5.elim
     |ret p' fr' mc=>
      dsimp only at h5
      obtain⟨v,h7,h8⟩:=results_holds hE h5
      refine⟨v,mc,p',h7,fun m2 v' m2' ha w0 R0 ρ w vs hm hvs=>?_⟩
      obtain⟨v1,m1,hl,hsem⟩:=adopt_holds ha
      injection hl with e1 e2
      subst e1 e2
      rw[callFunc_enter hf hb hn]
      obtain⟨o1,o2⟩:=own_mem hm ρ
      have hfr:=frame_rel h2 h3 h4 (RepL.data (R':=RO w (RS w0 R0 ρ w m2) ρ w ⟨0,.e⟩) (ρ':=ρ) (n':=0) o2 args vs hd hvs)
      refine Calls.mono (calls_of_reach hf hb h6 h8 o1 hfr) fun e w' ⟨u,he,ρ',g1,g2,g3⟩=>⟨u,he,?_⟩
      exact hsem w0 R0 ρ w ρ' w' u hm g1 g3
    ·exact h.elim
   ·exact h.elim
  ·exact h.elim
 ·exact h.elim
theorem callG_ok(hE:EOK P E)(hS:SumOK P E){ih:ExecK α}(hih:ExecOK P ih):CallGOK P (callG E ih):=by
 have fin:∀ (f:FuncId) (args:List SV) (v0:SV) (mc m:Mem) (p':Plan) (κ:Kont α) (L:α→Prop),(adopt v0 mc m fun v m=>κ v p' m).holds L→
   (∀m2 v' m2',args.map (argR m2)=args.map (argR m)→(adopt v0 mc m2 fun v m=>.leaf (v,m)).holds (fun y=>y=(v',m2'))→SemCall P m2 v' m2' f args)→
   ∃v p' m',(κ v p' m').holds L∧m.next≤m'.next∧∀ (F:List Nat) (m2 m2':Mem),(∀id,mentL id args=true→id∈F)→(∀id∈F,m2.get id=m.get id)→m2.next=m.next→
    (∀id,m2'.get id=if id∈F++List.range' m.next (m'.next-m.next)then m'.get id else m2.get id)→m2'.next=m'.next→SemCall P m2 v m2' f args:=by
  intro f args v0 mc m p' κ L h hsem
  obtain⟨v,m',h1,h2,h3,h4⟩:=adopt_at h
  refine⟨v,p',m',h1,h2,fun F m2 m2' hF ha hn hp hn'=>?_⟩
  obtain⟨m3,n3,e3,k3⟩:=h4 m2 hn
  have hargs:args.map (argR m2)=args.map (argR m):=by
   refine List.map_congr_left fun x hx=>?_
   cases x<;>try rfl
   rename_i id
   have:=ha id (hF id (mentL_mem hx (by simp[ment])))
   simp only[argR,this]
  refine(hsem m2 v m3 hargs (by rw[k3];exact rfl)).congr (fun _=>rfl) rfl (fun id=>?_) (by rw[hn',n3])
  rw[hp id,e3 id]
  simp only[List.mem_append,mem_range1]
  by_cases c:m.next≤id∧id<m'.next
  ·rw[if_pos c,if_pos (.inr ⟨c.1,by omega⟩)]
  ·rw[if_neg c]
   by_cases c2:id∈F
   ·rw[if_pos (.inl c2),h3 id c,←ha id c2]
   ·rw[if_neg (fun d=>d.elim c2 fun d=>c ⟨d.1,by omega⟩)]
 intro f args p m κ L h
 unfold callG at h
 split at h
 ·exact h.elim
 ·split at h
  ·exact h.elim
  ·split at h
   ·rename_i s hs
    split at h
    ·rename_i id off rest
     split at h
     ·rename_i h0
      have h0:=Nat.eq_of_beq_eq_true h0
      subst h0
      split at h
      ·rename_i B hB
       split at h
       ·rename_i t ht
        obtain⟨v,B',p',h1,h2⟩:=bindB_holds t p h (hS.2.2.2.1 f s rest B t hs ht)
        obtain⟨m',h3,h4⟩:=Mem.set_holds h1
        refine⟨v,p',m',h4,by rw[h3.2];exact Nat.le_refl _,fun F m2 m2' hF ha hn hp hn'=>?_⟩
        have hidF:id∈F:=hF id (mentL_mem List.mem_cons_self (by simp[ment]))
        refine h2 m2 m2' id ((ha id hidF).trans hB) ⟨fun k=>?_,by rw[hn',h3.2,hn]⟩
        rw[hp k,h3.2,Nat.sub_self,List.range'_zero,List.append_nil,h3.1 k]
        by_cases hk:k∈F
        ·rw[if_pos hk]
         by_cases hki:k=id
         ·rw[if_pos hki,if_pos hki]
         ·rw[if_neg hki,if_neg hki,ha k hk]
        ·rw[if_neg hk,if_neg (fun c=>hk (by rw[c];exact hidF))]
       ·exact h.elim
      ·exact h.elim
     ·exact h.elim
    ·exact h.elim
   ·split at h
    ·rename_i s hs
     split at h
     ·rename_i t ht
      obtain⟨x,p',h1,h2⟩:=bindO_holds t p h (hS.2.2.2.2 f s args t hs ht)
      exact fin f args x.1 x.2 m p' κ L h1 fun m2 v' m2' _=>h2 m2 v' m2'
     ·exact h.elim
    split at h
    ·obtain⟨v0,mc,p',h1,h2⟩:=callR_core hE hih h
     exact fin f args v0 mc m p' κ L h1 h2
    ·obtain⟨v0,mc,p',h1,h2⟩:=callD_core hE hih h
     exact fin f args v0 mc m p' κ L h1 fun m2 v' m2' _=>h2 m2 v' m2'
theorem callIn_ok(hE:EOK P E)(hS:SumOK P E){ih:ExecK α}(hih:ExecOK P ih):CallOK P false (callIn E ih):=by
 intro f args p m κ L h
 unfold callIn at h
 split at h
 ·rename_i s hs
  split at h
  ·rename_i t ht
   obtain⟨v,p',h1,h2⟩:=bindT_holds t p h (hS.1 f s args t hs ht)
   exact⟨v,p',m,h1,fun hq=>(by cases hq),h2 m⟩
  ·exact h.elim
 ·split at h
  ·rename_i s hs
   split at h
   ·rename_i t ht
    obtain⟨x,p',h1,h2⟩:=bindM_holds t p h (hS.2.1 f s args m t hs ht)
    exact⟨x.1,p',x.2,h1,fun hq=>(by cases hq),h2⟩
   ·exact h.elim
  split at h
  ·rename_i s hs
   split at h
   ·rename_i t ht
    obtain⟨x,p',h1,h2⟩:=bindO_holds t p h (hS.2.2.2.2 f s args t hs ht)
    obtain⟨v',m',h3,h4⟩:=adopt_self h1
    exact⟨v',p',m',h3,fun hq=>(by cases hq),h2 m v' m' (by rw[h4];exact rfl)⟩
   ·exact h.elim
  split at h
  ·obtain⟨v0,mc,p',h1,h2⟩:=callR_core hE hih h
   obtain⟨v',m',h3,h4⟩:=adopt_self h1
   exact⟨v',p',m',h3,fun hq=>(by cases hq),h2 m v' m' rfl (by rw[h4];exact rfl)⟩
  split at h
  ·rename_i fn hfn
   have hf:=hE.fn f fn hfn
   split at h
   ·rename_i body hb
    split at h
    ·rename_i hn
     split at h
     ·rename_i hd
      rw[Bool.and_eq_true]at hd
      have hd:=hd.1
      obtain⟨fr,h1,h2,h3,h4⟩:=make_holds h
      obtain⟨out,h5,h6⟩:=hih _ _ _ _ _ _ h1
      cases out with
      |stop it fr' m'=>exact h5.elim
      |pan v fr' m'=>exact h5.elim
      |ret p' fr' mc=>
       dsimp only at h5
       obtain⟨v,h7,h8⟩:=results_holds hE h5
       obtain⟨v',m',h9,h10⟩:=adopt_holds h7
       refine⟨v',p',m',h9,fun hq=>(by cases hq),fun w0 R0 ρ w vs hm hvs=>?_⟩
       rw[callFunc_enter hf hb hn]
       obtain⟨o1,o2⟩:=own_mem hm ρ
       have hfr:=frame_rel h2 h3 h4 (RepL.data (R':=RO w (RS w0 R0 ρ w m) ρ w ⟨0,.e⟩) (ρ':=ρ) (n':=0) o2 args vs hd hvs)
       refine Calls.mono (calls_of_reach hf hb h6 h8 o1 hfr) fun e w' ⟨u,he,ρ',g1,g2,g3⟩=>⟨u,he,?_⟩
       exact h10 w0 R0 ρ w ρ' w' u hm g1 g3
     ·obtain⟨fr,h1,h2,h3,h4⟩:=make_holds h
      obtain⟨out,h5,h6⟩:=hih _ _ _ _ _ _ h1
      cases out with
      |stop it fr' m'=>exact h5.elim
      |pan v fr' m'=>exact h5.elim
      |ret p' fr' mc=>
       dsimp only at h5
       obtain⟨v,h7,h8⟩:=results_holds hE h5
       refine⟨v,p',mc,h7,fun hq=>(by cases hq),fun w0 R0 ρ w vs hm hvs=>?_⟩
       rw[callFunc_enter hf hb hn]
       exact calls_of_reach hf hb h6 h8 hm (frame_rel h2 h3 h4 hvs)
    ·exact h.elim
   ·exact h.elim
  ·exact h.elim
theorem callQ_ok(hE:EOK P E)(hS:SumOK P E){ih:ExecK α}(hih:ExecOK P ih):CallOK P true (callQ E ih):=by
 intro f args p m κ L h
 unfold callQ at h
 split at h
 ·rename_i s hs
  split at h
  ·rename_i t ht
   obtain⟨v,p',h1,h2⟩:=bindT_holds t p h (hS.1 f s args t hs ht)
   exact⟨v,p',m,h1,fun _=>⟨rfl,h2⟩,h2 m⟩
  ·exact h.elim
 ·split at h
  ·rename_i fn hfn
   have hf:=hE.fn f fn hfn
   split at h
   ·rename_i body hb
    split at h
    ·rename_i hn
     split at h
     ·rename_i hd
      obtain⟨fr,h1,h2,h3,h4⟩:=make_holds h
      obtain⟨out,h5,h6⟩:=hih _ _ _ _ _ _ h1
      cases out with
      |stop it fr' m'=>exact h5.elim
      |pan v fr' m'=>exact h5.elim
      |ret p' fr' mc=>
       dsimp only at h5
       obtain⟨v,h7,h8⟩:=results_holds hE h5
       split at h7
       ·rename_i hvd
        suffices key:∀m,SemCall P m v m f args from⟨v,p',m,h7,fun _=>⟨rfl,key⟩,key m⟩
        intro m w0 R0 ρ w vs hm hvs
        rw[callFunc_enter hf hb hn]
        obtain⟨o1,o2⟩:=own_mem hm ρ
        have hfr:=frame_rel h2 h3 h4 (RepL.data (R':=RO w (RS w0 R0 ρ w m) ρ w ⟨0,.e⟩) (ρ':=ρ) (n':=0) o2 args vs hd hvs)
        refine Calls.mono (calls_of_reach hf hb h6 h8 o1 hfr) fun e w' ⟨u,he,ρ',g1,g2,g3⟩=>⟨u,he,?_⟩
        have hst:=Hand.start hm g1
        obtain⟨k1,k2⟩:=hst.finish hm g1
        exact⟨ρ,k1,k2,Rep.data (fun b hb=>hst.ro b (.inr hb)) v u hvd g3⟩
       ·exact h7.elim
     ·exact h.elim
    ·exact h.elim
   ·exact h.elim
  ·exact h.elim
def Start(fr:Fr)(m:Mem):Prop:=m.get m.next=none∧(∀id B,m.get id=some B→id<m.next∧∀k,m.next≤k→mentB k (some B)=false)∧∀t k,m.next≤k→ment k (fr.get t)=false
theorem SRelD.start{ds:List Deferred}{w0:World}{R0:RSet}{ρ:Rho}{w:World}{fr:Fr}{m:Mem}{a:Act}(h:SRelD ds w0 R0 ρ w fr m a):Start fr m:=by
 obtain⟨hm,hfr,_⟩:=h
 refine⟨hm.fresh,fun id B hB=>⟨hm.lt id B hB,fun k hk=>?_⟩,fun t k hk=>?_⟩
 ·cases B with
  |rows t l=>rfl
  |iter s p=>rfl
  |obj t cs=>
   obtain⟨arr,_,h3⟩:=hm.box id _ hB
   rcases Bool.eq_false_or_eq_true (mentL k cs)with h|h
   ·have:=RepL.bound cs _ h3 h;omega
   ·exact h
  |cells cs=>
   obtain⟨arr,e,fr,_,_,h3⟩:=hm.box id _ hB
   rcases Bool.eq_false_or_eq_true (mentL k cs)with h|h
   ·have:=RepL.bound cs _ h3 h;omega
   ·exact h
 ·rcases Bool.eq_false_or_eq_true (ment k (fr.get t))with h|h
  ·have:=Rep.bound _ _ (hfr.2 t) h;omega
  ·exact h
theorem MRel.bump{w0:World}{R0:RSet}{ρ:Rho}{w:World}{m m2:Mem}(h:MRel w0 R0 ρ w m)(hg:∀id,m2.get id=m.get id)(hn:m.next≤m2.next):MRel w0 R0 ρ w m2∧MExt w0 R0 ρ w m ρ w m2:=by
 have e:MExt w0 R0 ρ w m ρ w m2:=⟨hn,fun _ _=>rfl,fun b hb=>⟨by rw[RO.congr hg];exact hb,rfl⟩⟩
 refine⟨⟨h.below,fun id B hB=>?_,fun id B hB=>h.lo id B (by rw[←hg];exact hB),fun id B hB=>h.hi id B (by rw[←hg];exact hB),fun id id' B B' hB hB'=>h.inj id id' B B' (by rw[←hg];exact hB) (by rw[←hg];exact hB'),fun id B hB=>?_,h.hid.1,fun id B hB=>h.hid.2 id B (by rw[←hg];exact hB)⟩,e⟩
 ·have:=h.lt id B (by rw[←hg];exact hB);omega
 ·exact BoxRel.mono e B (fun _=>rfl) (h.box id B (by rw[←hg];exact hB))
theorem idOf_mem:∀{refs:List (Nat×Nat)} {c k:Nat},idOf refs c=some k→(c,k)∈refs
 |x::l,c,k,h=>by
  unfold idOf at h
  split at h
  ·rename_i hx
   injection h with h;subst h
   rw[←Nat.eq_of_beq_eq_true hx];exact List.mem_cons_self
  ·exact List.mem_cons_of_mem _ (idOf_mem h)
theorem refsOf_range:∀ (l:List Oper) (i k:Nat) {c j:Nat},(c,j)∈refsOf l i k→k≤j∧j<k+(refsOf l i k).length
 |[],i,k,c,j,h=>by cases h
 |o::l,i,k,c,j,h=>by
  have e:refsOf (o::l) i k=match isAlloc o.op with
   |true=>(i,k)::refsOf l (i+1) (k+1)
   |false=>refsOf l (i+1) k:=rfl
  rw[e]at h ⊢
  cases ha:isAlloc o.op with
  |true=>
   rw[ha]at h
   dsimp only at h ⊢
   rcases List.mem_cons.1 h with h|h
   ·injection h with h1 h2;simp;omega
   ·have:=refsOf_range l (i+1) (k+1) h;simp;omega
  |false=>rw[ha]at h;exact refsOf_range l (i+1) k h
theorem oneOpP_holds(hE:EOK P E)(hS:SumOK P E){call:CallK α}(hcall:CallOK P false call){esc:SV→Fr→Mem→Tree α}{all:List Oper}{o:Oper}{ih:OpsK α}{p:Plan}{fr:Fr}{m:Mem}{L:α→Prop}(h:(oneOpP E call esc all o ih p fr m).holds L):
  (∃p' v fr1 m1,(ih p' fr1 m1).holds L∧StepOK P all o fr m v m1∧FSet fr o.dst v fr1)∨∃v m',(esc v fr m').holds L∧o.guard=none∧SemPan P m v m' o (evalIn fr):=by
 have old:(oneOp E (fun _=>true) call all o ih p fr m).holds L→∃p' v fr1 m1,(ih p' fr1 m1).holds L∧StepOK P all o fr m v m1∧FSet fr o.dst v fr1:=fun h=>by
  obtain⟨p',v,fr1,m1,h1,h2,h3,_⟩:=oneOp_holds hE hcall h
  exact⟨p',v,fr1,m1,h1,h2,h3⟩
 unfold oneOpP at h
 split at h
 ·exact .inl (old h)
 ·rename_i hg
  split at h
  ·rename_i x hop
   split at h
   ·rename_i v0 hx
    split at h
    ·rename_i t v1
     refine .inr ⟨_,m,h,hg,fun w0 R0 ρ w eb hm hev=>?_⟩
     have h1:=hev x (by rw[hop];simp[Op.operands])
     rw[hx]at h1
     have h1:eb x=.iface t v1:=h1
     obtain⟨dst,op,ty,pos,after,guard⟩:=o
     dsimp only at hop
     subst hop
     simp only[Go.execOp,h1,Instr.panic]
     exact⟨ρ,hm,Ext.refl _ _ _ _,rfl⟩
    ·exact h.elim
   ·exact h.elim
  ·rename_i c hop
   split at h
   ·rename_i g hc
    split at h
    ·rename_i f first cap hgv
     split at h
     ·rename_i s hs
      split at h
      ·rename_i t ht
       have run:∀{w0:World} {R0:RSet} {ρ:Rho} {w:World} {eb:Operand→Value},(∀x∈o.op.operands,Rep (RO w0 R0 ρ w m) ρ m.next w (evalIn fr x) (eb x))→∃vs:List Value,RepL (RO w0 R0 ρ w m) ρ m.next w (first++(c.args.toList.map (evalIn fr)++cap)) vs∧(Go.execOp eb o).run P w=(Go.callFunc f vs.toArray).run P w:=by
        intro w0 R0 ρ w eb hev
        have hg0:=hev g (by rw[hop];simp[Op.operands,Call.operands,hc])
        rw[hgv]at hg0
        obtain⟨vs,us,h4,h5,h6⟩:=hg0
        have r1:RepL (RO w0 R0 ρ w m) ρ m.next w (c.args.toList.map (evalIn fr)) (c.args.toList.map eb):=RepL.map _ _ _ fun x hx=>hev x (by rw[hop];simp[Op.operands,Call.operands]at hx ⊢;simp[hx])
        refine⟨vs++(c.args.toList.map eb++us),h5.append (r1.append h6),?_⟩
        obtain⟨dst,op,ty,pos,after,guard⟩:=o
        dsimp only at hop
        subst hop
        simp only[Go.execOp,resolve,hc,h4,Deferred.ofValue,pure_bind,invoke]
        have e:(vs++(c.args.toList.map eb++us)).toArray=vs.toArray++c.args.map eb++us.toArray:=by apply Array.ext';simp
        rw[e]
       rcases bindX_holds t p h (hS.2.2.1 f s _ m t hs ht)with⟨v,m1,p',h1,h2⟩|⟨v,m1,h1,h2⟩
       ·obtain⟨fr1,h3,h4⟩:=putK_holds h1
        refine .inl ⟨p',v,fr1,m1,h4,.inl ⟨by simp[gval,hg],fun w0 R0 ρ w eb hm hev=>?_⟩,h3⟩
        obtain⟨vs,r1,r2⟩:=run hev
        rw[r2]
        exact h2 w0 R0 ρ w _ hm r1
       ·refine .inr ⟨v,m1,h1,hg,fun w0 R0 ρ w eb hm hev=>?_⟩
        obtain⟨vs,r1,r2⟩:=run hev
        rw[r2]
        exact h2 w0 R0 ρ w _ hm r1
      ·exact h.elim
     ·exact .inl (old h)
    ·exact .inl (old h)
   ·exact .inl (old h)
  ·exact .inl (old h)
theorem execOpsP_chain(hE:EOK P E)(hS:SumOK P E){call:CallK α}(hcall:CallOK P false call){esc:SV→Fr→Mem→Tree α}{all:List Oper}{k:OpsK α}{L:α→Prop}:∀ (ops:List Oper) (p:Plan) (fr:Fr) (m:Mem),(execOpsP E call esc all ops k p fr m).holds L→
  (∃p' fr' m',(k p' fr' m').holds L∧Chain P all ops fr m fr' m')∨∃v fr' m',(esc v fr' m').holds L∧ChainP P all ops fr m v fr' m'
 |[],p,fr,m,h=>.inl ⟨p,fr,m,h,.nil fr m⟩
 |o::rest,p,fr,m,h=>by
  change (oneOpP E call esc all o (execOpsP E call esc all rest k) p fr m).holds L at h
  rcases oneOpP_holds hE hS hcall h with⟨p1,v,fr1,m1,h1,h2,h3⟩|⟨v,m',h1,h2,h3⟩
  ·rcases execOpsP_chain hE hS hcall rest p1 fr1 m1 h1 with⟨p',fr',m',h5,h6⟩|⟨v',fr',m',h5,h6⟩
   ·exact .inl ⟨p',fr',m',h5,.cons h2 h3 h6⟩
   ·exact .inr ⟨v',fr',m',h5,.next h2 h3 h6⟩
  ·exact .inr ⟨v,fr,m',h1,.here h2 h3⟩
theorem pnTree_spec{fr:Fr}{m:Mem}{o:Op}{t:Tree Ex}(h:pnTree E fr m o=some t):∃f c,o=.call c∧c.callee=.value (.func f)∧∃s,E.pn f=some s∧s (c.args.toList.map (evalIn fr)) m=some t:=by
 unfold pnTree at h
 split at h
 ·rename_i c
  split at h
  ·rename_i g hc
   split at h
   ·rename_i f
    split at h
    ·rename_i s hs
     exact⟨f,c,rfl,hc,s,hs,h⟩
    ·cases h
   ·cases h
  ·cases h
 ·cases h
theorem semPan_call{m m1:Mem}{v:SV}{o:Oper}{f:FuncId}{c:Call}{fr:Fr}(hop:o.op=.call c)(hc:c.callee=.value (.func f))(h:XCall P f (c.args.toList.map (evalIn fr)) m (.pan v m1)):SemPan P m v m1 o (evalIn fr):=by
 intro w0 R0 ρ w eb hm hev
 have r1:RepL (RO w0 R0 ρ w m) ρ m.next w (c.args.toList.map (evalIn fr)) (c.args.toList.map eb):=RepL.map _ _ _ fun x hx=>hev x (by rw[hop];simp[Op.operands,Call.operands]at hx ⊢;simp[hx])
 have hf:eb (.func f)=.func (.func f) #[] #[] :=by
  obtain⟨vs,us,h4,h5,h6⟩:=hev (.func f) (by rw[hop];simp[Op.operands,Call.operands,hc])
  have h5:vs=[] :=h5
  have h6:us=[] :=h6
  subst h5 h6
  exact h4
 have e1:(Go.execOp eb o).run P w=(Go.callFunc f (c.args.toList.map eb).toArray).run P w:=by
  obtain⟨dst,op,ty,pos,after,guard⟩:=o
  dsimp only at hop
  subst hop
  simp only[Go.execOp,resolve,hc,hf,Deferred.ofValue,pure_bind,invoke]
  have e:(c.args.toList.map eb).toArray=(#[] :Array Value)++c.args.map eb++#[] :=by apply Array.ext';simp
  rw[e]
 rw[e1]
 exact h w0 R0 ρ w _ hm r1
theorem region_reach(hE:EOK P E)(hS:SumOK P E)(hmix:P.follows .mixedOrders=true){ih:ExecK α}(hih:ExecOK P ih){id:Nat}{ops:Array Oper}{draw:Bool}{k:List Item}{p:Plan}{fr:Fr}{m:Mem}{κ:Out→Tree α}{L:α→Prop}(h:(codeStep E ih (.region id ops draw) k p fr m κ).holds L):
  (∃p' fr' m',(ih k p' fr' m' κ).holds L∧Reach P (.code (.region id ops draw)::k) fr m (.stop k fr' m'))∨∃out,(κ out).holds L∧Reach P (.code (.region id ops draw)::k) fr m out:=by
 have fin:∀ (fr':Fr) (m':Mem),(∀ (ds:List Deferred) w0 R0 ρ w a,SRelD ds w0 R0 ρ w fr m a→(Code.region id ops draw).wp P (fun e a' w'=>e=.normal∧∃ρ',SRelD ds w0 R0 ρ' w' fr' m' a'∧MExt w0 R0 ρ w m ρ' w' m') a w)→Reach P (.code (.region id ops draw)::k) fr m (.stop k fr' m'):=by
  intro fr' m' hw ds w0 R0 ρ w a hs b cs
  obtain⟨e,a',w',⟨rfl,ρ',g1,g2⟩,harr⟩:=hw ds w0 R0 ρ w a hs b k cs
  exact⟨ρ',w',a',g1,g2,harr⟩
 dsimp only[codeStep]at h
 split at h
 ·exact .inr ⟨_,h,Reach.refl _ _ _⟩
 cases draw with
 |false=>
  rcases execOpsP_chain hE hS (callIn_ok hE hS hih) _ _ _ _ h with⟨p',fr',m',h1,h2⟩|⟨v,fr',m',h1,h2⟩
  ·refine .inl ⟨p',fr',m',h1,fin fr' m' fun ds w0 R0 ρ w a hs=>wp_region ?_⟩
   have:=chain_wpOps (Q:=fun e a' w'=>e=.normal∧∃ρ',SRelD ds w0 R0 ρ' w' fr' m' a'∧MExt w0 R0 ρ w m ρ' w' m') h2 0 rfl ρ w a hs (fun ρ' w' a' g1 g2=>⟨rfl,ρ',g1,g2⟩)
   rw[←List.range_eq_range']at this
   simpa using this
  ·refine .inr ⟨_,h1,fun ds w0 R0 ρ w a hs b cs=>?_⟩
   have:=chainP_wpOps (Q:=fun e a' w'=>∃u ρ',e=.panic [{v:=u,recovered:=false}] ∧SRelD ds w0 R0 ρ' w' fr' m' a'∧MExt w0 R0 ρ w m ρ' w' m'∧Rep (RO w0 R0 ρ' w' m') ρ' m'.next w' v u) h2 0 rfl ρ w a hs (fun ρ' w' a' u g1 g2 g3=>⟨u,ρ',rfl,g1,g2,g3⟩)
   rw[←List.range_eq_range']at this
   have hw:(Code.region id ops false).wp P (fun e a' w'=>∃u ρ',e=.panic [{v:=u,recovered:=false}] ∧SRelD ds w0 R0 ρ' w' fr' m' a'∧MExt w0 R0 ρ w m ρ' w' m'∧Rep (RO w0 R0 ρ' w' m') ρ' m'.next w' v u) a w:=wp_region (by simpa using this)
   obtain⟨e,a',w',⟨u,ρ',rfl,g1,g2,g3⟩,todo,harr⟩:=hw b k cs
   exact⟨ρ',w',a',todo,u,g1,g2,g3,harr⟩
 |true=>
  dsimp only at h
  split at h
  ·rename_i hlex
   have hlex':Region.lexB .any ops.toList.toArray=true:=by simpa using hlex
   have hns:Region.noSelect ops.toList.toArray=true:=by
    have:=hlex';simp only[Region.lexB,Bool.and_eq_true]at this;exact this.1
   have hrep:∀k,k<ops.toList.length→(Array.replicate ops.toList.length false).getD k true=false:=fun k h=>by
    rw[Array.getD_eq_getD_getElem?,Array.getElem?_replicate,if_pos h];rfl
   have ord:∀ (fr':Fr) (m':Mem) (frs:Nat→Fr) (vals:Nat→SV) (M:(Nat→Bool)→Mem),Walk ops.toList fr fr' frs vals→(∀S S',(∀k,k<ops.toList.length→S k=S' k)→M S=M S')→((∀id,(M fun _=>true).get id=m'.get id)∧(M fun _=>true).next=m'.next)→
     ((∀id,(M fun k=>(Array.replicate ops.toList.length false).getD k true).get id=m.get id)∧m.next≤(M fun k=>(Array.replicate ops.toList.length false).getD k true).next)→
     (Start fr m→∀ (S:Nat→Bool) i o,ops.toList[i]? =some o→S i=false→(∀j oj,ops.toList[j]? =some oj→S j=true→∀e∈oj.after,Region.binds .any e=true→S e.on=true)→(∀e∈o.after,Region.binds .any e=true→S e.on=true)→StepOK P ops.toList o (frs i) (M S) (vals i) (M fun k=>if k=i then true else S k)∨AllocAt P o m.next (vals i) (cur ops.toList fr vals S ops.toList.length) (M S) (M fun k=>if k=i then true else S k))→
     Reach P (.code (.region id ops true)::k) fr m (.stop k fr' m'):=by
    intro fr' m' frs vals M hwalk hMc eAll eNone hst
    refine fin fr' m' fun ds w0 R0 ρ w a hs=>wp_region_any hmix ?_
    have hstart:=hs.start
    obtain⟨hm,hfr,hd⟩:=hs
    obtain⟨hm0,he0⟩:=hm.drew
    obtain⟨hm1,he1⟩:=hm0.bump eNone.1 eNone.2
    have he1:=he0.trans he1
    have hfr1:=hfr.mono he1
    have hcur0:∀ (n:Nat) t,cur ops.toList fr vals (fun i=>(Array.replicate ops.toList.length false).getD i true) n t=fr.get t∨n>ops.toList.length:=by
     intro n
     induction n with
     |zero=>intro t;exact .inl rfl
     |succ n ih2=>
      intro t
      rcases Nat.lt_or_ge ops.toList.length (n+1)with hgt|hle
      ·exact .inr hgt
      ·left
       simp only[cur]
       rw[if_neg (fun hc=>by have:=hc.1;rw[hrep n (by omega)]at this;cases this)]
       exact(ih2 t).resolve_right (by omega)
    have key:=any_order (w0:=w0) (R0:=R0) (M:=M) m.next hwalk (indep_of_lexB hlex') hMc (hst hstart) hns (Q:=fun e a' w'=>e=.normal∧∃ρ',SRelD ds w0 R0 ρ' w' fr' m' a'∧MExt w0 R0 ρ w m ρ' w' m') (Ψ:=fun ρ' w' mm=>MExt w0 R0 ρ w m ρ' w' mm)
     (fun ρ1 w1 m1 k r w2 m2 hk h1 hn hkeep=>⟨by rw[hn];exact h1.le,fun id hid=>by rw[upd_other _ _ (by omega)];exact h1.same id hid,fun b hb=>by
       obtain⟨g1,g2⟩:=h1.keep b hb
       obtain⟨g3,g4⟩:=hkeep b g1
       exact⟨g3,g4.trans g2⟩⟩)
     (fun _ _ _ _ _ _ h1 h2=>h1.trans h2) (fun ρ' w' a' g1 g2=>by
       obtain⟨q1,q2,q3⟩:=g1
       refine⟨rfl,ρ',⟨q1.congr (fun id=>(eAll.1 id).symm) eAll.2.symm,?_,q3⟩,?_⟩
       ·rw[←RO.congr eAll.1,←eAll.2];exact q2
       ·unfold MExt
        rw[←RO.congr eAll.1,←eAll.2];exact g2) ops.toList.length (Array.replicate ops.toList.length false) ρ w.drew a (by simp)
     (by
       have:∀n,n≤ops.toList.length→unlisted (Array.replicate ops.toList.length false) n=n:=by
        intro n
        induction n with
        |zero=>intro _;rfl
        |succ n ih2=>
         intro hn
         simp only[unlisted,ih2 (by omega),hrep n (by omega)]
         simp
       exact this _ (Nat.le_refl _))
     (fun j oj hj hl=>by
       have hjl:=(List.getElem?_eq_some_iff.1 hj).1
       rw[Array.getD_eq_getD_getElem?,Array.getElem?_replicate,if_pos (by omega)]at hl
       cases hl)
     hm1 hfr1.1 hd (fun t=>by rw[(hcur0 _ t).resolve_right (by omega)];exact hfr1.2 t) he1
    simpa using key
   have tpart:∀p,(tRun E ih ops.toList (fun p fr m=>ih k p fr m κ) p fr m).holds L→∃p' fr' m',(ih k p' fr' m' κ).holds L∧Reach P (.code (.region id ops true)::k) fr m (.stop k fr' m'):=by
    intro p h
    unfold tRun at h
    obtain⟨p',fr',m',h1,h2⟩:=execOpsT_chain hE (callIn_ok hE hS hih) (callQ_ok hE hS hih) (callG_ok hE hS hih) _ _ _ _ _ _ h
    obtain⟨frs,vals,ms,rs,hw⟩:=h2.toWalk
    have get:∀j,j<ops.toList.length→∃o,ops.toList[j]? =some o:=fun j hj=>⟨_,List.getElem?_eq_getElem hj⟩
    have hkeep:∀id j,j<ops.toList.length→id∉ (rs j).wt→(ms (j+1)).get id=(ms j).get id:=fun id j hj hid=>by
     obtain⟨o,ho⟩:=get j hj
     exact(hw.step j o ho).keep id hid
    have hsame:∀j,j<ops.toList.length→(rs j).g=false→(ms (j+1)).next=(ms j).next:=fun j hj=>by
     obtain⟨o,ho⟩:=get j hj
     exact(hw.step j o ho).same
    refine⟨p',fr',m',h1,ord fr' m' frs vals (memS ops.toList ms rs) ⟨hw.first,hw.last,hw.next⟩ (fun S S' hS=>?_) ⟨fun id=>?_,?_⟩ ⟨fun id=>?_,?_⟩ (fun hst S i o hoi hSi hcl hrd=>?_)⟩
    ·unfold memS
     rw[show getS ms rs S ops.toList.length=getS ms rs S' ops.toList.length from funext fun id=>getS_congr _ fun j hj _=>hS j hj,nextS_congr _ fun j hj _=>hS j hj]
    ·rw[memS_get,getS_all _ (fun j hj=>hkeep id j hj) (fun _ _ _=>rfl),hw.mlast]
    ·rw[memS_next,nextS_all _ hsame (fun _ _ _=>rfl),hw.mlast]
    ·rw[memS_get,getS_past (i:=0) _ (Nat.zero_le _) (fun j _ h2 _=>hrep j h2)]
     show(ms 0).get id=_
     rw[hw.mfirst];rfl
    ·rw[memS_next,nextS_past (i:=0) _ (Nat.zero_le _) (fun j _ h2 _=>hrep j h2)]
     show _≤(ms 0).next
     rw[hw.mfirst];exact Nat.le_add_right _ _
    ·refine traceT_step hw m.next (fun c k hk=>?_) (fun id B hB=>hst.2.1 id B hB) (fun t k hk=>hst.2.2 t k hk) S i o hoi hSi hcl hrd
     have h3:=idOf_mem hk
     obtain⟨h4,h5⟩:=refsOf_range _ _ _ h3
     exact⟨h3,h4,h5⟩
   split at h
   · -- a call at the end
     split at h
     ·rename_i hlb
      left
      have hne:ops.toList≠[] :=by
       intro hc
       rename_i hany _
       rw[hc]at hany
       simp at hany
      have hpos:0<ops.toList.length:=List.length_pos_iff.2 hne
      obtain⟨p',fr',m',h1,h2⟩:=execOpsL_chain hE (callQ_ok hE hS hih) (callIn_ok hE hS hih) _ _ _ _ hne h
      obtain⟨frs,vals,q1,q2,q3,q4,q5⟩:=h2.index
      exact⟨p',fr',m',h1,ord fr' m' frs vals (fun S=>if S (ops.toList.length-1)=true then m' else m) ⟨q1,q2,q3⟩ (fun S S' hS=>by rw[hS (ops.toList.length-1) (by omega)])
       (by rw[if_pos rfl];exact⟨fun _=>rfl,rfl⟩) (by
         rw[if_neg (fun h=>by
          have h2:(Array.replicate ops.toList.length false).getD (ops.toList.length-1) true=true:=h
          rw[hrep _ (by omega)]at h2;cases h2)]
         exact⟨fun _=>rfl,Nat.le_refl _⟩)
       (fun _ S i o hoi hSi hcl hrd=>.inl (last_step hlb q4 q5 S i o hoi hSi hcl))⟩
     ·exact h.elim
   ·split at h
    · -- a call that may panic
      rename_i c hpn
      split at h
      ·rename_i oc hoc
       rw[nth_eq]at hoc
       split at h
       ·rename_i hcg
        obtain⟨p1,fr1,h1,frs,vals,q1,q2,q3⟩:=execPre_walk hE (callQ_ok hE hS hih) _ _ _ _ _ h
        split at h1
        ·rename_i t ht
         obtain⟨f,cl,hop,hcal,s,hs,ht⟩:=pnTree_spec ht
         rcases bindX_holds t p1 h1 (hS.2.2.1 f s _ m t hs ht)with⟨v,m1,p',h2,h3⟩|⟨v,m1,h2,h3⟩
         ·exact .inl (tpart p' h2)
         ·right
          obtain⟨fr2,g1,g2,g3⟩:=topK_holds _ _ _ h2
          refine⟨_,g1,fun ds w0 R0 ρ w a hs b cs=>?_⟩
          have hcl:=(List.getElem?_eq_some_iff.1 hoc).1
          obtain⟨s1,s2,s3,s4,s5⟩:=waitsOf_spec (c:=c) ops.toList 0 []
          have hi:=indep_of_lexB hlex'
          have hpan:SemPan P m v m1 oc (evalIn (frs ops.toList.length)):=by
           rw[q2]
           exact semPan_call hop hcal h3
          obtain⟨hm,hfr,hd⟩:=hs
          obtain⟨hm0,he0⟩:=hm.drew
          have hfr0:=hfr.mono he0
          have key:=any_pan (ds:=ds) (D:=fun j=>!hasN (waitsOf c ops.toList 0 []) j) (w0:=w0) (R0:=R0) (v:=v) (m':=m1) (frs:=frs) (vals:=vals) (fr:=fr) (c:=c)
           ⟨q1,fun i o ho=>by
            have:=q3 i o ho
            rw[Nat.zero_add]at this
            exact⟨fun hD=>(this.1 (by simpa using hD)).1,fun hD=>this.2 (by simpa using hD)⟩⟩ hi
           (fun i o ho hD=>by
             have:=q3 i o ho
             rw[Nat.zero_add]at this
             exact(this.1 (by simpa using hD)).2) hoc hcg (by
             have:=s3 c oc hoc (Nat.zero_add c)
             rw[Nat.zero_add]at this
             simp[this]) hpan
           (fun i o ho hD hic=>by
             have:=s4 i o ho (by rw[Nat.zero_add];simpa using hD)
             rw[Nat.zero_add]at this
             rcases this with h|h|⟨e,e1,e2,e3⟩
             ·cases h
             ·exact absurd h hic
             ·exact⟨e,e1,e2,by simp[e3]⟩)
           (fun j oj hj hD e e1 e2=>by
             cases h4:hasN (waitsOf c ops.toList 0 []) e.on with
             |false=>simp
             |true=>
              have:=s5 j oj hj ⟨e,e1,e2,h4,by rw[Nat.zero_add];exact hi.back j oj hj e e1 e2⟩
              rw[Nat.zero_add]at this
              simp[this]at hD)
           (Q:=fun e a' w'=>∃u ρ',e=.panic [{v:=u,recovered:=false}] ∧SRelD ds w0 R0 ρ' w' fr2 m1 a'∧MExt w0 R0 ρ w m ρ' w' m1∧Rep (RO w0 R0 ρ' w' m1) ρ' m1.next w' v u) (ρ0:=ρ) (wa:=w)
           (fun ρ' w' a' u k1 k2 k3 k4 k5 k6=>⟨u,ρ',rfl,⟨k1,⟨g2.trans k2,fun t=>by
             rcases g3 t with h|⟨h,h'⟩
             ·rw[h];trivial
             ·rw[h];exact k4 t h'⟩,k3⟩,k5,k6⟩) ops.toList.length (Array.replicate ops.toList.length false) ρ w.drew a (by simp)
           (by
             have:∀n,n≤ops.toList.length→unlisted (Array.replicate ops.toList.length false) n=n:=by
              intro n
              induction n with
              |zero=>intro _;rfl
              |succ n ih2=>
               intro hn
               simp only[unlisted,ih2 (by omega),hrep n (by omega)]
               simp
             exact this _ (Nat.le_refl _))
           (fun j oj hj hl=>by
             rw[hrep j (List.getElem?_eq_some_iff.1 hj).1]at hl;cases hl)
           (fun k hk hl=>by rw[hrep k hk]at hl;cases hl) hm0 hfr0.1 hd (fun t=>by
             have hcur0:∀ (n:Nat),n≤ops.toList.length→cur ops.toList fr vals (fun i=>(Array.replicate ops.toList.length false).getD i true) n t=fr.get t:=by
              intro n
              induction n with
              |zero=>intro _;rfl
              |succ n ih2=>
               intro hn
               simp only[cur]
               rw[if_neg (fun hc=>by have:=hc.1;rw[hrep n (by omega)]at this;cases this)]
               exact ih2 (by omega)
             rw[hcur0 _ (Nat.le_refl _)];exact hfr0.2 t) he0
          have hw:(Code.region id ops true).wp P (fun e a' w'=>∃u ρ',e=.panic [{v:=u,recovered:=false}] ∧SRelD ds w0 R0 ρ' w' fr2 m1 a'∧MExt w0 R0 ρ w m ρ' w' m1∧Rep (RO w0 R0 ρ' w' m1) ρ' m1.next w' v u) a w:=wp_region_any hmix (by simpa using key)
          obtain⟨e,a',w',⟨u,ρ',rfl,k1,k2,k3⟩,todo,harr⟩:=hw b k cs
          exact⟨ρ',w',a',todo,u,k1,k2,k3,harr⟩
        ·exact h1.elim
       ·exact h.elim
      ·exact h.elim
    left
    split at h
    ·split at h
     ·rename_i hch
      obtain⟨p',fr',m',h1,h2⟩:=execOpsF_chain hE (callIn_ok hE hS hih) _ _ _ _ h
      obtain⟨frs,vals,ms,hw⟩:=h2.toWalk
      have eA:curF E ops.toList ms (fun _=>true) ops.toList.length=m':=by rw[curF_all (free_keep hw) _ (Nat.le_refl _) (fun _ _ _=>rfl),hw.mlast]
      have eN:curF E ops.toList ms (fun k=>(Array.replicate ops.toList.length false).getD k true) ops.toList.length=m:=by rw[curF_past (i:=0) _ (Nat.zero_le _) (fun k _ h2 _=>hrep k h2)];exact hw.mfirst
      exact⟨p',fr',m',h1,ord fr' m' frs vals (fun S=>curF E ops.toList ms S ops.toList.length) ⟨hw.first,hw.last,hw.next⟩ (fun S S' hS=>curF_congr _ fun k hk _=>hS k hk)
       (by rw[eA];exact⟨fun _=>rfl,rfl⟩) (by rw[eN];exact⟨fun _=>rfl,Nat.le_refl _⟩)
       (fun _ S i o hoi hSi hcl hrd=>.inl (free_step hw hch S i o hoi hSi hcl hrd))⟩
     ·exact h.elim
    ·split at h
     ·rename_i hwetb
      have hwetb:=(Bool.and_eq_true _ _▸hwetb).1
      obtain⟨p',fr',m',h1,h2⟩:=execOps_chainW hE (callQ_ok hE hS hih) _ _ _ _ h
      obtain⟨frs,vals,ms,hw⟩:=h2.toWalk
      obtain⟨al,af,hwet⟩:=wetB_spec hwetb
      have hquiet:∀i o,ops.toList[i]? =some o→writer o.op=false→ms (i+1)=ms i:=fun i o ho hwr=>wet_keep hw hwet i o ho hwr
      have eA:curM ops.toList ms (fun _=>true) ops.toList.length=m':=by rw[curM_all hquiet _ (Nat.le_refl _) (fun _ _ _=>rfl),hw.mlast]
      have eN:curM ops.toList ms (fun k=>(Array.replicate ops.toList.length false).getD k true) ops.toList.length=m:=by rw[curM_past (i:=0) _ (Nat.zero_le _) (fun k _ h2 _=>hrep k h2)];exact hw.mfirst
      exact⟨p',fr',m',h1,ord fr' m' frs vals (fun S=>curM ops.toList ms S ops.toList.length) ⟨hw.first,hw.last,hw.next⟩ (fun S S' hS=>curM_congr _ fun k hk _=>hS k hk)
       (by rw[eA];exact⟨fun _=>rfl,rfl⟩) (by rw[eN];exact⟨fun _=>rfl,Nat.le_refl _⟩)
       (fun hst S i o hoi hSi hcl hrd=>.inl (wet_step hw hwet hst.1 S i o hoi hSi hcl hrd))⟩
     ·exact tpart _ h
  ·exact h.elim
theorem exec_ok(hE:EOK P E)(hS:SumOK P E)(hmix:P.follows .mixedOrders=true):∀n:Nat,ExecOK P (exec (α:=α) E n)
 |0=>fun items p fr m κ L h=>h.elim
 |n+1=>by
  have ihn:=exec_ok hE hS hmix n
  intro items p fr m κ L h
  change (stepIn E (exec E n) items p fr m κ).holds L at h
  -- on from where one step leads
  have onn:∀ (items':List Item) (p:Plan) (fr':Fr) (m':Mem),(exec E n items' p fr' m' κ).holds L→Reach P items fr m (.stop items' fr' m')→∃out,(κ out).holds L∧Reach P items fr m out:=by
   intro items' p fr' m' h1 h2
   obtain⟨out,h3,h4⟩:=ihn _ _ _ _ _ _ h1
   exact⟨out,h3,h2.trans h4⟩
  unfold stepIn at h
  split at h
  ·exact⟨_,h,fun ds w0 R0 ρ w a hs b cs=>⟨ρ,w,a,[],hs,Ext.refl _ _ _ _,.one step_end⟩⟩
  ·rename_i id k
   exact onn _ _ _ _ h (Reach.step fun b a cs w _=>step_inBlock)
  ·rename_i bd k
   exact onn _ _ _ _ h (Reach.step fun b a cs w _=>step_inScope)
  ·rename_i bd k
   split at h
   ·exact onn _ _ _ _ h (Reach.step fun b a cs w _=>step_inLoop)
   ·exact onn _ _ _ _ h (Reach.step fun b a cs w _=>step_inLoop)
   ·exact⟨_,h,Reach.refl _ _ _⟩
  ·rename_i c k
   cases c with
   |skip=>exact onn _ _ _ _ h (Reach.step fun b a cs w _=>step_skip)
   |label l=>exact onn _ _ _ _ h (Reach.step fun b a cs w _=>step_label)
   |region id ops draw=>
    rcases region_reach hE hS hmix ihn h with⟨p',fr',m',h1,h2⟩|h
    ·exact onn _ _ _ _ h1 h2
    ·exact h
   |seq x y=>exact onn _ _ _ _ h (Reach.step fun b a cs w _=>step_seq)
   |cond c x y=>
    dsimp only[codeStep]at h
    split at h
    ·rename_i bb hc
     obtain⟨p',h⟩:=dec_holds h
     have st:∀ (a:Act) (w:World),(∀x,∃R ρ n,Rep R ρ n w (evalIn fr x) (a.eval x))→a.eval c=.bool bb:=fun a w hx=>by
      obtain⟨R,ρ,n,h1⟩:=hx c
      rw[hc]at h1;exact h1
     cases bb with
     |true=>exact onn _ _ _ _ h (Reach.step fun b a cs w hx=>by have:=step_cond (P:=P) (b:=b) (a:=a) (k:=k) (cs:=cs) (w:=w) (x:=x) (y:=y) (st a w hx);simpa using this)
     |false=>exact onn _ _ _ _ h (Reach.step fun b a cs w hx=>by have:=step_cond (P:=P) (b:=b) (a:=a) (k:=k) (cs:=cs) (w:=w) (x:=x) (y:=y) (st a w hx);simpa using this)
    ·exact h.elim
   |block id bd=>exact onn _ _ _ _ h (Reach.step fun b a cs w _=>step_block)
   |loop bd=>
    dsimp only[codeStep]at h
    split at h
    ·exact onn _ _ _ _ h (Reach.step fun b a cs w _=>step_loop)
    ·exact onn _ _ _ _ h (Reach.step fun b a cs w _=>step_loop)
    ·exact⟨_,h,Reach.refl _ _ _⟩
   |rangeFunc f ps as1 bd=>exact h.elim
   |exit id=>
    dsimp only[codeStep]at h
    split at h
    ·rename_i k' hk
     exact onn _ _ _ _ h (Reach.step fun b a cs w _=>step_exit hk)
    ·exact h.elim
   |scope bd=>exact onn _ _ _ _ h (Reach.step fun b a cs w _=>step_scope)
   |goto l=>exact h.elim
   |ret=>exact⟨_,h,fun ds w0 R0 ρ w a hs b cs=>⟨ρ,w,a,_,hs,Ext.refl _ _ _ _,.one step_ret⟩⟩
   |refuse why=>exact h.elim
  ·rename_i ops l k
   split at h
   ·exact onn _ _ _ _ h (Reach.step fun b a cs w _=>step_region_end)
   ·rename_i i rest
    split at h
    ·rename_i hl
     have hl:=of_decide_eq_true hl
     have hlen:(ops.toList.drop i).length=ops.size-i:=by simp
     rcases execOpsP_chain hE hS (callIn_ok hE hS ihn) _ _ _ _ h with⟨p',fr',m',h1,h2⟩|⟨v,fr',m',h1,h2⟩
     ·refine onn _ _ _ _ h1 fun ds w0 R0 ρ w a hs b cs=>?_
      have:=chain_wpOps (Q:=fun e a' w'=>e=.normal∧∃ρ',SRelD ds w0 R0 ρ' w' fr' m' a'∧MExt w0 R0 ρ w m ρ' w' m') h2 i rfl ρ w a hs (fun ρ' w' a' g1 g2=>⟨rfl,ρ',g1,g2⟩)
      rw[hlen,←hl]at this
      have hq:wpOps P ops (fun e a' w'=>e=.normal∧∃ρ',SRelD ds w0 R0 ρ' w' fr' m' a'∧MExt w0 R0 ρ w m ρ' w' m') (i::rest) a w:=by simpa using this
      obtain⟨e,a',w',⟨rfl,ρ',g1,g2⟩,harr⟩:=wp_ops _ a w hq b k cs
      exact⟨ρ',w',a',g1,g2,harr⟩
     ·refine⟨_,h1,fun ds w0 R0 ρ w a hs b cs=>?_⟩
      have:=chainP_wpOps (Q:=fun e a' w'=>∃u ρ',e=.panic [{v:=u,recovered:=false}] ∧SRelD ds w0 R0 ρ' w' fr' m' a'∧MExt w0 R0 ρ w m ρ' w' m'∧Rep (RO w0 R0 ρ' w' m') ρ' m'.next w' v u) h2 i rfl ρ w a hs (fun ρ' w' a' u g1 g2 g3=>⟨u,ρ',rfl,g1,g2,g3⟩)
      rw[hlen,←hl]at this
      have hq:wpOps P ops (fun e a' w'=>∃u ρ',e=.panic [{v:=u,recovered:=false}] ∧SRelD ds w0 R0 ρ' w' fr' m' a'∧MExt w0 R0 ρ w m ρ' w' m'∧Rep (RO w0 R0 ρ' w' m') ρ' m'.next w' v u) (i::rest) a w:=by simpa using this
      obtain⟨e,a',w',⟨u,ρ',rfl,g1,g2,g3⟩,todo,harr⟩:=wp_ops _ a w hq b k cs
      exact⟨ρ',w',a',todo,u,g1,g2,g3,harr⟩
    ·exact h.elim
  ·exact h.elim
structure Known (P:Program) (E:Env):Prop where
 e:EOK P E
 s:SumOK P E
 mix:P.follows .mixedOrders=true
theorem scall_of_exec(hK:Known P E){n:Nat}{f:FuncId}{args:List SV}{p:Plan}{v:SV}(hd:dataL args=true)(hvd:v.data=true)(h:(execFn E n f args p).holds fun x=>x.1=v):SCall P f args v:=by
 intro m w0 R0 ρ w vs hm hvs
 unfold execFn at h
 split at h
 ·rename_i fn hfn
  have hf:=hK.e.fn f fn hfn
  split at h
  ·rename_i body hb
   split at h
   ·rename_i hn
    obtain⟨fr,h1,h2,h3,h4⟩:=make_holds h
    obtain⟨out,h5,h6⟩:=exec_ok hK.e hK.s hK.mix n _ _ _ _ _ _ h1
    cases out with
    |stop it fr' m'=>exact h5.elim
    |pan v fr' m'=>exact h5.elim
    |ret p' fr' mc=>
     dsimp only at h5
     obtain⟨v',h7,h8⟩:=results_holds hK.e h5
     obtain rfl:v'=v:=h7
     rw[callFunc_enter hf hb hn]
     obtain⟨o1,o2⟩:=own_mem hm ρ
     have hfr:=frame_rel h2 h3 h4 (RepL.data (R':=RO w (RS w0 R0 ρ w m) ρ w ⟨0,.e⟩) (ρ':=ρ) (n':=0) o2 args vs hd hvs)
     refine Calls.mono (calls_of_reach hf hb h6 h8 o1 hfr) fun e w' ⟨u,he,ρ',g1,g2,g3⟩=>⟨u,he,?_⟩
     have hst:=Hand.start hm g1
     obtain⟨k1,k2⟩:=hst.finish hm g1
     exact⟨ρ,k1,k2,Rep.data (fun b hb=>hst.ro b (.inr hb)) v' u hvd g3⟩
   ·exact h.elim
  ·exact h.elim
 ·exact h.elim
end
theorem dfltChk_rep{R:Nat→Prop}{w:World}:∀ (u:Ty) (vs rest:List Value),dfltChk u vs=some rest→∃v1,vs=v1++rest∧RepD R w u u.dflt v1
 |.unit,vs,rest,h=>by simp only[dfltChk,Option.some.injEq]at h;exact⟨[],h,rfl⟩
 |.int k,vs,rest,h=>by
  unfold dfltChk at h
  split at h
  ·split at h
   ·rename_i hk
    injection h with h;subst h hk
    exact⟨[_],rfl,rfl⟩
   ·cases h
  ·cases h
 |.bool,vs,rest,h=>by
  unfold dfltChk at h
  split at h
  ·injection h with h;subst h
   exact⟨[_],rfl,rfl⟩
  ·cases h
 |.str,vs,rest,h=>by
  unfold dfltChk at h
  split at h
  ·injection h with h;subst h
   exact⟨[_],rfl,rfl⟩
  ·cases h
 |.list t,vs,rest,h=>by
  unfold dfltChk at h
  split at h
  ·injection h with h;subst h
   exact⟨[_],rfl,none,0,rfl,Nat.le_refl _,fun h0=>absurd h0 (Nat.lt_irrefl _)⟩
  ·cases h
 |.pair a b,vs,rest,h=>by
  unfold dfltChk at h
  split at h
  ·rename_i vs1 h1
   obtain⟨v1,e1,r1⟩:=dfltChk_rep a vs vs1 h1
   obtain⟨v2,e2,r2⟩:=dfltChk_rep b vs1 rest h
   exact⟨v1++v2,by rw[e1,e2];simp,v1,v2,rfl,r1,r2⟩
  ·cases h
theorem rowOf_ok{P:Program}[ElOK P]{t:TypeId}{r:Row}(h:rowOf P t=some r):RowOK P t r:=by
 have h00:=h
 unfold rowOf at h
 split at h
 ·rename_i d i hd hi
  split at h
  ·rename_i z hz
   injection h with h
   have hel:∀hk:(r.ty=some (.int .u8)∨r.desc=.int .u8),r.size=1→El8 t:=rowOf_u8 h00
   subst h
   refine⟨hd,⟨i,z,hi,rfl,rfl,hz,fun R ρ n w=>ofLeafs_rep R ρ n w _,fun u hu R w=>?_⟩,rfl,rfl,hel⟩
   dsimp only at hu
   unfold tyIf at hu
   split at hu
   ·rename_i u' hu'
    split at hu
    ·rename_i hc
     injection hu with hu;subst hu
     obtain⟨v1,e1,r1⟩:=dfltChk_rep (R:=R) (w:=w) u' _ _ hc
     rw[List.append_nil]at e1
     rw[e1];exact r1
    ·cases hu
   ·cases hu
  ·cases h
 ·cases h
theorem known_of{P:Program}[ElOK P]{sum:FuncId→Option (List SV→Option (Tree SV))}(hmix:P.follows .mixedOrders=true)(hsum:SumOK P (Env.of P sum)):Known P (Env.of P sum):=
 ⟨⟨fun t r h=>rowOf_ok h,fun f fn h=>h,fun t z h=>(by cases h)⟩,hsum,hmix⟩
structure Fact where
 f:FuncId
 s:List SV→Option (Tree SV)
noncomputable def sumOf(l:List Fact)(f:FuncId):Option (List SV→Option (Tree SV)):=
 List.rec (motive:=fun _=>Option (List SV→Option (Tree SV))) none (fun x _ ih=>match Nat.beq x.f f with
  |true=>some x.s
  |false=>ih) l
def Fact.ok(P:Program)(x:Fact):Prop:=∀args t,x.s args=some t→t.says (SCall P x.f args)
theorem sumOf_says{P:Program}:∀ (l:List Fact),(∀x∈l,x.ok P)→∀f s args t,sumOf l f=some s→s args=some t→t.says (SCall P f args)
 |[],_=>fun f s args t h=>by cases h
 |x::l,h=>fun f s args t hs ht=>by
  change (match Nat.beq x.f f with
   |true=>some x.s
   |false=>sumOf l f)=some s at hs
  split at hs
  ·rename_i hf
   injection hs with hs
   subst hs
   have:x.f=f:=Nat.eq_of_beq_eq_true hf
   subst this
   exact h x List.mem_cons_self args t ht
  ·exact sumOf_says l (fun y hy=>h y (List.mem_cons_of_mem _ hy)) f s args t hs ht
theorem sumOf_ok{P:Program}(l:List Fact)(h:∀x∈l,x.ok P):SumOK P (Env.of P (sumOf l)):=⟨sumOf_says l h,fun f s args m t h=>(by cases h),fun f s args m t h=>(by cases h),fun f s args B t h=>(by cases h),fun f s args t h=>(by cases h)⟩
structure WFact where
 f:FuncId
 s:List SV→Mem→Option (Tree (SV×Mem))
noncomputable def wrOf(l:List WFact)(f:FuncId):Option (List SV→Mem→Option (Tree (SV×Mem))):=
 List.rec (motive:=fun _=>Option (List SV→Mem→Option (Tree (SV×Mem)))) none (fun x _ ih=>match Nat.beq x.f f with
  |true=>some x.s
  |false=>ih) l
def WFact.ok(P:Program)(x:WFact):Prop:=∀args m t,x.s args m=some t→t.says (WCall P x.f args m)
theorem wrOf_says{P:Program}:∀ (l:List WFact),(∀x∈l,x.ok P)→∀f s args m t,wrOf l f=some s→s args m=some t→t.says (WCall P f args m)
 |[],_=>fun f s args m t h=>by cases h
 |x::l,h=>fun f s args m t hs ht=>by
  change (match Nat.beq x.f f with
   |true=>some x.s
   |false=>wrOf l f)=some s at hs
  split at hs
  ·rename_i hf
   injection hs with hs
   subst hs
   have:x.f=f:=Nat.eq_of_beq_eq_true hf
   subst this
   exact h x List.mem_cons_self args m t ht
  ·exact wrOf_says l (fun y hy=>h y (List.mem_cons_of_mem _ hy)) f s args m t hs ht
theorem known_ofW{P:Program}[ElOK P](hmix:P.follows .mixedOrders=true){l:List Fact}{k:List WFact}(hl:∀x∈l,x.ok P)(hk:∀x∈k,x.ok P):Known P (Env.ofW P (sumOf l) (wrOf k)):=
 ⟨⟨fun t r h=>rowOf_ok h,fun f fn h=>h,fun t z h=>(by cases h)⟩,⟨sumOf_says l hl,wrOf_says k hk,fun f s args m t h=>(by cases h),fun f s args B t h=>(by cases h),fun f s args t h=>(by cases h)⟩,hmix⟩
def rdOf(l:List Nat)(f:FuncId):Bool:=l.any fun x=>Nat.beq x f
structure PFact where
 f:FuncId
 s:List SV→Mem→Option (Tree Ex)
noncomputable def pnOf(l:List PFact)(f:FuncId):Option (List SV→Mem→Option (Tree Ex)):=
 List.rec (motive:=fun _=>Option (List SV→Mem→Option (Tree Ex))) none (fun x _ ih=>match Nat.beq x.f f with
  |true=>some x.s
  |false=>ih) l
def PFact.ok(P:Program)(x:PFact):Prop:=∀args m t,x.s args m=some t→t.says (XCall P x.f args m)
theorem pnOf_says{P:Program}:∀ (l:List PFact),(∀x∈l,x.ok P)→∀f s args m t,pnOf l f=some s→s args m=some t→t.says (XCall P f args m)
 |[],_=>fun f s args m t h=>by cases h
 |x::l,h=>fun f s args m t hs ht=>by
  change (match Nat.beq x.f f with
   |true=>some x.s
   |false=>pnOf l f)=some s at hs
  split at hs
  ·rename_i hf
   injection hs with hs
   subst hs
   have:x.f=f:=Nat.eq_of_beq_eq_true hf
   subst this
   exact h x List.mem_cons_self args m t ht
  ·exact pnOf_says l (fun y hy=>h y (List.mem_cons_of_mem _ hy)) f s args m t hs ht
structure BFact where
 f:FuncId
 s:List SV→Box→Option (Tree (Bool×SV×Box))
noncomputable def bxOf(l:List BFact)(f:FuncId):Option (List SV→Box→Option (Tree (Bool×SV×Box))):=
 List.rec (motive:=fun _=>Option (List SV→Box→Option (Tree (Bool×SV×Box)))) none (fun x _ ih=>match Nat.beq x.f f with
  |true=>some x.s
  |false=>ih) l
def BFact.ok(P:Program)(x:BFact):Prop:=∀args B t,x.s args B=some t→t.says (BCall P x.f args B)
theorem bxOf_says{P:Program}:∀ (l:List BFact),(∀x∈l,x.ok P)→∀f s args B t,bxOf l f=some s→s args B=some t→t.says (BCall P f args B)
 |[],_=>fun f s args m t h=>by cases h
 |x::l,h=>fun f s args m t hs ht=>by
  change (match Nat.beq x.f f with
   |true=>some x.s
   |false=>bxOf l f)=some s at hs
  split at hs
  ·rename_i hf
   injection hs with hs
   subst hs
   have:x.f=f:=Nat.eq_of_beq_eq_true hf
   subst this
   exact h x List.mem_cons_self args m t ht
  ·exact bxOf_says l (fun y hy=>h y (List.mem_cons_of_mem _ hy)) f s args m t hs ht
noncomputable def boxTree(m:Mem)(id:Nat):Tree (Bool×SV×Box)→Tree Ex
 |.leaf x=>m.set id (some x.2.2) fun m'=>.leaf (match x.1 with
  |true=>.pan x.2.1 m'
  |false=>.ok x.2.1 m')
 |.node b t f=>.node b (boxTree m id t) (boxTree m id f)
 |.req b t=>.req b (boxTree m id t)
 |.fail n=>.fail n
noncomputable def boxS(s:List SV→Box→Option (Tree (Bool×SV×Box)))(args:List SV)(m:Mem):Option (Tree Ex):=
 match args with
 |x::rest=>match x with
  |.ptr id off=>match Nat.beq off 0 with
   |true=>match m.get id with
    |some B=>match s rest B with
     |some t=>some (boxTree m id t)
     |none=>none
    |none=>none
   |false=>none
  |_=>none
 |_=>none
noncomputable def BFact.toP(x:BFact):PFact:=⟨x.f,boxS x.s⟩
theorem setT_saysB{β γ:Type}{Φ:γ→Prop}:∀ (d:Nat) (t:Tb β) (i:Nat) (v:Option β) (k:Tb β→Tree γ),(∀t',TbSet t i v t'→(k t').says Φ)→(setT d t i v k).says Φ
 |0,_,_,_,_,_=>trivial
 |d+1,.e,0,v,k,h=>h _ fun j=>by cases j with
   |zero=>simp[Tb.get_n_zero]
   |succ j=>rw[Tb.get_n_succ];by_cases hj:j % 2=0<;>simp[Tb.pick_even,Tb.pick_odd,hj,Tb.get_e]
 |d+1,.n l u r,0,v,k,h=>h _ fun j=>by cases j with
   |zero=>simp[Tb.get_n_zero]
   |succ j=>simp[Tb.get_n_succ]
 |d+1,.e,i+1,v,k,h=>by
  change Tree.says Φ (Tb.pick i (fun i=>setT d .e i v fun l=>k (.n l none .e)) (fun i=>setT d .e i v fun r=>k (.n .e none r)))
  by_cases hi:i % 2=0
  ·rw[Tb.pick_even hi]
   refine setT_saysB d _ _ _ _ fun t' h1=>h _ fun j=>?_
   cases j with
   |zero=>simp[Tb.get_n_zero,Tb.get_e]
   |succ j=>
    rw[Tb.get_n_succ]
    by_cases hj:j % 2=0
    ·rw[Tb.pick_even hj,h1 (j / 2),Tb.get_e,Tb.get_e]
     have:j / 2=i / 2↔j+1=i+1:=by omega
     simp[this]
    ·rw[Tb.pick_odd hj,Tb.get_e,Tb.get_e,if_neg (by omega)]
  ·rw[Tb.pick_odd hi]
   refine setT_saysB d _ _ _ _ fun t' h1=>h _ fun j=>?_
   cases j with
   |zero=>simp[Tb.get_n_zero,Tb.get_e]
   |succ j=>
    rw[Tb.get_n_succ]
    by_cases hj:j % 2=0
    ·rw[Tb.pick_even hj,Tb.get_e,Tb.get_e,if_neg (by omega)]
    ·rw[Tb.pick_odd hj,h1 (j / 2),Tb.get_e,Tb.get_e]
     have:j / 2=i / 2↔j+1=i+1:=by omega
     simp[this]
 |d+1,.n l u r,i+1,v,k,h=>by
  change Tree.says Φ (Tb.pick i (fun i=>setT d l i v fun l=>k (.n l u r)) (fun i=>setT d r i v fun r=>k (.n l u r)))
  by_cases hi:i % 2=0
  ·rw[Tb.pick_even hi]
   refine setT_saysB d _ _ _ _ fun t' h1=>h _ fun j=>?_
   cases j with
   |zero=>simp[Tb.get_n_zero]
   |succ j=>
    rw[Tb.get_n_succ,Tb.get_n_succ]
    by_cases hj:j % 2=0
    ·rw[Tb.pick_even hj,Tb.pick_even hj,h1 (j / 2)]
     have:j / 2=i / 2↔j+1=i+1:=by omega
     simp[this]
    ·rw[Tb.pick_odd hj,Tb.pick_odd hj,if_neg (by omega)]
  ·rw[Tb.pick_odd hi]
   refine setT_saysB d _ _ _ _ fun t' h1=>h _ fun j=>?_
   cases j with
   |zero=>simp[Tb.get_n_zero]
   |succ j=>
    rw[Tb.get_n_succ,Tb.get_n_succ]
    by_cases hj:j % 2=0
    ·rw[Tb.pick_even hj,Tb.pick_even hj,if_neg (by omega)]
    ·rw[Tb.pick_odd hj,Tb.pick_odd hj,h1 (j / 2)]
     have:j / 2=i / 2↔j+1=i+1:=by omega
     simp[this]
theorem set_saysB{γ:Type}{Φ:γ→Prop}{m:Mem}{id:Nat}{b:Option Box}{k:Mem→Tree γ}(h:∀m',MSet m id b m'→(k m').says Φ):(m.set id b k).says Φ:=
 setT_saysB 40 _ _ _ _ fun t' ht=>h ⟨m.next,t'⟩ ⟨ht,rfl⟩
theorem boxTree_says{P:Program}{f:FuncId}{args:List SV}{B:Box}{m:Mem}{id:Nat}(hB:m.get id=some B):∀ (t:Tree (Bool×SV×Box)),t.says (BCall P f args B)→(boxTree m id t).says (XCall P f (.ptr id 0::args) m)
 |.leaf x,h=>set_saysB fun m' hm=>h m m' id hB hm
 |.node _ t f',h=>⟨fun hb=>boxTree_says hB t (h.1 hb),fun hb=>boxTree_says hB f' (h.2 hb)⟩
 |.req _ t,h=>fun hb=>boxTree_says hB t (h hb)
 |.fail _,_=>trivial
theorem BFact.toP_ok{P:Program}{x:BFact}(h:x.ok P):x.toP.ok P:=by
 intro args m t ht
 change boxS x.s args m=some t at ht
 unfold boxS at ht
 split at ht
 ·split at ht
  ·split at ht
   ·rename_i off h0
    split at ht
    ·rename_i B hB
     split at ht
     ·rename_i t' ht'
      injection ht with ht
      subst ht
      rw[Nat.eq_of_beq_eq_true h0]
      exact boxTree_says hB t' (h _ B t' ht')
     ·cases ht
    ·cases ht
   ·cases ht
  ·cases ht
 ·cases ht
theorem known_ofB{P:Program}[ElOK P](hmix:P.follows .mixedOrders=true){l:List Fact}{k:List WFact}{j:List PFact}{i:List BFact}(hl:∀x∈l,x.ok P)(hk:∀x∈k,x.ok P)(hj:∀x∈j,x.ok P)(hi:∀x∈i,x.ok P)(typed:TypeId→Bool)(lst rd:FuncId→Bool)(cut:Nat→Bool):Known P (Env.ofB P (sumOf l) (wrOf k) (pnOf j) (bxOf i) typed lst rd cut):=
 ⟨⟨fun t r h=>rowOf_ok h,fun f fn h=>h,fun t z h=>by
   change (P.info? t).bind (fun i=>i.zero)=some z at h
   cases hi:P.info? t with
   |none=>rw[hi]at h;cases h
   |some i=>rw[hi]at h;exact⟨i,rfl,h⟩⟩,⟨sumOf_says l hl,wrOf_says k hk,pnOf_says j hj,bxOf_says i hi,fun f s args t h=>(by cases h)⟩,hmix⟩
theorem scall_of{P:Program}[ElOK P](hmix:P.follows .mixedOrders=true)(l:List Fact)(hl:∀x∈l,x.ok P)(n:Nat)(p:Plan){f:FuncId}{args:List SV}{v:SV}{t:Tree (SV×Mem)}(ht:execFn (Env.of P (sumOf l)) n f args p=t)(h:t.holds fun x=>x.1=v)(hd:dataL args=true)(hv:v.data=true):SCall P f args v:=
 scall_of_exec (known_of hmix (sumOf_ok l hl)) hd hv (by rw[ht];exact h)
open Go.RowKit Go.WideShapes
section
variable {H:Type} {enc:TypeId×Value→H} {P:Program} {W:World}
end
def Tree.vals:Tree (SV×Mem)→Tree SV
 |.leaf x=>.leaf x.1
 |.node b t f=>.node b t.vals f.vals
 |.req b t=>.req b t.vals
 |.fail n=>.fail n
theorem Tree.vals_holds{L:SV→Prop}:∀t:Tree (SV×Mem),t.vals.holds L→t.holds fun x=>L x.1
 |.leaf _,h=>h
 |.node _ t f,h=>⟨fun hb=>t.vals_holds (h.1 hb),fun hb=>f.vals_holds (h.2 hb)⟩
 |.req _ t,h=>⟨h.1,t.vals_holds h.2⟩
 |.fail _,h=>h
def allOk(P:Program):List Fact→Prop
 |[] =>True
 |x::l=>x.ok P∧allOk P l
theorem allOk.all{P:Program}:∀{l:List Fact},allOk P l→∀x∈l,x.ok P
 |_::_,h,_,.head _=>h.1
 |_::_,h,_,.tail _ hx=>h.2.all _ hx
theorem scall_v{P:Program}[ElOK P](hmix:P.follows .mixedOrders=true)(l:List Fact)(hl:allOk P l)(n:Nat)(p:Plan){f:FuncId}{args:List SV}{v:SV}{t:Tree SV}
  (ht:(execFn (Env.of P (sumOf l)) n f args p).vals=t) (h:t.holds fun x=>x=v) (hd:dataL args=true) (hv:v.data=true):SCall P f args v:=
 scall_of hmix l hl.all n p rfl (Tree.vals_holds _ (by rw[ht];exact h)) hd hv
theorem wrap64{x:Int}(h: -9223372036854775808≤x)(k:x≤9223372036854775807):IntKind.wrap .i64 x=x:=by
 have h2:IntKind.wrap .i64 x=if true&&decide (x % 18446744073709551616≥9223372036854775808)then x % 18446744073709551616-18446744073709551616 else x % 18446744073709551616:=rfl
 rw[h2]
 simp only[Bool.true_and,decide_eq_true_eq]
 split<;>omega
noncomputable def viewS(fr:Fr):List Bool→Nat→List SV
 |[],_=>[]
 |true::ks,t=>fr.get t::viewS fr ks (t+1)
 |false::ks,t=>.top::viewS fr ks (t+1)
theorem viewS_get(fr:Fr):∀ (ks:List Bool) (t i:Nat) (x:SV),(viewS fr ks t)[i]? =some x→x=.top∨x=fr.get (t+i)
 |[],_,_,_,h=>by simp[viewS]at h
 |true::ks,t,0,x,h=>by simp[viewS]at h;exact .inr h.symm
 |false::ks,t,0,x,h=>by simp[viewS]at h;exact .inl h.symm
 |true::ks,t,i+1,x,h=>by
  have:=viewS_get fr ks (t+1) i x (by simpa[viewS]using h)
  rwa [show t+(i+1)=t+1+i by omega]
 |false::ks,t,i+1,x,h=>by
  have:=viewS_get fr ks (t+1) i x (by simpa[viewS]using h)
  rwa [show t+(i+1)=t+1+i by omega]
structure Canon (slots:List SV) (boxes:List (Option Box)) (fr:Fr) (m:Mem):Prop where
 size:fr.size=slots.length
 get:∀t,fr.get t=slots.getD t .undef
 next:m.next=boxes.length
 box:∀id,m.get id=(boxes[id]?).join
inductive Stop where
 |done (v:SV)
 |at(items:List Item) (size:Nat) (slots:List SV) (boxes:List (Option Box))
noncomputable def memFill{α:Type}:List (Option Box)→Mem→(Mem→Tree α)→Tree α
 |[],m,k=>k m
 |some B::l,m,k=>m.push B fun m _=>memFill l m k
 |none::l,m,k=>memFill l ⟨m.next+1,m.tb⟩ k
theorem memFill_holds{α:Type}{L:α→Prop}:∀ (l:List (Option Box)) (m:Mem) (k:Mem→Tree α),(memFill l m k).holds L→(∀id,m.next≤id→m.get id=none)→
  ∃m',(k m').holds L∧m'.next=m.next+l.length∧(∀id,id<m.next→m'.get id=m.get id)∧∀id,m'.get (m.next+id)=(l[id]?).join
 |[],m,k,h,hf=>⟨m,h,rfl,fun _ _=>rfl,fun id=>by simpa using hf (m.next+id) (by omega)⟩
 |none::l,m,k,h,hf=>by
  obtain⟨m',h1,h2,h3,h4⟩:=memFill_holds l ⟨m.next+1,m.tb⟩ k h fun id hid=>hf id (by dsimp only at hid;omega)
  refine⟨m',h1,by rw[h2];simp;omega,fun id hid=>h3 id (by dsimp only;omega),fun id=>?_⟩
  cases id with
  |zero=>
   rw[h3 (m.next+0) (by dsimp only;omega)]
   simpa[Mem.get]using hf m.next (Nat.le_refl _)
  |succ id=>
   have:=h4 id
   dsimp only at this
   rw[show m.next+(id+1)=m.next+1+id by omega,this]
   simp
 |some B::l,m,k,h,hf=>by
  obtain⟨m1,hp,h0⟩:=Mem.push_holds (k:=fun m _=>memFill l m k) h
  obtain⟨m',h1,h2,h3,h4⟩:=memFill_holds l m1 k h0 fun id hid=>by
   rw[hp.2]at hid
   rw[hp.1 id,if_neg (by omega)]
   exact hf id (by omega)
  rw[hp.2]at h2 h3 h4
  refine⟨m',h1,by rw[h2];simp;omega,fun id hid=>?_,fun id=>?_⟩
  ·rw[h3 id (by omega),hp.1 id,if_neg (by omega)]
  ·cases id with
   |zero=>
    rw[h3 (m.next+0) (by omega),hp.1]
    simp
   |succ id=>
    rw[show m.next+(id+1)=m.next+1+id by omega,h4 id]
    simp
def enter:List Item→List Item
 |.code (.loop b)::k=>.code b::.inLoop b::k
 |.inLoop b::k=>.code b::.inLoop b::k
 |x=>x
def loopsIn:Code→List Item→List (List Item)
 |.seq a b,k=>loopsIn a (.code b::k)++loopsIn b k
 |.cond _ x y,k=>loopsIn x k++loopsIn y k
 |.block id b,k=>loopsIn b (.inBlock id::k)
 |.scope b,k=>loopsIn b (.inScope b::k)
 |.loop b,k=>(.code b::.inLoop b::k)::loopsIn b (.inLoop b::k)
 |_,_=>[]
def fnOf(P:Program)(f:FuncId):Func:=match P.funcs[f]? with
 |some fn=>fn
 |none=>default
def bodyOf(P:Program)(f:FuncId):Code:=match(fnOf P f).body with
 |some b=>b
 |none=>.skip
def loopOf(P:Program)(f:FuncId)(i:Nat):List Item:=((loopsIn (bodyOf P f) [])[i]?).getD []
theorem tbSet_ex{β:Type}:∀ (i:Nat) (t:Tb β) (v:Option β),∃t',TbSet t i v t':=by
 intro i
 induction i using Nat.strongRecOn with
 |ind i ih=>
  intro t v
  obtain⟨l,x,r,hg⟩:∃l x r,∀k,t.get k=(Tb.n l x r).get k:=by
   cases t with
   |n l x r=>exact⟨l,x,r,fun _=>rfl⟩
   |e=>
    refine⟨.e,none,.e,fun k=>?_⟩
    cases k with
    |zero=>rfl
    |succ j=>
     rw[Tb.get_n_succ]
     by_cases h:j % 2=0
     ·rw[Tb.pick_even h];rfl
     ·rw[Tb.pick_odd h];rfl
  cases i with
  |zero=>
   refine⟨.n l v r,fun k=>?_⟩
   cases k with
   |zero=>rfl
   |succ j=>rw[if_neg (by omega),hg];rfl
  |succ i=>
   by_cases hi:i % 2=0
   ·obtain⟨l',hl⟩:=ih (i / 2) (by omega) l v
    refine⟨.n l' x r,fun k=>?_⟩
    cases k with
    |zero=>rw[if_neg (by omega),hg];rfl
    |succ j=>
     rw[hg,Tb.get_n_succ,Tb.get_n_succ]
     by_cases h:j % 2=0
     ·rw[Tb.pick_even h,Tb.pick_even h,hl]
      by_cases e:j=i
      ·subst e;simp
      ·rw[if_neg (by omega),if_neg (by omega)]
     ·rw[Tb.pick_odd h,Tb.pick_odd h,if_neg (by omega)]
   ·obtain⟨r',hr⟩:=ih (i / 2) (by omega) r v
    refine⟨.n l x r',fun k=>?_⟩
    cases k with
    |zero=>rw[if_neg (by omega),hg];rfl
    |succ j=>
     rw[hg,Tb.get_n_succ,Tb.get_n_succ]
     by_cases h:j % 2=0
     ·rw[Tb.pick_even h,Tb.pick_even h,if_neg (by omega)]
     ·rw[Tb.pick_odd h,Tb.pick_odd h,hr]
      by_cases e:j=i
      ·subst e;simp
      ·rw[if_neg (by omega),if_neg (by omega)]
theorem Tree.holds_mono{α:Type}{L L':α→Prop}(h:∀x,L x→L' x):∀t:Tree α,t.holds L→t.holds L'
 |.leaf _,k=>h _ k
 |.node _ t f,k=>⟨fun hb=>t.holds_mono h (k.1 hb),fun hb=>f.holds_mono h (k.2 hb)⟩
 |.req _ t,k=>⟨k.1,t.holds_mono h k.2⟩
 |.fail _,k=>k
theorem Canon.of{slots:List SV}{boxes:List (Option Box)}:∃fr m,Canon slots boxes fr m:=by
 have hS:∀ (l:List SV) (t:Tb SV) (i:Nat),∃t':Tb SV,∀k,t'.get k=if i≤k∧k<i+l.length then l[k-i]? else t.get k:=by
  intro l
  induction l with
  |nil=>exact fun t i=>⟨t,fun k=>by rw[if_neg (by simp)]⟩
  |cons x l ih=>
   intro t i
   obtain⟨t1,h1⟩:=ih t (i+1)
   have:∃t',TbSet t1 i (some x) t':=tbSet_ex i t1 (some x)
   obtain⟨t',ht'⟩:=this
   refine⟨t',fun k=>?_⟩
   rw[ht' k]
   by_cases hk:k=i
   ·subst hk;simp
   ·rw[if_neg hk,h1 k]
    by_cases h2:i+1≤k∧k<i+1+l.length
    ·rw[if_pos h2,if_pos (by simp;omega)]
     rw[show k-i=(k-(i+1))+1 by omega]
     simp
    ·rw[if_neg h2,if_neg (by simp;omega)]
 have hB:∀ (l:List (Option Box)) (t:Tb Box) (i:Nat),∃t':Tb Box,∀k,t'.get k=if i≤k∧k<i+l.length then(l[k-i]?).join else t.get k:=by
  intro l
  induction l with
  |nil=>exact fun t i=>⟨t,fun k=>by rw[if_neg (by simp)]⟩
  |cons x l ih=>
   intro t i
   obtain⟨t1,h1⟩:=ih t (i+1)
   obtain⟨t',ht'⟩:=tbSet_ex i t1 x
   refine⟨t',fun k=>?_⟩
   rw[ht' k]
   by_cases hk:k=i
   ·subst hk;simp
   ·rw[if_neg hk,h1 k]
    by_cases h2:i+1≤k∧k<i+1+l.length
    ·rw[if_pos h2,if_pos (by simp;omega)]
     rw[show k-i=(k-(i+1))+1 by omega]
     simp
    ·rw[if_neg h2,if_neg (by simp;omega)]
 obtain⟨t,ht⟩:=hS slots .e 0
 obtain⟨u,hu⟩:=hB boxes .e 0
 refine⟨⟨slots.length,t⟩,⟨boxes.length,u⟩,⟨rfl,fun k=>?_,rfl,fun k=>?_⟩⟩
 ·unfold Fr.get
  rw[ht k,List.getD_eq_getElem?_getD]
  by_cases h:k<slots.length
  ·rw[if_pos (by omega)];simp[h]
  ·rw[if_neg (by omega)]
   rw[Tb.get_e,List.getElem?_eq_none (by omega)];rfl
 ·unfold Mem.get
  rw[hu k]
  by_cases h:k<boxes.length
  ·rw[if_pos (by omega)];simp
  ·rw[if_neg (by omega)]
   rw[Tb.get_e,List.getElem?_eq_none (by omega)];rfl
theorem Canon.swap{ds:List Deferred}{slots:List SV}{boxes:List (Option Box)}{fr fr':Fr}{m m':Mem}(h:Canon slots boxes fr m)(h':Canon slots boxes fr' m'){w0:World}{R0:RSet}{ρ:Rho}{w:World}{a:Act}(hs:SRelD ds w0 R0 ρ w fr m a):
  SRelD ds w0 R0 ρ w fr' m' a∧(∀b,RO w0 R0 ρ w m b↔RO w0 R0 ρ w m' b):=by
 have hg:∀id,m'.get id=m.get id:=fun id=>by rw[h.box,h'.box]
 have hn:m'.next=m.next:=by rw[h.next,h'.next]
 have hro:RO w0 R0 ρ w m'=RO w0 R0 ρ w m:=by
  funext b
  unfold RO
  simp only[hg]
 obtain⟨h1,h2,h3⟩:=hs
 refine⟨⟨⟨h1.below,fun id B hB=>?_,fun id B hB=>h1.lo id B (by rw[←hg];exact hB),fun id B hB=>h1.hi id B (by rw[←hg];exact hB),fun id id' B B' hB hB'=>h1.inj id id' B B' (by rw[←hg];exact hB) (by rw[←hg];exact hB'),fun id B hB=>?_,h1.hid.1,fun id B hB=>h1.hid.2 id B (by rw[←hg];exact hB)⟩,⟨?_,fun t=>?_⟩,h3⟩,fun b=>by rw[hro]⟩
 ·rw[hn];exact h1.lt id B (by rw[←hg];exact hB)
 ·rw[hro,hn];exact h1.box id B (by rw[←hg];exact hB)
 ·rw[h'.size,←h.size];exact h2.1
 ·rw[hro,hn,h'.get,←h.get];exact h2.2 t
theorem pad_get(l:List SV)(k t:Nat):(l++List.replicate k SV.undef).getD t .undef=l.getD t .undef:=by
 simp only[List.getD_eq_getElem?_getD]
 by_cases h:t<l.length
 ·rw[List.getElem?_append_left h]
 ·rw[List.getElem?_append_right (by omega),List.getElem?_eq_none (l:=l) (by omega)]
  cases hx:(List.replicate k SV.undef)[t-l.length]? with
  |none=>rfl
  |some x=>
   have:=List.eq_of_mem_replicate (List.mem_of_getElem? hx)
   subst this;rfl
theorem idx_get:∀{l:List Nat} {k j:Nat},idx l k=some j→l[j]? =some k
 |x::l,k,j,h=>by
  unfold idx at h
  split at h
  ·rename_i hx
   injection h with h;subst h
   simp[Nat.eq_of_beq_eq_true hx]
  ·split at h
   ·rename_i j' hj
    injection h with h;subst h
    simpa using idx_get hj
   ·cases h
mutual
/-- A value with its boxes named anew. -/
def ren(ids:List Nat):SV→SV
 |.row id=>match idx ids id with|some k=>.row k|none=>.top
 |.arr id o n=>match idx ids id with|some k=>.arr k o n|none=>.top
 |.ptr id o=>match idx ids id with|some k=>.ptr k o|none=>.top
 |.rptr id z i o=>match idx ids id with|some k=>.rptr k z i o|none=>.top
 |.agg cs=>.agg (renL ids cs)
 |.tuple cs=>.tuple (renL ids cs)
 |.fn f a b=>.fn f (renL ids a) (renL ids b)
 |v=>v
def renL(ids:List Nat):List SV→List SV
 |[] =>[]
 |x::xs=>ren ids x::renL ids xs
end
def renB(ids:List Nat):Box→Box
 |.cells cs=>.cells (renL ids cs)
 |.rows t l=>.rows t l
 |.iter s p=>.iter s p
 |.obj t cs=>.obj t (renL ids cs)
noncomputable def idsM(m:Mem):List Nat→List Nat→List Nat
 |[],l=>l
 |id::r,l=>idsM m r (match m.get id with
  |some (.cells cs)=>idsL cs l
  |some (.obj _ cs)=>idsL cs l
  |_=>l)
noncomputable def live(m:Mem)(slots:List SV):List Nat:=
 let l:=idsL slots []
 let l:=idsM m l l
 idsM m l l
def nodupB:List Nat→Bool
 |[] =>true
 |x::l=>(match idx l x with|some _=>false|none=>true)&&nodupB l
theorem idx_none:∀{l:List Nat} {k:Nat},idx l k=none→k∉l
 |[],_,_=>List.not_mem_nil
 |x::l,k,h=>by
  unfold idx at h
  split at h
  ·cases h
  ·rename_i hx
   split at h
   ·cases h
   ·rename_i hj
    intro hm
    cases hm with
    |head=>simp at hx
    |tail _ hm=>exact idx_none hj hm
theorem nodupB_spec:∀{l:List Nat},nodupB l=true→l.Nodup
 |[],_=>List.nodup_nil
 |x::l,h=>by
  simp only[nodupB,Bool.and_eq_true]at h
  refine List.nodup_cons.2 ⟨?_,nodupB_spec h.2⟩
  have h1:=h.1
  split at h1
  ·cases h1
  ·rename_i hx;exact idx_none hx
section
variable {R R':Nat→Prop} {ρ ρ':Rho} {n n':Nat} {w:World} {ids:List Nat}
mutual
theorem Rep.ren(hR:∀b,R b→R' b)(hρ:∀id k,idx ids id=some k→k<n'∧ρ' k=ρ id):∀ (x:SV) (v:Value),Rep R ρ n w x v→Rep R' ρ' n' w (Go.Sx.ren ids x) v
 |.undef,_,h=>h
 |.top,_,h=>trivial
 |.int _ _,_,h=>h
 |.bool _,_,h=>h
 |.str _,_,h=>h
 |.nilS,_,h=>h
 |.list t l,v,h=>RepD.mono (fun b hb=>⟨hR b hb,rfl⟩) (.list t) l [v] h
 |.row id,v,h=>by
  unfold Go.Sx.ren
  split
  ·rename_i k hk
   obtain⟨h1,h2⟩:=hρ id k hk
   obtain⟨_,h⟩:=h
   exact⟨h1,by rw[h2];exact h⟩
  ·trivial
 |.arr id _ _,v,h=>by
  unfold Go.Sx.ren
  split
  ·rename_i k hk
   obtain⟨h1,h2⟩:=hρ id k hk
   exact⟨h1,by rw[h2];exact h.2⟩
  ·trivial
 |.ptr id _,v,h=>by
  unfold Go.Sx.ren
  split
  ·rename_i k hk
   obtain⟨h1,h2⟩:=hρ id k hk
   exact⟨h1,by rw[h2];exact h.2⟩
  ·trivial
 |.nilP,_,h=>h
 |.eptr t l i off,v,h=>by
  obtain⟨b,o,h1,h2,h3⟩:=h
  exact⟨b,o,h1,h2,h3.mono fun b hb=>⟨hR b hb,rfl⟩⟩
 |.rptr id _ _ _,v,h=>by
  unfold Go.Sx.ren
  split
  ·rename_i k hk
   obtain⟨h1,h2⟩:=hρ id k hk
   exact⟨h1,by rw[h2];exact h.2⟩
  ·trivial
 |.agg cs,v,h=>by
  obtain⟨vs,h1,h2⟩:=h
  exact⟨vs,h1,RepL.ren hR hρ cs vs h2⟩
 |.tuple cs,v,h=>by
  obtain⟨vs,h1,h2⟩:=h
  exact⟨vs,h1,RepL.ren hR hρ cs vs h2⟩
 |.fn f first cap,v,h=>by
  obtain⟨vs,us,h1,h2,h3⟩:=h
  exact⟨vs,us,h1,RepL.ren hR hρ first vs h2,RepL.ren hR hρ cap us h3⟩
 |.raw _,_,h=>h
theorem RepL.ren(hR:∀b,R b→R' b)(hρ:∀id k,idx ids id=some k→k<n'∧ρ' k=ρ id):∀ (xs:List SV) (vs:List Value),RepL R ρ n w xs vs→RepL R' ρ' n' w (Go.Sx.renL ids xs) vs
 |[],_,h=>h
 |x::xs,vs,h=>by
  obtain⟨v,us,h1,h2,h3⟩:=h
  exact⟨v,us,h1,Rep.ren hR hρ x v h2,RepL.ren hR hρ xs us h3⟩
end
theorem BoxRel.ren(hR:∀b,R b→R' b)(hρ:∀id k,idx ids id=some k→k<n'∧ρ' k=ρ id){r:Nat×Nat×Nat}:∀ (B:Box),BoxRel R ρ n w r B→BoxRel R' ρ' n' w r (renB ids B)
 |.cells cs,h=>by
  obtain⟨arr,e,fr,h1,h2,h3⟩:=h
  exact⟨arr,e,fr,h1,h2,RepL.ren hR hρ _ _ h3⟩
 |.rows t l,h=>by
  obtain⟨h1,h2,h3⟩:=h
  refine⟨h1,h2,fun h0=>?_⟩
  obtain⟨arr,e,fr,k1,k2,k3,k4⟩:=h3 h0
  refine⟨arr,e,fr,k1,k2,k3,fun i hi=>?_⟩
  obtain⟨cs,c1,c2,c3⟩:=k4 i hi
  exact⟨cs,c1,c2,RepD.mono (fun b hb=>⟨hR b hb,rfl⟩) _ _ _ c3⟩
 |.iter s pos,h=>h
 |.obj t cs,h=>by
  obtain⟨arr,h1,h3⟩:=h
  exact⟨arr,h1,RepL.ren hR hρ _ _ h3⟩
end
theorem solid_ren{r:Nat×Nat×Nat}{ids:List Nat}:∀ (B:Box),solid r (renB ids B)↔solid r B
 |.cells _=>Iff.rfl
 |.rows _ _=>Iff.rfl
 |.iter _ _=>Iff.rfl
 |.obj _ _=>Iff.rfl
theorem getD_renL(ids:List Nat):∀ (l:List SV) (t:Nat),(renL ids l).getD t .undef=ren ids (l.getD t .undef)
 |[],t=>by cases t<;>rfl
 |x::l,0=>rfl
 |x::l,t+1=>by
  have:=getD_renL ids l t
  simpa[renL]using this
theorem nodup_inj:∀{l:List Nat},l.Nodup→∀ (i j:Nat) (x:Nat),l[i]? =some x→l[j]? =some x→i=j
 |[],_,i,j,x,h,_=>by simp at h
 |y::l,hn,i,j,x,hi,hj=>by
  rw[List.nodup_cons]at hn
  cases i with
  |zero=>
   cases j with
   |zero=>rfl
   |succ j=>
    simp at hi hj;subst hi
    exact absurd (List.mem_of_getElem? hj) hn.1
  |succ i=>
   cases j with
   |zero=>
    simp at hi hj;subst hj
    exact absurd (List.mem_of_getElem? hi) hn.1
   |succ j=>rw[nodup_inj hn.2 i j x (by simpa using hi) (by simpa using hj)]
theorem SRelD.rename{ds:List Deferred}{w0:World}{R0:RSet}{ρ:Rho}{w:World}{fr fr2:Fr}{m m2:Mem}{a:Act}{slots:List SV}{ids:List Nat}(h:SRelD ds w0 R0 ρ w fr m a)(hn:ids.Nodup)
  (hc:Canon (renL ids slots) (ids.map fun id=>(m.get id).map (renB ids)) fr2 m2) (hlen:slots.length=fr.size) (hs:∀ (i:Nat) (x:SV),slots[i]? =some x→x=.top∨x=fr.get i):
  SRelD ds w0 R0 (fun k=>ρ (ids.getD k 0)) w fr2 m2 a∧∀b,RO w0 R0 ρ w m b→RO w0 R0 (fun k=>ρ (ids.getD k 0)) w m2 b:=by
 obtain⟨h1,h2,h3⟩:=h
 have hg:∀k B,m2.get k=some B→∃id B0,ids[k]? =some id∧m.get id=some B0∧B=renB ids B0:=fun k B hB=>by
  rw[hc.box k]at hB
  simp only[List.getElem?_map]at hB
  cases hx:ids[k]? with
  |none=>rw[hx]at hB;cases hB
  |some id=>
   rw[hx]at hB
   cases hy:m.get id with
   |none=>simp[hy]at hB
   |some B0=>simp[hy]at hB;exact⟨id,B0,rfl,hy,hB.symm⟩
 have hρk:∀k id,ids[k]? =some id→ρ (ids.getD k 0)=ρ id:=fun k id hk=>by rw[List.getD_eq_getElem?_getD,hk];rfl
 have hρ:∀id k,idx ids id=some k→k<m2.next∧(fun k=>ρ (ids.getD k 0)) k=ρ id:=fun id k hk=>by
  have:=idx_get hk
  refine⟨?_,hρk k id this⟩
  rw[hc.next]
  simpa using (List.getElem?_eq_some_iff.1 this).1
 have hro:∀b,RO w0 R0 ρ w m b→RO w0 R0 (fun k=>ρ (ids.getD k 0)) w m2 b:=fun b hb=>by
  rcases hb with hb|⟨k1,k2,k3,k4⟩
  ·exact .inl hb
  ·refine .inr ⟨k1,k2,fun k B hB hsol=>?_,k4⟩
   obtain⟨id,B0,g1,g2,rfl⟩:=hg k B hB
   dsimp only at hsol ⊢
   rw[hρk k id g1]at hsol ⊢
   exact k3 id B0 g2 ((solid_ren B0).1 hsol)
 refine⟨⟨⟨h1.below,fun k B hB=>?_,fun k B hB hsol=>?_,fun k B hB hsol=>?_,fun k k' B B' hB hB' hsol hsol' heq=>?_,fun k B hB=>?_,h1.hid.1,fun k B hB hsol=>?_⟩,⟨?_,fun t=>?_⟩,h3⟩,hro⟩
 ·obtain⟨id,B0,g1,g2,rfl⟩:=hg k B hB
  rw[hc.next]
  simpa using (List.getElem?_eq_some_iff.1 g1).1
 ·obtain⟨id,B0,g1,g2,rfl⟩:=hg k B hB
  rw[hρk k id g1]at hsol ⊢
  exact h1.lo id B0 g2 ((solid_ren B0).1 hsol)
 ·obtain⟨id,B0,g1,g2,rfl⟩:=hg k B hB
  rw[hρk k id g1]at hsol ⊢
  exact h1.hi id B0 g2 ((solid_ren B0).1 hsol)
 ·obtain⟨id,B0,g1,g2,rfl⟩:=hg k B hB
  obtain⟨id',B0',g1',g2',rfl⟩:=hg k' B' hB'
  rw[hρk k id g1]at hsol heq
  rw[hρk k' id' g1']at hsol' heq
  have:=h1.inj id id' B0 B0' g2 g2' ((solid_ren B0).1 hsol) ((solid_ren B0').1 hsol') heq
  subst this
  exact nodup_inj hn k k' id g1 g1'
 ·obtain⟨id,B0,g1,g2,rfl⟩:=hg k B hB
  rw[hρk k id g1]
  exact BoxRel.ren hro hρ B0 (h1.box id B0 g2)
 ·obtain⟨id,B0,g1,g2,rfl⟩:=hg k B hB
  rw[hρk k id g1]at hsol ⊢
  exact h1.hid.2 id B0 g2 ((solid_ren B0).1 hsol)
 ·rw[hc.size,show(renL ids slots).length=slots.length from ?_,hlen]
  ·exact h2.1
  ·clear hc hlen hs
   induction slots with
   |nil=>rfl
   |cons x l ih=>simp[renL,ih]
 ·rw[hc.get t,getD_renL]
  rw[List.getD_eq_getElem?_getD]
  cases hx:slots[t]? with
  |none=>
   have ht:slots.length≤t:=by simpa using hx
   have:a.tmps.getD t Go.undef=Go.undef:=by
    rw[Array.getD_eq_getD_getElem?,Array.getElem?_eq_none (by rw[←h2.1,←hlen];exact ht)]
    rfl
   rw[this];exact rfl
  |some x=>
   rcases hs t x hx with rfl|rfl
   ·exact trivial
   ·exact Rep.ren hro hρ _ _ (h2.2 t)
noncomputable def segR(E:Env)(n:Nat)(fn:Func)(hint:Ty)(keep:List Item→List Bool)(items:List Item)(p:Plan)(slots:List SV)(boxes:List (Option Box)):Tree Stop:=
 Fr.make slots.length slots fun fr=>memFill boxes ⟨0,.e⟩ fun m=>exec E n items p fr m fun o=>match o with
  |.ret _ fr m=>results E fn m fr fun v=>.leaf (.done (give hint m v))
  |.stop items fr m=>match live m (viewS fr (keep items) 0)with
   |ids=>match nodupB ids with
    |true=>.leaf (.at (enter items) fr.size (renL ids (viewS fr (keep items) 0)) (ids.map fun id=>(m.get id).map (renB ids)))
    |false=>.fail 170
  |.pan .. =>.fail 175
def RunsR(P:Program)(fn:Func)(v:SV)(items:List Item)(slots:List SV)(boxes:List (Option Box)):Prop:=
 ∀fr m,Canon slots boxes fr m→∀w0 R0 ρ w a,SRel w0 R0 ρ w fr m a→∀ (b:Frame) (cs:List Frame),∃ρ' w' a' todo u,MRel w0 R0 ρ' w' ⟨0,.e⟩∧a'.defers=[] ∧(∀b,RO w0 R0 ρ w m b→RO w0 R0 ρ' w' ⟨0,.e⟩ b∧w'.heap[b]? =w.heap[b]?)∧
  Steps P (lone (b.at a items) cs w) (lone {b.at a' todo with mode:=.returning} cs w')∧(Go.results fn a'.tmps).run P w'=.ok u w'∧Rep (RO w0 R0 ρ' w' ⟨0,.e⟩) ρ' 0 w' v u
theorem runsR_seg{P:Program}{E:Env}(hK:Known P E){n:Nat}{fn:Func}{hint:Ty}{keep:List Item→List Bool}{items:List Item}{p:Plan}{slots:List SV}{boxes:List (Option Box)}{v:SV}(hvd:v.data=true)
  (h:(segR E n fn hint keep items p slots boxes).holds fun o=>match o with
    |.done v'=>v'=v
    |.at items' size slots' boxes'=>slots'.length=size∧RunsR P fn v items' slots' boxes'):RunsR P fn v items slots boxes:=by
 intro fr0 m0 hc0 w0 R0 ρ w a hs b cs
 unfold segR at h
 obtain⟨fr,h1,h2,h3,h4⟩:=make_holds h
 obtain⟨m,h5,h6,h7,h8⟩:=memFill_holds boxes ⟨0,.e⟩ _ h1 fun id _=>rfl
 have hc:Canon slots boxes fr m:=⟨h2,h4,by rw[h6];simp,fun id=>by simpa using h8 id⟩
 obtain⟨hs1,hro1⟩:=hc0.swap hc hs
 obtain⟨out,h9,h10⟩:=exec_ok hK.e hK.s hK.mix n _ _ _ _ _ _ h5
 cases out with
 |pan v1 fr' m'=>exact h9.elim
 |ret p' fr' m'=>
  dsimp only at h9
  obtain⟨v',k1,k2⟩:=results_holds hK.e h9
  obtain rfl:give hint m' v'=v:=k1
  obtain⟨ρ1,w1,a1,todo,g1,g2,g3⟩:=h10 w0 R0 ρ w a hs1 b cs
  obtain⟨u,r1,r2⟩:=k2 w0 R0 ρ1 w1 a1 g1
  obtain⟨e1,e2⟩:=g1.1.bare
  exact⟨ρ1,w1,a1,todo,u,e1,g1.2.2,fun b hb=>⟨e2 b (g2.keep b ((hro1 b).1 hb)).1,(g2.keep b ((hro1 b).1 hb)).2⟩,g3,r1,give_rep g1.1 r2 hvd⟩
 |stop items' fr' m'=>
  dsimp only at h9
  split at h9
  ·rename_i hnd
   have h10:Reach P items fr m (.stop (enter items') fr' m'):=by
    refine h10.trans ?_
    unfold enter
    split
    ·exact Reach.step fun b a cs w _=>step_loop
    ·exact Reach.step fun b a cs w _=>step_inLoop
    ·exact Reach.refl _ _ _
   generalize hids:live m' (viewS fr' (keep items') 0)=ids at h9 hnd
   obtain⟨k1,k5⟩:=h9
   obtain⟨ρ1,w1,a1,g1,g2,g3⟩:=h10 w0 R0 ρ w a hs1 b cs
   obtain⟨fr2,m2,hc2⟩:=Canon.of (slots:=renL ids (viewS fr' (keep items') 0)) (boxes:=ids.map fun id=>(m'.get id).map (renB ids))
   have hlr:∀l:List SV,(renL ids l).length=l.length:=fun l=>by
    induction l with
    |nil=>rfl
    |cons x l ih=>simp[renL,ih]
   obtain⟨e1,e2⟩:=g1.rename (nodupB_spec hnd) hc2 (by rw[←k1,hlr]) (fun i x hx=>by simpa using viewS_get fr' _ 0 i x hx)
   obtain⟨ρ3,w3,a3,todo,u,q1,q2,q3,q4,q5,q6⟩:=k5 fr2 m2 hc2 w0 R0 _ w1 a1 e1 b cs
   exact⟨ρ3,w3,a3,todo,u,q1,q2,fun b hb=>by
    have s1:=g2.keep b ((hro1 b).1 hb)
    have s2:=q3 b (e2 b s1.1)
    exact⟨s2.1,s2.2.trans s1.2⟩,g3.trans q4,q5,q6⟩
  ·exact h9.elim
theorem scallR_loops{P:Program}{f:FuncId}{args:List SV}{v:SV}(hd:dataL args=true)(hvd:v.data=true)
  (hf:(match P.funcs[f]? with
    | some fn => fn.body.isSome && !(fn.name == "runtime.NumGoroutine") && Nat.ble args.length fn.ntmps
    |none=>false)=true)
  (h:RunsR P (fnOf P f) v [.code (bodyOf P f)] (args++List.replicate ((fnOf P f).ntmps-args.length) .undef) []):SCall P f args v:=by
 unfold fnOf bodyOf at h
 unfold fnOf at h
 cases hx:P.funcs[f]? with
 |none=>rw[hx]at hf;cases hf
 |some fn=>
  rw[hx]at hf h
  dsimp only at hf h
  simp only[Bool.and_eq_true,Bool.not_eq_true']at hf
  obtain⟨⟨h1,hn⟩,h3⟩:=hf
  obtain⟨body,hb⟩:=Option.isSome_iff_exists.mp h1
  rw[hb]at h
  have hl:=Nat.le_of_ble_eq_true h3
  intro m w0 R0 ρ w vs hm hvs
  obtain⟨fr,mc0,hc⟩:=Canon.of (slots:=args++List.replicate (fn.ntmps-args.length) .undef) (boxes:=[])
  have hc':Canon (args++List.replicate (fn.ntmps-args.length) .undef) [] fr ⟨0,.e⟩:=⟨hc.size,hc.get,rfl,fun id=>rfl⟩
  rw[callFunc_enter hx hb hn]
  obtain⟨o1,o2⟩:=own_mem hm ρ
  have hfr:=frame_rel (size:=fn.ntmps) (by rw[hc.size];simp;omega) (.inr hl) (fun t=>by rw[hc.get,pad_get]) (RepL.data (R':=RO w (RS w0 R0 ρ w m) ρ w ⟨0,.e⟩) (ρ':=ρ) (n':=0) o2 args vs hd hvs)
  intro cs
  let b:Frame:={ (default:Frame)with fn:=f,kind:=.normal}
  have henter:Frame.enter P f vs.toArray .normal=b.at {tmps:=vs.toArray++Array.replicate (fn.ntmps-vs.toArray.size) Go.undef,defers:=[]} [.code body] :=by
   simp[Frame.enter,Frame.at,hx,hb,b]
  obtain⟨ρ',w',a',todo,u,q1,q2,q3,q4,q5,q6⟩:=h fr ⟨0,.e⟩ hc' w (RS w0 R0 ρ w m) ρ w {tmps:=vs.toArray++Array.replicate (fn.ntmps-vs.toArray.size) Go.undef,defers:=[]} ⟨o1,hfr,rfl⟩ b cs
  have hst:=Hand.start hm q1
  obtain⟨k1,k2⟩:=hst.finish hm q1
  exact⟨.returned u,w',_,⟨u,rfl,ρ,k1,k2,Rep.data (fun b hb=>hst.ro b (.inr hb)) v u hvd q6⟩,by rw[henter];exact q4,rfl,rfl,q2,rfl,fn,hx,q5⟩
def I64(n:Int):SV:=.int .i64 n
def fact0(f:FuncId)(t:Tree SV):Fact:=⟨f,fun args=>match args with
 |[] =>some t
 |_=>none⟩
def factI(f:FuncId)(h:Int→Tree SV):Fact:=⟨f,fun args=>match args with
 |[.int .i64 a] =>some (h a)
 |_=>none⟩
theorem factI_ok{P:Program}{f:FuncId}{h:Int→Tree SV}(k:∀a,(h a).says (SCall P f [I64 a])):(factI f h).ok P:=fun args t ht=>by
 simp only[factI]at ht
 split at ht
 ·injection ht with ht;subst ht;exact k _
 ·cases ht
def factII(f:FuncId)(h:Int→Int→Tree SV):Fact:=⟨f,fun args=>match args with
 |[.int .i64 a,.int .i64 b] =>some (h a b)
 |_=>none⟩
theorem factII_ok{P:Program}{f:FuncId}{h:Int→Int→Tree SV}(k:∀a b,(h a b).says (SCall P f [I64 a,I64 b])):(factII f h).ok P:=fun args t ht=>by
 simp only[factII]at ht
 split at ht
 ·injection ht with ht;subst ht;exact k _ _
 ·cases ht
def factIII(f:FuncId)(h:Int→Int→Int→Tree SV):Fact:=⟨f,fun args=>match args with
 |[.int .i64 a,.int .i64 b,.int .i64 c] =>some (h a b c)
 |_=>none⟩
theorem factIII_ok{P:Program}{f:FuncId}{h:Int→Int→Int→Tree SV}(k:∀a b c,(h a b c).says (SCall P f [I64 a,I64 b,I64 c])):(factIII f h).ok P:=fun args t ht=>by
 simp only[factIII]at ht
 split at ht
 ·injection ht with ht;subst ht;exact k _ _ _
 ·cases ht
def factS(f:FuncId)(h:List UInt8→Tree SV):Fact:=⟨f,fun args=>match args with
 |[.str a] =>some (h a)
 |_=>none⟩
theorem factS_ok{P:Program}{f:FuncId}{h:List UInt8→Tree SV}(k:∀a,(h a).says (SCall P f [.str a])):(factS f h).ok P:=fun args t ht=>by
 simp only[factS]at ht
 split at ht
 ·injection ht with ht;subst ht;exact k _
 ·cases ht
def keepS(n:Nat)(ks:List Nat):List Item→List Bool:=fun _=>(List.range n).map fun i=>ks.any fun j=>Nat.beq i j
def slotsS(n:Nat)(ks:List (Nat×SV)):List SV:=(List.range n).map fun i=>(ks.lookup i).getD .top
theorem slotsS_len(n:Nat)(ks:List (Nat×SV)):(slotsS n ks).length=n:=by simp[slotsS]
theorem renL_len(ids:List Nat)(l:List SV):(renL ids l).length=l.length:=by
 induction l with
 |nil=>rfl
 |cons x l ih=>simp[renL,ih]
noncomputable def startS(P:Program)(f:Nat)(args:List SV):List SV:=args++List.replicate ((fnOf P f).ntmps-args.length) .undef
noncomputable def codeS(P:Program)(f:Nat):List Item:=[.code (bodyOf P f)]
inductive Fin where
 |ret (v:SV) (bs:List (Option Box))
 |pan (v:SV) (bs:List (Option Box))
def Fin.boxes:Fin→List (Option Box)
 |.ret _ bs=>bs
 |.pan _ bs=>bs
def Fin.val:Fin→SV
 |.ret v _=>v
 |.pan v _=>v
inductive StopX where
 |fin (r:Fin)
 |at(items:List Item) (size:Nat) (slots:List SV) (boxes:List (Option Box))
noncomputable def dataB:Box→Bool
 |.cells cs=>dataL cs
 |.obj _ cs=>dataL cs
 |_=>true
noncomputable def dataO:List (Option Box)→Bool
 |[] =>true
 |some B::l=>dataB B&&dataO l
 |none::l=>dataO l
noncomputable def gvV(np:Nat)(m:Mem)(v:SV):SV:=match v with
 |.row id=>match m.get id with
  |some (.rows t l)=>match Nat.ble np id with
   |true=>.list t l
   |false=>.row id
  |_=>.row id
 |v=>v
noncomputable def gvL(np:Nat)(m:Mem):List SV→List SV
 |[] =>[]
 |x::xs=>gvV np m x::gvL np m xs
noncomputable def gvA(np:Nat)(m:Mem)(v:SV):SV:=match v with
 |.agg cs=>.agg (gvL np m cs)
 |v=>gvV np m v
noncomputable def gvM(np:Nat)(m:Mem):List SV→List SV
 |[] =>[]
 |x::xs=>gvA np m x::gvM np m xs
noncomputable def gvW(np:Nat)(m:Mem)(v:SV):SV:=match v with
 |.tuple cs=>.tuple (gvM np m cs)
 |v=>gvA np m v
noncomputable def gvB(np:Nat)(m:Mem):Box→Box
 |.cells cs=>.cells (gvL np m cs)
 |B=>B
noncomputable def firstB(m:Mem)(np:Nat):List (Option Box):=(List.range np).map fun k=>(m.get k).map (gvB np m)
noncomputable def liveX(np:Nat)(m:Mem)(slots:List SV):List Nat:=
 let l:=idsL slots (List.range np)
 let l:=idsM m l l
 idsM m l l
noncomputable def segX(E:Env)(n:Nat)(fn:Func)(np:Nat)(keep:List Item→List Bool)(items:List Item)(p:Plan)(slots:List SV)(boxes:List (Option Box)):Tree StopX:=
 Fr.make slots.length slots fun fr=>memFill boxes ⟨0,.e⟩ fun m=>exec E n items p fr m fun o=>match o with
  |.ret _ fr m=>results E fn m fr fun v=>match dataO (firstB m np)&& (gvW np m v).data with
   |true=>.leaf (.fin (.ret (gvW np m v) (firstB m np)))
   |false=>.fail 180
  |.pan v fr m=>match dataO (firstB m np)&&v.data with
   |true=>.leaf (.fin (.pan v (firstB m np)))
   |false=>.fail 181
  |.stop items fr m=>match liveX np m (viewS fr (keep items) 0)with
   |ids=>match nodupB ids&&decide (ids.take np=List.range np)with
    |true=>.leaf (.at (enter items) fr.size (renL ids (viewS fr (keep items) 0)) (ids.map fun id=>(m.get id).map (renB ids)))
    |false=>.fail 170
def RunsX(P:Program)(fn:Func)(ds:List Deferred)(np:Nat)(r:Fin)(items:List Item)(slots:List SV)(boxes:List (Option Box)):Prop:=
 ∀fr m,Canon slots boxes fr m→∀w0 R0 ρ w a,SRelD ds w0 R0 ρ w fr m a→∀ (b:Frame) (cs:List Frame),∃ρ' w' a' todo u mF,mF.next=np∧(∀k,mF.get k=(r.boxes[k]?).join)∧MRel w0 R0 ρ' w' mF∧(∀k,k<np→ρ' k=ρ k)∧a'.defers=ds∧
  (∀b,RO w0 R0 ρ w m b→RO w0 R0 ρ' w' mF b∧w'.heap[b]? =w.heap[b]?)∧Rep (RO w0 R0 ρ' w' mF) ρ' np w' r.val u∧
  match r with
  |.ret _ _=>Steps P (lone (b.at a items) cs w) (lone {b.at a' todo with mode:=.returning} cs w')∧(Go.results fn a'.tmps).run P w'=.ok u w'
  |.pan _ _=>Steps P (lone (b.at a items) cs w) (lone {b.at a' todo with mode:=.panicking [{v:=u,recovered:=false}]} cs w')
theorem dataO_get:∀{l:List (Option Box)} {k:Nat} {B:Box},dataO l=true→(l[k]?).join=some B→dataB B=true
 |[],k,B,_,h=>by simp at h
 |none::l,0,B,_,h=>by simp at h
 |none::l,k+1,B,hd,h=>dataO_get (l:=l) (k:=k) hd (by simpa using h)
 |some C::l,0,B,hd,h=>by
  have hd:(dataB C&&dataO l)=true:=hd
  rw[Bool.and_eq_true]at hd
  have:C=B:=by simpa using h
  rw[←this];exact hd.1
 |some C::l,k+1,B,hd,h=>by
  have hd:(dataB C&&dataO l)=true:=hd
  rw[Bool.and_eq_true]at hd
  exact dataO_get (l:=l) (k:=k) hd.2 (by simpa using h)
theorem firstB_get{m:Mem}{np k:Nat}:((firstB m np)[k]?).join=if k<np then(m.get k).map (gvB np m)else none:=by
 unfold firstB
 rw[List.getElem?_map]
 by_cases h:k<np
 ·rw[List.getElem?_range h,if_pos h];rfl
 ·rw[List.getElem?_eq_none (by simpa using h),if_neg h];rfl
theorem gv_solid{np:Nat}{m:Mem}{r:Nat×Nat×Nat}:∀ (B:Box),solid r (gvB np m B)↔solid r B
 |.cells _=>Iff.rfl
 |.rows _ _=>Iff.rfl
 |.iter _ _=>Iff.rfl
 |.obj _ _=>Iff.rfl
theorem MRel.first{w0:World}{R0:RSet}{ρ:Rho}{w:World}{m mF:Mem}{np:Nat}(h:MRel w0 R0 ρ w m)(hd:dataO (firstB m np)=true)(hn:mF.next=np)(hg:∀k,mF.get k=((firstB m np)[k]?).join):
  MRel w0 R0 ρ w mF∧(∀b,RO w0 R0 ρ w m b→RO w0 R0 ρ w mF b)∧∀v u,(gvW np m v).data=true→Rep (RO w0 R0 ρ w m) ρ m.next w v u→Rep (RO w0 R0 ρ w mF) ρ mF.next w (gvW np m v) u:=by
 have hsub:∀k B,mF.get k=some B→k<np∧dataB B=true∧∃C,m.get k=some C∧B=gvB np m C:=fun k B hB=>by
  rw[hg k]at hB
  have hdB:=dataO_get hd hB
  rw[firstB_get]at hB
  split at hB
  ·rename_i hk
   cases hC:m.get k with
   |none=>rw[hC]at hB;cases hB
   |some C=>rw[hC]at hB;injection hB with hB;exact⟨hk,hdB,C,rfl,hB.symm⟩
  ·cases hB
 have hsol:∀k B,mF.get k=some B→solid (ρ k) B→∃C,m.get k=some C∧solid (ρ k) C:=fun k B hB hs=>by
  obtain⟨_,_,C,hC,e⟩:=hsub k B hB
  exact⟨C,hC,by rw[e]at hs;exact(gv_solid C).1 hs⟩
 have hro:∀b,RO w0 R0 ρ w m b→RO w0 R0 ρ w mF b:=fun b hb=>by
  rcases hb with hb|⟨k1,k2,k3,k4⟩
  ·exact .inl hb
  ·exact .inr ⟨k1,k2,(fun id B hB hs=>by
    obtain⟨C,hC,hs'⟩:=hsol id B hB hs
    exact k3 id C hC hs'),k4⟩
 have hv:∀ (x:SV) (u:Value),(gvV np m x).data=true→Rep (RO w0 R0 ρ w m) ρ m.next w x u→Rep (RO w0 R0 ρ w mF) ρ mF.next w (gvV np m x) u:=fun x u hdx hr=>by
  unfold gvV at hdx ⊢
  split at hdx
  ·rename_i id
   split at hdx
   ·rename_i t l hgid
    split at hdx
    ·rename_i hle
     have hle:=Nat.le_of_ble_eq_true hle
     obtain⟨_,a,hu,ha⟩:=hr
     obtain⟨b1,b2,hp⟩:=h.box id _ hgid
     refine⟨a,(ρ id).2.2,by rw[hu,b1],b2,fun h0=>?_⟩
     have h0:0< (ρ id).2.2:=Nat.lt_of_lt_of_le h0 b2
     obtain⟨arr,e,fr,k1,k2,k3,k4⟩:=hp h0
     refine⟨(ρ id).1,0,ha h0,.inr ⟨h.lo id _ hgid h0,h.hi id _ hgid h0,fun k B hB hs he=>?_,h.hid.2 id _ hgid h0⟩,fun i hi=>?_⟩
     ·obtain⟨C,hC,hs'⟩:=hsol k B hB hs
      have:=h.inj k id C _ hC hgid hs' h0 he
      have:=(hsub k B hB).1
      omega
     ·obtain⟨cs,c1,c2,c3⟩:=k4 i hi
      refine⟨cs,c1,fun j hj=>?_,RepD.mono (fun b hb=>⟨hro b hb,rfl⟩) _ _ _ c3⟩
      rw[cell_of_row w _ _ arr e fr k1,Nat.zero_add]
      exact c2 j hj
    ·cases hdx
   ·cases hdx
  ·exact Rep.data hro x u hdx hr
 have hvl:∀ (xs:List SV) (us:List Value),dataL (gvL np m xs)=true→RepL (RO w0 R0 ρ w m) ρ m.next w xs us→RepL (RO w0 R0 ρ w mF) ρ mF.next w (gvL np m xs) us:=by
  intro xs
  induction xs with
  |nil=>exact fun us _ hr=>hr
  |cons x xs ih=>
   intro us hdx hr
   obtain⟨u,us',rfl,r1,r2⟩:=hr
   have hdx:dataL (gvV np m x::gvL np m xs)=true:=hdx
   rw[dataL_cons]at hdx
   cases hx:(gvV np m x).data with
   |false=>rw[hx]at hdx;cases hdx
   |true=>rw[hx]at hdx;exact⟨u,us',rfl,hv x u hx r1,ih us' hdx r2⟩
 have hva:∀ (x:SV) (u:Value),(gvA np m x).data=true→Rep (RO w0 R0 ρ w m) ρ m.next w x u→Rep (RO w0 R0 ρ w mF) ρ mF.next w (gvA np m x) u:=fun x u hdx hr=>by
  unfold gvA at hdx ⊢
  split at hdx
  ·obtain⟨vs,h1,h2⟩:=hr
   exact⟨vs,h1,hvl _ vs (by rw[←data_agg];exact hdx) h2⟩
  ·exact hv x u hdx hr
 have hvm:∀ (xs:List SV) (us:List Value),dataL (gvM np m xs)=true→RepL (RO w0 R0 ρ w m) ρ m.next w xs us→RepL (RO w0 R0 ρ w mF) ρ mF.next w (gvM np m xs) us:=by
  intro xs
  induction xs with
  |nil=>exact fun us _ hr=>hr
  |cons x xs ih=>
   intro us hdx hr
   obtain⟨u,us',rfl,r1,r2⟩:=hr
   have hdx:dataL (gvA np m x::gvM np m xs)=true:=hdx
   rw[dataL_cons]at hdx
   cases hx:(gvA np m x).data with
   |false=>rw[hx]at hdx;cases hdx
   |true=>rw[hx]at hdx;exact⟨u,us',rfl,hva x u hx r1,ih us' hdx r2⟩
 have hvw:∀ (x:SV) (u:Value),(gvW np m x).data=true→Rep (RO w0 R0 ρ w m) ρ m.next w x u→Rep (RO w0 R0 ρ w mF) ρ mF.next w (gvW np m x) u:=fun x u hdx hr=>by
  unfold gvW at hdx ⊢
  split at hdx
  ·obtain⟨vs,h1,h2⟩:=hr
   exact⟨vs,h1,hvm _ vs (by rw[←data_tuple];exact hdx) h2⟩
  ·exact hva x u hdx hr
 refine⟨⟨h.below,fun id B hB=>by rw[hn];exact(hsub id B hB).1,fun id B hB hs=>by obtain⟨C,hC,hs'⟩:=hsol id B hB hs;exact h.lo id C hC hs',fun id B hB hs=>by obtain⟨C,hC,hs'⟩:=hsol id B hB hs;exact h.hi id C hC hs',fun id id' B B' hB hB' hs hs' he=>?_,fun id B hB=>?_,h.hid.1,fun id B hB hs=>by obtain⟨C,hC,hs'⟩:=hsol id B hB hs;exact h.hid.2 id C hC hs'⟩,hro,hvw⟩
 ·obtain⟨C,hC,g1⟩:=hsol id B hB hs
  obtain⟨C',hC',g2⟩:=hsol id' B' hB' hs'
  exact h.inj id id' C C' hC hC' g1 g2 he
 ·obtain⟨_,hdB,C,hC,rfl⟩:=hsub id B hB
  have h4:=h.box id C hC
  cases C with
  |cells cs=>
   obtain⟨arr,e,fr,k1,k2,k3⟩:=h4
   exact⟨arr,e,fr,k1,k2,hvl cs _ hdB k3⟩
  |rows t l=>
   obtain⟨k1,k2,k3⟩:=h4
   refine⟨k1,k2,fun h0=>?_⟩
   obtain⟨arr,e,fr,q1,q2,q3,q4⟩:=k3 h0
   refine⟨arr,e,fr,q1,q2,q3,fun i hi=>?_⟩
   obtain⟨cs,c1,c2,c3⟩:=q4 i hi
   exact⟨cs,c1,c2,RepD.mono (fun b hb=>⟨hro b hb,rfl⟩) _ _ _ c3⟩
  |iter s pos=>exact h4
  |obj t cs=>
   obtain⟨arr,k1,k3⟩:=h4
   exact⟨arr,k1,RepL.data hro _ _ hdB k3⟩
theorem memOf(np:Nat)(bs:List (Option Box)):∃mF:Mem,mF.next=np∧∀k,mF.get k=(bs[k]?).join:=by
 obtain⟨fr,m,hc⟩:=Canon.of (slots:=[]) (boxes:=bs)
 exact⟨⟨np,m.tb⟩,rfl,hc.box⟩
theorem runsX_seg{P:Program}{E:Env}(hK:Known P E){n:Nat}{fn:Func}{ds:List Deferred}{np:Nat}{keep:List Item→List Bool}{items:List Item}{p:Plan}{slots:List SV}{boxes:List (Option Box)}{r:Fin}(hnp:np≤boxes.length)
  (h:(segX E n fn np keep items p slots boxes).holds fun o=>match o with
    |.fin r'=>r'=r
    |.at items' size slots' boxes'=>slots'.length=size∧RunsX P fn ds np r items' slots' boxes'):RunsX P fn ds np r items slots boxes:=by
 intro fr0 m0 hc0 w0 R0 ρ w a hs b cs
 unfold segX at h
 obtain⟨fr,h1,h2,h3,h4⟩:=make_holds h
 obtain⟨m,h5,h6,h7,h8⟩:=memFill_holds boxes ⟨0,.e⟩ _ h1 fun id _=>rfl
 have hc:Canon slots boxes fr m:=⟨h2,h4,by rw[h6];simp,fun id=>by simpa using h8 id⟩
 have hnm:np≤m.next:=by rw[hc.next];exact hnp
 obtain⟨hs1,hro1⟩:=hc0.swap hc hs
 obtain⟨out,h9,h10⟩:=exec_ok hK.e hK.s hK.mix n _ _ _ _ _ _ h5
 cases out with
 |ret p' fr' m'=>
  dsimp only at h9
  obtain⟨v',k1,k2⟩:=results_holds hK.e h9
  split at k1
  ·rename_i hd
   rw[Bool.and_eq_true]at hd
   have k1:Fin.ret (gvW np m' v') (firstB m' np)=r:=k1
   subst k1
   obtain⟨ρ1,w1,a1,todo,g1,g2,g3⟩:=h10 w0 R0 ρ w a hs1 b cs
   obtain⟨u,r1,r2⟩:=k2 w0 R0 ρ1 w1 a1 g1
   obtain⟨mF,hn,hg⟩:=memOf np (firstB m' np)
   obtain⟨e1,e2,e3⟩:=g1.1.first hd.1 hn hg
   exact⟨ρ1,w1,a1,todo,u,mF,hn,hg,e1,fun k hk=>g2.same k (by omega),g1.2.2,fun b hb=>⟨e2 b (g2.keep b ((hro1 b).1 hb)).1,(g2.keep b ((hro1 b).1 hb)).2⟩,by have:=e3 v' u hd.2 r2;rw[hn]at this;exact this,g3,r1⟩
  ·exact k1.elim
 |pan v' fr' m'=>
  dsimp only at h9
  split at h9
  ·rename_i hd
   rw[Bool.and_eq_true]at hd
   have h9:Fin.pan v' (firstB m' np)=r:=h9
   subst h9
   obtain⟨ρ1,w1,a1,todo,u,g1,g2,g3,g4⟩:=h10 w0 R0 ρ w a hs1 b cs
   obtain⟨mF,hn,hg⟩:=memOf np (firstB m' np)
   obtain⟨e1,e2,_⟩:=g1.1.first hd.1 hn hg
   exact⟨ρ1,w1,a1,todo,u,mF,hn,hg,e1,fun k hk=>g2.same k (by omega),g1.2.2,fun b hb=>⟨e2 b (g2.keep b ((hro1 b).1 hb)).1,(g2.keep b ((hro1 b).1 hb)).2⟩,Rep.data e2 v' u hd.2 g3,g4⟩
  ·exact h9.elim
 |stop items' fr' m'=>
  dsimp only at h9
  split at h9
  ·rename_i hnd
   rw[Bool.and_eq_true,decide_eq_true_eq]at hnd
   have h10:Reach P items fr m (.stop (enter items') fr' m'):=by
    refine h10.trans ?_
    unfold enter
    split
    ·exact Reach.step fun b a cs w _=>step_loop
    ·exact Reach.step fun b a cs w _=>step_inLoop
    ·exact Reach.refl _ _ _
   generalize hids:liveX np m' (viewS fr' (keep items') 0)=ids at h9 hnd
   obtain⟨k1,k5⟩:=h9
   obtain⟨ρ1,w1,a1,g1,g2,g3⟩:=h10 w0 R0 ρ w a hs1 b cs
   obtain⟨fr2,m2,hc2⟩:=Canon.of (slots:=renL ids (viewS fr' (keep items') 0)) (boxes:=ids.map fun id=>(m'.get id).map (renB ids))
   obtain⟨e1,e2⟩:=g1.rename (nodupB_spec hnd.1) hc2 (by rw[←k1,renL_len]) (fun i x hx=>by simpa using viewS_get fr' _ 0 i x hx)
   obtain⟨ρ3,w3,a3,todo,u,mF,q1,q2,q3,q4,q5,q6,q7,q8⟩:=k5 fr2 m2 hc2 w0 R0 _ w1 a1 e1 b cs
   refine⟨ρ3,w3,a3,todo,u,mF,q1,q2,q3,fun k hk=>?_,q5,fun b hb=>by
    have s1:=g2.keep b ((hro1 b).1 hb)
    have s2:=q6 b (e2 b s1.1)
    exact⟨s2.1,s2.2.trans s1.2⟩,q7,?_⟩
   ·rw[q4 k hk]
    have:ids.getD k 0=k:=by
     have h1:(ids.take np)[k]? =(List.range np)[k]? :=by rw[hnd.2]
     rw[List.getElem?_take_of_lt hk,List.getElem?_range hk]at h1
     rw[List.getD_eq_getElem?_getD,h1];rfl
    rw[this]
    exact g2.same k (by omega)
   ·cases r with
    |ret v bs=>exact⟨g3.trans q8.1,q8.2⟩
    |pan v bs=>exact g3.trans q8
  ·exact h9.elim
def fnOk(P:Program)(f:FuncId)(args:List SV):Bool:=match P.funcs[f]? with
 | some fn => fn.body.isSome && !(fn.name == "runtime.NumGoroutine") && Nat.ble args.length fn.ntmps
 |none=>false
theorem fnOk_spec {P : Program} {f : FuncId} {args : List SV} (h : fnOk P f args = true) : P.funcs[f]? = some (fnOf P f) ∧ (fnOf P f).body = some (bodyOf P f) ∧ ((fnOf P f).name == "runtime.NumGoroutine") = false ∧ args.length ≤ (fnOf P f).ntmps := by
 unfold fnOk at h
 unfold bodyOf fnOf
 cases hx:P.funcs[f]? with
 |none=>rw[hx]at h;cases h
 |some fn=>
  rw[hx]at h
  dsimp only at h ⊢
  simp only[Bool.and_eq_true,Bool.not_eq_true']at h
  obtain⟨⟨h1,h2⟩,h3⟩:=h
  obtain⟨body,hb⟩:=Option.isSome_iff_exists.1 h1
  rw[hb]
  exact⟨rfl,rfl,h2,Nat.le_of_ble_eq_true h3⟩
def Fin.ex:Fin→Mem→Ex
 |.ret v _,m=>.ok v m
 |.pan v _,m=>.pan v m
def Fin.post(P:Program)(Φ:Value→World→Prop):Fin→Result Next→Prop
 |.ret _ _=>OpPost P Φ
 |.pan _ _=>PanPost P Φ
theorem xcall_core{P:Program}{f:FuncId}{args:List SV}{np:Nat}{r:Fin}{boxes:List (Option Box)}(hf:fnOk P f args=true)(h:RunsX P (fnOf P f) [] np r (codeS P f) (startS P f args) boxes)
  {w0 w0c:World} {R0 R0c:RSet} {ρ ρc:Rho} {w:World} {m mc m':Mem} {vs:List Value} (hcn:mc.next=boxes.length) (hcg:∀k,mc.get k=(boxes[k]?).join) (hmc:MRel w0c R0c ρc w mc) (hvs:RepL (RO w0c R0c ρc w mc) ρc mc.next w args vs)
  (hout:∀ρ' w' u mF,mF.next=np→(∀k,mF.get k=(r.boxes[k]?).join)→MRel w0c R0c ρ' w' mF→(∀k,k<np→ρ' k=ρc k)→(∀b,RO w0c R0c ρc w mc b→RO w0c R0c ρ' w' mF b∧w'.heap[b]? =w.heap[b]?)→Rep (RO w0c R0c ρ' w' mF) ρ' np w' r.val u→OpOut w0 R0 ρ w m r.val m' u w'):
  r.post P (OpOut w0 R0 ρ w m r.val m') ((Go.callFunc f vs.toArray).run P w):=by
 obtain⟨hfn,hb,hn,hl⟩:=fnOk_spec hf
 obtain⟨fr,mx,hcx⟩:=Canon.of (slots:=startS P f args) (boxes:=boxes)
 have hc:Canon (startS P f args) boxes fr mc:=⟨hcx.size,hcx.get,hcn,hcg⟩
 have hfr:=frame_rel (fr:=fr) (size:=(fnOf P f).ntmps) (by rw[hc.size];simp[startS];omega) (.inr hl) (fun t=>by rw[hc.get];exact pad_get ..) hvs
 let b:Frame:={ (default:Frame)with fn:=f,kind:=.normal}
 have henter:Frame.enter P f vs.toArray .normal=b.at {tmps:=vs.toArray++Array.replicate ((fnOf P f).ntmps-vs.toArray.size) Go.undef,defers:=[]} [.code (bodyOf P f)] :=by
  simp[Frame.enter,Frame.at,hfn,hb,b]
 have key:=fun cs=>h fr mc hc w0c R0c ρc w {tmps:=vs.toArray++Array.replicate ((fnOf P f).ntmps-vs.toArray.size) Go.undef,defers:=[]} ⟨hmc,hfr,rfl⟩ b cs
 rw[callFunc_enter hfn hb hn]
 cases r with
 |ret v bs=>
  intro cs
  obtain⟨ρ',w',a',todo,u,mF,q1,q2,q3,q4,q5,q6,q7,q8,q9⟩:=key cs
  exact⟨.returned u,w',_,⟨u,rfl,hout ρ' w' u mF q1 q2 q3 q4 q6 q7⟩,by rw[henter];exact q8,rfl,rfl,q5,rfl,_,hfn,q9⟩
 |pan v bs=>
  intro cs
  obtain⟨ρ',w',a',todo,u,mF,q1,q2,q3,q4,q5,q6,q7,q8⟩:=key cs
  exact⟨.panicked [{v:=u,recovered:=false}],w',_,⟨u,rfl,hout ρ' w' u mF q1 q2 q3 q4 q6 q7⟩,by rw[henter];exact q8,rfl,rfl,q5,_,hfn⟩
def RHid(R0:RSet)(ρ:Rho)(w:World)(m:Mem)(id:Nat):RSet:=⟨fun b=>R0 b∨∃k B,k≠id∧m.get k=some B∧solid (ρ k) B∧(ρ k).1=b,fun b=>w.heap[b]?⟩
theorem xcall_one{P:Program}{f:FuncId}{args argsc:List SV}{r:Fin}{cs0 cs1:List SV}(hf:fnOk P f argsc=true)(h:RunsX P (fnOf P f) [] 1 r (codeS P f) (startS P f argsc) [some (.cells cs0)])(hr:r.boxes=[some (.cells cs1)])
  {m m':Mem} {id:Nat} (hB:m.get id=some (.cells cs0)) (fl0:dataL cs0=true) (fl1:dataL cs1=true) (flv:r.val.data=true) (hn':m'.next=m.next) (hg':∀k,m'.get k=if k=id then some (.cells cs1)else m.get k)
  (harg:∀R R' ρ n w (vs:List Value),(∀b,R b→R' b)→RepL R ρ n w args vs→RepL R' (fun _=>ρ id) 1 w argsc vs):XCall P f args m (r.ex m'):=by
 have key:∀w0 R0 ρ w (vs:List Value),MRel w0 R0 ρ w m→RepL (RO w0 R0 ρ w m) ρ m.next w args vs→r.post P (OpOut w0 R0 ρ w m r.val m') ((Go.callFunc f vs.toArray).run P w):=fun w0 R0 ρ w vs hm hvs=>by
  obtain⟨mc,hn,hg⟩:=memOf 1 [some (.cells cs0)]
  have hgc:∀k,mc.get k=if k=0 then some (.cells cs0)else none:=fun k=>by
   rw[hg k]
   cases k with
   |zero=>rfl
   |succ k=>simp
  have only:∀k B,mc.get k=some B→k=0∧B=.cells cs0:=fun k B hk=>by
   rw[hgc k]at hk
   split at hk
   ·rename_i h0;injection hk with hk;exact⟨h0,hk.symm⟩
   ·cases hk
  have hown:¬RHid R0 ρ w m id (ρ id).1:=fun hh=>by
   rcases hh with hh|⟨k,B,h1,h2,h3,h4⟩
   ·exact hm.hid.2 id _ hB trivial hh
   ·exact h1 (hm.inj k id _ _ h2 hB h3 trivial h4)
  have hroc:∀b,RO w0 R0 ρ w m b→RO w0 (RHid R0 ρ w m id) (fun _=>ρ id) w mc b:=fun b hb=>by
   rcases hb with⟨h1,h2⟩|⟨k1,k2,k3,k4⟩
   ·exact .inl ⟨.inl h1,h2⟩
   ·refine .inr ⟨k1,k2,fun k B hk hs=>by obtain⟨_,rfl⟩:=only k B hk;exact k3 id _ hB trivial,fun hh=>?_⟩
    rcases hh with hh|⟨k,B,h1,h2,h3,h4⟩
    ·exact k4 hh
    ·exact k3 k B h2 h3 h4
  have hmc:MRel w0 (RHid R0 ρ w m id) (fun _=>ρ id) w mc:=by
   refine⟨hm.below,fun k B hk=>by rw[hn,(only k B hk).1];exact Nat.zero_lt_one,fun k B hk hs=>?_,fun k B hk hs=>?_,fun k k' B B' hk hk' _ _ _=>by rw[(only k B hk).1,(only k' B' hk').1],fun k B hk=>?_,fun b hb=>⟨?_,rfl⟩,fun k B hk hs=>?_⟩
   ·obtain⟨_,rfl⟩:=only k B hk;exact hm.lo id _ hB trivial
   ·obtain⟨_,rfl⟩:=only k B hk;exact hm.hi id _ hB trivial
   ·obtain⟨_,rfl⟩:=only k B hk
    obtain⟨arr,e,fr,k1,k2,k3⟩:=hm.box id _ hB
    exact⟨arr,e,fr,k1,k2,RepL.data hroc _ _ fl0 k3⟩
   ·rcases hb with hb|⟨k,B,h1,h2,h3,rfl⟩
    ·exact(hm.hid.1 b hb).1
    ·exact hm.hi k B h2 h3
   ·obtain⟨_,rfl⟩:=only k B hk;exact hown
  refine xcall_core (m:=m) (m':=m') hf h (by rw[hn];rfl) hg hmc (by rw[hn];exact harg _ _ ρ _ w vs hroc hvs) fun ρ' w' u mF e1 e2 e3 e4 e5 e6=>?_
  have eρ:ρ' 0=ρ id:=e4 0 Nat.zero_lt_one
  have hF:mF.get 0=some (.cells cs1):=by rw[e2,hr];rfl
  have onlyF:∀k B,mF.get k=some B→k=0:=fun k B hk=>by
   rw[e2,hr]at hk
   cases k with
   |zero=>rfl
   |succ k=>simp at hk
  -- the caller's other boxes stand in blocks that the callee has left alone
  have hoth:∀k B,k≠id→m.get k=some B→solid (ρ k) B→RHid R0 ρ w m id (ρ k).1:=fun k B hk hkB hs=>.inr ⟨k,B,hk,hkB,hs,rfl⟩
  have hsame:∀b,RHid R0 ρ w m id b→b<w'.heap.size∧w'.heap[b]? =w.heap[b]? :=fun b hb=>e3.hid.1 b hb
  have hbid:∀k B,m'.get k=some B→solid (ρ k) B→(ρ k).1=(ρ id).1→k=id:=fun k B hk hs heq=>by
   rw[hg' k]at hk
   split at hk
   ·assumption
   ·exact hm.inj k id _ _ hk hB hs trivial heq
  have hro':∀b,RO w0 (RHid R0 ρ w m id) ρ' w' mF b→RO w0 R0 ρ w' m' b:=fun b hb=>by
   rcases hb with⟨h1,h2⟩|⟨k1,k2,k3,k4⟩
   ·rcases h1 with h1|⟨k,B,_,g2,g3,g4⟩
    ·exact .inl ⟨h1,h2⟩
    ·have:=hm.lo k B g2 g3;omega
   ·refine .inr ⟨k1,k2,fun k B hk hs=>?_,fun hr0=>k4 (.inl hr0)⟩
    rw[hg' k]at hk
    split at hk
    ·rename_i hkid
     subst hkid
     rw[←eρ]
     exact k3 0 _ hF trivial
    ·rename_i hkid
     exact fun heq=>k4 (.inr ⟨k,B,hkid,hk,hs,heq⟩)
  have hro:∀b,RO w0 R0 ρ w m b→RO w0 R0 ρ w' m' b∧w'.heap[b]? =w.heap[b]? :=fun b hb=>by
   obtain⟨k1,k2⟩:=e5 b (hroc b hb)
   exact⟨hro' b k1,k2⟩
  have hext:MExt w0 R0 ρ w m ρ w' m':=⟨by rw[hn'];exact Nat.le_refl _,fun _ _=>rfl,hro⟩
  refine⟨ρ,⟨e3.below,fun k B hk=>?_,fun k B hk hs=>?_,fun k B hk hs=>?_,fun k k' B B' hk hk' hs hs' heq=>?_,fun k B hk=>?_,fun b hb=>?_,fun k B hk hs=>?_⟩,hext,Rep.data hro' _ _ flv e6⟩
  ·rw[hg' k]at hk
   rw[hn']
   split at hk
   ·rename_i hkid;subst hkid;exact hm.lt k _ hB
   ·exact hm.lt k B hk
  ·rw[hg' k]at hk
   split at hk
   ·rename_i hkid;subst hkid;exact hm.lo k _ hB trivial
   ·exact hm.lo k B hk hs
  ·rw[hg' k]at hk
   split at hk
   ·rename_i hkid;subst hkid
    rw[←eρ];exact e3.hi 0 _ hF trivial
   ·rename_i hkid
    exact(hsame _ (hoth k B hkid hk hs)).1
  ·rw[hg' k]at hk
   rw[hg' k']at hk'
   split at hk
   ·rename_i h1
    split at hk'
    ·rename_i h2;rw[h1,h2]
    ·rename_i h2
     subst h1
     exact hm.inj k k' _ _ hB hk' trivial hs' heq
   ·rename_i h1
    split at hk'
    ·rename_i h2
     subst h2
     exact hm.inj k k' _ _ hk hB hs trivial heq
    ·exact hm.inj k k' _ _ hk hk' hs hs' heq
  ·rw[hg' k]at hk
   split at hk
   ·rename_i hkid
    subst hkid
    injection hk with hk;subst hk
    obtain⟨arr,e,fr,k1,k2,k3⟩:=e3.box 0 _ hF
    rw[eρ]at k1
    exact⟨arr,e,fr,k1,k2,RepL.data hro' _ _ fl1 k3⟩
   ·rename_i hkid
    exact BoxRel.mono hext B (fun hs=>(hsame _ (hoth k B hkid hk hs)).2) (hm.box k B hk)
  ·obtain⟨g1,g2⟩:=hsame b (.inl hb)
   exact⟨g1,g2.trans (hm.hid.1 b hb).2⟩
  ·rw[hg' k]at hk
   split at hk
   ·rename_i hkid;subst hkid;exact hm.hid.2 k _ hB trivial
   ·exact hm.hid.2 k B hk hs
 cases r with
 |ret v bs=>exact key
 |pan v bs=>exact key
def Fin.isPan:Fin→Bool
 |.ret _ _=>false
 |.pan _ _=>true
theorem bcall_one{P:Program}{f:FuncId}{rest:List SV}{r:Fin}{cs0 cs1:List SV}(hf:fnOk P f (.ptr 0 0::rest)=true)(h:RunsX P (fnOf P f) [] 1 r (codeS P f) (startS P f (.ptr 0 0::rest)) [some (.cells cs0)])(hr:r.boxes=[some (.cells cs1)])
  (hd:dataL rest=true) (fl0:dataL cs0=true) (fl1:dataL cs1=true) (flv:r.val.data=true):BCall P f rest (.cells cs0) (r.isPan,r.val,.cells cs1):=by
 intro m m' id hB hm'
 have key:=xcall_one (args:=.ptr id 0::rest) hf h hr hB fl0 fl1 flv hm'.2 hm'.1 fun R R' ρ n w vs hR hvs=>by
  obtain⟨u,us,rfl,⟨h1,h2⟩,h3⟩:=hvs
  exact⟨u,us,rfl,⟨Nat.zero_lt_one,h2⟩,RepL.data hR rest us hd h3⟩
 cases r with
 |ret v bs=>exact key
 |pan v bs=>exact key
theorem defer_region{P:Program}{id:Nat}{ops:Array Oper}{o1 o2:Oper}{g:FuncId}{cap:Array Operand}{d:Tmp}{c:Call}(h:ops.toList=[o1,o2])(g1:o1.op=.makeFunc (.func g) #[] cap)(g1g:o1.guard=none)(g1d:o1.dst=some d)
  (g2:o2.op=.defer c) (g2c:c.callee=.value (.tmp d)) (g2a:c.args=#[]) (g2g:o2.guard=none) (g2d:o2.dst=none) (a:Act) (w:World) (hd:d<a.tmps.size):
  (Code.region id ops false).wp P (fun e a' w'=>e=.normal∧w'=w∧a'={tmps:=a.tmps.setIfInBounds d (.func (.func g) #[] (cap.map a.eval)),defers:={target:=.fn (.func g) (cap.map a.eval),args:=#[]}::a.defers}) a w:=by
 refine wp_region ?_
 have hops:ops=#[o1,o2] :=by apply Array.ext';exact h
 subst hops
 show wpOps P #[o1,o2] _ [0,1] a w
 unfold wpOps
 rw[show(#[o1,o2] :Array Oper)[0]? =some o1 from rfl]
 dsimp only
 rw[if_pos (by simp[Region.wanted,g1g])]
 refine .inl ?_
 unfold Oper.wp
 have e1:(Go.execOp a.eval o1).run P w=.ok (.value (.func (.func g) #[] (cap.map a.eval))) w:=by
  obtain⟨dst,op,ty,pos,after,guard⟩:=o1
  dsimp only at g1
  subst g1
  simp[Go.execOp,Instr.makeFunc]
 rw[e1,Oper.upon_value,g1d]
 unfold wpOps
 rw[show(#[o1,o2] :Array Oper)[1]? =some o2 from rfl]
 dsimp only
 rw[if_pos (by simp[Region.wanted,g2g])]
 refine .inl ?_
 unfold Oper.wp
 have ev:(a.put (some d) (.func (.func g) #[] (cap.map a.eval))).eval (.tmp d)=.func (.func g) #[] (cap.map a.eval):=by
  simp[Act.eval,Act.put,Array.getElem?_setIfInBounds,hd]
 have e2:(Go.execOp (a.put (some d) (.func (.func g) #[] (cap.map a.eval))).eval o2).run P w=.ok (.defer {target:=.fn (.func g) (cap.map a.eval),args:=#[]}) w:=by
  obtain⟨dst,op,ty,pos,after,guard⟩:=o2
  dsimp only at g2
  subst g2
  simp[Go.execOp,resolve,g2c,g2a,ev,Deferred.ofValue]
 rw[e2,Oper.upon_defer,g2d]
 unfold wpOps
 exact⟨rfl,rfl,rfl⟩
theorem rec_step{P:Program}{b:Frame}{a:Act}{k:List Item}{cs cs':List Frame}{w:World}{ops:Array Oper}{i:Nat}{rest:List Nat}{o:Oper}{v:Value}(hb:b.kind=.deferred)(ho:ops[i]? =some o)(hg0:o.guard=none)
  (hr:(Go.execOp a.eval o).run P w=.ok .recover w) (hv:(recoverD cs=some (v,cs'))∨(recoverD cs=none∧v=.nilIface∧cs'=cs)):
  step P (lone (b.at a (.inRegion ops (i::rest)::k)) cs w)=.next (lone (b.at (a.put o.dst v) (.inRegion ops rest::k)) cs' w):=by
 have hw:Region.wanted o (yielded ops a.tmps)=true:=by simp[Region.wanted,hg0]
 have hg:=stepG_op (P:=P) (b:=b) (k:=k) (cs:=cs) (w:=w) (rest:=rest) ho hw
 have hfin:∀v,(b.at a (.inRegion ops (i::rest)::k)).finish v=b.at (a.put o.dst v) (.inRegion ops rest::k):=by
  intro v;rw[Frame.finish_at,ho];rfl
 have hk:(b.at a (.inRegion ops (i::rest)::k)).kind=.deferred:=hb
 have htr:=tryRecover_deferred hk cs
 refine step_lone_go ?_
 rw[hg,←hfin]
 simp only[Frame.at]at htr ⊢
 rcases hv with hrec|⟨hrec,rfl,rfl⟩
 ·simp[stepG.apply,hr,htr,hrec]
 ·simp[stepG.apply,hr,htr,hrec]
def Fin.hand:Fin→SV
 |.ret _ _=>.raw .nilIface
 |.pan v _=>v
def Fin.mode(u:Value):Fin→FrameMode
 |.ret _ _=>.returning
 |.pan _ _=>.panicking [{v:=u,recovered:=false}]
def Fin.mode2(u:Value):Fin→FrameMode
 |.ret _ _=>.returning
 |.pan _ _=>.panicking [{v:=u,recovered:=true}]
def Fin.got(u:Value):Fin→Value
 |.ret _ _=>.nilIface
 |.pan _ _=>u
def allL{β:Type 2}(p:β→Prop):List β→Prop
 |[] =>True
 |x::l=>p x∧allL p l
theorem scall_vE{P:Program}{E:Env}(hK:Known P E)(n:Nat)(p:Plan){f:FuncId}{args:List SV}{v:SV}{t:Tree SV}
  (ht:(execFn E n f args p).vals=t) (h:t.holds fun x=>x=v) (hd:dataL args=true) (hv:v.data=true):SCall P f args v:=
 scall_of_exec (n:=n) (p:=p) hK hd hv (Tree.vals_holds _ (by rw[ht];exact h))
theorem MRel.fewer{w0:World}{R0:RSet}{ρ:Rho}{w:World}{m m1:Mem}(h:MRel w0 R0 ρ w m)(hn:m1.next=m.next)(hs:∀k B,m1.get k=some B→m.get k=some B):MRel w0 R0 ρ w m1∧MExt w0 R0 ρ w m ρ w m1:=by
 have hro:∀b,RO w0 R0 ρ w m b→RO w0 R0 ρ w m1 b:=fun b hb=>by
  rcases hb with hb|⟨k1,k2,k3,k4⟩
  ·exact .inl hb
  ·exact .inr ⟨k1,k2,fun id B hB hs'=>k3 id B (hs _ _ hB) hs',k4⟩
 have e:MExt w0 R0 ρ w m ρ w m1:=⟨by omega,fun id hid=>rfl,fun b hb=>⟨hro b hb,rfl⟩⟩
 refine⟨⟨h.below,fun id B hB=>hn▸h.lt id B (hs _ _ hB),fun id B hB=>h.lo id B (hs _ _ hB),fun id B hB=>h.hi id B (hs _ _ hB),fun id id' B B' hB hB'=>h.inj id id' B B' (hs _ _ hB) (hs _ _ hB'),fun id B hB=>BoxRel.mono e _ (fun _=>rfl) (h.box id _ (hs _ _ hB)),h.hid.1,fun id B hB=>h.hid.2 id B (hs _ _ hB)⟩,e⟩
theorem argR_frz{w0:World}{R0:RSet}{ρ:Rho}{w:World}{m m1:Mem}(h:MRel w0 R0 ρ w m)(hn:m1.next=m.next)(hs:∀k B,m1.get k=some B→m.get k=some B):∀{xs:List SV} {vs:List Value},(∀k,SV.row k∈xs→m1.get k=none)→RepL (RO w0 R0 ρ w m) ρ m.next w xs vs→RepL (RO w0 R0 ρ w m1) ρ m1.next w (xs.map (argR m)) vs
 |[],vs,_,hv=>hv
 |x::xs,vs,ho,hv=>by
  obtain⟨u,us,rfl,r1,r2⟩:=hv
  have e:=(h.fewer hn hs).2
  refine⟨u,us,rfl,?_,argR_frz h hn hs (fun k hk=>ho k (.tail _ hk)) r2⟩
  have plain:argR m x=x→Rep (RO w0 R0 ρ w m1) ρ m1.next w (argR m x) u:=fun e'=>by
   rw[e'];exact Rep.mono e _ _ r1
  cases x with
  |row id=>
   cases hg:m.get id with
   |none=>exact plain (by simp only[argR,hg])
   |some B=>
    cases B with
    |cells cs=>exact plain (by simp only[argR,hg])
    |iter s p=>exact plain (by simp only[argR,hg])
    |obj _ _=>exact plain (by simp only[argR,hg])
    |rows t l=>
     have e':argR m (.row id)=.list t l:=by simp only[argR,hg]
     rw[e']
     obtain⟨_,a,hu,ha⟩:=r1
     obtain⟨b1,b2,hp⟩:=h.box id _ hg
     refine⟨a,(ρ id).2.2,by rw[hu,b1],b2,fun h0=>?_⟩
     have h0:0< (ρ id).2.2:=Nat.lt_of_lt_of_le h0 b2
     obtain⟨arr,el,fr,k1,k2,k3,k4⟩:=hp h0
     refine⟨(ρ id).1,0,ha h0,.inr ⟨h.lo id _ hg h0,h.hi id _ hg h0,fun id' B' hB hs' heq=>?_,h.hid.2 id _ hg h0⟩,fun i hi=>?_⟩
     ·have:=h.inj id' id B' _ (hs _ _ hB) hg hs' h0 heq
      subst this
      rw[ho id' (.head _)]at hB;cases hB
     ·obtain⟨cs,c1,c2,c3⟩:=k4 i hi
      refine⟨cs,c1,fun j hj=>?_,RepD.mono e.keep _ _ _ c3⟩
      rw[cell_of_row w _ _ arr el fr k1,Nat.zero_add]
      exact c2 j hj
  |_=>exact plain rfl
noncomputable def dropRows{β:Type}:List SV→Mem→(Mem→Tree β)→Tree β
 |[],m,k=>k m
 |x::xs,m,k=>match x with
  |.row id=>m.set id none fun m=>dropRows xs m k
  |_=>dropRows xs m k
def pairT(m:Mem):Tree SV→Tree (SV×Mem)
 |.leaf v=>.leaf (v,m)
 |.node b t f=>.node b (pairT m t) (pairT m f)
 |.req b t=>.req b (pairT m t)
 |.fail n=>.fail n
theorem pairT_says{Φ:SV→Prop}{Ψ:SV×Mem→Prop}{m:Mem}(h:∀v,Φ v→Ψ (v,m)):∀t:Tree SV,t.says Φ→(pairT m t).says Ψ
 |.leaf _,ht=>h _ ht
 |.node _ t f,ht=>⟨fun hb=>pairT_says h t (ht.1 hb),fun hb=>pairT_says h f (ht.2 hb)⟩
 |.req _ t,ht=>fun hb=>pairT_says h t (ht hb)
 |.fail _,_=>trivial
theorem dropRows_says{β:Type}{Φ:β→Prop}:∀ (xs:List SV) (m:Mem) (k:Mem→Tree β),(∀m1:Mem,m1.next=m.next→(∀k B,m1.get k=some B→m.get k=some B)→(∀k,SV.row k∈xs→m1.get k=none)→(k m1).says Φ)→(dropRows xs m k).says Φ
 |[],m,k,h=>h m rfl (fun _ _ h=>h) (fun _ h=>by cases h)
 |x::xs,m,k,h=>by
  have go:(∀k,SV.row k≠x)→(dropRows xs m k).says Φ:=fun hx=>dropRows_says xs m k fun m1 h1 h2 h3=>h m1 h1 h2 fun k hk=>by
   cases hk with
   |head=>exact absurd rfl (hx k)
   |tail _ hk=>exact h3 k hk
  cases x with
  |row id=>
   refine set_saysB fun m2 hm2=>dropRows_says xs m2 k fun m1 h1 h2 h3=>h m1 (h1.trans hm2.2) (fun k B hB=>?_) fun k hk=>?_
   ·have:=h2 k B hB
    rw[hm2.1]at this
    split at this
    ·cases this
    ·exact this
   ·cases hk with
    |head=>
     cases hx:m1.get id with
     |none=>rfl
     |some B=>
      have:=h2 id B hx
      rw[hm2.1,if_pos rfl]at this;cases this
    |tail _ hk=>exact h3 k hk
  |_=>exact go fun k hk=>by cases hk
noncomputable def Fact.frz(x:Fact):WFact:=⟨x.f,fun args m=>match x.s (args.map (argR m))with
 |some t=>some (dropRows args m fun m1=>pairT m1 t)
 |none=>none⟩
theorem Fact.frz_ok{P:Program}{x:Fact}(h:x.ok P):x.frz.ok P:=by
 intro args m t ht
 change (match x.s (args.map (argR m))with
  |some t=>some (dropRows args m fun m1=>pairT m1 t)
  |none=>none)=some t at ht
 split at ht
 ·rename_i t' ht'
  injection ht with ht
  subst ht
  refine dropRows_says args m _ fun m1 h1 h2 h3=>pairT_says (fun v hv=>?_) _ (h _ _ ht')
  intro w0 R0 ρ w vs hm hvs
  obtain⟨d1,d2⟩:=hm.fewer h1 h2
  refine OpPost.mono (fun u w' hu=>?_) (hv m1 w0 R0 ρ w vs d1 (argR_frz hm h1 h2 h3 hvs))
  obtain⟨ρ',g1,g2,g3⟩:=hu
  exact⟨ρ',g1,d2.trans g2,g3⟩
 ·cases ht
end Go.Sx
namespace Go.Proofs.YtnkaepnblikcdaaGreat
open Go.Sx
theorem mix:Tryz.prog.follows .mixedOrders=true:=by kernel_rfl
theorem hB{l:List Fact}{k:List WFact}{j:List PFact}{i:List BFact}(ty ls rd cu:List Nat)(hl:allOk Tryz.prog l)(hk:∀x∈k,x.ok Tryz.prog)(hj:∀x∈j,x.ok Tryz.prog)(hi:∀x∈i,x.ok Tryz.prog):Known Tryz.prog (Env.ofB Tryz.prog (sumOf l) (wrOf k) (pnOf j) (bxOf i) (rdOf ty) (rdOf ls) (rdOf rd) (rdOf cu)):=known_ofB mix hl.all hk hj hi _ _ _ _
theorem noneOk{β:Type}{p:β→Prop}:∀x∈([] :List β),p x:=fun _ h=>by cases h
structure Ax where
 num:Int
 den:Int
 speed:Int
 accel:Int
 jerk:Int
 min:Int
 max:Int
def Ax.cells(a:Ax):List SV:=[I64 a.num,I64 a.den,I64 a.speed,I64 a.accel,I64 a.jerk,I64 a.min,I64 a.max]
structure Ma where
 x:Ax
 y:Ax
 z:Ax
 e:Ax
 xy:Bool
 ticks:Int
def Ma.cells(m:Ma):List SV:=[I64 m.x.num,I64 m.x.den,I64 m.x.speed,I64 m.x.accel,I64 m.x.jerk,I64 m.x.min,I64 m.x.max,
 I64 m.y.num,I64 m.y.den,I64 m.y.speed,I64 m.y.accel,I64 m.y.jerk,I64 m.y.min,I64 m.y.max,
 I64 m.z.num,I64 m.z.den,I64 m.z.speed,I64 m.z.accel,I64 m.z.jerk,I64 m.z.min,I64 m.z.max,
 I64 m.e.num,I64 m.e.den,I64 m.e.speed,I64 m.e.accel,I64 m.e.jerk,I64 m.e.min,I64 m.e.max,.bool m.xy,I64 m.ticks]
def Ma.sv(m:Ma):SV:=.agg m.cells
structure Co where
 target:Int
 kp:Int
 ki:Int
 scale:Int
 sum:Int
 limit:Int
def Co.cells(c:Co):List SV:=[I64 c.target,I64 c.kp,I64 c.ki,I64 c.scale,I64 c.sum,I64 c.limit]
def Co.sv(c:Co):SV:=.agg c.cells
structure Gu where
 low:Int
 high:Int
 watch:Int
 rise:Int
 band:Int
 base:Int
 count:Int
 idle:Int
 quiet:Int
 fault:Int
 door:Bool
def Gu.cells(g:Gu):List SV:=[I64 g.low,I64 g.high,I64 g.watch,I64 g.rise,I64 g.band,I64 g.base,I64 g.count,I64 g.idle,I64 g.quiet,I64 g.fault,.bool g.door]
def Gu.sv(g:Gu):SV:=.agg g.cells
def inR(n lo hi:Int):Bool:=decide (lo≤n)&&decide (n≤hi)
theorem inR_iff{n lo hi:Int}:inR n lo hi=true↔lo≤n∧n≤hi:=by simp[inR]
def Ax.ok(a:Ax):Bool:=inR a.num 1 65536&&inR a.den 1 a.num&&inR a.speed 1 1048576&&inR a.accel 1 16777216&&inR a.jerk 1 1048576&&decide (a.min≤a.max)&&decide (-1048576≤a.min)&&decide (a.max≤1048576)
theorem Ax.ok_iff(a:Ax):a.ok=true↔(1≤a.num∧a.num≤65536)∧(1≤a.den∧a.den≤a.num)∧(1≤a.speed∧a.speed≤1048576)∧(1≤a.accel∧a.accel≤16777216)∧(1≤a.jerk∧a.jerk≤1048576)∧a.min≤a.max∧-1048576≤a.min∧a.max≤1048576:=by
 simp only[Ax.ok,Bool.and_eq_true,inR_iff,decide_eq_true_eq,and_assoc]
def Ma.ok(m:Ma):Bool:=m.x.ok&& (m.y.ok&& (m.z.ok&& (m.e.ok&&inR m.ticks 1 1048576)))
def Co.ok(c:Co):Bool:=inR c.target 0 400000&&inR c.kp 0 1048576&&inR c.ki 0 1048576&&inR c.scale 1 1073741824&&inR c.limit 0 1099511627776&&inR c.sum 0 c.limit
theorem Co.ok_iff(c:Co):c.ok=true↔(0≤c.target∧c.target≤400000)∧(0≤c.kp∧c.kp≤1048576)∧(0≤c.ki∧c.ki≤1048576)∧(1≤c.scale∧c.scale≤1073741824)∧(0≤c.limit∧c.limit≤1099511627776)∧0≤c.sum∧c.sum≤c.limit:=by
 simp only[Co.ok,Bool.and_eq_true,inR_iff,decide_eq_true_eq,and_assoc]
def Gu.ok(g:Gu):Bool:=decide (g.low≤g.high)&&inR g.low (-1073741824) 1073741824&&inR g.high (-1073741824) 1073741824&&inR g.base (-1073741824) 1073741824 &&
 inR g.watch 1 1048576&&inR g.idle 1 1048576&&inR g.rise 1 400000&&inR g.band 0 400000&&inR g.count 0 g.watch&&inR g.quiet 0 g.idle&&inR g.fault 0 4
theorem Gu.ok_iff(g:Gu):g.ok=true↔g.low≤g.high∧(-1073741824≤g.low∧g.low≤1073741824)∧(-1073741824≤g.high∧g.high≤1073741824)∧(-1073741824≤g.base∧g.base≤1073741824)∧
  (1≤g.watch∧g.watch≤1048576)∧(1≤g.idle∧g.idle≤1048576)∧(1≤g.rise∧g.rise≤400000)∧(0≤g.band∧g.band≤400000)∧(0≤g.count∧g.count≤g.watch)∧(0≤g.quiet∧g.quiet≤g.idle)∧0≤g.fault∧g.fault≤4:=by
 simp only[Gu.ok,Bool.and_eq_true,inR_iff,decide_eq_true_eq,and_assoc]
theorem Ma.ok_iff(m:Ma):m.ok=true↔m.x.ok=true∧m.y.ok=true∧m.z.ok=true∧m.e.ok=true∧1≤m.ticks∧m.ticks≤1048576:=by
 simp only[Ma.ok,Bool.and_eq_true,inR_iff]
abbrev V4:=Int×Int×Int×Int
def V4.cells(c:V4):List SV:=[I64 c.1,I64 c.2.1,I64 c.2.2.1,I64 c.2.2.2]
def V4.sv(c:V4):SV:=.agg [I64 c.1,I64 c.2.1,I64 c.2.2.1,I64 c.2.2.2]
def z4:V4:=(0,0,0,0)
def add4(a b:V4):V4:=(a.1+b.1,a.2.1+b.2.1,a.2.2.1+b.2.2.1,a.2.2.2+b.2.2.2)
def sub4(a b:V4):V4:=(a.1-b.1,a.2.1-b.2.1,a.2.2.1-b.2.2.1,a.2.2.2-b.2.2.2)
def in4(k:Int)(c:V4):Bool:=inR c.1 (-k) k&& (inR c.2.1 (-k) k&& (inR c.2.2.1 (-k) k&&inR c.2.2.2 (-k) k))
theorem in4_iff{k:Int}{c:V4}:in4 k c=true↔(-k≤c.1∧c.1≤k)∧(-k≤c.2.1∧c.2.1≤k)∧(-k≤c.2.2.1∧c.2.2.1≤k)∧-k≤c.2.2.2∧c.2.2.2≤k:=by
 simp only[in4,Bool.and_eq_true,inR_iff]
def near4(c:V4):Bool:=in4 16777216 c
theorem near4_iff{c:V4}:near4 c=true↔(-16777216≤c.1∧c.1≤16777216)∧(-16777216≤c.2.1∧c.2.1≤16777216)∧(-16777216≤c.2.2.1∧c.2.2.1≤16777216)∧-16777216≤c.2.2.2∧c.2.2.2≤16777216:=in4_iff
def nz4(c:V4):Bool:=!(c.1==0&& (c.2.1==0&& (c.2.2.1==0&&c.2.2.2==0)))
theorem nz4_iff{c:V4}:nz4 c=true↔¬(c.1=0∧c.2.1=0∧c.2.2.1=0∧c.2.2.2=0):=by
 simp only[nz4,Bool.not_eq_true',Bool.and_eq_false_iff,beq_eq_false_iff_ne,ne_eq];omega
def okC(c:V4):Bool:=near4 c&&nz4 c
theorem okC_iff{c:V4}:okC c=true↔((-16777216≤c.1∧c.1≤16777216)∧(-16777216≤c.2.1∧c.2.1≤16777216)∧(-16777216≤c.2.2.1∧c.2.2.1≤16777216)∧-16777216≤c.2.2.2∧c.2.2.2≤16777216)∧¬(c.1=0∧c.2.1=0∧c.2.2.1=0∧c.2.2.2=0):=by
 simp only[okC,Bool.and_eq_true,near4_iff,nz4_iff]
def sz(n:Int):Int:=if n<0 then -n else n
theorem sz_nonneg(n:Int):0≤sz n:=by unfold sz;split<;>omega
def mx(a b:Int):Int:=if b>a then b else a
def mx4(c:V4):Int:=mx (mx (mx (mx 0 (sz c.1)) (sz c.2.1)) (sz c.2.2.1)) (sz c.2.2.2)
def dom(c:V4):Int:=match okC c with
 |true=>mx4 c
 |false=>0
theorem mx4_bounds{c:V4}(h:okC c=true):1≤mx4 c∧mx4 c≤16777216∧sz c.1≤mx4 c∧sz c.2.1≤mx4 c∧sz c.2.2.1≤mx4 c∧sz c.2.2.2≤mx4 c:=by
 rw[okC_iff]at h
 unfold mx4 mx sz
 omega
theorem dom_ok{c:V4}(h:okC c=true):dom c=mx4 c:=by unfold dom;rw[h]
theorem dom_no{c:V4}(h:okC c=false):dom c=0:=by unfold dom;rw[h]
theorem dom_range(c:V4):0≤dom c∧dom c≤16777216:=by
 cases h:okC c with
 |true=>rw[dom_ok h];have:=mx4_bounds h;omega
 |false=>rw[dom_no h];omega
theorem dom_pos{c:V4}(h:okC c=true):1≤dom c:=by rw[dom_ok h];exact(mx4_bounds h).1
def stp(n i k:Int):Int:=if k<0 then -((2*i*sz k+n) / (2*n))else(2*i*sz k+n) / (2*n)
def clm(n i:Int):Int:=if i<0 then 0 else if n<i then n else i
def at4(c:V4)(i:Int):V4:=match okC c with
 |true=>(stp (mx4 c) (clm (mx4 c) i) c.1,stp (mx4 c) (clm (mx4 c) i) c.2.1,stp (mx4 c) (clm (mx4 c) i) c.2.2.1,stp (mx4 c) (clm (mx4 c) i) c.2.2.2)
 |false=>z4
def pul(c:V4)(i:Int):V4:=match inR i 1 (dom c)with
 |true=>sub4 (at4 c i) (at4 c (i-1))
 |false=>z4
abbrev Bk:=V4×Int×Int×Int×Int
def Bk.sv(b:Bk):SV:=.agg [I64 b.1.1,I64 b.1.2.1,I64 b.1.2.2.1,I64 b.1.2.2.2,I64 b.2.1,I64 b.2.2.1,I64 b.2.2.2.1,I64 b.2.2.2.2]
def soundB(b:Bk):Bool:=okC b.1&& (inR b.2.1 1 16777216&&inR b.2.2.2.1 1 1099511627776)
theorem soundB_iff{b:Bk}:soundB b=true↔okC b.1=true∧(1≤b.2.1∧b.2.1≤16777216)∧1≤b.2.2.2.1∧b.2.2.2.1≤1099511627776:=by
 simp only[soundB,Bool.and_eq_true,inR_iff]
def validB(b:Bk):Bool:=soundB b&& (inR b.2.2.1 0 b.2.2.2.1&&inR b.2.2.2.2 0 b.2.2.2.1)
theorem validB_iff{b:Bk}:validB b=true↔(okC b.1=true∧(1≤b.2.1∧b.2.1≤16777216)∧1≤b.2.2.2.1∧b.2.2.2.1≤1099511627776)∧(0≤b.2.2.1∧b.2.2.1≤b.2.2.2.1)∧0≤b.2.2.2.2∧b.2.2.2.2≤b.2.2.2.1:=by
 simp only[validB,Bool.and_eq_true,inR_iff,soundB_iff]
def rea(b:Bk):Int:=2*b.2.1*dom b.1
theorem holds_bool{b c:Bool}(h:b=true↔c=true):SV.bool b=SV.bool c:=congrArg SV.bool (Bool.eq_iff_iff.2 h)
def factM(f:FuncId)(h:Ma→SV):Fact:=⟨f,fun args=>match args with
 |[.agg [.int .i64 a0,.int .i64 a1,.int .i64 a2,.int .i64 a3,.int .i64 a4,.int .i64 a5,.int .i64 a6,.int .i64 b0,.int .i64 b1,.int .i64 b2,.int .i64 b3,.int .i64 b4,.int .i64 b5,.int .i64 b6,
   .int .i64 c0,.int .i64 c1,.int .i64 c2,.int .i64 c3,.int .i64 c4,.int .i64 c5,.int .i64 c6,.int .i64 d0,.int .i64 d1,.int .i64 d2,.int .i64 d3,.int .i64 d4,.int .i64 d5,.int .i64 d6,.bool xy,.int .i64 t]] =>
  some (.leaf (h ⟨⟨a0,a1,a2,a3,a4,a5,a6⟩,⟨b0,b1,b2,b3,b4,b5,b6⟩,⟨c0,c1,c2,c3,c4,c5,c6⟩,⟨d0,d1,d2,d3,d4,d5,d6⟩,xy,t⟩))
 |_=>none⟩
theorem factM_ok{P:Program}{f:FuncId}{h:Ma→SV}(k:∀m:Ma,SCall P f [m.sv] (h m)):(factM f h).ok P:=fun args t ht=>by
 simp only[factM]at ht
 split at ht
 ·injection ht with ht;subst ht;exact k ⟨⟨_,_,_,_,_,_,_⟩,⟨_,_,_,_,_,_,_⟩,⟨_,_,_,_,_,_,_⟩,⟨_,_,_,_,_,_,_⟩,_,_⟩
 ·cases ht
def factCo(f:FuncId)(h:Co→SV):Fact:=⟨f,fun args=>match args with
 |[.agg [.int .i64 a0,.int .i64 a1,.int .i64 a2,.int .i64 a3,.int .i64 a4,.int .i64 a5]] =>some (.leaf (h ⟨a0,a1,a2,a3,a4,a5⟩))
 |_=>none⟩
theorem factCo_ok{P:Program}{f:FuncId}{h:Co→SV}(k:∀m:Co,SCall P f [m.sv] (h m)):(factCo f h).ok P:=fun args t ht=>by
 simp only[factCo]at ht
 split at ht
 ·injection ht with ht;subst ht;exact k ⟨_,_,_,_,_,_⟩
 ·cases ht
def factGu(f:FuncId)(h:Gu→SV):Fact:=⟨f,fun args=>match args with
 |[.agg [.int .i64 a0,.int .i64 a1,.int .i64 a2,.int .i64 a3,.int .i64 a4,.int .i64 a5,.int .i64 a6,.int .i64 a7,.int .i64 a8,.int .i64 a9,.bool b]] =>some (.leaf (h ⟨a0,a1,a2,a3,a4,a5,a6,a7,a8,a9,b⟩))
 |_=>none⟩
theorem factGu_ok{P:Program}{f:FuncId}{h:Gu→SV}(k:∀m:Gu,SCall P f [m.sv] (h m)):(factGu f h).ok P:=fun args t ht=>by
 simp only[factGu]at ht
 split at ht
 ·injection ht with ht;subst ht;exact k ⟨_,_,_,_,_,_,_,_,_,_,_⟩
 ·cases ht
theorem s_coOk(c:Co):SCall Tryz.prog 180 [c.sv] (.bool c.ok):=
 scall_v mix [] trivial 1000 (.fork .all (.fork (.ln 3 (.lit .all)) (.ln 3 (.fork .all (.fork (.ln 11 (.lit .all)) (.ln 3 (.fork (.ln 7 (.lit .all)) (.ln 3 (.fork (.ln 3 (.lit .all)) (.ln 3 (.fork .all (.fork (.ln 11 (.lit .all)) (.ln 3 (.fork (.ln 7 (.lit .all)) (.ln 3 (.fork (.ln 3 (.lit .all)) (.ln 3 (.fork .all (.fork (.ln 4 (.lit .all)) (.ln 4 (.lit .all)))))))))))))))))))))
  (t:=.node (c.target==0&& (c.kp==0&& (c.ki==0&& (c.scale==0&& (c.sum==0&& (c.limit==0&&true)))))) (.leaf (.bool false)) (.node (decide (c.target<0)) (.leaf (.bool false)) (.node (decide (c.target>400000)) (.leaf (.bool false)) (.node (decide (c.kp<0)) (.leaf (.bool false)) (.node (decide (c.kp>1048576)) (.leaf (.bool false)) (.node (decide (c.ki<0)) (.leaf (.bool false)) (.node (decide (c.ki>1048576)) (.leaf (.bool false)) (.node (decide (c.scale<1)) (.leaf (.bool false)) (.node (decide (c.scale>1073741824)) (.leaf (.bool false)) (.node (decide (c.limit<0)) (.leaf (.bool false)) (.node (decide (c.limit>1099511627776)) (.leaf (.bool false)) (.node (decide (c.sum≥0)) (.leaf (.bool (decide (c.sum≤c.limit)))) (.leaf (.bool false))))))))))))))
  (by kernel_rfl) (by simp only[Tree.holds,eq_self,true_and,Bool.not_eq_true',Bool.not_eq_false',decide_eq_true_eq,decide_eq_false_iff_not,Bool.and_eq_true,beq_iff_eq];(repeat' (first|apply And.intro|intro _));all_goals(refine holds_bool ?_;rw[Co.ok_iff];(try simp only[decide_eq_true_eq,Bool.false_eq_true,false_iff]);omega)) (by kernel_rfl) (by kernel_rfl)
theorem s_coOkR(c:Co):SCall Tryz.prog 138 [c.sv] (.bool c.ok):=
 scall_v mix [] trivial 1000 (.fork (.ln 3 (.fork (.ln 3 (.fork (.ln 3 (.fork (.ln 3 (.fork (.ln 3 (.fork (.ln 3 (.fork (.ln 3 (.fork (.ln 3 (.fork (.ln 3 (.fork (.ln 3 (.fork (.ln 4 (.lit .all)) (.ln 4 (.lit .all)))) (.ln 8 (.lit .all)))) (.ln 12 (.lit .all)))) (.ln 16 (.lit .all)))) (.ln 20 (.lit .all)))) (.ln 24 (.lit .all)))) (.ln 28 (.lit .all)))) (.ln 32 (.lit .all)))) (.ln 36 (.lit .all)))) (.ln 40 (.lit .all)))) (.ln 44 (.lit .all)))
  (t:=.node (decide (c.target≥0)) (.node (decide (c.target≤400000)) (.node (decide (c.kp≥0)) (.node (decide (c.kp≤1048576)) (.node (decide (c.ki≥0)) (.node (decide (c.ki≤1048576)) (.node (decide (c.scale≥1)) (.node (decide (c.scale≤1073741824)) (.node (decide (c.limit≥0)) (.node (decide (c.limit≤1099511627776)) (.node (decide (c.sum≥0)) (.leaf (.bool (decide (c.sum≤c.limit)))) (.leaf (.bool false))) (.leaf (.bool false))) (.leaf (.bool false))) (.leaf (.bool false))) (.leaf (.bool false))) (.leaf (.bool false))) (.leaf (.bool false))) (.leaf (.bool false))) (.leaf (.bool false))) (.leaf (.bool false))) (.leaf (.bool false)))
  (by kernel_rfl) (by simp only[Tree.holds,eq_self,true_and,Bool.not_eq_true',Bool.not_eq_false',decide_eq_true_eq,decide_eq_false_iff_not,Bool.and_eq_true,beq_iff_eq];(repeat' (first|apply And.intro|intro _));all_goals(refine holds_bool ?_;rw[Co.ok_iff];(try simp only[decide_eq_true_eq,Bool.false_eq_true,false_iff]);omega)) (by kernel_rfl) (by kernel_rfl)
theorem s_guOk(g:Gu):SCall Tryz.prog 151 [g.sv] (.bool g.ok):=
 scall_v mix [] trivial 1000 (.fork (.ln 14 (.lit .all)) (.lit (.lit (.fork (.ln 5 (.fork (.ln 9 (.lit .all)) (.lit (.lit (.fork (.ln 5 (.fork (.ln 4 (.lit .all)) (.lit (.lit (.fork (.ln 5 (.fork .all (.fork (.ln 3 (.fork (.ln 14 (.lit .all)) (.lit (.lit (.fork (.ln 5 (.fork (.ln 9 (.lit .all)) (.lit (.lit (.fork (.ln 5 (.fork (.ln 4 (.lit .all)) (.lit (.lit (.fork (.ln 5 (.fork .all (.fork (.ln 3 (.fork (.ln 4 (.fork (.ln 4 (.fork (.lit (.lit (.fork (.ln 3 (.lit .all)) (.ln 3 (.lit .all))))) (.lit (.lit (.lit .all))))) (.ln 7 (.lit .all)))) (.ln 8 (.lit .all)))) (.ln 12 (.lit .all))))) (.ln 5 (.lit .all))))))) (.ln 10 (.lit .all))))))) (.ln 15 (.lit .all))))))) (.ln 18 (.lit .all))))) (.ln 5 (.lit .all))))))) (.ln 10 (.lit .all))))))) (.ln 15 (.lit .all))))))
  (t:=let y0:Tree SV:=.leaf (.bool false);.node (decide (g.low>g.high)) y0 (.node (decide (g.low≥-1073741824)) (.node (!decide (g.low≤1073741824)) y0 (.node (decide (g.high≥-1073741824)) (.node (!decide (g.high≤1073741824)) y0 (.node (decide (g.base≥-1073741824)) (.node (!decide (g.base≤1073741824)) y0 (.node (decide (g.watch≥1)) (.node (!decide (g.watch≤1048576)) y0 (.node (decide (g.idle≥1)) (.node (!decide (g.idle≤1048576)) y0 (.node (decide (g.rise≥1)) (.node (!decide (g.rise≤400000)) y0 (.node (decide (g.band≥0)) (.node (!decide (g.band≤400000)) y0 (.node (decide (g.count≥0)) (.node (decide (g.count≤g.watch)) (.node (decide (g.quiet≥0)) (.node (decide (g.quiet≤g.idle)) (.node (decide (g.fault≥0)) (.leaf (.bool (decide (g.fault≤4)))) y0) y0) y0) y0) y0)) y0)) y0)) y0)) y0)) y0)) y0)) y0))
  (by kernel_rfl) (by simp only[Tree.holds,eq_self,true_and,Bool.not_eq_true',Bool.not_eq_false',decide_eq_true_eq,decide_eq_false_iff_not,Bool.and_eq_true,beq_iff_eq];(repeat' (first|apply And.intro|intro _));all_goals(refine holds_bool ?_;rw[Gu.ok_iff];(try simp only[decide_eq_true_eq,Bool.false_eq_true,false_iff]);omega)) (by kernel_rfl) (by kernel_rfl)
theorem s_guOkR(g:Gu):SCall Tryz.prog 139 [g.sv] (.bool g.ok):=
 scall_v mix [] trivial 1000 (.fork (.ln 14 (.lit .all)) (.lit (.lit (.fork (.ln 5 (.fork (.ln 9 (.lit .all)) (.lit (.lit (.fork (.ln 5 (.fork (.ln 4 (.lit .all)) (.lit (.lit (.fork (.ln 5 (.fork .all (.fork (.ln 3 (.fork (.ln 14 (.lit .all)) (.lit (.lit (.fork (.ln 5 (.fork (.ln 9 (.lit .all)) (.lit (.lit (.fork (.ln 5 (.fork (.ln 4 (.lit .all)) (.lit (.lit (.fork (.ln 5 (.fork .all (.fork (.ln 3 (.fork (.ln 4 (.fork (.ln 4 (.fork (.lit (.lit (.fork (.ln 3 (.lit .all)) (.ln 3 (.lit .all))))) (.lit (.lit (.lit .all))))) (.ln 7 (.lit .all)))) (.ln 8 (.lit .all)))) (.ln 12 (.lit .all))))) (.ln 5 (.lit .all))))))) (.ln 10 (.lit .all))))))) (.ln 15 (.lit .all))))))) (.ln 18 (.lit .all))))) (.ln 5 (.lit .all))))))) (.ln 10 (.lit .all))))))) (.ln 15 (.lit .all))))))
  (t:=let y0:Tree SV:=.leaf (.bool false);.node (decide (g.low>g.high)) y0 (.node (decide (g.low≥-1073741824)) (.node (!decide (g.low≤1073741824)) y0 (.node (decide (g.high≥-1073741824)) (.node (!decide (g.high≤1073741824)) y0 (.node (decide (g.base≥-1073741824)) (.node (!decide (g.base≤1073741824)) y0 (.node (decide (g.watch≥1)) (.node (!decide (g.watch≤1048576)) y0 (.node (decide (g.idle≥1)) (.node (!decide (g.idle≤1048576)) y0 (.node (decide (g.rise≥1)) (.node (!decide (g.rise≤400000)) y0 (.node (decide (g.band≥0)) (.node (!decide (g.band≤400000)) y0 (.node (decide (g.count≥0)) (.node (decide (g.count≤g.watch)) (.node (decide (g.quiet≥0)) (.node (decide (g.quiet≤g.idle)) (.node (decide (g.fault≥0)) (.leaf (.bool (decide (g.fault≤4)))) y0) y0) y0) y0) y0)) y0)) y0)) y0)) y0)) y0)) y0)) y0))
  (by kernel_rfl) (by simp only[Tree.holds,eq_self,true_and,Bool.not_eq_true',Bool.not_eq_false',decide_eq_true_eq,decide_eq_false_iff_not,Bool.and_eq_true,beq_iff_eq];(repeat' (first|apply And.intro|intro _));all_goals(refine holds_bool ?_;rw[Gu.ok_iff];(try simp only[decide_eq_true_eq,Bool.false_eq_true,false_iff]);omega)) (by kernel_rfl) (by kernel_rfl)
theorem s_maOk(m:Ma):SCall Tryz.prog 179 [m.sv] (.bool m.ok):=
 scall_v mix [] trivial 1000 (.go (.lit (.fork (.ln 3 (.fork (.ln 37 (.lit .all)) (.ln 4 (.fork (.ln 5 (.fork (.ln 30 (.lit .all)) (.lit (.lit (.fork (.ln 5 (.fork (.ln 25 (.lit .all)) (.lit (.lit (.fork (.ln 5 (.fork (.ln 20 (.lit .all)) (.lit (.lit (.fork (.ln 5 (.fork (.ln 15 (.lit .all)) (.ln 5 (.fork (.ln 9 (.lit .all)) (.lit (.lit (.fork (.ln 5 (.fork (.ln 4 (.lit .all)) (.lit (.lit (.fork (.ln 5 (.fork .all (.go (.lit (.fork (.ln 3 (.fork (.ln 37 (.lit .all)) (.ln 4 (.fork (.ln 5 (.fork (.ln 30 (.lit .all)) (.lit (.lit (.fork (.ln 5 (.fork (.ln 25 (.lit .all)) (.lit (.lit (.fork (.ln 5 (.fork (.ln 20 (.lit .all)) (.lit (.lit (.fork (.ln 5 (.fork (.ln 15 (.lit .all)) (.ln 5 (.fork (.ln 9 (.lit .all)) (.lit (.lit (.fork (.ln 5 (.fork (.ln 4 (.lit .all)) (.lit (.lit (.fork (.ln 5 (.fork .all (.go (.lit (.fork (.ln 3 (.fork (.ln 37 (.lit .all)) (.ln 4 (.fork (.ln 5 (.fork (.ln 30 (.lit .all)) (.lit (.lit (.fork (.ln 5 (.fork (.ln 25 (.lit .all)) (.lit (.lit (.fork (.ln 5 (.fork (.ln 20 (.lit .all)) (.lit (.lit (.fork (.ln 5 (.fork (.ln 15 (.lit .all)) (.ln 5 (.fork (.ln 9 (.lit .all)) (.lit (.lit (.fork (.ln 5 (.fork (.ln 4 (.lit .all)) (.lit (.lit (.fork (.ln 5 (.fork .all (.go (.lit (.fork (.ln 3 (.fork (.ln 37 (.lit .all)) (.ln 4 (.fork (.ln 5 (.fork (.ln 30 (.lit .all)) (.lit (.lit (.fork (.ln 5 (.fork (.ln 25 (.lit .all)) (.lit (.lit (.fork (.ln 5 (.fork (.ln 20 (.lit .all)) (.lit (.lit (.fork (.ln 5 (.fork (.ln 15 (.lit .all)) (.ln 5 (.fork (.ln 9 (.lit .all)) (.lit (.lit (.fork (.ln 5 (.fork (.ln 4 (.lit .all)) (.lit (.lit (.fork (.ln 5 (.fork .all (.go (.lit (.fork (.lit (.lit (.lit .all))) (.lit (.lit (.lit .all)))))))) (.ln 5 (.lit .all))))))) (.ln 10 (.lit .all))))))))) (.ln 21 (.lit .all))))))) (.ln 26 (.lit .all))))))) (.ln 31 (.lit .all))))))) (.ln 36 (.lit .all)))))) (.ln 41 (.lit .all))))))) (.ln 5 (.lit .all))))))) (.ln 10 (.lit .all))))))))) (.ln 21 (.lit .all))))))) (.ln 26 (.lit .all))))))) (.ln 31 (.lit .all))))))) (.ln 36 (.lit .all)))))) (.ln 41 (.lit .all))))))) (.ln 5 (.lit .all))))))) (.ln 10 (.lit .all))))))))) (.ln 21 (.lit .all))))))) (.ln 26 (.lit .all))))))) (.ln 31 (.lit .all))))))) (.ln 36 (.lit .all)))))) (.ln 41 (.lit .all))))))) (.ln 5 (.lit .all))))))) (.ln 10 (.lit .all))))))))) (.ln 21 (.lit .all))))))) (.ln 26 (.lit .all))))))) (.ln 31 (.lit .all))))))) (.ln 36 (.lit .all)))))) (.ln 41 (.lit .all)))))
  (t:=let y0:Tree SV:=.leaf (.bool false);.req (true) (.node (decide (m.x.num≥1)) (.node (!decide (m.x.num≤65536)) y0 (.node (decide (m.x.den≥1)) (.node (!decide (m.x.den≤m.x.num)) y0 (.node (decide (m.x.speed≥1)) (.node (!decide (m.x.speed≤1048576)) y0 (.node (decide (m.x.accel≥1)) (.node (!decide (m.x.accel≤16777216)) y0 (.node (decide (m.x.jerk≥1)) (.node (!decide (m.x.jerk≤1048576)) y0 (.node (decide (m.x.min>m.x.max)) y0 (.node (decide (m.x.min≥-1048576)) (.node (!decide (m.x.min≤1048576)) y0 (.node (decide (m.x.max≥-1048576)) (.node (!decide (m.x.max≤1048576)) y0 (.req true (.node (decide (m.y.num≥1)) (.node (!decide (m.y.num≤65536)) y0 (.node (decide (m.y.den≥1)) (.node (!decide (m.y.den≤m.y.num)) y0 (.node (decide (m.y.speed≥1)) (.node (!decide (m.y.speed≤1048576)) y0 (.node (decide (m.y.accel≥1)) (.node (!decide (m.y.accel≤16777216)) y0 (.node (decide (m.y.jerk≥1)) (.node (!decide (m.y.jerk≤1048576)) y0 (.node (decide (m.y.min>m.y.max)) y0 (.node (decide (m.y.min≥-1048576)) (.node (!decide (m.y.min≤1048576)) y0 (.node (decide (m.y.max≥-1048576)) (.node (!decide (m.y.max≤1048576)) y0 (.req true (.node (decide (m.z.num≥1)) (.node (!decide (m.z.num≤65536)) y0 (.node (decide (m.z.den≥1)) (.node (!decide (m.z.den≤m.z.num)) y0 (.node (decide (m.z.speed≥1)) (.node (!decide (m.z.speed≤1048576)) y0 (.node (decide (m.z.accel≥1)) (.node (!decide (m.z.accel≤16777216)) y0 (.node (decide (m.z.jerk≥1)) (.node (!decide (m.z.jerk≤1048576)) y0 (.node (decide (m.z.min>m.z.max)) y0 (.node (decide (m.z.min≥-1048576)) (.node (!decide (m.z.min≤1048576)) y0 (.node (decide (m.z.max≥-1048576)) (.node (!decide (m.z.max≤1048576)) y0 (.req true (.node (decide (m.e.num≥1)) (.node (!decide (m.e.num≤65536)) y0 (.node (decide (m.e.den≥1)) (.node (!decide (m.e.den≤m.e.num)) y0 (.node (decide (m.e.speed≥1)) (.node (!decide (m.e.speed≤1048576)) y0 (.node (decide (m.e.accel≥1)) (.node (!decide (m.e.accel≤16777216)) y0 (.node (decide (m.e.jerk≥1)) (.node (!decide (m.e.jerk≤1048576)) y0 (.node (decide (m.e.min>m.e.max)) y0 (.node (decide (m.e.min≥-1048576)) (.node (!decide (m.e.min≤1048576)) y0 (.node (decide (m.e.max≥-1048576)) (.node (!decide (m.e.max≤1048576)) y0 (.node (decide (m.ticks≥1)) (.leaf (.bool (decide (m.ticks≤1048576)))) y0)) y0)) y0))) y0)) y0)) y0)) y0)) y0))) y0)) y0))) y0)) y0)) y0)) y0)) y0))) y0)) y0))) y0)) y0)) y0)) y0)) y0))) y0)) y0))) y0)) y0)) y0)) y0)) y0))
  (by kernel_rfl) (by simp only[Tree.holds,eq_self,true_and,Bool.not_eq_true',Bool.not_eq_false',decide_eq_true_eq,decide_eq_false_iff_not,Bool.and_eq_true,beq_iff_eq];(repeat' (first|apply And.intro|intro _));all_goals(refine holds_bool ?_;rw[Ma.ok_iff];(try simp only[Ax.ok_iff,decide_eq_true_eq,Bool.false_eq_true,false_iff]);first|(intro hh;omega)|(constructor<;>intro hh<;>(try simp only[and_assoc])<;>(repeat' apply And.intro)<;>omega))) (by kernel_rfl) (by kernel_rfl)
theorem s_maOkR(m:Ma):SCall Tryz.prog 67 [m.sv] (.bool m.ok):=
 scall_v mix [] trivial 1000 (.go (.lit (.fork (.ln 37 (.lit .all)) (.ln 3 (.fork (.ln 33 (.lit .all)) (.ln 3 (.fork (.ln 29 (.lit .all)) (.ln 5 (.fork (.ln 23 (.lit .all)) (.ln 3 (.fork (.ln 19 (.lit .all)) (.ln 3 (.fork (.ln 15 (.lit .all)) (.ln 3 (.fork (.ln 11 (.lit .all)) (.ln 3 (.fork (.ln 7 (.lit .all)) (.ln 3 (.fork (.ln 3 (.lit .all)) (.ln 3 (.fork .all (.fork (.ln 7 (.lit .all)) (.ln 3 (.fork (.ln 3 (.lit .all)) (.ln 3 (.fork .all (.go (.lit (.fork (.ln 37 (.lit .all)) (.ln 3 (.fork (.ln 33 (.lit .all)) (.ln 3 (.fork (.ln 29 (.lit .all)) (.ln 5 (.fork (.ln 23 (.lit .all)) (.ln 3 (.fork (.ln 19 (.lit .all)) (.ln 3 (.fork (.ln 15 (.lit .all)) (.ln 3 (.fork (.ln 11 (.lit .all)) (.ln 3 (.fork (.ln 7 (.lit .all)) (.ln 3 (.fork (.ln 3 (.lit .all)) (.ln 3 (.fork .all (.fork (.ln 7 (.lit .all)) (.ln 3 (.fork (.ln 3 (.lit .all)) (.ln 3 (.fork .all (.go (.lit (.fork (.ln 37 (.lit .all)) (.ln 3 (.fork (.ln 33 (.lit .all)) (.ln 3 (.fork (.ln 29 (.lit .all)) (.ln 5 (.fork (.ln 23 (.lit .all)) (.ln 3 (.fork (.ln 19 (.lit .all)) (.ln 3 (.fork (.ln 15 (.lit .all)) (.ln 3 (.fork (.ln 11 (.lit .all)) (.ln 3 (.fork (.ln 7 (.lit .all)) (.ln 3 (.fork (.ln 3 (.lit .all)) (.ln 3 (.fork .all (.fork (.ln 7 (.lit .all)) (.ln 3 (.fork (.ln 3 (.lit .all)) (.ln 3 (.fork .all (.go (.lit (.fork (.ln 37 (.lit .all)) (.ln 3 (.fork (.ln 33 (.lit .all)) (.ln 3 (.fork (.ln 29 (.lit .all)) (.ln 5 (.fork (.ln 23 (.lit .all)) (.ln 3 (.fork (.ln 19 (.lit .all)) (.ln 3 (.fork (.ln 15 (.lit .all)) (.ln 3 (.fork (.ln 11 (.lit .all)) (.ln 3 (.fork (.ln 7 (.lit .all)) (.ln 3 (.fork (.ln 3 (.lit .all)) (.ln 3 (.fork .all (.fork (.ln 7 (.lit .all)) (.ln 3 (.fork (.ln 3 (.lit .all)) (.ln 3 (.fork .all (.go (.lit (.fork (.lit (.lit (.lit .all))) (.lit (.lit (.lit .all))))))))))))))))))))))))))))))))))))))))))))))))))))))))))))))))))))))))))))))))))))))))))))))))))))))))))))))
  (t:=let y0:Tree SV:=.leaf (.bool false);.req (true) (.node (decide (m.x.num<1)) y0 (.node (decide (m.x.num>65536)) y0 (.node (decide (m.x.den<1)) y0 (.node (decide (m.x.den>m.x.num)) y0 (.node (decide (m.x.speed<1)) y0 (.node (decide (m.x.speed>1048576)) y0 (.node (decide (m.x.accel<1)) y0 (.node (decide (m.x.accel>16777216)) y0 (.node (decide (m.x.jerk<1)) y0 (.node (decide (m.x.jerk>1048576)) y0 (.node (decide (m.x.min>m.x.max)) y0 (.node (decide (m.x.min < -1048576)) y0 (.node (decide (m.x.max>1048576)) y0 (.req true (.node (decide (m.y.num<1)) y0 (.node (decide (m.y.num>65536)) y0 (.node (decide (m.y.den<1)) y0 (.node (decide (m.y.den>m.y.num)) y0 (.node (decide (m.y.speed<1)) y0 (.node (decide (m.y.speed>1048576)) y0 (.node (decide (m.y.accel<1)) y0 (.node (decide (m.y.accel>16777216)) y0 (.node (decide (m.y.jerk<1)) y0 (.node (decide (m.y.jerk>1048576)) y0 (.node (decide (m.y.min>m.y.max)) y0 (.node (decide (m.y.min < -1048576)) y0 (.node (decide (m.y.max>1048576)) y0 (.req true (.node (decide (m.z.num<1)) y0 (.node (decide (m.z.num>65536)) y0 (.node (decide (m.z.den<1)) y0 (.node (decide (m.z.den>m.z.num)) y0 (.node (decide (m.z.speed<1)) y0 (.node (decide (m.z.speed>1048576)) y0 (.node (decide (m.z.accel<1)) y0 (.node (decide (m.z.accel>16777216)) y0 (.node (decide (m.z.jerk<1)) y0 (.node (decide (m.z.jerk>1048576)) y0 (.node (decide (m.z.min>m.z.max)) y0 (.node (decide (m.z.min < -1048576)) y0 (.node (decide (m.z.max>1048576)) y0 (.req true (.node (decide (m.e.num<1)) y0 (.node (decide (m.e.num>65536)) y0 (.node (decide (m.e.den<1)) y0 (.node (decide (m.e.den>m.e.num)) y0 (.node (decide (m.e.speed<1)) y0 (.node (decide (m.e.speed>1048576)) y0 (.node (decide (m.e.accel<1)) y0 (.node (decide (m.e.accel>16777216)) y0 (.node (decide (m.e.jerk<1)) y0 (.node (decide (m.e.jerk>1048576)) y0 (.node (decide (m.e.min>m.e.max)) y0 (.node (decide (m.e.min < -1048576)) y0 (.node (decide (m.e.max>1048576)) y0 (.node (decide (m.ticks≥1)) (.leaf (.bool (decide (m.ticks≤1048576)))) y0)))))))))))))))))))))))))))))))))))))))))))))))))))))))))
  (by kernel_rfl) (by simp only[Tree.holds,eq_self,true_and,Bool.not_eq_true',Bool.not_eq_false',decide_eq_true_eq,decide_eq_false_iff_not,Bool.and_eq_true,beq_iff_eq];(repeat' (first|apply And.intro|intro _));all_goals(refine holds_bool ?_;rw[Ma.ok_iff];(try simp only[Ax.ok_iff,decide_eq_true_eq,Bool.false_eq_true,false_iff]);first|(intro hh;omega)|(constructor<;>intro hh<;>(try simp only[and_assoc])<;>(repeat' apply And.intro)<;>omega))) (by kernel_rfl) (by kernel_rfl)
def fCoOk:Fact:=factCo 180 fun c=>.bool c.ok
theorem o_coOk:fCoOk.ok Tryz.prog:=factCo_ok s_coOk
def fCoOkR:Fact:=factCo 138 fun c=>.bool c.ok
theorem o_coOkR:fCoOkR.ok Tryz.prog:=factCo_ok s_coOkR
def fGuOk:Fact:=factGu 151 fun c=>.bool c.ok
theorem o_guOk:fGuOk.ok Tryz.prog:=factGu_ok s_guOk
def fGuOkR:Fact:=factGu 139 fun c=>.bool c.ok
theorem o_guOkR:fGuOkR.ok Tryz.prog:=factGu_ok s_guOkR
def fMaOk:Fact:=factM 179 fun c=>.bool c.ok
theorem o_maOk:fMaOk.ok Tryz.prog:=factM_ok s_maOk
def fMaOkR:Fact:=factM 67 fun c=>.bool c.ok
theorem o_maOkR:fMaOkR.ok Tryz.prog:=factM_ok s_maOkR
theorem s_okC(c:V4):SCall Tryz.prog 243 [V4.sv c] (.bool (okC c)):=
 scall_v mix [] trivial 1000 (.go (.lit (.fork (.lit (.lit (.lit .all))) (.lit (.lit (.fork .all (.go (.lit (.fork (.lit (.lit (.lit .all))) (.lit (.lit (.fork .all (.go (.lit (.fork (.lit (.lit (.lit .all))) (.lit (.lit (.fork .all (.go (.lit (.fork (.lit (.lit (.lit .all))) (.lit (.lit (.fork .all (.go (.lit .all))))))))))))))))))))))))))
  (t:=.req (true) (.node (decide (c.1 < -16777216)) (.leaf (.bool false)) (.node (decide (c.1>16777216)) (.leaf (.bool false)) (.req true (.node (decide (c.2.1 < -16777216)) (.leaf (.bool false)) (.node (decide (c.2.1>16777216)) (.leaf (.bool false)) (.req true (.node (decide (c.2.2.1 < -16777216)) (.leaf (.bool false)) (.node (decide (c.2.2.1>16777216)) (.leaf (.bool false)) (.req true (.node (decide (c.2.2.2 < -16777216)) (.leaf (.bool false)) (.node (decide (c.2.2.2>16777216)) (.leaf (.bool false)) (.leaf (.bool !(c.1==0&& (c.2.1==0&& (c.2.2.1==0&& (c.2.2.2==0&&true))))))))))))))))))
  (by kernel_rfl) (by simp only[Tree.holds,sL,ne_eq,beq_iff_eq,bne_iff_ne,eq_self,beq_eq_false_iff_ne,bne_eq_false_iff_eq,implies_true];(repeat' (first|apply And.intro|intro _));all_goals(refine holds_bool ?_;rw[okC_iff];(try simp only[sL,ne_eq,beq_iff_eq,bne_iff_ne,eq_self,beq_eq_false_iff_ne,bne_eq_false_iff_eq,implies_true]); first|omega|grind)) (by kernel_rfl) (by kernel_rfl)
theorem s_okCR(c:V4):SCall Tryz.prog 97 [V4.sv c] (.bool (okC c)):=
 scall_v mix [] trivial 1000 (.go (.lit (.fork (.ln 4 (.lit .all)) (.ln 4 (.fork .all (.ln 5 (.go (.lit (.fork (.ln 4 (.lit .all)) (.ln 4 (.fork .all (.fork (.ln 4 (.go (.lit (.fork (.ln 4 (.lit .all)) (.ln 4 (.fork .all (.ln 5 (.go (.lit (.fork (.ln 4 (.lit .all)) (.ln 4 (.fork .all (.ln 5 (.go (.lit .all))))))))))))))) (.ln 4 (.go (.lit (.fork (.ln 4 (.lit .all)) (.ln 4 (.fork .all (.fork (.ln 4 (.go (.lit (.fork (.ln 4 (.lit .all)) (.ln 4 (.fork .all (.ln 5 (.go (.lit .all))))))))) (.ln 4 (.go (.lit (.fork (.ln 4 (.lit .all)) (.ln 4 (.fork .all (.fork (.ln 4 (.go (.lit .all))) (.ln 4 (.go (.lit .all)))))))))))))))))))))))))))))
  (t:=let y0:Tree SV:=.leaf (.bool false);let y1:Tree SV:=.req true (.node (decide (c.2.2.2 < -16777216)) y0 (.req true (.node (decide (c.2.2.2>16777216)) y0 (.leaf (.bool true)))));.req (true) (.node (decide (c.1 < -16777216)) y0 (.req true (.node (decide (c.1>16777216)) y0 (.req true (.req (true) (.node (decide (c.2.1 < -16777216)) y0 (.req true (.node (decide (c.2.1>16777216)) y0 (.node (c.1 != 0) (.req true (.node (decide (c.2.2.1 < -16777216)) y0 (.req true (.node (decide (c.2.2.1>16777216)) y0 y1)))) (.req true (.req (true) (.node (decide (c.2.2.1 < -16777216)) y0 (.req true (.node (decide (c.2.2.1>16777216)) y0 (.node (c.2.1 != 0) y1 (.req true (.req (true) (.node (decide (c.2.2.2 < -16777216)) y0 (.req true (.node (decide (c.2.2.2>16777216)) y0 (.node (c.2.2.1 != 0) (.leaf (.bool true)) (.req true (.leaf (.bool (c.2.2.2 != 0))))))))))))))))))))))))))
  (by kernel_rfl) (by simp only[Tree.holds,sL,ne_eq,beq_iff_eq,bne_iff_ne,eq_self,beq_eq_false_iff_ne,bne_eq_false_iff_eq,implies_true];(repeat' (first|apply And.intro|intro _));all_goals(refine holds_bool ?_;rw[okC_iff];(try simp only[sL,ne_eq,beq_iff_eq,bne_iff_ne,eq_self,beq_eq_false_iff_ne,bne_eq_false_iff_eq,implies_true]); first|omega|grind)) (by kernel_rfl) (by kernel_rfl)
def factV(f:FuncId)(h:V4→Tree SV):Fact:=⟨f,fun args=>match args with
 |[.agg [.int .i64 a,.int .i64 b,.int .i64 c,.int .i64 d]] =>some (h (a,b,c,d))
 |_=>none⟩
theorem factV_ok{P:Program}{f:FuncId}{h:V4→Tree SV}(k:∀c,(h c).says (SCall P f [V4.sv c])):(factV f h).ok P:=fun args t ht=>by
 simp only[factV]at ht
 split at ht
 ·injection ht with ht;subst ht;exact k (_,_,_,_)
 ·cases ht
def factVI(f:FuncId)(h:V4→Int→Tree SV):Fact:=⟨f,fun args=>match args with
 |[.agg [.int .i64 a,.int .i64 b,.int .i64 c,.int .i64 d],.int .i64 i] =>some (h (a,b,c,d) i)
 |_=>none⟩
theorem factVI_ok{P:Program}{f:FuncId}{h:V4→Int→Tree SV}(k:∀c i,(h c i).says (SCall P f [V4.sv c,I64 i])):(factVI f h).ok P:=fun args t ht=>by
 simp only[factVI]at ht
 split at ht
 ·injection ht with ht;subst ht;exact k (_,_,_,_) _
 ·cases ht
def factVV(f:FuncId)(h:V4→V4→Tree SV):Fact:=⟨f,fun args=>match args with
 |[.agg [.int .i64 a,.int .i64 b,.int .i64 c,.int .i64 d],.agg [.int .i64 a',.int .i64 b',.int .i64 c',.int .i64 d']] =>some (h (a,b,c,d) (a',b',c',d'))
 |_=>none⟩
theorem factVV_ok{P:Program}{f:FuncId}{h:V4→V4→Tree SV}(k:∀c d,(h c d).says (SCall P f [V4.sv c,V4.sv d])):(factVV f h).ok P:=fun args t ht=>by
 simp only[factVV]at ht
 split at ht
 ·injection ht with ht;subst ht;exact k (_,_,_,_) (_,_,_,_)
 ·cases ht
def factB(f:FuncId)(h:Bk→Tree SV):Fact:=⟨f,fun args=>match args with
 |[.agg [.int .i64 a,.int .i64 b,.int .i64 c,.int .i64 d,.int .i64 x,.int .i64 y,.int .i64 z,.int .i64 w]] =>some (h ((a,b,c,d),x,y,z,w))
 |_=>none⟩
theorem factB_ok{P:Program}{f:FuncId}{h:Bk→Tree SV}(k:∀b,(h b).says (SCall P f [Bk.sv b])):(factB f h).ok P:=fun args t ht=>by
 simp only[factB]at ht
 split at ht
 ·injection ht with ht;subst ht;exact k ((_,_,_,_),_,_,_,_)
 ·cases ht
def factBI(f:FuncId)(h:Bk→Int→Tree SV):Fact:=⟨f,fun args=>match args with
 |[.agg [.int .i64 a,.int .i64 b,.int .i64 c,.int .i64 d,.int .i64 x,.int .i64 y,.int .i64 z,.int .i64 w],.int .i64 i] =>some (h ((a,b,c,d),x,y,z,w) i)
 |_=>none⟩
theorem factBI_ok{P:Program}{f:FuncId}{h:Bk→Int→Tree SV}(k:∀b i,(h b i).says (SCall P f [Bk.sv b,I64 i])):(factBI f h).ok P:=fun args t ht=>by
 simp only[factBI]at ht
 split at ht
 ·injection ht with ht;subst ht;exact k ((_,_,_,_),_,_,_,_) _
 ·cases ht
def factBII(f:FuncId)(h:Bk→Int→Int→Tree SV):Fact:=⟨f,fun args=>match args with
 |[.agg [.int .i64 a,.int .i64 b,.int .i64 c,.int .i64 d,.int .i64 x,.int .i64 y,.int .i64 z,.int .i64 w],.int .i64 i,.int .i64 j] =>some (h ((a,b,c,d),x,y,z,w) i j)
 |_=>none⟩
theorem factBII_ok{P:Program}{f:FuncId}{h:Bk→Int→Int→Tree SV}(k:∀b i j,(h b i j).says (SCall P f [Bk.sv b,I64 i,I64 j])):(factBII f h).ok P:=fun args t ht=>by
 simp only[factBII]at ht
 split at ht
 ·injection ht with ht;subst ht;exact k ((_,_,_,_),_,_,_,_) _ _
 ·cases ht
abbrev Mo:=Bk×Int×Int
def Mo.cells(m:Mo):List SV:=[I64 m.1.1.1,I64 m.1.1.2.1,I64 m.1.1.2.2.1,I64 m.1.1.2.2.2,I64 m.1.2.1,I64 m.1.2.2.1,I64 m.1.2.2.2.1,I64 m.1.2.2.2.2,I64 m.2.1,I64 m.2.2]
def Mo.sv(m:Mo):SV:=.agg [I64 m.1.1.1,I64 m.1.1.2.1,I64 m.1.1.2.2.1,I64 m.1.1.2.2.2,I64 m.1.2.1,I64 m.1.2.2.1,I64 m.1.2.2.2.1,I64 m.1.2.2.2.2,I64 m.2.1,I64 m.2.2]
def factMo(f:FuncId)(h:Mo→Tree SV):Fact:=⟨f,fun args=>match args with
 |[.agg [.int .i64 a,.int .i64 b,.int .i64 c,.int .i64 d,.int .i64 x,.int .i64 y,.int .i64 z,.int .i64 w,.int .i64 n,.int .i64 t]] =>some (h (((a,b,c,d),x,y,z,w),n,t))
 |_=>none⟩
theorem factMo_ok{P:Program}{f:FuncId}{h:Mo→Tree SV}(k:∀m,(h m).says (SCall P f [Mo.sv m])):(factMo f h).ok P:=fun args t ht=>by
 simp only[factMo]at ht
 split at ht
 ·injection ht with ht;subst ht;exact k (((_,_,_,_),_,_,_,_),_,_)
 ·cases ht
def factMoI(f:FuncId)(h:Mo→Int→Tree SV):Fact:=⟨f,fun args=>match args with
 |[.agg [.int .i64 a,.int .i64 b,.int .i64 c,.int .i64 d,.int .i64 x,.int .i64 y,.int .i64 z,.int .i64 w,.int .i64 n,.int .i64 t],.int .i64 i] =>some (h (((a,b,c,d),x,y,z,w),n,t) i)
 |_=>none⟩
theorem factMoI_ok{P:Program}{f:FuncId}{h:Mo→Int→Tree SV}(k:∀m i,(h m i).says (SCall P f [Mo.sv m,I64 i])):(factMoI f h).ok P:=fun args t ht=>by
 simp only[factMoI]at ht
 split at ht
 ·injection ht with ht;subst ht;exact k (((_,_,_,_),_,_,_,_),_,_) _
 ·cases ht
theorem w64{x:Int}(h0: -9223372036854775808≤x)(h1:x≤9223372036854775807):i64.wrap x=x:=wrap64 h0 h1
theorem sv_int{a b:Int}(h:a=b):I64 a=I64 b:=congrArg I64 h
theorem v4_eq{a b c d:Int}{v:V4}(h1:a=v.1)(h2:b=v.2.1)(h3:c=v.2.2.1)(h4:d=v.2.2.2):SV.agg [SV.int .i64 a,SV.int .i64 b,SV.int .i64 c,SV.int .i64 d] =V4.sv v:=by subst h1 h2 h3 h4;rfl
theorem stp_bnd{n i k:Int}(hn:1≤n∧n≤16777216)(hi:0≤i∧i≤n)(hk:sz k≤16777216):0≤i*sz k∧i*sz k≤281474976710656:=by
 have:=sz_nonneg k
 exact⟨Int.mul_nonneg hi.1 this,Int.le_trans (Int.mul_le_mul (show i≤16777216 by omega) hk this (by omega)) (by decide)⟩
theorem stp_raw{n i k:Int}(hn:1≤n∧n≤16777216)(hi:0≤i∧i≤n)(hk:sz k≤16777216):
  i64.wrap ((i64.wrap (i64.wrap (i64.wrap (2*i)*sz k)+n)).tdiv (i64.wrap (2*n)))=(2*i*sz k+n) / (2*n)∧0≤(2*i*sz k+n) / (2*n)∧(2*i*sz k+n) / (2*n)≤562949970198528:=by
 have b:=stp_bnd hn hi hk
 have e:2*i*sz k=2*(i*sz k):=Int.mul_assoc _ _ _
 rw[w64 (x:=2*i) (by omega) (by omega),w64 (x:=2*n) (by omega) (by omega),w64 (x:=2*i*sz k) (by omega) (by omega),w64 (x:=2*i*sz k+n) (by omega) (by omega),Int.tdiv_eq_ediv_of_nonneg (by omega)]
 have h0:0≤(2*i*sz k+n) / (2*n):=Int.ediv_nonneg (by omega) (by omega)
 have h1:(2*i*sz k+n) / (2*n)≤2*i*sz k+n:=Int.ediv_le_self _ (by omega)
 exact⟨w64 (by omega) (by omega),h0,by omega⟩
theorem stp_pos{n i k:Int}(hn:1≤n∧n≤16777216)(hi:0≤i∧i≤n)(hk:sz k≤16777216)(h:¬k<0):
  i64.wrap ((i64.wrap (i64.wrap (i64.wrap (2*i)*sz k)+n)).tdiv (i64.wrap (2*n)))=stp n i k:=by
 rw[(stp_raw hn hi hk).1];unfold stp;rw[if_neg h]
theorem stp_neg{n i k:Int}(hn:1≤n∧n≤16777216)(hi:0≤i∧i≤n)(hk:sz k≤16777216)(h:k<0):
  i64.wrap (0-i64.wrap ((i64.wrap (i64.wrap (i64.wrap (2*i)*sz k)+n)).tdiv (i64.wrap (2*n))))=stp n i k:=by
 obtain⟨a,b,c⟩:=stp_raw hn hi hk
 rw[a,w64 (by omega) (by omega)];unfold stp;rw[if_pos h];omega
theorem stp_abs{n i k:Int}(hn:1≤n∧n≤16777216)(hi:0≤i∧i≤n)(hk:sz k≤16777216): -562949970198528≤stp n i k∧stp n i k≤562949970198528:=by
 obtain⟨a,b,c⟩:=stp_raw hn hi hk
 unfold stp;split<;>omega
theorem clm_bnd{n i:Int}(hn:1≤n):0≤clm n i∧clm n i≤n:=by unfold clm;(repeat' split)<;>omega
theorem at4_ok{c:V4}{i:Int}(h:okC c=true):at4 c i=(stp (mx4 c) (clm (mx4 c) i) c.1,stp (mx4 c) (clm (mx4 c) i) c.2.1,stp (mx4 c) (clm (mx4 c) i) c.2.2.1,stp (mx4 c) (clm (mx4 c) i) c.2.2.2):=by unfold at4;rw[h]
theorem at4_no{c:V4}{i:Int}(h:okC c=false):at4 c i=z4:=by unfold at4;rw[h]
def fOkC:Fact:=factV 243 fun c=>.leaf (.bool (okC c))
theorem o_okC:fOkC.ok Tryz.prog:=factV_ok s_okC
def fOkCR:Fact:=factV 97 fun c=>.leaf (.bool (okC c))
theorem o_okCR:fOkCR.ok Tryz.prog:=factV_ok s_okCR
def fSz(f:FuncId):Fact:=factI f fun n=>.req (inR n (-4611686018427387904) 4611686018427387904) (.leaf (I64 (sz n)))
theorem s_sz(n:Int)(hn:inR n (-4611686018427387904) 4611686018427387904=true):SCall Tryz.prog 244 [I64 n] (I64 (sz n)):=
 scall_v mix [] trivial 1000 (.fork (.all) (.all))
  (t:=.node (decide (n<0))
 (.leaf (SV.int IntKind.i64 (i64.wrap (0-n))))
 (.leaf (SV.int IntKind.i64 n)))
   (by kernel_rfl) (by
    rw[inR_iff]at hn
    have e:i64.wrap (0-n)= -n:=by rw[w64 (by omega) (by omega)];omega
    unfold sz;simp only[Tree.holds,decide_eq_true_eq,decide_eq_false_iff_not,e];exact⟨fun h=>by rw[if_pos h];rfl,fun h=>by rw[if_neg h];rfl⟩) (by kernel_rfl) (by kernel_rfl)
theorem s_szR(n:Int)(hn:inR n (-4611686018427387904) 4611686018427387904=true):SCall Tryz.prog 100 [I64 n] (I64 (sz n)):=
 scall_v mix [] trivial 1000 (.all)
  (t:=.leaf (SV.int IntKind.i64 (if i64.wrap (0-n)>n then i64.wrap (0-n)else n)))
  (by kernel_rfl) (by
   rw[inR_iff]at hn
   have e:i64.wrap (0-n)= -n:=by rw[w64 (by omega) (by omega)];omega
   unfold sz;simp only[Tree.holds,e];congr 1;(repeat' split)<;>omega) (by kernel_rfl) (by kernel_rfl)
theorem o_sz:(fSz 244).ok Tryz.prog:=factI_ok fun n h=>s_sz n h
theorem o_szR:(fSz 100).ok Tryz.prog:=factI_ok fun n h=>s_szR n h
theorem s_dom(c:V4):SCall Tryz.prog 182 [V4.sv c] (I64 (dom c)):=
 scall_v mix [fOkC,fSz 244] ⟨o_okC,o_sz,trivial⟩ 1000 (.fork (.all) (.go (.lit (.go (.lit (.go (.lit (.go (.lit (.go (.lit (.all))))))))))))
  (t:=.node (!okC c) (.leaf (.int .i64 0)) (.req true (.req (inR c.1 (-4611686018427387904) 4611686018427387904) (.req true (.req (inR c.2.1 (-4611686018427387904) 4611686018427387904) (.req true (.req (inR c.2.2.1 (-4611686018427387904) 4611686018427387904) (.req true (.req (inR c.2.2.2 (-4611686018427387904) 4611686018427387904) (.leaf (.int .i64 (if sz c.2.2.2>if sz c.2.2.1>if sz c.2.1>if sz c.1>0 then sz c.1 else 0 then sz c.2.1 else if sz c.1>0 then sz c.1 else 0 then sz c.2.2.1 else if sz c.2.1>if sz c.1>0 then sz c.1 else 0 then sz c.2.1 else if sz c.1>0 then sz c.1 else 0 then sz c.2.2.2 else if sz c.2.2.1>if sz c.2.1>if sz c.1>0 then sz c.1 else 0 then sz c.2.1 else if sz c.1>0 then sz c.1 else 0 then sz c.2.2.1 else if sz c.2.1>if sz c.1>0 then sz c.1 else 0 then sz c.2.1 else if sz c.1>0 then sz c.1 else 0))))))))))))
  (by kernel_rfl) (by
   cases h:okC c with
   |false=>simp only[Tree.holds,show okC (c.1,c.2.1,c.2.2)=false from h,dom_no h,sL,ne_eq,beq_iff_eq,bne_iff_ne,eq_self,beq_eq_false_iff_ne,bne_eq_false_iff_eq,implies_true];rfl
   |true=>
    have b:=okC_iff.1 h
    have e:=mx4_bounds h
    simp only[Tree.holds,show okC (c.1,c.2.1,c.2.2)=true from h,dom_ok h,sL,ne_eq,beq_iff_eq,bne_iff_ne,eq_self,beq_eq_false_iff_ne,bne_eq_false_iff_eq,implies_true]
    (repeat' apply And.intro)<;>first|rfl|(rw[inR_iff];omega)|exact sv_int (by unfold mx4 mx;omega)) (by kernel_rfl) (by kernel_rfl)
theorem s_domR(c:V4):SCall Tryz.prog 38 [V4.sv c] (I64 (dom c)):=
 scall_v mix [fOkCR,fSz 100] ⟨o_okCR,o_szR,trivial⟩ 1000 (.fork (.all) (.go (.lit (.go (.lit (.go (.lit (.go (.lit (.go (.lit (.all))))))))))))
  (t:=.node (!okC c) (.leaf (.int .i64 0)) (.req true (.req (inR c.1 (-4611686018427387904) 4611686018427387904) (.req true (.req (inR c.2.1 (-4611686018427387904) 4611686018427387904) (.req true (.req (inR c.2.2.1 (-4611686018427387904) 4611686018427387904) (.req true (.req (inR c.2.2.2 (-4611686018427387904) 4611686018427387904) (.leaf (.int .i64 (if sz c.2.2.2>if sz c.2.2.1>if sz c.2.1>if sz c.1>0 then sz c.1 else 0 then sz c.2.1 else if sz c.1>0 then sz c.1 else 0 then sz c.2.2.1 else if sz c.2.1>if sz c.1>0 then sz c.1 else 0 then sz c.2.1 else if sz c.1>0 then sz c.1 else 0 then sz c.2.2.2 else if sz c.2.2.1>if sz c.2.1>if sz c.1>0 then sz c.1 else 0 then sz c.2.1 else if sz c.1>0 then sz c.1 else 0 then sz c.2.2.1 else if sz c.2.1>if sz c.1>0 then sz c.1 else 0 then sz c.2.1 else if sz c.1>0 then sz c.1 else 0))))))))))))
  (by kernel_rfl) (by
   cases h:okC c with
   |false=>simp only[Tree.holds,show okC (c.1,c.2.1,c.2.2)=false from h,dom_no h,sL,ne_eq,beq_iff_eq,bne_iff_ne,eq_self,beq_eq_false_iff_ne,bne_eq_false_iff_eq,implies_true];rfl
   |true=>
    have b:=okC_iff.1 h
    have e:=mx4_bounds h
    simp only[Tree.holds,show okC (c.1,c.2.1,c.2.2)=true from h,dom_ok h,sL,ne_eq,beq_iff_eq,bne_iff_ne,eq_self,beq_eq_false_iff_ne,bne_eq_false_iff_eq,implies_true]
    (repeat' apply And.intro)<;>first|rfl|(rw[inR_iff];omega)|exact sv_int (by unfold mx4 mx;omega)) (by kernel_rfl) (by kernel_rfl)
def fDom:Fact:=factV 182 fun c=>.leaf (I64 (dom c))
theorem o_dom:fDom.ok Tryz.prog:=factV_ok s_dom
def fDomR:Fact:=factV 38 fun c=>.leaf (I64 (dom c))
theorem o_domR:fDomR.ok Tryz.prog:=factV_ok s_domR
theorem s_at(c:V4)(i:Int):SCall Tryz.prog 268 [V4.sv c,I64 i] (V4.sv (at4 c i)):=
 scall_v mix [fDom,fSz 244] ⟨o_dom,o_sz,trivial⟩ 1000 (.fork (.all) (.go (.lit (.fork (.go (.lit (.fork (.go (.lit (.fork (.go (.lit (.fork (.go (.lit (.all))) (.go (.lit (.all)))))) (.go (.lit (.fork (.go (.lit (.all))) (.go (.lit (.all))))))))) (.go (.lit (.fork (.go (.lit (.fork (.go (.lit (.all))) (.go (.lit (.all)))))) (.go (.lit (.fork (.go (.lit (.all))) (.go (.lit (.all)))))))))))) (.go (.lit (.fork (.go (.lit (.fork (.go (.lit (.fork (.go (.lit (.all))) (.go (.lit (.all)))))) (.go (.lit (.fork (.go (.lit (.all))) (.go (.lit (.all))))))))) (.go (.lit (.fork (.go (.lit (.fork (.go (.lit (.all))) (.go (.lit (.all)))))) (.go (.lit (.fork (.go (.lit (.all))) (.go (.lit (.all))))))))))))))))
  (t:=let y0:=2*if dom c<if 0>i then 0 else i then dom c else if 0>i then 0 else i;let y1:=i64.wrap (2*dom c);let y2:=(i64.wrap (i64.wrap (i64.wrap y0*sz c.2.2.1)+dom c)).tdiv y1;let y3:=(i64.wrap (i64.wrap (i64.wrap y0*sz c.2.2.2)+dom c)).tdiv y1;let y4:=(i64.wrap (i64.wrap (i64.wrap y0*sz c.2.1)+dom c)).tdiv y1;let y5:=(i64.wrap (i64.wrap (i64.wrap y0*sz c.1)+dom c)).tdiv y1;let y6:=!i64.wrap (2*dom c)==0;let y7:=inR c.2.2.2 (-4611686018427387904) 4611686018427387904;let y8:=i64.wrap (0-i64.wrap y5);let y9:=i64.wrap (0-i64.wrap y4);let y10:=i64.wrap (0-i64.wrap y2);let y11:=i64.wrap (0-i64.wrap y3);let y12:=inR c.2.2.1 (-4611686018427387904) 4611686018427387904;let y13:=decide (c.2.2.2<0);let y14:=i64.wrap y3;let y15:=i64.wrap y2;let y16:=i64.wrap y4;let y17:=i64.wrap y5;let y18:=decide (c.2.2.1<0);.node (dom c==0) (.leaf (.agg [.int .i64 0,.int .i64 0,.int .i64 0,.int .i64 0])) (.req true (.req (inR c.1 (-4611686018427387904) 4611686018427387904) (.req y6 (.req true (.node (decide (c.1<0)) (.req true (.req (true) (.req true (.req (inR c.2.1 (-4611686018427387904) 4611686018427387904) (.req y6 (.req true (.node (decide (c.2.1<0)) (.req true (.req (true) (.req true (.req y12 (.req y6 (.req true (.node y18 (.req true (.req (true) (.req true (.req y7 (.req y6 (.req true (.node y13 (.req true (.req (true) (.leaf (.agg [.int .i64 y8,.int .i64 y9,.int .i64 y10,.int .i64 y11])))) (.leaf (.agg [.int .i64 y8,.int .i64 y9,.int .i64 y10,.int .i64 y14]))))))))) (.req true (.req y7 (.req y6 (.req true (.node y13 (.req true (.req (true) (.leaf (.agg [.int .i64 y8,.int .i64 y9,.int .i64 y15,.int .i64 y11])))) (.leaf (.agg [.int .i64 y8,.int .i64 y9,.int .i64 y15,.int .i64 y14])))))))))))))) (.req true (.req y12 (.req y6 (.req true (.node y18 (.req true (.req (true) (.req true (.req y7 (.req y6 (.req true (.node y13 (.req true (.req (true) (.leaf (.agg [.int .i64 y8,.int .i64 y16,.int .i64 y10,.int .i64 y11])))) (.leaf (.agg [.int .i64 y8,.int .i64 y16,.int .i64 y10,.int .i64 y14]))))))))) (.req true (.req y7 (.req y6 (.req true (.node y13 (.req true (.req (true) (.leaf (.agg [.int .i64 y8,.int .i64 y16,.int .i64 y15,.int .i64 y11])))) (.leaf (.agg [.int .i64 y8,.int .i64 y16,.int .i64 y15,.int .i64 y14]))))))))))))))))))) (.req true (.req (inR c.2.1 (-4611686018427387904) 4611686018427387904) (.req y6 (.req true (.node (decide (c.2.1<0)) (.req true (.req (true) (.req true (.req y12 (.req y6 (.req true (.node y18 (.req true (.req (true) (.req true (.req y7 (.req y6 (.req true (.node y13 (.req true (.req (true) (.leaf (.agg [.int .i64 y17,.int .i64 y9,.int .i64 y10,.int .i64 y11])))) (.leaf (.agg [.int .i64 y17,.int .i64 y9,.int .i64 y10,.int .i64 y14]))))))))) (.req true (.req y7 (.req y6 (.req true (.node y13 (.req true (.req (true) (.leaf (.agg [.int .i64 y17,.int .i64 y9,.int .i64 y15,.int .i64 y11])))) (.leaf (.agg [.int .i64 y17,.int .i64 y9,.int .i64 y15,.int .i64 y14])))))))))))))) (.req true (.req y12 (.req y6 (.req true (.node y18 (.req true (.req (true) (.req true (.req y7 (.req y6 (.req true (.node y13 (.req true (.req (true) (.leaf (.agg [.int .i64 y17,.int .i64 y16,.int .i64 y10,.int .i64 y11])))) (.leaf (.agg [.int .i64 y17,.int .i64 y16,.int .i64 y10,.int .i64 y14]))))))))) (.req true (.req y7 (.req y6 (.req true (.node y13 (.req true (.req (true) (.leaf (.agg [.int .i64 y17,.int .i64 y16,.int .i64 y15,.int .i64 y11])))) (.leaf (.agg [.int .i64 y17,.int .i64 y16,.int .i64 y15,.int .i64 y14])))))))))))))))))))))))
  (by kernel_rfl) (by
   cases h:okC c with
   |false=>simp only[Tree.holds,show dom (c.1,c.2.1,c.2.2)=0 from dom_no h,sL,ne_eq,beq_iff_eq,bne_iff_ne,eq_self,beq_eq_false_iff_ne,bne_eq_false_iff_eq,implies_true];rw[at4_no h];rfl
   |true=>
    have e:=mx4_bounds h
    have q:(if mx4 c<if 0>i then 0 else i then mx4 c else if 0>i then 0 else i)=clm (mx4 c) i:=by unfold clm;(repeat' split)<;>omega
    have hn:1≤mx4 c∧mx4 c≤16777216:=by omega
    have hi:=clm_bnd (i:=i) hn.1
    have hs:(∀k:Int,sz k≤mx4 c→sz k≤16777216):=fun k hk=>by omega
    have e2:i64.wrap (2*mx4 c)≠0:=by rw[w64 (by omega) (by omega)];omega
    have b:=okC_iff.1 h
    have i1:inR c.1 (-4611686018427387904) 4611686018427387904=true:=inR_iff.2 (by omega)
    have i2:inR c.2.1 (-4611686018427387904) 4611686018427387904=true:=inR_iff.2 (by omega)
    have i3:inR c.2.2.1 (-4611686018427387904) 4611686018427387904=true:=inR_iff.2 (by omega)
    have i4:inR c.2.2.2 (-4611686018427387904) 4611686018427387904=true:=inR_iff.2 (by omega)
    have hm:¬mx4 c=0:=by omega
    simp only[Tree.holds,show dom (c.1,c.2.1,c.2.2)=mx4 c from dom_ok h,q,i1,i2,i3,i4,hm,e2,sL,ne_eq,beq_iff_eq,bne_iff_ne,eq_self,beq_eq_false_iff_ne,bne_eq_false_iff_eq,implies_true]
    rw[at4_ok h]
    have n1:=fun hh=>stp_neg (k:=c.1) hn hi (hs _ (by omega)) hh
    have n2:=fun hh=>stp_neg (k:=c.2.1) hn hi (hs _ (by omega)) hh
    have n3:=fun hh=>stp_neg (k:=c.2.2.1) hn hi (hs _ (by omega)) hh
    have n4:=fun hh=>stp_neg (k:=c.2.2.2) hn hi (hs _ (by omega)) hh
    have p1:=fun hh=>stp_pos (k:=c.1) hn hi (hs _ (by omega)) hh
    have p2:=fun hh=>stp_pos (k:=c.2.1) hn hi (hs _ (by omega)) hh
    have p3:=fun hh=>stp_pos (k:=c.2.2.1) hn hi (hs _ (by omega)) hh
    have p4:=fun hh=>stp_pos (k:=c.2.2.2) hn hi (hs _ (by omega)) hh
    refine⟨fun h1=>?_,fun h1=>?_⟩<;>refine⟨fun h2=>?_,fun h2=>?_⟩<;>refine⟨fun h3=>?_,fun h3=>?_⟩<;>refine⟨fun h4=>?_,fun h4=>?_⟩
    all_goals(first|rw[n1 h1] |rw[p1 h1])
    all_goals(first|rw[n2 h2] |rw[p2 h2])
    all_goals(first|rw[n3 h3] |rw[p3 h3])
    all_goals(first|rw[n4 h4] |rw[p4 h4])
    all_goals rfl) (by kernel_rfl) (by kernel_rfl)
theorem s_atR(c:V4)(i:Int):SCall Tryz.prog 206 [V4.sv c,I64 i] (V4.sv (at4 c i)):=
 scall_v mix [fDomR,fSz 100] ⟨o_domR,o_szR,trivial⟩ 1000 (.fork (.all) (.go (.lit (.fork (.go (.lit (.fork (.go (.lit (.fork (.go (.lit (.fork (.go (.lit (.all))) (.go (.lit (.all)))))) (.go (.lit (.fork (.go (.lit (.all))) (.go (.lit (.all))))))))) (.go (.lit (.fork (.go (.lit (.fork (.go (.lit (.all))) (.go (.lit (.all)))))) (.go (.lit (.fork (.go (.lit (.all))) (.go (.lit (.all)))))))))))) (.go (.lit (.fork (.go (.lit (.fork (.go (.lit (.fork (.go (.lit (.all))) (.go (.lit (.all)))))) (.go (.lit (.fork (.go (.lit (.all))) (.go (.lit (.all))))))))) (.go (.lit (.fork (.go (.lit (.fork (.go (.lit (.all))) (.go (.lit (.all)))))) (.go (.lit (.fork (.go (.lit (.all))) (.go (.lit (.all))))))))))))))))
  (t:=let y0:=2*if(if dom c<i then dom c else i)>0 then if dom c<i then dom c else i else 0;let y1:=i64.wrap (2*dom c);let y2:=(i64.wrap (i64.wrap (i64.wrap y0*sz c.2.2.1)+dom c)).tdiv y1;let y3:=(i64.wrap (i64.wrap (i64.wrap y0*sz c.2.2.2)+dom c)).tdiv y1;let y4:=(i64.wrap (i64.wrap (i64.wrap y0*sz c.2.1)+dom c)).tdiv y1;let y5:=(i64.wrap (i64.wrap (i64.wrap y0*sz c.1)+dom c)).tdiv y1;let y6:=!i64.wrap (2*dom c)==0;let y7:=inR c.2.2.2 (-4611686018427387904) 4611686018427387904;let y8:=i64.wrap (0-i64.wrap y5);let y9:=i64.wrap (0-i64.wrap y4);let y10:=i64.wrap (0-i64.wrap y2);let y11:=i64.wrap (0-i64.wrap y3);let y12:=inR c.2.2.1 (-4611686018427387904) 4611686018427387904;let y13:=decide (c.2.2.2<0);let y14:=i64.wrap y3;let y15:=i64.wrap y2;let y16:=i64.wrap y4;let y17:=i64.wrap y5;let y18:=decide (c.2.2.1<0);.node (dom c==0) (.leaf (.agg [.int .i64 0,.int .i64 0,.int .i64 0,.int .i64 0])) (.req true (.req (inR c.1 (-4611686018427387904) 4611686018427387904) (.req y6 (.req true (.req (true) (.node (decide (c.1<0)) (.req true (.req (true) (.req true (.req (inR c.2.1 (-4611686018427387904) 4611686018427387904) (.req y6 (.req true (.req (true) (.node (decide (c.2.1<0)) (.req true (.req (true) (.req true (.req y12 (.req y6 (.req true (.req (true) (.node y18 (.req true (.req (true) (.req true (.req y7 (.req y6 (.req true (.req (true) (.node y13 (.req true (.req (true) (.leaf (.agg [.int .i64 y8,.int .i64 y9,.int .i64 y10,.int .i64 y11])))) (.leaf (.agg [.int .i64 y8,.int .i64 y9,.int .i64 y10,.int .i64 y14])))))))))) (.req true (.req y7 (.req y6 (.req true (.req (true) (.node y13 (.req true (.req (true) (.leaf (.agg [.int .i64 y8,.int .i64 y9,.int .i64 y15,.int .i64 y11])))) (.leaf (.agg [.int .i64 y8,.int .i64 y9,.int .i64 y15,.int .i64 y14])))))))))))))))) (.req true (.req y12 (.req y6 (.req true (.req (true) (.node y18 (.req true (.req (true) (.req true (.req y7 (.req y6 (.req true (.req (true) (.node y13 (.req true (.req (true) (.leaf (.agg [.int .i64 y8,.int .i64 y16,.int .i64 y10,.int .i64 y11])))) (.leaf (.agg [.int .i64 y8,.int .i64 y16,.int .i64 y10,.int .i64 y14])))))))))) (.req true (.req y7 (.req y6 (.req true (.req (true) (.node y13 (.req true (.req (true) (.leaf (.agg [.int .i64 y8,.int .i64 y16,.int .i64 y15,.int .i64 y11])))) (.leaf (.agg [.int .i64 y8,.int .i64 y16,.int .i64 y15,.int .i64 y14])))))))))))))))))))))) (.req true (.req (inR c.2.1 (-4611686018427387904) 4611686018427387904) (.req y6 (.req true (.req (true) (.node (decide (c.2.1<0)) (.req true (.req (true) (.req true (.req y12 (.req y6 (.req true (.req (true) (.node y18 (.req true (.req (true) (.req true (.req y7 (.req y6 (.req true (.req (true) (.node y13 (.req true (.req (true) (.leaf (.agg [.int .i64 y17,.int .i64 y9,.int .i64 y10,.int .i64 y11])))) (.leaf (.agg [.int .i64 y17,.int .i64 y9,.int .i64 y10,.int .i64 y14])))))))))) (.req true (.req y7 (.req y6 (.req true (.req (true) (.node y13 (.req true (.req (true) (.leaf (.agg [.int .i64 y17,.int .i64 y9,.int .i64 y15,.int .i64 y11])))) (.leaf (.agg [.int .i64 y17,.int .i64 y9,.int .i64 y15,.int .i64 y14])))))))))))))))) (.req true (.req y12 (.req y6 (.req true (.req (true) (.node y18 (.req true (.req (true) (.req true (.req y7 (.req y6 (.req true (.req (true) (.node y13 (.req true (.req (true) (.leaf (.agg [.int .i64 y17,.int .i64 y16,.int .i64 y10,.int .i64 y11])))) (.leaf (.agg [.int .i64 y17,.int .i64 y16,.int .i64 y10,.int .i64 y14])))))))))) (.req true (.req y7 (.req y6 (.req true (.req (true) (.node y13 (.req true (.req (true) (.leaf (.agg [.int .i64 y17,.int .i64 y16,.int .i64 y15,.int .i64 y11])))) (.leaf (.agg [.int .i64 y17,.int .i64 y16,.int .i64 y15,.int .i64 y14])))))))))))))))))))))))))))
  (by kernel_rfl) (by
   cases h:okC c with
   |false=>simp only[Tree.holds,show dom (c.1,c.2.1,c.2.2)=0 from dom_no h,sL,ne_eq,beq_iff_eq,bne_iff_ne,eq_self,beq_eq_false_iff_ne,bne_eq_false_iff_eq,implies_true];rw[at4_no h];rfl
   |true=>
    have e:=mx4_bounds h
    have q:(if(if mx4 c<i then mx4 c else i)>0 then if mx4 c<i then mx4 c else i else 0)=clm (mx4 c) i:=by unfold clm;(repeat' split)<;>omega
    have hn:1≤mx4 c∧mx4 c≤16777216:=by omega
    have hi:=clm_bnd (i:=i) hn.1
    have hs:(∀k:Int,sz k≤mx4 c→sz k≤16777216):=fun k hk=>by omega
    have e2:i64.wrap (2*mx4 c)≠0:=by rw[w64 (by omega) (by omega)];omega
    have b:=okC_iff.1 h
    have i1:inR c.1 (-4611686018427387904) 4611686018427387904=true:=inR_iff.2 (by omega)
    have i2:inR c.2.1 (-4611686018427387904) 4611686018427387904=true:=inR_iff.2 (by omega)
    have i3:inR c.2.2.1 (-4611686018427387904) 4611686018427387904=true:=inR_iff.2 (by omega)
    have i4:inR c.2.2.2 (-4611686018427387904) 4611686018427387904=true:=inR_iff.2 (by omega)
    have hm:¬mx4 c=0:=by omega
    simp only[Tree.holds,show dom (c.1,c.2.1,c.2.2)=mx4 c from dom_ok h,q,i1,i2,i3,i4,hm,e2,sL,ne_eq,beq_iff_eq,bne_iff_ne,eq_self,beq_eq_false_iff_ne,bne_eq_false_iff_eq,implies_true]
    rw[at4_ok h]
    have n1:=fun hh=>stp_neg (k:=c.1) hn hi (hs _ (by omega)) hh
    have n2:=fun hh=>stp_neg (k:=c.2.1) hn hi (hs _ (by omega)) hh
    have n3:=fun hh=>stp_neg (k:=c.2.2.1) hn hi (hs _ (by omega)) hh
    have n4:=fun hh=>stp_neg (k:=c.2.2.2) hn hi (hs _ (by omega)) hh
    have p1:=fun hh=>stp_pos (k:=c.1) hn hi (hs _ (by omega)) hh
    have p2:=fun hh=>stp_pos (k:=c.2.1) hn hi (hs _ (by omega)) hh
    have p3:=fun hh=>stp_pos (k:=c.2.2.1) hn hi (hs _ (by omega)) hh
    have p4:=fun hh=>stp_pos (k:=c.2.2.2) hn hi (hs _ (by omega)) hh
    refine⟨fun h1=>?_,fun h1=>?_⟩<;>refine⟨fun h2=>?_,fun h2=>?_⟩<;>refine⟨fun h3=>?_,fun h3=>?_⟩<;>refine⟨fun h4=>?_,fun h4=>?_⟩
    all_goals(first|rw[n1 h1] |rw[p1 h1])
    all_goals(first|rw[n2 h2] |rw[p2 h2])
    all_goals(first|rw[n3 h3] |rw[p3 h3])
    all_goals(first|rw[n4 h4] |rw[p4 h4])
    all_goals rfl) (by kernel_rfl) (by kernel_rfl)
def fAt:Fact:=factVI 268 fun c i=>.leaf (V4.sv (at4 c i))
theorem o_at:fAt.ok Tryz.prog:=factVI_ok s_at
def fAtR:Fact:=factVI 206 fun c i=>.leaf (V4.sv (at4 c i))
theorem o_atR:fAtR.ok Tryz.prog:=factVI_ok s_atR
theorem at4_abs(c:V4)(i:Int):((-562949970198528≤(at4 c i).1∧(at4 c i).1≤562949970198528)∧(-562949970198528≤(at4 c i).2.1∧(at4 c i).2.1≤562949970198528))∧(-562949970198528≤(at4 c i).2.2.1∧(at4 c i).2.2.1≤562949970198528)∧-562949970198528≤(at4 c i).2.2.2∧(at4 c i).2.2.2≤562949970198528:=by
 cases h:okC c with
 |false=>rw[at4_no h];decide
 |true=>
  rw[at4_ok h]
  have e:=mx4_bounds h
  have hn:1≤mx4 c∧mx4 c≤16777216:=by omega
  have hi:=clm_bnd (i:=i) hn.1
  exact⟨⟨stp_abs hn hi (by omega),stp_abs hn hi (by omega)⟩,stp_abs hn hi (by omega),stp_abs hn hi (by omega)⟩
theorem pul_yes{c:V4}{i:Int}(h:1≤i∧i≤dom c):pul c i=sub4 (at4 c i) (at4 c (i-1)):=by unfold pul;rw[inR_iff.2 h]
theorem pul_no{c:V4}{i:Int}(h:¬(1≤i∧i≤dom c)):pul c i=z4:=by unfold pul;rw[Bool.eq_false_iff.2 fun q=>h (inR_iff.1 q)]
theorem s_pul(c:V4)(i:Int):SCall Tryz.prog 233 [V4.sv c,I64 i] (V4.sv (pul c i)):=
 scall_v mix [fDom,fAt] ⟨o_dom,o_at,trivial⟩ 1000 (.fork (.ln 4 (.lit .all)) (.ln 4 (.fork .all (.go (.lit (.go (.lit (.go (.lit (.go (.lit (.go (.lit .all)))))))))))))
  (t:=.node (decide (i<1)) (.leaf (.agg [.int .i64 0,.int .i64 0,.int .i64 0,.int .i64 0])) (.node (decide (i>dom c)) (.leaf (.agg [.int .i64 0,.int .i64 0,.int .i64 0,.int .i64 0])) (.req true (.req (true) (.req true (.req (true) (.req true (.req (true) (.req true (.req (true) (.req true (.req (true) (.req true (.req (true) (.leaf (.agg [.int .i64 (i64.wrap ((at4 c i).1-(at4 c (i64.wrap (i-1))).1)),.int .i64 (i64.wrap ((at4 c i).2.1-(at4 c (i64.wrap (i-1))).2.1)),.int .i64 (i64.wrap ((at4 c i).2.2.1-(at4 c (i64.wrap (i-1))).2.2.1)),.int .i64 (i64.wrap ((at4 c i).2.2.2-(at4 c (i64.wrap (i-1))).2.2.2))]))))))))))))))))
  (by kernel_rfl) (by
   have r:=dom_range c
   simp only[Tree.holds,sL,ne_eq,beq_iff_eq,bne_iff_ne,eq_self,beq_eq_false_iff_ne,bne_eq_false_iff_eq,implies_true]
   refine⟨fun h=>?_,fun h=>⟨fun h2=>?_,fun h2=>?_⟩⟩
   ·rw[pul_no (by omega)];rfl
   ·rw[pul_no (by have h2:i>dom c:=h2;omega)];rfl
   ·have h2:¬i>dom c:=h2
    have a1:=at4_abs c i
    have a2:=at4_abs c (i-1)
    rw[pul_yes (by omega),w64 (x:=i-1) (by omega) (by omega)]
    refine v4_eq ?_ ?_ ?_ ?_<;>(refine w64 ?_ ?_<;>omega)) (by kernel_rfl) (by kernel_rfl)
theorem s_pulR(c:V4)(i:Int):SCall Tryz.prog 237 [V4.sv c,I64 i] (V4.sv (pul c i)):=
 scall_v mix [fDomR,fAtR] ⟨o_domR,o_atR,trivial⟩ 1000 (.fork (.ln 4 (.lit .all)) (.ln 4 (.fork .all (.go (.lit (.go (.lit (.go (.lit (.go (.lit (.go (.lit .all)))))))))))))
  (t:=.node (decide (i<1)) (.leaf (.agg [.int .i64 0,.int .i64 0,.int .i64 0,.int .i64 0])) (.node (decide (i>dom c)) (.leaf (.agg [.int .i64 0,.int .i64 0,.int .i64 0,.int .i64 0])) (.req true (.req (true) (.req true (.req (true) (.req true (.req (true) (.req true (.req (true) (.req true (.req (true) (.req true (.req (true) (.leaf (.agg [.int .i64 (i64.wrap ((at4 c i).1-(at4 c (i64.wrap (i-1))).1)),.int .i64 (i64.wrap ((at4 c i).2.1-(at4 c (i64.wrap (i-1))).2.1)),.int .i64 (i64.wrap ((at4 c i).2.2.1-(at4 c (i64.wrap (i-1))).2.2.1)),.int .i64 (i64.wrap ((at4 c i).2.2.2-(at4 c (i64.wrap (i-1))).2.2.2))]))))))))))))))))
  (by kernel_rfl) (by
   have r:=dom_range c
   simp only[Tree.holds,sL,ne_eq,beq_iff_eq,bne_iff_ne,eq_self,beq_eq_false_iff_ne,bne_eq_false_iff_eq,implies_true]
   refine⟨fun h=>?_,fun h=>⟨fun h2=>?_,fun h2=>?_⟩⟩
   ·rw[pul_no (by omega)];rfl
   ·rw[pul_no (by have h2:i>dom c:=h2;omega)];rfl
   ·have h2:¬i>dom c:=h2
    have a1:=at4_abs c i
    have a2:=at4_abs c (i-1)
    rw[pul_yes (by omega),w64 (x:=i-1) (by omega) (by omega)]
    refine v4_eq ?_ ?_ ?_ ?_<;>(refine w64 ?_ ?_<;>omega)) (by kernel_rfl) (by kernel_rfl)
def isqL(n:Int):Nat→Int→Int
 |0,r=>r
 |k+1,r=>isqL n k (if r+2 ^ k≤n.tdiv (r+2 ^ k)then r+2 ^ k else r)
def isq(n:Int):Int:=isqL n 32 0
theorem pow_pos'(k:Nat):(0:Int)<2 ^ k:=Int.pow_pos (by decide)
theorem isqL_ge(n:Int):∀ (k:Nat) (r:Int),r≤isqL n k r
 |0,r=>Int.le_refl _
 |k+1,r=>by
  have h:=isqL_ge n k (if r+2 ^ k≤n.tdiv (r+2 ^ k)then r+2 ^ k else r)
  have hp:=pow_pos' k
  unfold isqL
  split at h
  ·rename_i c;rw[if_pos c];omega
  ·rename_i c;rw[if_neg c];omega
theorem isqL_lt(n:Int):∀ (k:Nat) (r:Int),isqL n k r<r+2 ^ k
 |0,r=>by simp[isqL];omega
 |k+1,r=>by
  have h:=isqL_lt n k (if r+2 ^ k≤n.tdiv (r+2 ^ k)then r+2 ^ k else r)
  have hp:=pow_pos' k
  have e:(2:Int) ^ (k+1)=2 ^ k+2 ^ k:=by rw[Int.pow_succ];omega
  unfold isqL
  split at h
  ·rename_i c;rw[if_pos c,e];omega
  ·rename_i c;rw[if_neg c,e];omega
theorem isqL_pos{n:Int}(hn:1≤n):∀ (k:Nat) (r:Int),0≤r→1≤isqL n (k+1) r
 |0,r,hr=>by
  unfold isqL isqL
  by_cases h:0<r
  ·split<;>omega
  ·have h0:r=0:=by omega
   subst h0
   rw[if_pos (by simpa using hn)];decide
 |k+1,r,hr=>by
  have hp:=pow_pos' (k+1)
  unfold isqL
  exact isqL_pos hn k _ (by split<;>omega)
theorem isq_lt(n:Int):isq n<4294967296:=isqL_lt n 32 0
theorem isq_pos{n:Int}(hn:1≤n):1≤isq n:=isqL_pos hn 31 0 (by decide)
section
variable {y u u1 q rh:Nat}
theorem dig_key(h:q*(y / 4294967296)+rh=u):q*y+rh*4294967296=u*4294967296+q*(y % 4294967296):=by
 have e:y=y / 4294967296*4294967296+y % 4294967296:=by omega
 have e2:q*y=q*(y / 4294967296)*4294967296+q*(y % 4294967296):=by
  conv=>lhs;rw[e]
  rw[Nat.mul_add,Nat.mul_assoc]
 rw[e2,←h,Nat.add_mul];omega
theorem dig_out(hy:0<y)(h:q*(y / 4294967296)+rh=u)(hQ:(u*4294967296+u1) / y≤q)(hc:q*(y % 4294967296)≤4294967296*rh+u1):q=(u*4294967296+u1) / y:=by
 refine Nat.le_antisymm ((Nat.le_div_iff_mul_le hy).2 ?_) hQ
 have:=dig_key h
 omega
theorem dig_lt(hy:0<y)(hu:u<y)(h1:u1<4294967296):(u*4294967296+u1) / y<4294967296:=by
 rw[Nat.div_lt_iff_lt_mul hy]
 have:(u+1)*4294967296≤y*4294967296:=Nat.mul_le_mul_right _ hu
 omega
theorem dig_less(hy:0<y)(hu:u<y)(h1:u1<4294967296)(h:q*(y / 4294967296)+rh=u)(hc:4294967296≤q∨4294967296*rh+u1<q*(y % 4294967296)):(u*4294967296+u1) / y+1≤q:=by
 rcases hc with hc|hc
 ·have:=dig_lt hy hu h1;omega
 ·rw[Nat.succ_le_iff,Nat.div_lt_iff_lt_mul hy]
  have:=dig_key h
  omega
theorem dig_break(hy:0<y)(h:q*(y / 4294967296)+rh=u)(hQ:(u*4294967296+u1) / y≤q)(hq:q≤4294967296)(hr:4294967296≤rh):q=(u*4294967296+u1) / y:=by
 refine Nat.le_antisymm ((Nat.le_div_iff_mul_le hy).2 ?_) hQ
 have k:=dig_key h
 have k1:q*(y % 4294967296)≤4294967296*4294967295:=Nat.mul_le_mul hq (by omega)
 omega
theorem dig_first(hy:9223372036854775808≤y)(hy2:y<18446744073709551616)(hu:u<y)(h1:u1<4294967296):
  u / (y / 4294967296)*(y / 4294967296)+(u-u / (y / 4294967296)*(y / 4294967296))=u∧(u*4294967296+u1) / y≤u / (y / 4294967296)∧u / (y / 4294967296)≤4294967297∧u-u / (y / 4294967296)*(y / 4294967296)<4294967296:=by
 have hp:0<y / 4294967296:=by omega
 have hd:=Nat.div_add_mod u (y / 4294967296)
 have hm:=Nat.mod_lt u hp
 have hc:=Nat.mul_comm (y / 4294967296) (u / (y / 4294967296))
 refine⟨by omega,?_,?_,by omega⟩
 ·rw[Nat.le_div_iff_mul_le hp]
  have hQ:=Nat.div_mul_le_self (u*4294967296+u1) y
  generalize (u*4294967296+u1) / y=Q at hQ
  have e:y=y / 4294967296*4294967296+y % 4294967296:=by omega
  have e2:Q*y=Q*(y / 4294967296)*4294967296+Q*(y % 4294967296):=by
   conv=>lhs;rw[e]
   rw[Nat.mul_add,Nat.mul_assoc]
  omega
 ·rw[←Nat.lt_succ_iff,Nat.div_lt_iff_lt_mul hp]
  omega
end
theorem two_digits{y u u1 u0:Nat}(hy:0<y):(u*4294967296+u1) / y*4294967296+((u*4294967296+u1) % y*4294967296+u0) / y=(u*18446744073709551616+(u1*4294967296+u0)) / y∧((u*4294967296+u1) % y*4294967296+u0) % y=(u*18446744073709551616+(u1*4294967296+u0)) % y:=by
 have e:u*18446744073709551616+(u1*4294967296+u0)=((u*4294967296+u1) % y*4294967296+u0)+y*((u*4294967296+u1) / y*4294967296):=by
  have h:=Nat.div_add_mod (u*4294967296+u1) y
  have h2:y*((u*4294967296+u1) / y*4294967296)=y*((u*4294967296+u1) / y)*4294967296:=(Nat.mul_assoc _ _ _).symm
  omega
 rw[e,Nat.add_mul_div_left _ _ hy,Nat.add_mul_mod_self_left]
 omega
def fPul:Fact:=factVI 233 fun c i=>.leaf (V4.sv (pul c i))
theorem o_pul:fPul.ok Tryz.prog:=factVI_ok s_pul
def fPulR:Fact:=factVI 237 fun c i=>.leaf (V4.sv (pul c i))
theorem o_pulR:fPulR.ok Tryz.prog:=factVI_ok s_pulR
theorem s_snd(b:Bk):SCall Tryz.prog 242 [Bk.sv b] (.bool (soundB b)):=
 scall_v mix [fOkC] ⟨o_okC,trivial⟩ 1000 (.fork (.ln 3 (.fork (.ln 3 (.fork (.ln 3 (.fork (.lit (.lit (.lit .all))) (.lit (.lit (.lit .all))))) (.ln 6 (.lit .all)))) (.ln 10 (.lit .all)))) (.ln 14 (.lit .all)))
  (t:=.node (okC b.1) (.node (decide (b.2.1≥1)) (.node (decide (b.2.1≤16777216)) (.node (decide (b.2.2.2.1≥1)) (.leaf (.bool (decide (b.2.2.2.1≤1099511627776)))) (.leaf (.bool false))) (.leaf (.bool false))) (.leaf (.bool false))) (.leaf (.bool false)))
  (by kernel_rfl) (by simp only[Tree.holds,sL,ne_eq,beq_iff_eq,bne_iff_ne,eq_self,beq_eq_false_iff_ne,bne_eq_false_iff_eq,implies_true];(repeat' (first|apply And.intro|intro _));all_goals(refine holds_bool ?_;rw[soundB_iff];(try simp only[sL,ne_eq,beq_iff_eq,bne_iff_ne,eq_self,beq_eq_false_iff_ne,bne_eq_false_iff_eq,implies_true]); first|omega|grind)) (by kernel_rfl) (by kernel_rfl)
theorem s_sndR(b:Bk):SCall Tryz.prog 238 [Bk.sv b] (.bool (soundB b)):=
 scall_v mix [fOkCR] ⟨o_okCR,trivial⟩ 1000 (.fork (.ln 3 (.fork (.ln 3 (.fork (.ln 3 (.fork (.lit (.lit (.lit .all))) (.lit (.lit (.lit .all))))) (.ln 6 (.lit .all)))) (.ln 10 (.lit .all)))) (.ln 14 (.lit .all)))
  (t:=.node (okC b.1) (.node (decide (b.2.1≥1)) (.node (decide (b.2.1≤16777216)) (.node (decide (b.2.2.2.1≥1)) (.leaf (.bool (decide (b.2.2.2.1≤1099511627776)))) (.leaf (.bool false))) (.leaf (.bool false))) (.leaf (.bool false))) (.leaf (.bool false)))
  (by kernel_rfl) (by simp only[Tree.holds,sL,ne_eq,beq_iff_eq,bne_iff_ne,eq_self,beq_eq_false_iff_ne,bne_eq_false_iff_eq,implies_true];(repeat' (first|apply And.intro|intro _));all_goals(refine holds_bool ?_;rw[soundB_iff];(try simp only[sL,ne_eq,beq_iff_eq,bne_iff_ne,eq_self,beq_eq_false_iff_ne,bne_eq_false_iff_eq,implies_true]); first|omega|grind)) (by kernel_rfl) (by kernel_rfl)
def fSnd:Fact:=factB 242 fun b=>.leaf (.bool (soundB b))
def fSndR:Fact:=factB 238 fun b=>.leaf (.bool (soundB b))
theorem o_snd:fSnd.ok Tryz.prog:=factB_ok (s_snd)
theorem o_sndR:fSndR.ok Tryz.prog:=factB_ok (s_sndR)
theorem s_vld(b:Bk):SCall Tryz.prog 181 [Bk.sv b] (.bool (validB b)):=
 scall_v mix [fSnd] ⟨o_snd,trivial⟩ 1000 (.fork (.ln 3 (.fork (.ln 5 (.fork (.ln 3 (.fork (.ln 4 (.lit .all)) (.ln 4 (.lit .all)))) (.ln 8 (.lit .all)))) (.ln 14 (.lit .all)))) (.ln 18 (.lit .all)))
  (t:=.node (soundB b) (.node (decide (b.2.2.1≥0)) (.node (decide (b.2.2.1≤b.2.2.2.1)) (.node (decide (b.2.2.2.2≥0)) (.leaf (.bool (decide (b.2.2.2.2≤b.2.2.2.1)))) (.leaf (.bool false))) (.leaf (.bool false))) (.leaf (.bool false))) (.leaf (.bool false)))
  (by kernel_rfl) (by simp only[Tree.holds,sL,ne_eq,beq_iff_eq,bne_iff_ne,eq_self,beq_eq_false_iff_ne,bne_eq_false_iff_eq,implies_true];(repeat' (first|apply And.intro|intro _));all_goals(refine holds_bool ?_;rw[validB_iff,←soundB_iff];(try simp only[sL,ne_eq,beq_iff_eq,bne_iff_ne,eq_self,beq_eq_false_iff_ne,bne_eq_false_iff_eq,implies_true]); first|omega|grind)) (by kernel_rfl) (by kernel_rfl)
theorem s_vldR(b:Bk):SCall Tryz.prog 177 [Bk.sv b] (.bool (validB b)):=
 scall_v mix [fSndR] ⟨o_sndR,trivial⟩ 1000 (.fork (.ln 3 (.fork (.ln 5 (.fork (.ln 3 (.fork (.ln 4 (.lit .all)) (.ln 4 (.lit .all)))) (.ln 8 (.lit .all)))) (.ln 14 (.lit .all)))) (.ln 18 (.lit .all)))
  (t:=.node (soundB b) (.node (decide (b.2.2.1≥0)) (.node (decide (b.2.2.1≤b.2.2.2.1)) (.node (decide (b.2.2.2.2≥0)) (.leaf (.bool (decide (b.2.2.2.2≤b.2.2.2.1)))) (.leaf (.bool false))) (.leaf (.bool false))) (.leaf (.bool false))) (.leaf (.bool false)))
  (by kernel_rfl) (by simp only[Tree.holds,sL,ne_eq,beq_iff_eq,bne_iff_ne,eq_self,beq_eq_false_iff_ne,bne_eq_false_iff_eq,implies_true];(repeat' (first|apply And.intro|intro _));all_goals(refine holds_bool ?_;rw[validB_iff,←soundB_iff];(try simp only[sL,ne_eq,beq_iff_eq,bne_iff_ne,eq_self,beq_eq_false_iff_ne,bne_eq_false_iff_eq,implies_true]); first|omega|grind)) (by kernel_rfl) (by kernel_rfl)
def fVld:Fact:=factB 181 fun b=>.leaf (.bool (validB b))
def fVldR:Fact:=factB 177 fun b=>.leaf (.bool (validB b))
theorem o_vld:fVld.ok Tryz.prog:=factB_ok (s_vld)
theorem o_vldR:fVldR.ok Tryz.prog:=factB_ok (s_vldR)
theorem s_rea(b:Bk)(hb:soundB b=true):SCall Tryz.prog 320 [Bk.sv b] (I64 (rea b)):=
 scall_v mix [fDom] ⟨o_dom,trivial⟩ 1000 (.all)
  (t:=.leaf (SV.int IntKind.i64 (i64.wrap (i64.wrap (2*b.snd.fst)*dom b.fst))))
  (by kernel_rfl) (by
   have d:=dom_range b.1
   have q:=(soundB_iff.1 hb).2.1
   have p:0≤b.2.1*dom b.1∧b.2.1*dom b.1≤16777216*16777216:=⟨Int.mul_nonneg (by omega) d.1,Int.mul_le_mul q.2 d.2 d.1 (by omega)⟩
   have e:2*b.2.1*dom b.1=2*(b.2.1*dom b.1):=Int.mul_assoc _ _ _
   refine sv_int ?_
   rw[w64 (x:=2*b.2.1) (by omega) (by omega),w64 (x:=2*b.2.1*dom b.1) (by omega) (by omega)]
   rfl) (by kernel_rfl) (by kernel_rfl)
def fRea:Fact:=factB 320 fun b=>.req (soundB b) (.leaf (I64 (rea b)))
theorem o_rea:fRea.ok Tryz.prog:=factB_ok (fun b h=>s_rea b h)
def iq0_p:Plan:=.fork (.all) (.all)
noncomputable def iq0_t(n:Int):Tree Stop:= .node (decide (n<0)) (.leaf (.done (.tuple [.int .i64 0,.int .i64 1]))) (.leaf (.at (loopOf Tryz.prog 269 0) 23 (slotsS 23 [(0,.int .i64 n),(4,.int .i64 0),(5,.int .i64 2147483648)]) []))
theorem iq0(n:Int):segR (Env.of Tryz.prog (sumOf [])) 1000 (fnOf Tryz.prog 269) .unit (keepS 23 [0,4,5]) (codeS Tryz.prog 269) iq0_p (startS Tryz.prog 269 [I64 n]) [] =iq0_t n:=by kernel_rfl
def iq1_p:Plan:=.fork (.fork (.all) (.all)) (.all)
noncomputable def iq1_t(n r b:Int):Tree Stop:= .node (decide (b>0)) (.req (!i64.wrap (↑(BitVec.ofInt 64 r |||BitVec.ofInt 64 b).toNat:Int)==0) (.node (decide (i64.wrap (↑(BitVec.ofInt 64 r |||BitVec.ofInt 64 b).toNat:Int)≤i64.wrap (n.tdiv (i64.wrap (↑(BitVec.ofInt 64 r |||BitVec.ofInt 64 b).toNat:Int))))) (.req true (.leaf (.at (loopOf Tryz.prog 269 0) 23 (slotsS 23 [(0,.int .i64 n),(4,.int .i64 (i64.wrap (↑(BitVec.ofInt 64 r |||BitVec.ofInt 64 b).toNat:Int))),(5,.int .i64 (b.fdiv 2))]) []))) (.req true (.leaf (.at (loopOf Tryz.prog 269 0) 23 (slotsS 23 [(0,.int .i64 n),(4,.int .i64 r),(5,.int .i64 (b.fdiv 2))]) []))))) (.leaf (.done (.tuple [.int .i64 r,.int .i64 0])))
theorem iq1(n r b:Int):segR (Env.of Tryz.prog (sumOf [])) 1000 (fnOf Tryz.prog 269) .unit (keepS 23 [0,4,5]) (loopOf Tryz.prog 269 0) iq1_p (slotsS 23 [(0,I64 n),(4,I64 r),(5,I64 b)]) [] =iq1_t n r b:=by kernel_rfl
def iqR0_p:Plan:=.fork (.all) (.all)
noncomputable def iqR0_t(n:Int):Tree Stop:= .node (decide (n<0)) (.leaf (.done (.tuple [.int .i64 0,.int .i64 1]))) (.leaf (.at (loopOf Tryz.prog 240 0) 25 (slotsS 25 [(0,.int .i64 n),(4,.int .i64 0),(5,.int .i64 2147483648)]) []))
theorem iqR0(n:Int):segR (Env.of Tryz.prog (sumOf [])) 1000 (fnOf Tryz.prog 240) .unit (keepS 25 [0,4,5]) (codeS Tryz.prog 240) iqR0_p (startS Tryz.prog 240 [I64 n]) [] =iqR0_t n:=by kernel_rfl
def iqR1_p:Plan:=.fork (.fork (.all) (.all)) (.all)
noncomputable def iqR1_t(n r b:Int):Tree Stop:= .node (decide (b>0)) (.req (!i64.wrap (r+b)==0) (.node (decide (i64.wrap (r+b)≤i64.wrap (n.tdiv (i64.wrap (r+b))))) (.req true (.leaf (.at (loopOf Tryz.prog 240 0) 25 (slotsS 25 [(0,.int .i64 n),(4,.int .i64 (i64.wrap (r+b))),(5,.int .i64 (i64.wrap (b.tdiv 2)))]) []))) (.req true (.leaf (.at (loopOf Tryz.prog 240 0) 25 (slotsS 25 [(0,.int .i64 n),(4,.int .i64 r),(5,.int .i64 (i64.wrap (b.tdiv 2)))]) []))))) (.leaf (.done (.tuple [.int .i64 r,.int .i64 0])))
theorem iqR1(n r b:Int):segR (Env.of Tryz.prog (sumOf [])) 1000 (fnOf Tryz.prog 240) .unit (keepS 25 [0,4,5]) (loopOf Tryz.prog 240 0) iqR1_p (slotsS 25 [(0,I64 n),(4,I64 r),(5,I64 b)]) [] =iqR1_t n r b:=by kernel_rfl
def fwd(u r:Nat→Int)(e:Int):Nat→Int
 |0=>e
 |i+1=>min (u (i+1)) (fwd u r e i+r i)
def bwd(p r:Nat→Int)(n:Nat):Nat→Int
 |0=>p n
 |k+1=>min (p (n-(k+1))) (bwd p r n k+r (n-(k+1)))
def grt(u r:Nat→Int)(e:Int)(n i:Nat):Int:=bwd (fwd u r e) r n (n-i)
structure Lim (u r:Nat→Int) (e:Int) (n:Nat):Prop where
 hu:∀i,0≤u i
 hr:∀i,0≤r i
 he:0≤e
 hn:1≤n
 un:u n=0
section
variable {u r:Nat→Int} {e:Int} {n:Nat}
theorem grt_n:grt u r e n n=fwd u r e n:=by unfold grt;rw[Nat.sub_self];rfl
theorem grt_step{i:Nat}(h:i<n):grt u r e n i=min (fwd u r e i) (grt u r e n (i+1)+r i):=by
 unfold grt
 obtain⟨k,hk⟩:∃k,n-i=k+1:=⟨n-i-1,by omega⟩
 rw[hk,show n-(i+1)=k by omega]
 show min (fwd u r e (n-(k+1))) (bwd (fwd u r e) r n k+r (n-(k+1)))=_
 rw[show n-(k+1)=i by omega]
theorem fwd_nonneg(h:Lim u r e n):∀i,0≤fwd u r e i
 |0=>h.he
 |i+1=>by
  have:=fwd_nonneg h i
  have h1:=h.hu (i+1)
  have h2:=h.hr i
  simp only[fwd];omega
theorem fwd_n(h:Lim u r e n):fwd u r e n=0:=by
 have hn:=h.hn
 obtain⟨k,rfl⟩:∃k,n=k+1:=⟨n-1,by omega⟩
 have:=fwd_nonneg h k
 have h2:=h.hr k
 have h3:=h.un
 simp only[fwd];omega
theorem grt_last(h:Lim u r e n):grt u r e n n=0:=by rw[grt_n,fwd_n h]
theorem grt_le_fwd{i:Nat}(h:i≤n):grt u r e n i≤fwd u r e i:=by
 rcases Nat.lt_or_ge i n with k|k
 ·rw[grt_step k];omega
 ·obtain rfl:i=n:=by omega
  rw[grt_n];omega
theorem grt_nonneg(h:Lim u r e n):∀k i,n-i=k→i≤n→0≤grt u r e n i
 |0,i,hk,hi=>by
  obtain rfl:i=n:=by omega
  rw[grt_last h];omega
 |k+1,i,hk,hi=>by
  have h1:=grt_nonneg h k (i+1) (by omega) (by omega)
  have h2:=fwd_nonneg h i
  have h3:=h.hr i
  rw[grt_step (by omega)];omega
def capU(cr cap:Nat→Int)(n i:Nat):Int:=if 0<i∧i<n then min (cap i) (min (cr (i-1)) (cr i))else 0
theorem capU_lim{cr cap:Nat→Int}(hn:1≤n)(he:0≤e)(hc:∀i,0≤cap i)(hcr:∀i,0≤cr i)(hr:∀i,0≤r i):Lim (capU cr cap n) r e n where
 hu:=fun i=>by
  have:=hc i;have:=hcr i;have:=hcr (i-1)
  unfold capU;split<;>omega
 hr:=hr
 he:=he
 hn:=hn
 un:=by unfold capU;rw[if_neg (by omega)]
end
abbrev tyBk:Ty:=.pair (.pair (.int .i64) (.pair (.int .i64) (.pair (.int .i64) (.int .i64)))) (.pair (.int .i64) (.pair (.int .i64) (.pair (.int .i64) (.int .i64))))
def LB(l:List Bk):SV:=.list tyBk l
def LI(l:List Int):SV:=.list (.int .i64) l
def dBk:Bk:=((0,0,0,0),0,0,0,0)
def gr0_p:Plan:=.all
noncomputable def gr0_t(l:List Bk)(caps:List Int)(e:Int):Tree Stop:= .req (decide (0≤i64.wrap ((↑l.length:Int)+1))&&i64.wrap ((↑l.length:Int)+1)==i64.wrap ((↑l.length:Int)+1)&&decide (8*i64.wrap ((↑l.length:Int)+1)≤140737488355328)&&decide (i64.wrap ((↑l.length:Int)+1)≤(9223372036854775807:Int))) (.req (decide (0< (↑(List.replicate (i64.wrap ((↑l.length:Int)+1)).toNat (0:Int)).length:Int))) (.req (decide (0< (List.replicate (i64.wrap ((↑l.length:Int)+1)).toNat (0:Int)).length)) (.leaf (.at (loopOf Tryz.prog 291 0) 97 (slotsS 97 [(0,.list tyBk l),(1,.list (Ty.int IntKind.i64) caps),(2,.int .i64 e),(7,.int .i64 (↑l.length:Int)),(8,SV.row 0),(9,.int .i64 1),(10,SV.undef)]) [some (.rows (Ty.int IntKind.i64) ((List.replicate (i64.wrap ((↑l.length:Int)+1)).toNat (0:Int)).set 0 e))]))))
theorem gr0(l:List Bk)(caps:List Int)(e:Int):segR (Env.of Tryz.prog (sumOf [fRea])) 1000 (fnOf Tryz.prog 291) .unit (keepS 97 [0,1,2,7,8,9,10]) (codeS Tryz.prog 291) gr0_p (startS Tryz.prog 291 [LB l,LI caps,I64 e]) [] =gr0_t l caps e:=by kernel_rfl
def gr1_p:Plan:=.fork (.all) (.all)
noncomputable def gr1_t(l:List Bk)(caps:List Int)(e n:Int)(s:List Int)(i:Int):Tree Stop:=let y1:=i64.wrap (n-1);let y2:=decide (0≤i64.wrap (i-1))&&decide (i64.wrap (i-1)< (↑l.length:Int));let y3:=i64.wrap (i-1);let y0:=l.getD y3.toNat dBk;let y4:=Ty.int IntKind.i64;let y5:=l.getD i.toNat dBk; .node (decide (i<n)) (.req (decide (0≤i)&&decide (i< (↑caps.length:Int))) (.req y2 (.req (decide (0≤i)&&decide (i< (↑l.length:Int))) (.req (decide (0≤i64.wrap (i-1))&&decide (i64.wrap (i-1)< (↑s.length:Int))) (.req (decide (y3.toNat<s.length)) (.req y2 (.req (soundB y0) (.req (decide (0≤i)&&decide (i< (↑s.length:Int))) (.req (decide (i.toNat<s.length)) (.leaf (.at (loopOf Tryz.prog 291 0) 97 (slotsS 97 [(0,.list tyBk l),(1,.list y4 caps),(2,.int .i64 e),(7,.int .i64 n),(8,SV.row 0),(9,.int .i64 (i64.wrap (i+1))),(10,SV.undef)]) [some (.rows y4 (s.set i.toNat (if i64.wrap (s.getD y3.toNat 0+rea y0)<if y5.2.2.2.1<if y0.2.2.2.1<caps.getD i.toNat 0 then y0.2.2.2.1 else caps.getD i.toNat 0 then y5.2.2.2.1 else if y0.2.2.2.1<caps.getD i.toNat 0 then y0.2.2.2.1 else caps.getD i.toNat 0 then i64.wrap (s.getD y3.toNat 0+rea y0)else if y5.2.2.2.1<if y0.2.2.2.1<caps.getD i.toNat 0 then y0.2.2.2.1 else caps.getD i.toNat 0 then y5.2.2.2.1 else if y0.2.2.2.1<caps.getD i.toNat 0 then y0.2.2.2.1 else caps.getD i.toNat 0)))]))))))))))) (.req (decide (0≤i64.wrap (n-1))&&decide (i64.wrap (n-1)< (↑s.length:Int))) (.req (decide (y1.toNat<s.length)) (.req (decide (0≤i64.wrap (n-1))&&decide (i64.wrap (n-1)< (↑l.length:Int))) (.req (soundB (l.getD y1.toNat dBk)) (.req (decide (0≤n)&&decide (n< (↑s.length:Int))) (.req (decide (n.toNat<s.length)) (.leaf (.at (loopOf Tryz.prog 291 1) 97 (slotsS 97 [(0,.list tyBk l),(1,.list y4 caps),(2,.int .i64 e),(7,.int .i64 n),(8,SV.row 0),(9,.int .i64 i),(10,.int .i64 y1)]) [some (.rows y4 (s.set n.toNat (if i64.wrap (s.getD y1.toNat 0+rea (l.getD y1.toNat dBk))<0 then i64.wrap (s.getD y1.toNat 0+rea (l.getD y1.toNat dBk))else 0)))]))))))))
theorem gr1(l:List Bk)(caps:List Int)(e n:Int)(s:List Int)(i:Int):segR (Env.of Tryz.prog (sumOf [fRea])) 1000 (fnOf Tryz.prog 291) .unit (keepS 97 [0,1,2,7,8,9,10]) (loopOf Tryz.prog 291 0) gr1_p (slotsS 97 [(0,LB l),(1,LI caps),(2,I64 e),(7,I64 n),(8,.row 0),(9,I64 i),(10,.undef)]) [some (.rows (.int .i64) s)] =gr1_t l caps e n s i:=by kernel_rfl
def gr2_p:Plan:=.fork (.all) (.all)
noncomputable def gr2_t(l:List Bk)(caps:List Int)(e n:Int)(s:List Int)(i j:Int):Tree Stop:= .node (decide (i≥0)) (.req (decide (0≤i)&&decide (i< (↑s.length:Int))) (.req (decide (i.toNat<s.length)) (.req (decide (0≤i64.wrap (i+1))&&decide (i64.wrap (i+1)< (↑s.length:Int))) (.req (decide ((i64.wrap (i+1)).toNat<s.length)) (.req (decide (0≤i)&&decide (i< (↑l.length:Int))) (.req (soundB (l.getD i.toNat dBk)) (.req (decide (0≤i)&&decide (i< (↑s.length:Int))) (.req (decide (i.toNat<s.length)) (.leaf (.at (loopOf Tryz.prog 291 1) 97 (slotsS 97 [(0,.list tyBk l),(1,.list (Ty.int IntKind.i64) caps),(2,.int .i64 e),(7,.int .i64 n),(8,SV.row 0),(9,.int .i64 j),(10,.int .i64 (i64.wrap (i-1)))]) [some (.rows (Ty.int IntKind.i64) (s.set i.toNat (if i64.wrap (s.getD (i64.wrap (i+1)).toNat 0+rea (l.getD i.toNat dBk))<s.getD i.toNat 0 then i64.wrap (s.getD (i64.wrap (i+1)).toNat 0+rea (l.getD i.toNat dBk))else s.getD i.toNat 0)))])))))))))) (.leaf (.done (.list (Ty.int IntKind.i64) s)))
theorem gr2(l:List Bk)(caps:List Int)(e n:Int)(s:List Int)(i j:Int):segR (Env.of Tryz.prog (sumOf [fRea])) 1000 (fnOf Tryz.prog 291) .unit (keepS 97 [0,1,2,7,8,9,10]) (loopOf Tryz.prog 291 1) gr2_p (slotsS 97 [(0,LB l),(1,LI caps),(2,I64 e),(7,I64 n),(8,.row 0),(9,I64 j),(10,I64 i)]) [some (.rows (.int .i64) s)] =gr2_t l caps e n s i j:=by kernel_rfl
theorem kW{l:List Fact}(hl:allOk Tryz.prog l):Known Tryz.prog (Env.of Tryz.prog (sumOf l)):=known_of mix (sumOf_ok l hl.all)
theorem k0:Known Tryz.prog (Env.of Tryz.prog (sumOf [])):=kW trivial
def bitv:Nat→Int
 |0=>0
 |k+1=>2 ^ k
theorem pow_le32{k:Nat}(h:k<32):(2:Int) ^ k≤2147483648:=by
 have:(2:Nat) ^ k≤2 ^ 31:=Nat.pow_le_pow_right (by decide) (by omega)
 have h2:((2 ^ k:Nat):Int)≤((2 ^ 31:Nat):Int):=Int.ofNat_le.2 this
 simpa using h2
theorem bitv_half(k:Nat):(2:Int) ^ k / 2=bitv k:=by
 cases k with
 |zero=>decide
 |succ k=>simp only[bitv];rw[Int.pow_succ];omega
theorem or64{r:Int}{k:Nat}(hk:k<32)(h0:0≤r)(h1:r<4294967296)(hd:(2:Int) ^ (k+1) ∣ r):i64.wrap (((BitVec.ofInt 64 r |||BitVec.ofInt 64 (2 ^ k)).toNat:Nat):Int)=r+2 ^ k:=by
 obtain⟨m,rfl⟩:=Int.eq_ofNat_of_zero_le h0
 have hp:=pow_le32 hk
 have e1:(BitVec.ofInt 64 (m:Int)).toNat=m:=by
  rw[BitVec.toNat_ofInt]
  have:((2 ^ 64:Nat):Int)=18446744073709551616:=rfl
  rw[this];omega
 have e2:(BitVec.ofInt 64 ((2:Int) ^ k)).toNat=2 ^ k:=by
  rw[BitVec.toNat_ofInt]
  have:((2 ^ 64:Nat):Int)=18446744073709551616:=rfl
  rw[this,show((2:Int) ^ k)=((2 ^ k:Nat):Int) by simp]
  have h2:(2 ^ k:Nat)≤2 ^ 31:=Nat.pow_le_pow_right (by decide) (by omega)
  generalize 2 ^ k=q at h2 ⊢
  omega
 rw[BitVec.toNat_or,e1,e2]
 have hd':2 ^ (k+1) ∣ m:=by
  have:((2 ^ (k+1):Nat):Int) ∣ (m:Int):=by simpa using hd
  exact Int.natCast_dvd_natCast.1 this
 obtain⟨q,rfl⟩:=hd'
 rw[←Nat.two_pow_add_eq_or_of_lt (i:=k+1) (b:=2 ^ k) (Nat.pow_lt_pow_right (by decide) (by omega)) q]
 have:((2 ^ (k+1)*q+2 ^ k:Nat):Int)=((2 ^ (k+1)*q:Nat):Int)+2 ^ k:=by simp
 rw[this]
 exact w64 (by omega) (by omega)
theorem isq_dvd{r:Int}{k:Nat}(hd:(2:Int) ^ (k+1) ∣ r):(2:Int) ^ k ∣ r:=Int.dvd_trans ⟨2,by rw[Int.pow_succ]⟩ hd
theorem isq_next{r:Int}{k:Nat}(hd:(2:Int) ^ (k+1) ∣ r):(2:Int) ^ k ∣ r+2 ^ k:=Int.dvd_add (isq_dvd hd) (Int.dvd_refl _)
theorem tdiv_bnd{n t:Int}(h0:0≤n)(h1:n≤9223372036854775807)(ht:1≤t):i64.wrap (n.tdiv t)=n.tdiv t:=by
 rw[Int.tdiv_eq_ediv_of_nonneg h0]
 have a:=Int.ediv_nonneg h0 (show 0≤t by omega)
 have b:=Int.ediv_le_self t h0
 exact w64 (by omega) (by omega)
theorem iq_loop{n:Int}(h0:0≤n)(h1:n≤9223372036854775807):∀ (k:Nat) (r:Int),k≤32→0≤r→r+2 ^ k≤4294967296→(2:Int) ^ k ∣ r→
  RunsR Tryz.prog (fnOf Tryz.prog 269) (.tuple [I64 (isqL n k r),I64 0]) (loopOf Tryz.prog 269 0) (slotsS 23 [(0,I64 n),(4,I64 r),(5,I64 (bitv k))]) []
 |k,r,hk,hr,hs,hd=>by
  refine runsR_seg k0 (n:=1000) (hint:=.unit) (keep:=keepS 23 [0,4,5]) (p:=iq1_p) rfl ?_
  match k,hk,hs,hd with
  |0,hk,hs,hd=>
   erw [iq1 n r 0]
   exact⟨fun h=>absurd (of_decide_eq_true h) (by decide),fun _=>rfl⟩
  |k+1,hk,hs,hd=>
   have hp:=pow_pos' k
   have hp2:=pow_le32 (show k<32 by omega)
   have e2:(2:Int) ^ (k+1)=2 ^ k+2 ^ k:=by rw[Int.pow_succ];omega
   have e3:(2:Int) ^ k / 2=bitv k:=bitv_half k
   erw [iq1 n r (2 ^ k)]
   unfold iq1_t
   refine⟨fun _=>?_,fun h=>absurd (of_decide_eq_false h) (by omega)⟩
   rw[or64 (by omega) hr (by omega) hd,tdiv_bnd h0 h1 (by omega),Int.fdiv_eq_ediv_of_nonneg _ (by omega),e3]
   refine⟨by simp;omega,fun h=>⟨rfl,slotsS_len _ _,?_⟩,fun h=>⟨rfl,slotsS_len _ _,?_⟩⟩
   ·have:=iq_loop h0 h1 k (r+2 ^ k) (by omega) (by omega) (by omega) (isq_next hd)
    rw[isqL,if_pos (of_decide_eq_true h)];exact this
   ·have:=iq_loop h0 h1 k r (by omega) (by omega) (by omega) (isq_dvd hd)
    rw[isqL,if_neg (of_decide_eq_false h)];exact this
theorem iqR_loop{n:Int}(h0:0≤n)(h1:n≤9223372036854775807):∀ (k:Nat) (r:Int),k≤32→0≤r→r+2 ^ k≤4294967296→
  RunsR Tryz.prog (fnOf Tryz.prog 240) (.tuple [I64 (isqL n k r),I64 0]) (loopOf Tryz.prog 240 0) (slotsS 25 [(0,I64 n),(4,I64 r),(5,I64 (bitv k))]) []
 |k,r,hk,hr,hs=>by
  refine runsR_seg k0 (n:=1000) (hint:=.unit) (keep:=keepS 25 [0,4,5]) (p:=iqR1_p) rfl ?_
  match k,hk,hs with
  |0,hk,hs=>
   erw [iqR1 n r 0]
   exact⟨fun h=>absurd (of_decide_eq_true h) (by decide),fun _=>rfl⟩
  |k+1,hk,hs=>
   have hp:=pow_pos' k
   have hp2:=pow_le32 (show k<32 by omega)
   have e2:(2:Int) ^ (k+1)=2 ^ k+2 ^ k:=by rw[Int.pow_succ];omega
   have e3:i64.wrap ((2:Int) ^ k |>.tdiv 2)=bitv k:=by rw[Int.tdiv_eq_ediv_of_nonneg (by omega),w64 (by omega) (by omega)];exact bitv_half k
   erw [iqR1 n r (2 ^ k)]
   unfold iqR1_t
   refine⟨fun _=>?_,fun h=>absurd (of_decide_eq_false h) (by omega)⟩
   rw[w64 (x:=r+2 ^ k) (by omega) (by omega),tdiv_bnd h0 h1 (by omega),e3]
   refine⟨by simp;omega,fun h=>⟨rfl,slotsS_len _ _,?_⟩,fun h=>⟨rfl,slotsS_len _ _,?_⟩⟩
   ·have:=iqR_loop h0 h1 k (r+2 ^ k) (by omega) (by omega) (by omega)
    rw[isqL,if_pos (of_decide_eq_true h)];exact this
   ·have:=iqR_loop h0 h1 k r (by omega) (by omega) (by omega)
    rw[isqL,if_neg (of_decide_eq_false h)];exact this
theorem s_isq(n:Int)(h0:0≤n)(h1:n≤9223372036854775807):SCall Tryz.prog 269 [I64 n] (.tuple [I64 (isq n),I64 0]):=by
 refine scallR_loops rfl rfl (by kernel_rfl) (runsR_seg k0 (n:=1000) (hint:=.unit) (keep:=keepS 23 [0,4,5]) (p:=iq0_p) (boxes:=[]) rfl ?_)
 have e:=iq0 n
 unfold startS codeS at e
 erw [e]
 exact⟨fun h=>absurd (of_decide_eq_true h) (by omega),fun _=>⟨slotsS_len _ _,iq_loop h0 h1 32 0 (by omega) (by omega) (by decide) (Int.dvd_zero _)⟩⟩
theorem s_isqR(n:Int)(h0:0≤n)(h1:n≤9223372036854775807):SCall Tryz.prog 240 [I64 n] (.tuple [I64 (isq n),I64 0]):=by
 refine scallR_loops rfl rfl (by kernel_rfl) (runsR_seg k0 (n:=1000) (hint:=.unit) (keep:=keepS 25 [0,4,5]) (p:=iqR0_p) (boxes:=[]) rfl ?_)
 have e:=iqR0 n
 unfold startS codeS at e
 erw [e]
 exact⟨fun h=>absurd (of_decide_eq_true h) (by omega),fun _=>⟨slotsS_len _ _,iqR_loop h0 h1 32 0 (by omega) (by omega) (by decide)⟩⟩
def isqT(n:Int):Tree SV:=.req (inR n 0 9223372036854775807) (.leaf (.tuple [I64 (isq n),I64 0]))
def fIsq:Fact:=factI 269 isqT
def fIsqR:Fact:=factI 240 isqT
theorem o_isq:fIsq.ok Tryz.prog:=factI_ok fun n h=>s_isq n (inR_iff.1 h).1 (inR_iff.1 h).2
theorem o_isqR:fIsqR.ok Tryz.prog:=factI_ok fun n h=>s_isqR n (inR_iff.1 h).1 (inR_iff.1 h).2
def crL(l:List Bk)(i:Nat):Int:=(l.getD i dBk).2.2.2.1
def capL(caps:List Int)(i:Nat):Int:=caps.getD i 0
def reL(l:List Bk)(i:Nat):Int:=rea (l.getD i dBk)
def uL(l:List Bk)(caps:List Int):Nat→Int:=capU (crL l) (capL caps) l.length
def fL(l:List Bk)(caps:List Int)(e:Int):Nat→Int:=fwd (uL l caps) (reL l) e
def gL(l:List Bk)(caps:List Int)(e:Int):Nat→Int:=grt (uL l caps) (reL l) e l.length
structure PlOk (l:List Bk) (caps:List Int) (e:Int):Prop where
 ne:1≤l.length
 snd:∀b∈l,soundB b=true
 len:caps.length=l.length
 cap:∀c∈caps,0≤c∧c≤1099511627776
 ent:0≤e∧e≤1099511627776
section
variable {l:List Bk} {caps:List Int} {e:Int}
theorem getD_all{α:Type}{p:α→Prop}{l:List α}{d:α}(h:∀x∈l,p x)(hd:p d)(i:Nat):p (l.getD i d):=by
 rw[List.getD_eq_getElem?_getD]
 cases hx:l[i]? with
 |none=>exact hd
 |some x=>exact h x (List.mem_of_getElem? hx)
theorem getD_in{α:Type}{p:α→Prop}{l:List α}{d:α}(h:∀x∈l,p x){i:Nat}(hi:i<l.length):p (l.getD i d):=by
 rw[List.getD_eq_getElem?_getD,List.getElem?_eq_getElem hi]
 exact h _ (List.getElem_mem hi)
theorem PlOk.capR(h:PlOk l caps e)(i:Nat):0≤capL caps i∧capL caps i≤1099511627776:=getD_all (p:=fun c=>0≤c∧c≤1099511627776) h.cap (by decide) i
theorem PlOk.crR(h:PlOk l caps e)(i:Nat):0≤crL l i∧crL l i≤1099511627776:=getD_all (p:=fun b:Bk=>0≤b.2.2.2.1∧b.2.2.2.1≤1099511627776) (fun b hb=>by have:=soundB_iff.1 (h.snd b hb);omega) (by decide) i
theorem rea_rng{b:Bk}(h:soundB b=true):0≤rea b∧rea b≤562949953421312:=by
 have d:=dom_range b.1
 have q:=(soundB_iff.1 h).2.1
 have p:0≤b.2.1*dom b.1∧b.2.1*dom b.1≤16777216*16777216:=⟨Int.mul_nonneg (by omega) d.1,Int.mul_le_mul q.2 d.2 d.1 (by omega)⟩
 have e:2*b.2.1*dom b.1=2*(b.2.1*dom b.1):=Int.mul_assoc _ _ _
 unfold rea;omega
theorem PlOk.reR(h:PlOk l caps e)(i:Nat):0≤reL l i∧reL l i≤562949953421312:=getD_all (p:=fun b:Bk=>0≤rea b∧rea b≤562949953421312) (fun b hb=>rea_rng (h.snd b hb)) (by decide) i
theorem PlOk.lim(h:PlOk l caps e):Lim (uL l caps) (reL l) e l.length:=capU_lim h.ne h.ent.1 (fun i=>(h.capR i).1) (fun i=>(h.crR i).1) fun i=>(h.reR i).1
theorem uL_le(h:PlOk l caps e)(i:Nat):uL l caps i≤1099511627776:=by
 have:=h.capR i
 unfold uL capU;split<;>omega
theorem fL_rng(h:PlOk l caps e)(i:Nat):0≤fL l caps e i∧fL l caps e i≤1099511627776:=by
 refine⟨fwd_nonneg h.lim i,?_⟩
 cases i with
 |zero=>exact h.ent.2
 |succ i=>have:=uL_le h (i+1);unfold fL;simp only[fwd];omega
theorem fL_succ(i:Nat):fL l caps e (i+1)=min (uL l caps (i+1)) (fL l caps e i+reL l i):=rfl
theorem gL_rng(h:PlOk l caps e){i:Nat}(hi:i≤l.length):0≤gL l caps e i∧gL l caps e i≤1099511627776:=by
 have h1:=grt_nonneg h.lim _ i rfl hi
 have h2:=grt_le_fwd (u:=uL l caps) (r:=reL l) (e:=e) hi
 have h3:=fL_rng h i
 unfold fL at h3;unfold gL;omega
theorem gL_step{i:Nat}(hi:i<l.length):gL l caps e i=min (fL l caps e i) (gL l caps e (i+1)+reL l i):=grt_step hi
theorem gL_n:gL l caps e l.length=fL l caps e l.length:=grt_n
theorem uL_in{i:Nat}(h0:0<i)(hi:i<l.length):uL l caps i=min (capL caps i) (min (crL l (i-1)) (crL l i)):=if_pos ⟨h0,hi⟩
theorem uL_n:uL l caps l.length=0:=if_neg (by omega)
theorem set_getD{s:List Int}{i j:Nat}{v:Int}(hi:i<s.length):(s.set i v).getD j 0=if i=j then v else s.getD j 0:=by
 rw[List.getD_eq_getElem?_getD,List.getElem?_set]
 split
 ·rename_i hij;subst hij;simp[hi]
 ·rw[List.getD_eq_getElem?_getD]
theorem list_eq_map{s:List Int}{n:Nat}{g:Nat→Int}(hl:s.length=n)(h:∀j,j<n→s.getD j 0=g j):s=(List.range n).map g:=by
 apply List.ext_getElem?
 intro j
 by_cases hj:j<n
 ·have:=h j hj
  rw[List.getD_eq_getElem?_getD,List.getElem?_eq_getElem (by omega)]at this
  rw[List.getElem?_eq_getElem (by omega)]
  simp[hj]
  exact this
 ·rw[List.getElem?_eq_none (by omega),List.getElem?_eq_none (by simp;omega)]
theorem gr2_loop(h:PlOk l caps e)(hlen:l.length<4611686018427387904):∀ (k:Nat) (s:List Int) (j:Int),k≤l.length→s.length=l.length+1→(∀t,t<k→s.getD t 0=fL l caps e t)→(∀t,k≤t→t≤l.length→s.getD t 0=gL l caps e t)→
  RunsR Tryz.prog (fnOf Tryz.prog 291) (LI ((List.range (l.length+1)).map (gL l caps e))) (loopOf Tryz.prog 291 1) (slotsS 97 [(0,LB l),(1,LI caps),(2,I64 e),(7,I64 (l.length:Int)),(8,.row 0),(9,I64 j),(10,I64 ((k:Int)-1))]) [some (.rows (.int .i64) s)]
 |k,s,j,hk,hs,h1,h2=>by
  refine runsR_seg (kW (l:=[fRea]) ⟨o_rea,trivial⟩) (n:=1000) (hint:=.unit) (keep:=keepS 97 [0,1,2,7,8,9,10]) (p:=gr2_p) rfl ?_
  erw [gr2 l caps e l.length s ((k:Int)-1) j]
  unfold gr2_t
  match k,hk,h1,h2 with
  |0,hk,h1,h2=>
   refine⟨fun c=>absurd (of_decide_eq_true c) (by omega),fun _=>?_⟩
   show LI s=_
   rw[list_eq_map hs fun t ht=>h2 t (Nat.zero_le _) (by omega)]
  |k+1,hk,h1,h2=>
   have e0:((k+1:Nat):Int)-1=(k:Int):=by omega
   have w1:i64.wrap ((k:Int)+1)=((k+1:Nat):Int):=by rw[w64 (by omega) (by omega)];omega
   have w2:i64.wrap ((k:Int)-1)=(k:Int)-1:=w64 (by omega) (by omega)
   have t1:((k+1:Nat):Int).toNat=k+1:=by omega
   have t0:(k:Int).toNat=k:=by omega
   have g1:=h2 (k+1) (by omega) (by omega)
   have f1:=h1 k (by omega)
   have r1:=gL_rng h (i:=k+1) (by omega)
   have r2:=h.reR k
   have r3:=fL_rng h k
   have w3:i64.wrap (s.getD (k+1) 0+rea (l.getD k dBk))=gL l caps e (k+1)+reL l k:=by rw[g1];exact w64 (by unfold reL at r2;omega) (by unfold reL at r2;omega)
   have hsb:soundB (l.getD k dBk)=true:=getD_in (p:=fun b=>soundB b=true) h.snd (by omega)
   rw[e0]
   refine⟨fun c=>?_,fun c=>absurd (of_decide_eq_false c) (by omega)⟩
   simp only[w1,w2,t1,t0,w3,hsb,Tree.holds,Bool.and_eq_true,decide_eq_true_eq]
   refine⟨by omega,by omega,by omega,by omega,by omega,trivial,by omega,by omega,slotsS_len _ _,?_⟩
   have hv:(if gL l caps e (k+1)+reL l k<s.getD k 0 then gL l caps e (k+1)+reL l k else s.getD k 0)=gL l caps e k:=by
    rw[gL_step (i:=k) (by omega),f1]
    split<;>omega
   rw[hv]
   refine gr2_loop h hlen k (s.set k (gL l caps e k)) j (by omega) (by simpa using hs) (fun t ht=>?_) (fun t ht1 ht2=>?_)
   ·rw[set_getD (by omega),if_neg (by omega)];exact h1 t (by omega)
   ·rw[set_getD (by omega)]
    split
    ·rename_i hkt;subst hkt;rfl
    ·exact h2 t (by omega) ht2
theorem gr1_loop(h:PlOk l caps e)(hlen:l.length<4611686018427387904):∀ (k i:Nat) (s:List Int),i+k=l.length→1≤i→s.length=l.length+1→(∀t,t<i→s.getD t 0=fL l caps e t)→
  RunsR Tryz.prog (fnOf Tryz.prog 291) (LI ((List.range (l.length+1)).map (gL l caps e))) (loopOf Tryz.prog 291 0) (slotsS 97 [(0,LB l),(1,LI caps),(2,I64 e),(7,I64 (l.length:Int)),(8,.row 0),(9,I64 (i:Int)),(10,.undef)]) [some (.rows (.int .i64) s)]
 |k,i,s,hi,h1,hs,hf=>by
  have e1:((i:Int)-1)=((i-1:Nat):Int):=by omega
  have w1:i64.wrap (((i-1:Nat):Int))=((i-1:Nat):Int):=w64 (by omega) (by omega)
  have w2:i64.wrap ((i:Int)+1)=((i+1:Nat):Int):=by rw[w64 (by omega) (by omega)];omega
  have t0:(i:Int).toNat=i:=by omega
  have t1:((i-1:Nat):Int).toNat=i-1:=by omega
  have f1:=hf (i-1) (by omega)
  have r2:=h.reR (i-1)
  have r3:=fL_rng h (i-1)
  have hsb:soundB (l.getD (i-1) dBk)=true:=getD_in (p:=fun b=>soundB b=true) h.snd (by omega)
  have w3:i64.wrap (s.getD (i-1) 0+rea (l.getD (i-1) dBk))=fL l caps e (i-1)+reL l (i-1):=by rw[f1];exact w64 (by unfold reL at r2;omega) (by unfold reL at r2;omega)
  refine runsR_seg (kW (l:=[fRea]) ⟨o_rea,trivial⟩) (n:=1000) (hint:=.unit) (keep:=keepS 97 [0,1,2,7,8,9,10]) (p:=gr1_p) rfl ?_
  erw [gr1 l caps e l.length s i]
  unfold gr1_t
  have hfs:fL l caps e i=min (uL l caps i) (fL l caps e (i-1)+reL l (i-1)):=by
   have:=fL_succ (l:=l) (caps:=caps) (e:=e) (i-1)
   rwa [show i-1+1=i by omega]at this
  match k,hi with
  |0,hi=>
   have hin:i=l.length:=by omega
   subst hin
   refine⟨fun c=>absurd (of_decide_eq_true c) (by omega),fun _=>?_⟩
   simp only[e1,w1,t0,t1,w3,hsb,Tree.holds,Bool.and_eq_true,decide_eq_true_eq]
   refine⟨by omega,by omega,by omega,trivial,by omega,by omega,slotsS_len _ _,?_⟩
   have hv:(if fL l caps e (l.length-1)+reL l (l.length-1)<0 then fL l caps e (l.length-1)+reL l (l.length-1)else 0)=fL l caps e l.length:=by
    rw[hfs,uL_n];split<;>omega
   rw[hv,←e1]
   refine gr2_loop h hlen l.length _ _ (Nat.le_refl _) (by simpa using hs) (fun t ht=>?_) (fun t ht1 ht2=>?_)
   ·rw[set_getD (by omega),if_neg (by omega)];exact hf t ht
   ·rw[set_getD (by omega),if_pos (by omega),show t=l.length by omega,gL_n]
  |k+1,hi=>
   refine⟨fun _=>?_,fun c=>absurd (of_decide_eq_false c) (by omega)⟩
   have hv:∀a b c d:Int,(if d< (if b< (if a<c then a else c)then b else if a<c then a else c)then d else if b< (if a<c then a else c)then b else if a<c then a else c)=min (min c (min a b)) d:=fun a b c d=>by(repeat' split)<;>omega
   have hlen2:=h.len
   simp only[e1,w1,w2,t0,t1,w3,hsb,hv,Tree.holds,Bool.and_eq_true,decide_eq_true_eq]
   refine⟨by omega,by omega,by omega,by omega,by omega,by omega,trivial,by omega,by omega,slotsS_len _ _,?_⟩
   have hx:min (min (caps.getD i 0) (min (l.getD (i-1) dBk).2.2.2.1 (l.getD i dBk).2.2.2.1)) (fL l caps e (i-1)+reL l (i-1))=fL l caps e i:=by
    rw[hfs,uL_in (by omega) (by omega)];rfl
   rw[hx]
   refine gr1_loop h hlen k (i+1) (s.set i (fL l caps e i)) (by omega) (by omega) (by simpa using hs) (fun t ht=>?_)
   rw[set_getD (by omega)]
   split
   ·rename_i hit;subst hit;rfl
   ·exact hf t (by omega)
theorem s_gre(h:PlOk l caps e)(hlen:l.length<4611686018427387904)(hsz:8*((l.length:Int)+1)≤140737488355328):SCall Tryz.prog 291 [LB l,LI caps,I64 e] (LI ((List.range (l.length+1)).map (gL l caps e))):=by
 refine scallR_loops rfl rfl (by kernel_rfl) (runsR_seg (kW (l:=[fRea]) ⟨o_rea,trivial⟩) (n:=1000) (hint:=.unit) (keep:=keepS 97 [0,1,2,7,8,9,10]) (p:=gr0_p) (boxes:=[]) rfl ?_)
 have q:=gr0 l caps e
 unfold startS codeS at q
 erw [q]
 unfold gr0_t
 have w1:i64.wrap ((l.length:Int)+1)=((l.length+1:Nat):Int):=by rw[w64 (by omega) (by omega)];omega
 have t1:((l.length+1:Nat):Int).toNat=l.length+1:=by omega
 have hne:=h.ne
 simp only[w1,t1,Tree.holds,Bool.and_eq_true,decide_eq_true_eq,beq_self_eq_true,List.length_replicate]
 refine⟨⟨⟨⟨by omega,trivial⟩,by omega⟩,by omega⟩,by omega,by omega,slotsS_len _ _,?_⟩
 have:=gr1_loop h hlen (l.length-1) 1 ((List.replicate (l.length+1) (0:Int)).set 0 e) (by omega) (by omega) (by simp) (fun t ht=>by
  obtain rfl:t=0:=by omega
  rw[set_getD (by simp)];rfl)
 exact this
end
def okPl(l:List Bk)(caps:List Int)(e:Int):Bool:=decide (1≤l.length)&& (decide (l.length≤1000000)&& (l.all soundB&& (decide (caps.length=l.length)&& (caps.all (fun c=>inR c 0 1099511627776)&&inR e 0 1099511627776))))
theorem okPl_iff{l:List Bk}{caps:List Int}{e:Int}:okPl l caps e=true↔l.length≤1000000∧PlOk l caps e:=by
 simp only[okPl,Bool.and_eq_true,decide_eq_true_eq,List.all_eq_true,inR_iff]
 exact⟨fun⟨h1,h2,h3,h4,h5,h6⟩=>⟨h2,h1,h3,h4,h5,h6⟩,fun⟨h2,h1,h3,h4,h5,h6⟩=>⟨h1,h2,h3,h4,h5,h6⟩⟩
def grL(l:List Bk)(caps:List Int)(e:Int):List Int:=(List.range (l.length+1)).map (gL l caps e)
def factPl(f:FuncId)(h:List Bk→List Int→Int→Tree SV):Fact:=⟨f,fun args=>match args with
 |[.list (.pair (.pair (.int .i64) (.pair (.int .i64) (.pair (.int .i64) (.int .i64)))) (.pair (.int .i64) (.pair (.int .i64) (.pair (.int .i64) (.int .i64))))) l,.list (.int .i64) caps,.int .i64 e] =>some (h l caps e)
 |_=>none⟩
theorem factPl_ok{P:Program}{f:FuncId}{h:List Bk→List Int→Int→Tree SV}(k:∀l caps e,(h l caps e).says (SCall P f [LB l,LI caps,I64 e])):(factPl f h).ok P:=fun args t ht=>by
 simp only[factPl]at ht
 split at ht
 ·injection ht with ht;subst ht;exact k _ _ _
 ·cases ht
def fGre:Fact:=factPl 291 fun l caps e=>.req (okPl l caps e) (.leaf (LI (grL l caps e)))
theorem o_gre:fGre.ok Tryz.prog:=factPl_ok fun l caps e h=>s_gre (okPl_iff.1 h).2 (by have:=(okPl_iff.1 h).1;omega) (by have:=(okPl_iff.1 h).1;omega)
def pl0_p:Plan:=.all
noncomputable def pl0_t(l:List Bk)(caps:List Int)(e:Int):Tree Stop:= .leaf (.at (loopOf Tryz.prog 262 0) 100 (slotsS 100 [(0,.list tyBk l),(1,.list (Ty.int IntKind.i64) caps),(2,.int .i64 e),(10,SV.undef),(11,SV.undef),(13,.list tyBk l),(14,.int .i64 (↑l.length:Int)),(15,.int .i64 0),(72,SV.undef),(73,SV.undef)]) [])
theorem pl0(l:List Bk)(caps:List Int)(e:Int):segR (Env.of Tryz.prog (sumOf [fSnd,fGre])) 1000 (fnOf Tryz.prog 262) tyBk (keepS 100 [0,1,2,10,11,13,14,15,72,73]) (codeS Tryz.prog 262) pl0_p (startS Tryz.prog 262 [LB l,LI caps,I64 e]) [] =pl0_t l caps e:=by kernel_rfl
def pl1_p:Plan:=.fork (.fork .all .all) (.fork (.ln 5 (.lit .all)) (.ln 3 (.fork (.lit (.lit (.fork (.ln 10 (.lit .all)) (.ln 10 (.fork .all (.fork .all (.fork (.ln 6 (.lit .all)) (.ln 6 (.fork .all .all))))))))) (.ln 7 (.fork .all (.fork (.ln 6 (.lit .all)) (.ln 6 (.fork .all .all))))))))
noncomputable def pl1_t(l:List Bk)(caps:List Int)(e i:Int):Tree Stop:=let y1:=(↑l.length:Int);let y2:Tree Stop:=.leaf (.done (.tuple [.list tyBk [],.int .i64 1]));let y3:=Ty.int IntKind.i64;let y0:Tree Stop:=.node (y1==0) (.leaf (.done (.tuple [.list tyBk [],.int .i64 0]))) (.req (okPl l caps e) (.req (decide (0< (↑(grL l caps e).length:Int))) (.node ((grL l caps e).getD 0 0 != e) (.leaf (.done (.tuple [.list tyBk [],.int .i64 8]))) (.req (decide (0≤y1)&&decide (y1< (↑(grL l caps e).length:Int))) (.node ((grL l caps e).getD y1.toNat 0 != 0) (.leaf (.done (.tuple [.list tyBk [],.int .i64 8]))) (.req (decide (0≤y1)&&y1==y1&&decide (64*y1≤140737488355328)&&decide (y1≤(9223372036854775807:Int))) (.req (l.length==(List.replicate y1.toNat ((tyOf.rep y3 4).pair (y3.pair (y3.pair (y3.pair y3)))).dflt).length&&!l.isEmpty) (.leaf (.at (loopOf Tryz.prog 262 1) 100 (slotsS 100 [(0,.list tyBk l),(1,.list y3 caps),(2,.int .i64 e),(10,.list y3 (grL l caps e)),(11,SV.row 0),(13,.list tyBk l),(14,.int .i64 y1),(15,.int .i64 i),(72,.int .i64 y1),(73,.int .i64 0)]) [some (.rows tyBk l)]))))))))); .node (decide (i<y1)) (.req (decide (0≤i)&&decide (i<y1)) (.node (!soundB (l.getD i.toNat dBk)) y2 (.leaf (.at (loopOf Tryz.prog 262 0) 100 (slotsS 100 [(0,.list tyBk l),(1,.list y3 caps),(2,.int .i64 e),(10,SV.undef),(11,SV.undef),(13,.list tyBk l),(14,.int .i64 y1),(15,.int .i64 (i64.wrap (i+1))),(72,SV.undef),(73,SV.undef)]) [])))) (.node (y1 !=(↑caps.length:Int)) y2 (.node (decide (y1>0)) (.node (decide (e<0)) y2 (.req (decide (0<y1)) (.node (decide (e> (l.getD 0 dBk).2.2.2.1)) y2 y0))) y0))
theorem pl1(l:List Bk)(caps:List Int)(e i:Int):segR (Env.of Tryz.prog (sumOf [fSnd,fGre])) 1000 (fnOf Tryz.prog 262) tyBk (keepS 100 [0,1,2,10,11,13,14,15,72,73]) (loopOf Tryz.prog 262 0) pl1_p (slotsS 100 [(0,LB l),(1,LI caps),(2,I64 e),(10,.undef),(11,.undef),(13,LB l),(14,I64 l.length),(15,I64 i),(72,.undef),(73,.undef)]) [] =pl1_t l caps e i:=by kernel_rfl
def pl2_p:Plan:=.fork (.fork (.all) (.all)) (.all)
noncomputable def pl2_t(l:List Bk)(caps:List Int)(e:Int)(s:List Int)(o:List Bk)(i j k:Int):Tree Stop:=let y0:=o.set i.toNat ((o.getD i.toNat dBk).1,(o.getD i.toNat dBk).2.1,s.getD i.toNat 0,(o.getD i.toNat dBk).2.2.2);let y1:=y0.getD i.toNat dBk; .node (decide (i< (↑l.length:Int))) (.req (decide (0≤i)&&decide (i< (↑s.length:Int))) (.node (decide (s.getD i.toNat 0<0)) (.leaf (.done (.tuple [.list tyBk [],.int .i64 8]))) (.req (decide (0≤i)&&decide (i< (↑s.length:Int))) (.req (decide (0≤i64.wrap (i+1))&&decide (i64.wrap (i+1)< (↑s.length:Int))) (.req (decide (0≤i)&&decide (i< (↑o.length:Int))) (.req (decide (i.toNat<o.length)) (.req (decide (0≤i)&&decide (i< (↑y0.length:Int))) (.req (decide (i.toNat<y0.length)) (.leaf (.at (loopOf Tryz.prog 262 1) 100 (slotsS 100 [(0,.list tyBk l),(1,.list (Ty.int IntKind.i64) caps),(2,.int .i64 e),(10,.list (Ty.int IntKind.i64) s),(11,SV.row 0),(13,.list tyBk l),(14,.int .i64 j),(15,.int .i64 k),(72,.int .i64 (↑l.length:Int)),(73,.int .i64 (i64.wrap (i+1)))]) [some (.rows tyBk (y0.set i.toNat (y1.1,y1.2.1,y1.2.2.1,y1.2.2.2.1,s.getD (i64.wrap (i+1)).toNat 0)))])))))))))) (.leaf (.done (.tuple [.list tyBk o,.int .i64 0])))
theorem pl2(l:List Bk)(caps:List Int)(e:Int)(s:List Int)(o:List Bk)(i j k:Int):segR (Env.of Tryz.prog (sumOf [fSnd,fGre])) 1000 (fnOf Tryz.prog 262) tyBk (keepS 100 [0,1,2,10,11,13,14,15,72,73]) (loopOf Tryz.prog 262 1) pl2_p (slotsS 100 [(0,LB l),(1,LI caps),(2,I64 e),(10,LI s),(11,.row 0),(13,LB l),(14,I64 j),(15,I64 k),(72,I64 l.length),(73,I64 i)]) [some (.rows tyBk o)] =pl2_t l caps e s o i j k:=by kernel_rfl
def setEE(b:Bk)(x y:Int):Bk:=(b.1,b.2.1,x,b.2.2.2.1,y)
def plB(l:List Bk)(g:Nat→Int):List Bk:=(List.range l.length).map fun i=>setEE (l.getD i dBk) (g i) (g (i+1))
def plS(l:List Bk)(caps:List Int)(e:Int):SV:=if e≤crL l 0 then(if gL l caps e 0=e then .tuple [LB (plB l (gL l caps e)),I64 0]else .tuple [LB [],I64 8])else .tuple [LB [],I64 1]
theorem set_getDa{α:Type}{s:List α}{d:α}{i j:Nat}{v:α}(hi:i<s.length):(s.set i v).getD j d=if i=j then v else s.getD j d:=by
 rw[List.getD_eq_getElem?_getD,List.getElem?_set]
 split
 ·rename_i hij;subst hij;simp[hi]
 ·rw[List.getD_eq_getElem?_getD]
theorem list_eq_mapa{α:Type}{s:List α}{d:α}{n:Nat}{g:Nat→α}(hl:s.length=n)(h:∀j,j<n→s.getD j d=g j):s=(List.range n).map g:=by
 apply List.ext_getElem?
 intro j
 by_cases hj:j<n
 ·have:=h j hj
  rw[List.getD_eq_getElem?_getD,List.getElem?_eq_getElem (by omega)]at this
  rw[List.getElem?_eq_getElem (by omega)]
  simp[hj]
  exact this
 ·rw[List.getElem?_eq_none (by omega),List.getElem?_eq_none (by simp;omega)]
theorem grL_get{l:List Bk}{caps:List Int}{e:Int}{t:Nat}(ht:t≤l.length):(grL l caps e).getD t 0=gL l caps e t:=by
 unfold grL
 rw[List.getD_eq_getElem?_getD,List.getElem?_map,List.getElem?_range (by omega)]
 rfl
theorem grL_len{l:List Bk}{caps:List Int}{e:Int}:(grL l caps e).length=l.length+1:=by simp[grL]
section
variable {l:List Bk} {caps:List Int} {e:Int}
theorem fsP:allOk Tryz.prog [fSnd,fGre] :=⟨o_snd,o_gre,trivial⟩
theorem pl2_loop(h:PlOk l caps e)(hlen:l.length≤1000000):∀ (k i:Nat) (o:List Bk) (j m:Int),i+k=l.length→o.length=l.length→(∀t,t<i→o.getD t dBk=setEE (l.getD t dBk) (gL l caps e t) (gL l caps e (t+1)))→(∀t,i≤t→o.getD t dBk=l.getD t dBk)→
  RunsR Tryz.prog (fnOf Tryz.prog 262) (.tuple [LB (plB l (gL l caps e)),I64 0]) (loopOf Tryz.prog 262 1) (slotsS 100 [(0,LB l),(1,LI caps),(2,I64 e),(10,LI (grL l caps e)),(11,.row 0),(13,LB l),(14,I64 j),(15,I64 m),(72,I64 l.length),(73,I64 i)]) [some (.rows tyBk o)]
 |0,i,o,j,m,hi,ho,h1,h2=>by
  refine runsR_seg (kW fsP) (n:=1000) (hint:=tyBk) (keep:=keepS 100 [0,1,2,10,11,13,14,15,72,73]) (p:=pl2_p) rfl ?_
  erw [pl2 l caps e (grL l caps e) o i j m]
  refine⟨fun c=>absurd (of_decide_eq_true c) (by omega),fun _=>?_⟩
  show SV.tuple [LB o,I64 0] =_
  rw[list_eq_mapa (d:=dBk) ho fun t ht=>h1 t (by omega)]
  rfl
 |k+1,i,o,j,m,hi,ho,h1,h2=>by
  refine runsR_seg (kW fsP) (n:=1000) (hint:=tyBk) (keep:=keepS 100 [0,1,2,10,11,13,14,15,72,73]) (p:=pl2_p) rfl ?_
  erw [pl2 l caps e (grL l caps e) o i j m]
  unfold pl2_t
  have t0:(i:Int).toNat=i:=by omega
  have w1:i64.wrap ((i:Int)+1)=((i+1:Nat):Int):=by rw[w64 (by omega) (by omega)];omega
  have t1:((i+1:Nat):Int).toNat=i+1:=by omega
  have r1:=gL_rng h (i:=i) (by omega)
  refine⟨fun _=>?_,fun c=>absurd (of_decide_eq_false c) (by omega)⟩
  simp only[t0,w1,t1,grL_get (l:=l) (caps:=caps) (e:=e) (t:=i) (by omega),grL_get (l:=l) (caps:=caps) (e:=e) (t:=i+1) (by omega),grL_len,Tree.holds,Bool.and_eq_true,decide_eq_true_eq,decide_eq_false_iff_not,List.length_set]
  refine⟨by omega,fun c=>absurd c (by omega),fun _=>⟨by omega,by omega,by omega,by omega,by omega,by omega,slotsS_len _ _,?_⟩⟩
  refine pl2_loop h hlen k (i+1) _ j m (by omega) (by simpa using ho) (fun t ht=>?_) (fun t ht=>?_)
  ·rw[set_getDa (by simp;omega)]
   split
   ·rename_i hit
    subst hit
    rw[set_getDa (by omega),if_pos rfl,h2 i (by omega)]
    rfl
   ·rename_i hit
    rw[set_getDa (by omega),if_neg hit]
    exact h1 t (by omega)
  ·rw[set_getDa (by simp;omega),if_neg (by omega),set_getDa (by omega),if_neg (by omega)]
   exact h2 t (by omega)
theorem pl1_loop(h:PlOk l caps e)(hlen:l.length≤1000000):∀ (k i:Nat),i+k=l.length→
  RunsR Tryz.prog (fnOf Tryz.prog 262) (plS l caps e) (loopOf Tryz.prog 262 0) (slotsS 100 [(0,LB l),(1,LI caps),(2,I64 e),(10,.undef),(11,.undef),(13,LB l),(14,I64 l.length),(15,I64 i),(72,.undef),(73,.undef)]) []
 |k,i,hi=>by
  have hd:(plS l caps e).data=true:=by unfold plS;(repeat' split)<;>rfl
  refine runsR_seg (kW fsP) (n:=1000) (hint:=tyBk) (keep:=keepS 100 [0,1,2,10,11,13,14,15,72,73]) (p:=pl1_p) hd ?_
  erw [pl1 l caps e i]
  unfold pl1_t
  have t0:(i:Int).toNat=i:=by omega
  have tl:(l.length:Int).toNat=l.length:=by omega
  match k,hi with
  |k+1,hi=>
   have w1:i64.wrap ((i:Int)+1)=((i+1:Nat):Int):=by rw[w64 (by omega) (by omega)];omega
   have hsb:soundB (l.getD i dBk)=true:=getD_in (p:=fun b=>soundB b=true) h.snd (by omega)
   have hi2:(i:Int)<l.length:=by omega
   have:=pl1_loop h hlen k (i+1) (by omega)
   simp only[t0,w1,hsb,hi2,Tree.holds,Bool.and_eq_true,decide_eq_true_eq,decide_eq_false_iff_not,Bool.not_true,Bool.false_eq_true,false_implies,true_and,not_true_eq_false,and_true,true_implies]
   exact⟨by omega,slotsS_len _ _,this⟩
  |0,hi=>
   have hi2:¬((i:Int)<l.length):=by omega
   have hne:=h.ne
   have hl:=h.len
   have he:=h.ent
   have ok:okPl l caps e=true:=okPl_iff.2 ⟨hlen,h⟩
   have g0:=grL_get (l:=l) (caps:=caps) (e:=e) (t:=0) (by omega)
   have gn:gL l caps e l.length=0:=grt_last h.lim
   have gnn:=grL_get (l:=l) (caps:=caps) (e:=e) (t:=l.length) (Nat.le_refl _)
   have fin:=pl2_loop h hlen l.length 0 l (l.length:Int) (i:Int) (by omega) rfl (fun t ht=>absurd ht (Nat.not_lt_zero _)) (fun t _=>rfl)
   have lz:((l.length:Int)==0)=false:=beq_eq_false_iff_ne.2 (by omega)
   have le:l.isEmpty=false:=by cases l with
    |nil=>simp at hne
    |cons=>rfl
   have lc:((l.length:Int) !=(caps.length:Int))=false:=bne_eq_false_iff_eq.2 (by omega)
   unfold plS
   simp only[t0,tl,hi2,lc,lz,le,ok,g0,gn,gnn,grL_len,List.length_replicate,Tree.holds,Bool.and_eq_true,decide_eq_true_eq,decide_eq_false_iff_not,Bool.false_eq_true,false_implies,true_and,true_implies,not_false_eq_true,bne_iff_ne,bne_eq_false_iff_eq,ne_eq,beq_self_eq_true]
   have hc:crL l 0=(l.getD 0 dBk).2.2.2.1:=rfl
   have no:¬¬True:=fun c=>c trivial
   refine⟨fun _=>⟨fun a=>absurd a (by omega),fun _=>⟨by omega,fun a=>?_,fun a=>⟨by omega,fun b=>?_,fun b=>⟨⟨by omega,by omega⟩,fun c=>absurd c no,⟨⟨⟨by omega,trivial⟩,by omega⟩,by omega⟩,rfl,slotsS_len _ _,?_⟩⟩⟩⟩,fun a=>absurd a (by omega)⟩
   ·rw[if_neg (by omega)];rfl
   ·rw[if_pos (by omega),if_neg b];rfl
   ·rw[if_pos (by omega),if_pos b];exact fin
theorem s_pla(h:PlOk l caps e)(hlen:l.length≤1000000):SCall Tryz.prog 262 [LB l,LI caps,I64 e] (plS l caps e):=by
 have hd:(plS l caps e).data=true:=by unfold plS;(repeat' split)<;>rfl
 refine scallR_loops rfl hd (by kernel_rfl) (runsR_seg (kW fsP) (n:=1000) (hint:=tyBk) (keep:=keepS 100 [0,1,2,10,11,13,14,15,72,73]) (p:=pl0_p) (boxes:=[]) hd ?_)
 have q:=pl0 l caps e
 unfold startS codeS at q
 erw [q]
 unfold pl0_t
 exact⟨slotsS_len _ _,pl1_loop h hlen l.length 0 (by omega)⟩
end
def plT(l:List Bk)(caps:List Int)(e:Int):Tree SV:=.req (okPl l caps e) (.node (decide (e≤crL l 0)) (.node (decide (gL l caps e 0=e)) (.leaf (.tuple [LB (plB l (gL l caps e)),I64 0])) (.leaf (.tuple [LB [],I64 8]))) (.leaf (.tuple [LB [],I64 1])))
theorem plT_says{f:FuncId}{l:List Bk}{caps:List Int}{e:Int}(k:okPl l caps e=true→SCall Tryz.prog f [LB l,LI caps,I64 e] (plS l caps e)):(plT l caps e).says (SCall Tryz.prog f [LB l,LI caps,I64 e]):=fun ok=>by
 have k:=k ok
 unfold plS at k
 refine⟨fun a=>⟨fun b=>?_,fun b=>?_⟩,fun a=>?_⟩
 ·rw[if_pos (of_decide_eq_true a),if_pos (of_decide_eq_true b)]at k;exact k
 ·rw[if_pos (of_decide_eq_true a),if_neg (of_decide_eq_false b)]at k;exact k
 ·rw[if_neg (of_decide_eq_false a)]at k;exact k
def fPla:Fact:=factPl 262 plT
theorem o_pla:fPla.ok Tryz.prog:=factPl_ok fun l caps e=>plT_says fun ok=>s_pla (okPl_iff.1 ok).2 (okPl_iff.1 ok).1
section
variable {l:List Bk} {caps:List Int} {e:Int}
end
section
variable {l:List Bk} {caps:List Int} {e:Int}
def iv(l:List Bk)(caps:List Int)(e:Int)(t:Nat):Int:=if t=0 then e else uL l caps t
end
section
variable {l:List Bk} {caps:List Int} {e:Int} {s:List Int}
end
section
variable {l:List Bk} {caps:List Int} {e:Int}
end
def mn(a b:Int):Int:=if b<a then b else a
def sqv(b:Bk)(i:Int):Int:=match validB b&&inR i 1 (dom b.1)with
 |true=>mn (mn b.2.2.2.1 (b.2.2.1+2*b.2.1*i)) (b.2.2.2.2+2*b.2.1*(dom b.1+1-i))
 |false=>0
theorem sqv_no{b:Bk}{i:Int}(h:¬(validB b=true∧1≤i∧i≤dom b.1)):sqv b i=0:=by
 unfold sqv
 cases q:validB b&&inR i 1 (dom b.1)with
 |false=>rfl
 |true=>rw[Bool.and_eq_true,inR_iff]at q;exact absurd q h
theorem sqv_yes{b:Bk}{i:Int}(h:validB b=true∧1≤i∧i≤dom b.1):sqv b i=mn (mn b.2.2.2.1 (b.2.2.1+2*b.2.1*i)) (b.2.2.2.2+2*b.2.1*(dom b.1+1-i)):=by
 unfold sqv;rw[show(validB b&&inR i 1 (dom b.1))=true by rw[Bool.and_eq_true,inR_iff];exact h]
theorem acc_bnd{a j:Int}(ha:1≤a∧a≤16777216)(hj:1≤j∧j≤16777217):2≤2*a*j∧2*a*j≤562949986975744:=by
 have e:2*a*j=2*(a*j):=Int.mul_assoc _ _ _
 have h1:1*1≤a*j:=Int.mul_le_mul ha.1 hj.1 (by omega) (by omega)
 have h2:a*j≤16777216*16777217:=Int.mul_le_mul ha.2 hj.2 (by omega) (by omega)
 omega
theorem sqv_bnd{b:Bk}{i:Int}(h:validB b=true∧1≤i∧i≤dom b.1):1≤sqv b i∧sqv b i≤1099511627776:=by
 have v:=validB_iff.1 h.1
 have d:=dom_range b.1
 have p:=acc_bnd v.1.2.1 (j:=i) (by omega)
 have q:=acc_bnd v.1.2.1 (j:=dom b.1+1-i) (by omega)
 rw[sqv_yes h];unfold mn;(repeat' split)<;>omega
theorem sqv_all(b:Bk)(i:Int):0≤sqv b i∧sqv b i≤1099511627776:=by
 by_cases h:validB b=true∧1≤i∧i≤dom b.1
 ·have:=sqv_bnd h;omega
 ·rw[sqv_no h];omega
theorem s_sqv(b:Bk)(i:Int):SCall Tryz.prog 245 [Bk.sv b,I64 i] (I64 (sqv b i)):=
 scall_vE (hB (l:=[fVld,fDom]) (k:=[]) (j:=[]) (i:=[]) ([] :List Nat) ([277] :List Nat) ([] :List Nat) ([] :List Nat) (⟨o_vld,o_dom,trivial⟩) noneOk noneOk noneOk) 1000 (.fork .all (.fork (.ln 3 (.lit .all)) (.ln 3 (.fork .all .all))))
  (t:=.node (!validB b) (.leaf (.int .i64 0)) (.node (decide (i<1)) (.leaf (.int .i64 0)) (.node (decide (i>dom b.1)) (.leaf (.int .i64 0)) (.leaf (.int .i64 (if i64.wrap (b.2.2.2.2+i64.wrap (i64.wrap (2*b.2.1)*i64.wrap (i64.wrap (dom b.1+1)-i)))<if i64.wrap (b.2.2.1+i64.wrap (i64.wrap (2*b.2.1)*i))<b.2.2.2.1 then i64.wrap (b.2.2.1+i64.wrap (i64.wrap (2*b.2.1)*i))else b.2.2.2.1 then i64.wrap (b.2.2.2.2+i64.wrap (i64.wrap (2*b.2.1)*i64.wrap (i64.wrap (dom b.1+1)-i)))else if i64.wrap (b.2.2.1+i64.wrap (i64.wrap (2*b.2.1)*i))<b.2.2.2.1 then i64.wrap (b.2.2.1+i64.wrap (i64.wrap (2*b.2.1)*i))else b.2.2.2.1))))))
  (by kernel_rfl) (by
   have d:=dom_range b.1
   simp only[Tree.holds,sL,ne_eq,beq_iff_eq,bne_iff_ne,eq_self,beq_eq_false_iff_ne,bne_eq_false_iff_eq,implies_true]
   (repeat' (first|apply And.intro|intro _))
   all_goals first
    |(rw[sqv_no (by first|omega|grind)];rfl)
    |(have hv:validB b=true∧1≤i∧i≤dom b.1:=by first|grind|omega
      have v:=validB_iff.1 hv.1
      have p:=acc_bnd v.1.2.1 (j:=i) (by omega)
      have q:=acc_bnd v.1.2.1 (j:=dom b.1+1-i) (by omega)
      refine sv_int ?_
      rw[w64 (x:=2*b.2.1) (by omega) (by omega),w64 (x:=2*b.2.1*i) (by omega) (by omega),w64 (x:=b.2.2.1+2*b.2.1*i) (by omega) (by omega),w64 (x:=dom b.1+1) (by omega) (by omega),w64 (x:=dom b.1+1-i) (by omega) (by omega),w64 (x:=2*b.2.1*(dom b.1+1-i)) (by omega) (by omega),w64 (x:=b.2.2.2.2+2*b.2.1*(dom b.1+1-i)) (by omega) (by omega),sqv_yes hv]
      rfl)) (by kernel_rfl) (by kernel_rfl)
theorem s_sqvR(b:Bk)(i:Int):SCall Tryz.prog 239 [Bk.sv b,I64 i] (I64 (sqv b i)):=
 scall_v mix [fVldR,fDomR] ⟨o_vldR,o_domR,trivial⟩ 1000 (.fork .all (.fork (.ln 3 (.lit .all)) (.ln 3 (.fork .all .all))))
  (t:=.node (!validB b) (.leaf (.int .i64 0)) (.node (decide (i<1)) (.leaf (.int .i64 0)) (.node (decide (i>dom b.1)) (.leaf (.int .i64 0)) (.leaf (.int .i64 (if i64.wrap (b.2.2.2.2+i64.wrap (i64.wrap (2*b.2.1)*i64.wrap (i64.wrap (dom b.1+1)-i)))<if i64.wrap (b.2.2.1+i64.wrap (i64.wrap (2*b.2.1)*i))<b.2.2.2.1 then i64.wrap (b.2.2.1+i64.wrap (i64.wrap (2*b.2.1)*i))else b.2.2.2.1 then i64.wrap (b.2.2.2.2+i64.wrap (i64.wrap (2*b.2.1)*i64.wrap (i64.wrap (dom b.1+1)-i)))else if i64.wrap (b.2.2.1+i64.wrap (i64.wrap (2*b.2.1)*i))<b.2.2.2.1 then i64.wrap (b.2.2.1+i64.wrap (i64.wrap (2*b.2.1)*i))else b.2.2.2.1))))))
  (by kernel_rfl) (by
   have d:=dom_range b.1
   simp only[Tree.holds,sL,ne_eq,beq_iff_eq,bne_iff_ne,eq_self,beq_eq_false_iff_ne,bne_eq_false_iff_eq,implies_true]
   (repeat' (first|apply And.intro|intro _))
   all_goals first
    |(rw[sqv_no (by first|omega|grind)];rfl)
    |(have hv:validB b=true∧1≤i∧i≤dom b.1:=by first|grind|omega
      have v:=validB_iff.1 hv.1
      have p:=acc_bnd v.1.2.1 (j:=i) (by omega)
      have q:=acc_bnd v.1.2.1 (j:=dom b.1+1-i) (by omega)
      refine sv_int ?_
      rw[w64 (x:=2*b.2.1) (by omega) (by omega),w64 (x:=2*b.2.1*i) (by omega) (by omega),w64 (x:=b.2.2.1+2*b.2.1*i) (by omega) (by omega),w64 (x:=dom b.1+1) (by omega) (by omega),w64 (x:=dom b.1+1-i) (by omega) (by omega),w64 (x:=2*b.2.1*(dom b.1+1-i)) (by omega) (by omega),w64 (x:=b.2.2.2.2+2*b.2.1*(dom b.1+1-i)) (by omega) (by omega),sqv_yes hv]
      rfl)) (by kernel_rfl) (by kernel_rfl)
def fSqv:Fact:=factBI 245 fun b i=>.leaf (I64 (sqv b i))
def fSqvR:Fact:=factBI 239 fun b i=>.leaf (I64 (sqv b i))
theorem o_sqv:fSqv.ok Tryz.prog:=factBI_ok (s_sqv)
theorem o_sqvR:fSqvR.ok Tryz.prog:=factBI_ok (s_sqvR)
def ivl(b:Bk)(i t:Int):Int:=if 1≤sqv b i∧1≤t∧t≤1048576 then(t+isq (sqv b i)-1) / isq (sqv b i)else 0
theorem s_ivl(b:Bk)(i t:Int):SCall Tryz.prog 183 [Bk.sv b,I64 i,I64 t] (I64 (ivl b i t)):=
 scall_v mix [fSqv,fIsq] ⟨o_sqv,o_isq,trivial⟩ 1000 (.fork (.ln 5 (.lit .all)) (.lit (.lit (.fork (.lit (.lit (.lit .all))) (.lit (.lit (.fork .all .all)))))))
  (t:=.node (sqv b i==0) (.leaf (.int .i64 0)) (.node (decide (t<1)) (.leaf (.int .i64 0)) (.node (decide (t>1048576)) (.leaf (.int .i64 0)) (.req (inR (sqv b i) 0 9223372036854775807) (.req (!isq (sqv b i)==0) (.leaf (.int .i64 (i64.wrap ((i64.wrap (i64.wrap (t+isq (sqv b i))-1)).tdiv (isq (sqv b i)))))))))))
  (by kernel_rfl) (by
   have s:=sqv_all b i
   simp only[Tree.holds,inR_iff,sL,ne_eq,beq_iff_eq,bne_iff_ne,eq_self,beq_eq_false_iff_ne,bne_eq_false_iff_eq,implies_true]
   (repeat' (first|apply And.intro|intro _))
   all_goals first
    |omega
    |(refine sv_int ?_;unfold ivl;rw[if_neg (by omega)])
    |(have p:=isq_pos (n:=sqv b i) (by omega)
      have q:=isq_lt (sqv b i)
      first
      |omega
      |(refine sv_int ?_
        unfold ivl
        rw[if_pos (by omega),w64 (x:=t+isq (sqv b i)) (by omega) (by omega),w64 (x:=t+isq (sqv b i)-1) (by omega) (by omega),tdiv_bnd (by omega) (by omega) (by omega),Int.tdiv_eq_ediv_of_nonneg (by omega)]))) (by kernel_rfl) (by kernel_rfl)
theorem s_ivlR(b:Bk)(i t:Int):SCall Tryz.prog 178 [Bk.sv b,I64 i,I64 t] (I64 (ivl b i t)):=
 scall_v mix [fSqvR,fIsqR] ⟨o_sqvR,o_isqR,trivial⟩ 1000 (.fork (.ln 5 (.lit .all)) (.lit (.lit (.fork (.lit (.lit (.lit .all))) (.lit (.lit (.fork .all .all)))))))
  (t:=.node (decide (sqv b i<1)) (.leaf (.int .i64 0)) (.node (decide (t<1)) (.leaf (.int .i64 0)) (.node (decide (t>1048576)) (.leaf (.int .i64 0)) (.req (inR (sqv b i) 0 9223372036854775807) (.req (!isq (sqv b i)==0) (.leaf (.int .i64 (i64.wrap ((i64.wrap (i64.wrap (t+isq (sqv b i))-1)).tdiv (isq (sqv b i)))))))))))
  (by kernel_rfl) (by
   have s:=sqv_all b i
   simp only[Tree.holds,inR_iff,sL,ne_eq,beq_iff_eq,bne_iff_ne,eq_self,beq_eq_false_iff_ne,bne_eq_false_iff_eq,implies_true]
   (repeat' (first|apply And.intro|intro _))
   all_goals first
    |omega
    |(refine sv_int ?_;unfold ivl;rw[if_neg (by omega)])
    |(have p:=isq_pos (n:=sqv b i) (by omega)
      have q:=isq_lt (sqv b i)
      first
      |omega
      |(refine sv_int ?_
        unfold ivl
        rw[if_pos (by omega),w64 (x:=t+isq (sqv b i)) (by omega) (by omega),w64 (x:=t+isq (sqv b i)-1) (by omega) (by omega),tdiv_bnd (by omega) (by omega) (by omega),Int.tdiv_eq_ediv_of_nonneg (by omega)]))) (by kernel_rfl) (by kernel_rfl)
end Go.Proofs.YtnkaepnblikcdaaGreat
