/-
  Evaluator, contracts, plain law.
-/
import Derived.Test.YtnkaepnblikcdaaGreatVC2
import Derived.ProofKit
import Derived.Recover
import Derived.Test.YtnkaepnblikcdaaGreatProg
set_option maxRecDepth 100000
set_option linter.unusedVariables false
set_option linter.unusedSimpArgs false
open Go.IntKind (i64 u64 u8)
namespace Go.Sx
open Go.RowKit
section moves
variable {P:Program} {b:Frame} {a:Act} {k:List Item} {cs:List Frame} {w:World}
theorem xJ8{x:Code}:step P (lone (b.at a (.code (.scope x)::k)) cs w)=.next (lone (b.at a (.code x::.inScope x::k)) cs w):=
 step_lone_go (by simp[stepG,stepG.exec,Frame.at])
theorem xJ7{x:Code}:step P (lone (b.at a (.inScope x::k)) cs w)=.next (lone (b.at a k) cs w):=
 step_lone_go (by simp[stepG,stepG.exec,Frame.at])
end moves
section
variable {P:Program} {E:Env} {O:Type}
def zd2(P:Program)(items:List Item)(fr:Fr)(m:Mem)(out:Out):Prop:=
 ∀⦃ds:List Deferred⦄ w0 R0 I w a,m8 ds w0 R0 I w fr m a->∀ (b:Frame) (cs:List Frame),match out with
  |.ret _ fr' m'=>∃I' w' a' todo,m8 ds w0 R0 I' w' fr' m' a'/\b8 w0 R0 I w m I' w' m'/\Steps P (lone (b.at a items) cs w) (lone {b.at a' todo with mode:=.returning} cs w')
  |.stop items' fr' m'=>∃I' w' a',m8 ds w0 R0 I' w' fr' m' a'/\b8 w0 R0 I w m I' w' m'/\Steps P (lone (b.at a items) cs w) (lone (b.at a' items') cs w')
  |.pan v fr' m'=>∃I' w' a' todo u,m8 ds w0 R0 I' w' fr' m' a'/\b8 w0 R0 I w m I' w' m'/\Rep (RO w0 R0 I' w' m') I' m'.next w' v u/\Steps P (lone (b.at a items) cs w) (lone {b.at a' todo with mode:=.panicking [{v:=u,recovered:=false}]} cs w')
variable{fr:Fr}{m m':Mem}
theorem zd2.trans{items items':List Item}{fr':Fr}{out:Out}(h:zd2 P items fr m (.stop items' fr' m'))(k:zd2 P items' fr' m' out):zd2 P items fr m out:=by
 intro ds w0 R0 I w a hs b cs;obtain⟨ρ1,w1,a1,h1,h2,h3⟩:=h w0 R0 I w a hs b cs;have h4:=k w0 R0 ρ1 w1 a1 h1 b cs
 cases out with
 |ret p fr2 m2=>
  obtain⟨ρ2,w2,a2,todo,g1,g2,g3⟩:=h4;exact⟨ρ2,w2,a2,todo,g1,h2.trans g2,h3.trans g3⟩
 |stop it fr2 m2=>
  obtain⟨ρ2,w2,a2,g1,g2,g3⟩:=h4;exact⟨ρ2,w2,a2,g1,h2.trans g2,h3.trans g3⟩
 |pan v fr2 m2=>
  obtain⟨ρ2,w2,a2,todo,u,g1,g2,g3,g4⟩:=h4;exact⟨ρ2,w2,a2,todo,u,g1,h2.trans g2,g3,h3.trans g4⟩
theorem zd2.step{items items':List Item}(h:∀ (b:Frame) (a:Act) cs w,(∀x,∃R I n,Rep R I n w (o8 fr x) (a.eval x))->Go.step P (lone (b.at a items) cs w)=.next (lone (b.at a items') cs w)):zd2 P items fr m (.stop items' fr m):=
 λds w0 R0 I w a hs b cs=>⟨I,w,a,hs,Ext.refl _ _ _ _,.one (h b a cs w λx=>⟨_,_,_,hs.2.1.eval x⟩)⟩
theorem zd2.refl(items:List Item)(fr:Fr)(m:Mem):zd2 P items fr m (.stop items fr m):=
 λds w0 R0 I w a hs b cs=>⟨I,w,a,hs,Ext.refl _ _ _ _,Steps.refl _ _⟩
def zb2(P:Program)(ih:zb1 O):Prop:=
 ∀items p fr m (Z:Out->Tree O) (L:O->Prop),(ih items p fr m Z).holds L->∃out,(Z out).holds L/\zd2 P items fr m out
variable{f:FuncId}
theorem zz2 {fn : Func} {body : Code} (hf : P.funcs[f]? = some fn) (hb : fn.body = some body) (hn : (fn.name == "runtime.NumGoroutine") = false) (args : Array Value) (w : World) : (Go.callFunc f args).run P w = .ok (.enter f args) w := by
 simp only[Go.callFunc,Sem.run_bind,run_program,Result.andThen_ok,hf,hn,Bool.false_eq_true,if_false,hb,Option.isNone_some,Sem.run_pure]
variable{p:Plan}{v:SV}
theorem zA0{fn:Func}{body:Code}(hf:P.funcs[f]? =some fn)(hb:fn.body=some body){fr':Fr}(hr:zd2 P [.code body] fr m (.ret p fr' m'))
  (hv:∀⦃ds:List Deferred⦄ w0 R0 I w a,m8 ds w0 R0 I w fr' m' a->∃u,(Go.results fn a.tmps).run P w=.ok u w/\Rep (RO w0 R0 I w m') I m'.next w v u) {w0:World} {R0:RSet} {I:Rho} {w:World} {vs:List Value} (hm:MRel w0 R0 I w m)
  (hfr:zb4 (RO w0 R0 I w m) I m.next w fr (vs.toArray++Array.replicate (fn.ntmps-vs.toArray.size) Go.undef)):
  Calls P f vs.toArray w λe w'=>∃u,e=.returned u/\∃I',MRel w0 R0 I' w' m'/\b8 w0 R0 I w m I' w' m'/\Rep (RO w0 R0 I' w' m') I' m'.next w' v u:=by
 intro cs
 let b:Frame:={ (default:Frame)with fn:=f,kind:=.normal}
 have henter:Frame.enter P f vs.toArray .normal=b.at {tmps:=vs.toArray++Array.replicate (fn.ntmps-vs.toArray.size) Go.undef,defers:=[]} [.code body] :=by
  simp[Frame.enter,Frame.at,hf,hb,b]
 obtain⟨I',w',a',todo,g1,g2,g3⟩:=hr w0 R0 I w {tmps:=vs.toArray++Array.replicate (fn.ntmps-vs.toArray.size) Go.undef,defers:=[]} ⟨hm,hfr,rfl⟩ b cs;obtain⟨u,h1,h2⟩:=hv w0 R0 I' w' a' g1;refine⟨.returned u,w',_,⟨u,rfl,I',g1.1,g2,h2⟩,by rw[henter];exact g3,rfl,rfl,g1.2.2,rfl,fn,hf,h1⟩
mutual
theorem Rep.noRef{R R':Nat->Prop}{I:Rho}{n:Nat}{w:World}:∀ (x:SV) (v:Value),Go.Sx.noRef x=true->Rep R I n w x v->Rep R' I n w x v
 |.undef,_,_,h=>h
 |.top,_,_,_=>trivial
 |.int _ _,_,_,h=>h
 |.bool _,_,_,h=>h
 |.str _,_,_,h=>h
 |.nilS,_,_,h=>h
 |.list _ _,_,hd,_=>by cases hd
 |.row _,_,_,h=>h
 |.arr _ _ _,_,hd,_=>by cases hd
 |.ptr _ _,_,hd,_=>by cases hd
 |.nilP,_,_,h=>h
 |.eptr _ _ _ _,_,hd,_=>by cases hd
 |.rptr _ _ _ _,_,hd,_=>by cases hd
 |.agg cs,v,hd,h=>by
  obtain⟨vs,h1,h2⟩:=h;exact⟨vs,h1,j7.noRef cs vs hd h2⟩
 |.tuple cs,v,hd,h=>by
  obtain⟨vs,h1,h2⟩:=h;exact⟨vs,h1,j7.noRef cs vs hd h2⟩
 |.fn _ _ _,_,hd,_=>by cases hd
 |.raw _,_,hd,_=>by cases hd
theorem j7.noRef{R R':Nat->Prop}{I:Rho}{n:Nat}{w:World}:∀ (xs:List SV) (vs:List Value),Go.Sx.noRefL xs=true->j7 R I n w xs vs->j7 R' I n w xs vs
 |[],_,_,h=>h
 |x::xs,vs,hd,h=>by
  obtain⟨u,us,h1,h2,h3⟩:=h;have hd:(Go.Sx.noRef x&&Go.Sx.noRefL xs)=true:=hd;rw[Bool.and_eq_true]at hd;exact⟨u,us,h1,Rep.noRef x u hd.1 h2,j7.noRef xs us hd.2 h3⟩
end
variable{w:World}
theorem r8.flatT{R R':Nat->Prop}:∀ (t:Ty) (x:t.T) (vs:List Value),t.flatT=true->r8 R w t x vs->r8 R' w t x vs
 |.unit,_,_,_,h=>h
 |.int _,_,_,_,h=>h
 |.bool,_,_,_,h=>h
 |.str,_,_,_,h=>h
 |.list _,_,_,hd,_=>by cases hd
 |.pair a b,x,vs,hd,h=>by
  obtain⟨v1,v2,h1,h2,h3⟩:=h;have hd:(a.flatT&&b.flatT)=true:=hd;rw[Bool.and_eq_true]at hd;exact⟨v1,v2,h1,r8.flatT a _ _ hd.1 h2,r8.flatT b _ _ hd.2 h3⟩
theorem Tb.get_filt{β:Type}(f:β->Bool):∀ (t:Tb β) (i:Nat),(t.filt f).get i=match t.get i with
  |some x=>match f x with
   |true=>some x
   |false=>none
  |none=>none
 |.e,i=>rfl
 |.n l v r,0=>rfl
 |.n l v r,j+1=>by
  show(Tb.n (l.filt f) _ (r.filt f)).get (j+1)=_;rw[Tb.get_n_succ,Tb.get_n_succ]
  by_cases h:j % 2=0
  .rw[Tb.pick_even h,Tb.pick_even h,Tb.get_filt f l]
  .rw[Tb.pick_odd h,Tb.pick_odd h,Tb.get_filt f r]
theorem qq7{id:Nat}{B:Box}(h:m.flats.get id=some B):m.get id=some B/\qq4 B=true:=by
 unfold Mem.flats Mem.get at h;dsimp only at h;rw[Tb.get_filt]at h
 split at h
 .rename_i x hx
  split at h
  .rename_i hf
   injection h with h;subst h;exact⟨hx,hf⟩
  .cases h
 .cases h
variable{w0:World}{R0:RSet}{I:Rho}
theorem MRel.flats{R1:RSet}(h:MRel w0 R0 I w m)(hs:∀b,R1 b->R0 b/\R1.keep b=R0.keep b):MRel w0 R1 I w m.flats:=by
 refine⟨h.below,λid B hB=>h.lt id B (qq7 hB).1,λid B hB=>h.lo id B (qq7 hB).1,λid B hB=>h.hi id B (qq7 hB).1,λid id' B B' hB hB'=>h.inj id id' B B' (qq7 hB).1 (qq7 hB').1,λid B hB=>?_,λb hb=>⟨(h.hid.1 b (hs b hb).1).1,by rw[(hs b hb).2];exact(h.hid.1 b (hs b hb).1).2⟩,λid B hB hsol hr=>h.hid.2 id B (qq7 hB).1 hsol (hs _ hr).1⟩;obtain⟨h1,h2⟩:=qq7 hB
 cases B with
 |cells cs=>cases h2
 |iter s p=>cases h2
 |obj _ _=>cases h2
 |rows t l=>
  obtain⟨b1,b2,b3⟩:=h.box id _ h1;refine⟨b1,b2,λh0=>?_⟩;obtain⟨arr,e,fr,k1,k2,k3,k4⟩:=b3 h0;refine⟨arr,e,fr,k1,k2,k3,λi hi=>?_⟩;obtain⟨cs,c1,c2,c3⟩:=k4 i hi;exact⟨cs,c1,c2,r8.flatT t _ _ h2 c3⟩
theorem zo1(h:MRel w0 R0 I w m){R:Nat->Prop}(hR:∀b,b<w.heap.size->R b):∀{xs:List SV} {vs:List Value},j7 (RO w0 R0 I w m) I m.next w xs vs->f6 (xs.map (zn9 m))=true->j7 R I 0 w (xs.map (zn9 m)) vs
 |[],_,hr,_=>hr
 |x::xs,vs,hr,hd=>by
  obtain⟨u,us,rfl,r1,r2⟩:=hr;have hd:f6 (zn9 m x::xs.map (zn9 m))=true:=hd;rw[zI9]at hd
  cases hx:(zn9 m x).data with
  |false=>rw[hx]at hd;cases hd
  |true=>
   rw[hx]at hd;refine⟨u,us,rfl,?_,zo1 h hR r2 hd⟩
   have hlt:∀b,RO w0 R0 I w m b->R b:=λb hb=>hR b (h.ro_lt hb)
   have plain:zn9 m x=x->Rep R I 0 w (zn9 m x) u:=λe=>by
    rw[e]at hx ⊢;exact Rep.data hlt x u hx r1
   cases x with
   |row id=>
    cases hg:m.get id with
    |none=>exact plain (by simp only[zn9,hg])
    |some B=>
     cases B with
     |cells cs=>exact plain (by simp only[zn9,hg])
     |iter s p=>exact plain (by simp only[zn9,hg])
     |obj _ _=>exact plain (by simp only[zn9,hg])
     |rows t l=>
      have e:zn9 m (.row id)=.list t l:=by simp only[zn9,hg]
      rw[e];obtain⟨_,a,hu,ha⟩:=r1;obtain⟨b1,b2,hp⟩:=h.box id _ hg;refine⟨a,(I id).2.2,by rw[hu,b1],b2,λh0=>?_⟩;have h0:0< (I id).2.2:=Nat.lt_of_lt_of_le h0 b2;obtain⟨arr,e,fr,k1,k2,k3,k4⟩:=hp h0;refine⟨(I id).1,0,ha h0,hR _ (h.hi id _ hg h0),λi hi=>?_⟩;obtain⟨cs,c1,c2,c3⟩:=k4 i hi;refine⟨cs,c1,λj hj=>?_,r8.mono (λb hb=>⟨hlt b hb,rfl⟩) _ _ _ c3⟩;rw[cell_of_row w _ _ arr e fr k1,Nat.zero_add];exact c2 j hj
   |_=>exact plain rfl
variable{args:List SV}
theorem zd6.congr{m2 m2':Mem}(hg:∀id,m2.get id=m.get id)(hn:m2.next=m.next)(hg':∀id,m2'.get id=m'.get id)(hn':m2'.next=m'.next)(h:zd6 P m v m' f args):zd6 P m2 v m2' f args:=by
 intro w0 R0 I w vs hm hvs;have h1:=h w0 R0 I w vs (hm.congr (λid=>(hg id).symm) hn.symm) (by rw[<-RO.congr hg,<-hn];exact hvs);exact zc1.mono (λu w' hu=>hu.congr hg hn hg' hn') h1
theorem zl4{mc:Mem}{k:SV->Mem->Tree O}{L:O->Prop}(h:(zk5 v mc m k).holds L):∃v' m',(k v' m').holds L/\∀ (δ:Type) (k2:SV->Mem->Tree δ),zk5 v mc m k2=k2 v' m':=by
 obtain⟨v',_,_,_,_,ha⟩:=zl2 h;obtain⟨m',_,_,hk⟩:=ha m rfl;rw[hk]at h;exact⟨v',m',h,hk⟩
theorem zz9(hE:EOK P E){ih:zb1 O}(hih:zb2 P ih){Z:r9 O}{L:O->Prop}(h:(zz8 E ih f args p m Z).holds L):
  ∃v0 mc p',(zk5 v0 mc m λv m=>Z v p' m).holds L/\∀m2 v' m2',args.map (zn9 m2)=args.map (zn9 m)->(zk5 v0 mc m2 λv m=>.leaf (v,m)).holds (λy=>y=(v',m2'))->zd6 P m2 v' m2' f args:=by
 unfold zz8 at h
 split at h
 .rename_i fn hfn
  have hf:=hE.fn f fn hfn
  split at h
  .rename_i body hb
   split at h
   .rename_i hn
    split at h
    .rename_i hd
     obtain⟨fr,h1,h2,h3,h4⟩:=qV1 h;obtain⟨out,h5,h6⟩:=hih _ _ _ _ _ _ h1
     cases out with
     |stop it fr' m'=>exact h5.elim
     |pan v fr' m'=>exact h5.elim
     |ret p' fr' mc=>
      dsimp only at h5;obtain⟨v,h7,h8⟩:=yZ8 hE h5
      split at h7
      .rename_i hnr
       refine⟨v,mc.flats,p',h7,λm2 v' m2' he ha w0 R0 I w vs hm hvs=>?_⟩;obtain⟨v1,m1,hl,hsem⟩:=zl3 ha;injection hl with e1 e2;subst e1 e2;rw[zz2 hf hb hn];have o1:MRel w (.all w) I w ⟨0,.e⟩:=⟨⟨Below.refl _ _,hm.gnd⟩,λid B h=>(by cases h),λid B h=>(by cases h),λid B h=>(by cases h),λid id' B B' h=>(by cases h),λid B h=>(by cases h),λb hb=>⟨hb,rfl⟩,λid B h=>(by cases h)⟩;have hvs':=zo1 hm (R:=RO w (.all w) I w ⟨0,.e⟩) (λb hb=>.inl ⟨hb,hb⟩) hvs (by rw[he];exact hd);rw[he]at hvs';have hfr:=qs1 h2 h3 h4 hvs'
       refine Calls.mono (zA0 hf hb h6 h8 o1 hfr) λe w' ⟨u,he,I',g1,g2,g3⟩=>⟨u,he,?_⟩
       exact hsem w0 R0 I w I' w' u hm (g1.flats λb hb=>⟨hm.ro_lt hb,rfl⟩) (Rep.noRef v u hnr g3)
      .exact h7.elim
    .exact h.elim
   .exact h.elim
  .exact h.elim
 .exact h.elim
theorem zz1(hE:EOK P E){ih:zb1 O}(hih:zb2 P ih){Z:r9 O}{L:O->Prop}(h:(zz0 E ih f args p m Z).holds L):
  ∃v0 mc p',(zk5 v0 mc m λv m=>Z v p' m).holds L/\∀m2 v' m2',(zk5 v0 mc m2 λv m=>.leaf (v,m)).holds (λy=>y=(v',m2'))->zd6 P m2 v' m2' f args:=by
 unfold zz0 at h
 split at h
 .rename_i fn hfn
  have hf:=hE.fn f fn hfn
  split at h
  .rename_i body hb
   split at h
   .rename_i hn
    split at h
    .rename_i hd
     obtain⟨fr,h1,h2,h3,h4⟩:=qV1 h;obtain⟨out,h5,h6⟩:=hih _ _ _ _ _ _ h1
     cases out with
     |stop it fr' m'=>exact h5.elim
     |pan v fr' m'=>exact h5.elim
     |ret p' fr' mc=>
      dsimp only at h5;obtain⟨v,h7,h8⟩:=yZ8 hE h5;refine⟨v,mc,p',h7,λm2 v' m2' ha w0 R0 I w vs hm hvs=>?_⟩;obtain⟨v1,m1,hl,hsem⟩:=zl3 ha;injection hl with e1 e2;subst e1 e2;rw[zz2 hf hb hn];obtain⟨o1,o2⟩:=yF6 hm I;have hfr:=qs1 h2 h3 h4 (j7.data (R':=RO w (RS w0 R0 I w m2) I w ⟨0,.e⟩) (I':=I) (n':=0) o2 args vs hd hvs)
      refine Calls.mono (zA0 hf hb h6 h8 o1 hfr) λe w' ⟨u,he,I',g1,g2,g3⟩=>⟨u,he,?_⟩
      exact hsem w0 R0 I w I' w' u hm g1 g3
    .exact h.elim
   .exact h.elim
  .exact h.elim
 .exact h.elim
theorem zz4(hE:EOK P E)(hS:ze2 P E){ih:zb1 O}(hih:zb2 P ih):za3 P (zz3 E ih):=by
 have fin:∀ (f:FuncId) (args:List SV) (v0:SV) (mc m:Mem) (p':Plan) (Z:r9 O) (L:O->Prop),(zk5 v0 mc m λv m=>Z v p' m).holds L->
   (∀m2 v' m2',args.map (zn9 m2)=args.map (zn9 m)->(zk5 v0 mc m2 λv m=>.leaf (v,m)).holds (λy=>y=(v',m2'))->zd6 P m2 v' m2' f args)->
   ∃v p' m',(Z v p' m').holds L/\m.next<=m'.next/\∀ (F:List Nat) (m2 m2':Mem),(∀id,qX3 id args=true->id∈F)->(∀id∈F,m2.get id=m.get id)->m2.next=m.next->
    (∀id,m2'.get id=if id∈F++List.range' m.next (m'.next-m.next)then m'.get id else m2.get id)->m2'.next=m'.next->zd6 P m2 v m2' f args:=by
  intro f args v0 mc m p' Z L h hsem;obtain⟨v,m',h1,h2,h3,h4⟩:=zl2 h;refine⟨v,p',m',h1,h2,λF m2 m2' hF ha hn hp hn'=>?_⟩;obtain⟨m3,n3,e3,k3⟩:=h4 m2 hn
  have hargs:args.map (zn9 m2)=args.map (zn9 m):=by
   refine List.map_congr_left λx hx=>?_
   cases x<;>try rfl
   rename_i id;have:=ha id (hF id (qX4 hx (by simp[qX1])));simp only[zn9,this]
  refine(hsem m2 v m3 hargs (by rw[k3];exact rfl)).congr (λ_=>rfl) rfl (λid=>?_) (by rw[hn',n3]);rw[hp id,e3 id];simp only[List.mem_append,qW9]
  by_cases c:m.next<=id/\id<m'.next
  .rw[if_pos c,if_pos (.inr ⟨c.1,by omega⟩)]
  .rw[if_neg c]
   by_cases c2:id∈F
   .rw[if_pos (.inl c2),h3 id c,<-ha id c2]
   .rw[if_neg (λd=>d.elim c2 λd=>c ⟨d.1,by omega⟩)]
 intro f args p m Z L h;unfold zz3 at h
 split at h
 .exact h.elim
 .split at h
  .exact h.elim
  .split at h
   .rename_i s hs
    split at h
    .rename_i id off rest
     split at h
     .rename_i h0
      have h0:=Nat.eq_of_beq_eq_true h0;subst h0
      split at h
      .rename_i B hB
       split at h
       .rename_i t ht
        obtain⟨v,B',p',h1,h2⟩:=zv1 t p h (hS.2.2.2.1 f s rest B t hs ht);obtain⟨m',h3,h4⟩:=Mem.set_holds h1;refine⟨v,p',m',h4,by rw[h3.2];exact Nat.le_refl _,λF m2 m2' hF ha hn hp hn'=>?_⟩;have hidF:id∈F:=hF id (qX4 List.mem_cons_self (by simp[qX1]));refine h2 m2 m2' id ((ha id hidF).trans hB) ⟨λk=>?_,by rw[hn',h3.2,hn]⟩;rw[hp k,h3.2,Nat.sub_self,List.range'_zero,List.append_nil,h3.1 k]
        by_cases hk:k∈F
        .rw[if_pos hk]
         by_cases hki:k=id
         .rw[if_pos hki,if_pos hki]
         .rw[if_neg hki,if_neg hki,ha k hk]
        .rw[if_neg hk,if_neg (λc=>hk (by rw[c];exact hidF))]
       .exact h.elim
      .exact h.elim
     .exact h.elim
    .exact h.elim
   .split at h
    .rename_i s hs
     split at h
     .rename_i t ht
      obtain⟨x,p',h1,h2⟩:=zv5 t p h (hS.2.2.2.2 f s args t hs ht)
      exact fin f args x.1 x.2 m p' Z L h1 λm2 v' m2' _=>h2 m2 v' m2'
     .exact h.elim
    split at h
    .obtain⟨v0,mc,p',h1,h2⟩:=zz9 hE hih h
     exact fin f args v0 mc m p' Z L h1 h2
    .obtain⟨v0,mc,p',h1,h2⟩:=zz1 hE hih h
     exact fin f args v0 mc m p' Z L h1 λm2 v' m2' _=>h2 m2 v' m2'
theorem zz6(hE:EOK P E)(hS:ze2 P E){ih:zb1 O}(hih:zb2 P ih):za5 P false (zz5 E ih):=by
 intro f args p m Z L h;unfold zz5 at h
 split at h
 .rename_i s hs
  split at h
  .rename_i t ht
   obtain⟨v,p',h1,h2⟩:=zv7 t p h (hS.1 f s args t hs ht);exact⟨v,p',m,h1,λhq=>(by cases hq),h2 m⟩
  .exact h.elim
 .split at h
  .rename_i s hs
   split at h
   .rename_i t ht
    obtain⟨x,p',h1,h2⟩:=zv3 t p h (hS.2.1 f s args m t hs ht);exact⟨x.1,p',x.2,h1,λhq=>(by cases hq),h2⟩
   .exact h.elim
  split at h
  .rename_i s hs
   split at h
   .rename_i t ht
    obtain⟨x,p',h1,h2⟩:=zv5 t p h (hS.2.2.2.2 f s args t hs ht);obtain⟨v',m',h3,h4⟩:=zl4 h1;exact⟨v',p',m',h3,λhq=>(by cases hq),h2 m v' m' (by rw[h4];exact rfl)⟩
   .exact h.elim
  split at h
  .obtain⟨v0,mc,p',h1,h2⟩:=zz9 hE hih h
   obtain⟨v',m',h3,h4⟩:=zl4 h1;exact⟨v',p',m',h3,λhq=>(by cases hq),h2 m v' m' rfl (by rw[h4];exact rfl)⟩
  split at h
  .rename_i fn hfn
   have hf:=hE.fn f fn hfn
   split at h
   .rename_i body hb
    split at h
    .rename_i hn
     split at h
     .rename_i hd
      rw[Bool.and_eq_true]at hd;have hd:=hd.1;obtain⟨fr,h1,h2,h3,h4⟩:=qV1 h;obtain⟨out,h5,h6⟩:=hih _ _ _ _ _ _ h1
      cases out with
      |stop it fr' m'=>exact h5.elim
      |pan v fr' m'=>exact h5.elim
      |ret p' fr' mc=>
       dsimp only at h5;obtain⟨v,h7,h8⟩:=yZ8 hE h5;obtain⟨v',m',h9,h10⟩:=zl3 h7;refine⟨v',p',m',h9,λhq=>(by cases hq),λw0 R0 I w vs hm hvs=>?_⟩;rw[zz2 hf hb hn];obtain⟨o1,o2⟩:=yF6 hm I;have hfr:=qs1 h2 h3 h4 (j7.data (R':=RO w (RS w0 R0 I w m) I w ⟨0,.e⟩) (I':=I) (n':=0) o2 args vs hd hvs)
       refine Calls.mono (zA0 hf hb h6 h8 o1 hfr) λe w' ⟨u,he,I',g1,g2,g3⟩=>⟨u,he,?_⟩
       exact h10 w0 R0 I w I' w' u hm g1 g3
     .obtain⟨fr,h1,h2,h3,h4⟩:=qV1 h
      obtain⟨out,h5,h6⟩:=hih _ _ _ _ _ _ h1
      cases out with
      |stop it fr' m'=>exact h5.elim
      |pan v fr' m'=>exact h5.elim
      |ret p' fr' mc=>
       dsimp only at h5;obtain⟨v,h7,h8⟩:=yZ8 hE h5;refine⟨v,p',mc,h7,λhq=>(by cases hq),λw0 R0 I w vs hm hvs=>?_⟩;rw[zz2 hf hb hn];exact zA0 hf hb h6 h8 hm (qs1 h2 h3 h4 hvs)
    .exact h.elim
   .exact h.elim
  .exact h.elim
theorem zz7(hE:EOK P E)(hS:ze2 P E){ih:zb1 O}(hih:zb2 P ih):za5 P true (m9 E ih):=by
 intro f args p m Z L h;unfold m9 at h
 split at h
 .rename_i s hs
  split at h
  .rename_i t ht
   obtain⟨v,p',h1,h2⟩:=zv7 t p h (hS.1 f s args t hs ht);exact⟨v,p',m,h1,λ_=>⟨rfl,h2⟩,h2 m⟩
  .exact h.elim
 .split at h
  .rename_i fn hfn
   have hf:=hE.fn f fn hfn
   split at h
   .rename_i body hb
    split at h
    .rename_i hn
     split at h
     .rename_i hd
      obtain⟨fr,h1,h2,h3,h4⟩:=qV1 h;obtain⟨out,h5,h6⟩:=hih _ _ _ _ _ _ h1
      cases out with
      |stop it fr' m'=>exact h5.elim
      |pan v fr' m'=>exact h5.elim
      |ret p' fr' mc=>
       dsimp only at h5;obtain⟨v,h7,h8⟩:=yZ8 hE h5
       split at h7
       .rename_i hvd
        suffices key:∀m,zd6 P m v m f args from⟨v,p',m,h7,λ_=>⟨rfl,key⟩,key m⟩
        intro m w0 R0 I w vs hm hvs;rw[zz2 hf hb hn];obtain⟨o1,o2⟩:=yF6 hm I;have hfr:=qs1 h2 h3 h4 (j7.data (R':=RO w (RS w0 R0 I w m) I w ⟨0,.e⟩) (I':=I) (n':=0) o2 args vs hd hvs)
        refine Calls.mono (zA0 hf hb h6 h8 o1 hfr) λe w' ⟨u,he,I',g1,g2,g3⟩=>⟨u,he,?_⟩
        have hst:=Hand.start hm g1;obtain⟨k1,k2⟩:=hst.finish hm g1;exact⟨I,k1,k2,Rep.data (λb hb=>hst.ro b (.inr hb)) v u hvd g3⟩
       .exact h7.elim
     .exact h.elim
    .exact h.elim
   .exact h.elim
  .exact h.elim
def ze0(fr:Fr)(m:Mem):Prop:=m.get m.next=none/\(∀id B,m.get id=some B->id<m.next/\∀k,m.next<=k->qX2 k (some B)=false)/\∀t k,m.next<=k->qX1 k (fr.get t)=false
theorem m8.start{ds:List Deferred}{a:Act}(h:m8 ds w0 R0 I w fr m a):ze0 fr m:=by
 obtain⟨hm,hfr,_⟩:=h;refine⟨hm.fresh,λid B hB=>⟨hm.lt id B hB,λk hk=>?_⟩,λt k hk=>?_⟩
 .cases B with
  |rows t l=>rfl
  |iter s p=>rfl
  |obj t cs=>
   obtain⟨arr,_,h3⟩:=hm.box id _ hB;rcases Bool.eq_false_or_eq_true (qX3 k cs)with h|h
   .have:=j7.bound cs _ h3 h;omega
   .exact h
  |cells cs=>
   obtain⟨arr,e,fr,_,_,h3⟩:=hm.box id _ hB;rcases Bool.eq_false_or_eq_true (qX3 k cs)with h|h
   .have:=j7.bound cs _ h3 h;omega
   .exact h
 .rcases Bool.eq_false_or_eq_true (qX1 k (fr.get t))with h|h
  .have:=Rep.bound _ _ (hfr.2 t) h;omega
  .exact h
theorem MRel.bump{m2:Mem}(h:MRel w0 R0 I w m)(hg:∀id,m2.get id=m.get id)(hn:m.next<=m2.next):MRel w0 R0 I w m2/\b8 w0 R0 I w m I w m2:=by
 have e:b8 w0 R0 I w m I w m2:=⟨hn,λ_ _=>rfl,λb hb=>⟨by rw[RO.congr hg];exact hb,rfl⟩⟩;refine⟨⟨h.below,λid B hB=>?_,λid B hB=>h.lo id B (by rw[<-hg];exact hB),λid B hB=>h.hi id B (by rw[<-hg];exact hB),λid id' B B' hB hB'=>h.inj id id' B B' (by rw[<-hg];exact hB) (by rw[<-hg];exact hB'),λid B hB=>?_,h.hid.1,λid B hB=>h.hid.2 id B (by rw[<-hg];exact hB)⟩,e⟩
 .have:=h.lt id B (by rw[<-hg];exact hB);omega
 .exact za2.mono e B (λ_=>rfl) (h.box id B (by rw[<-hg];exact hB))
theorem qF4:∀{refs:List (Nat×Nat)} {c k:Nat},qF3 refs c=some k->(c,k)∈refs
 |x::l,c,k,h=>by
  unfold qF3 at h
  split at h
  .rename_i hx
   injection h with h;subst h;rw[<-Nat.eq_of_beq_eq_true hx];exact List.mem_cons_self
  .exact List.mem_cons_of_mem _ (qF4 h)
theorem yV9:∀ (l:List Oper) (i k:Nat) {c j:Nat},(c,j)∈yV8 l i k->k<=j/\j<k+(yV8 l i k).length
 |[],i,k,c,j,h=>by cases h
 |o::l,i,k,c,j,h=>by
  have e:yV8 (o::l) i k=match qJ1 o.op with
   |true=>(i,k)::yV8 l (i+1) (k+1)
   |false=>yV8 l (i+1) k:=rfl
  rw[e]at h ⊢
  cases ha:qJ1 o.op with
  |true=>
   rw[ha]at h;dsimp only at h ⊢;rcases List.mem_cons.1 h with h|h
   .injection h with h1 h2;simp;omega
   .have:=yV9 l (i+1) (k+1) h;simp;omega
  |false=>rw[ha]at h;exact yV9 l (i+1) k h
theorem oneOpP_holds(hE:EOK P E)(hS:ze2 P E){call:za4 O}(hcall:za5 P false call){esc:SV->Fr->Mem->Tree O}{all:List Oper}{o:Oper}{ih:zc2 O}{L:O->Prop}(h:(yw8 E call esc all o ih p fr m).holds L):
  (∃p' v fr1 m1,(ih p' fr1 m1).holds L/\ze1 P all o fr m v m1/\zb5 fr o.dst v fr1)\/∃v m',(esc v fr m').holds L/\o.guard=none/\zd8 P m v m' o (o8 fr):=by
 have old:(yw5 E (λ_=>true) call all o ih p fr m).holds L->∃p' v fr1 m1,(ih p' fr1 m1).holds L/\ze1 P all o fr m v m1/\zb5 fr o.dst v fr1:=λh=>by
  obtain⟨p',v,fr1,m1,h1,h2,h3,_⟩:=yx1 hE hcall h;exact⟨p',v,fr1,m1,h1,h2,h3⟩
 unfold yw8 at h
 split at h
 .exact .inl (old h)
 .rename_i hg
  split at h
  .rename_i x hop
   split at h
   .rename_i v0 hx
    split at h
    .rename_i t v1
     refine .inr ⟨_,m,h,hg,λw0 R0 I w eb hm hev=>?_⟩;have h1:=hev x (by rw[hop];simp[Op.operands]);rw[hx]at h1;have h1:eb x=.iface t v1:=h1;obtain⟨dst,op,ty,pos,after,guard⟩:=o;dsimp only at hop;subst hop;simp only[Go.execOp,h1,Instr.panic];exact⟨I,hm,Ext.refl _ _ _ _,rfl⟩
    .exact h.elim
   .exact h.elim
  .rename_i c hop
   split at h
   .rename_i g hc
    split at h
    .rename_i f first cap hgv
     split at h
     .rename_i s hs
      split at h
      .rename_i t ht
       have run:∀{w0:World} {R0:RSet} {I:Rho} {w:World} {eb:Operand->Value},(∀x∈o.op.operands,Rep (RO w0 R0 I w m) I m.next w (o8 fr x) (eb x))->∃vs:List Value,j7 (RO w0 R0 I w m) I m.next w (first++(c.args.toList.map (o8 fr)++cap)) vs/\(Go.execOp eb o).run P w=(Go.callFunc f vs.toArray).run P w:=by
        intro w0 R0 I w eb hev;have hg0:=hev g (by rw[hop];simp[Op.operands,Call.operands,hc]);rw[hgv]at hg0;obtain⟨vs,us,h4,h5,h6⟩:=hg0
        have r1:j7 (RO w0 R0 I w m) I m.next w (c.args.toList.map (o8 fr)) (c.args.toList.map eb):=j7.map _ _ _ λx hx=>hev x (by rw[hop];simp[Op.operands,Call.operands]at hx ⊢;simp[hx])
        refine⟨vs++(c.args.toList.map eb++us),h5.append (r1.append h6),?_⟩;obtain⟨dst,op,ty,pos,after,guard⟩:=o;dsimp only at hop;subst hop;simp only[Go.execOp,resolve,hc,h4,Deferred.ofValue,pure_bind,invoke]
        have e:(vs++(c.args.toList.map eb++us)).toArray=vs.toArray++c.args.map eb++us.toArray:=by apply Array.ext';simp
        rw[e]
       rcases bindX_holds t p h (hS.2.2.1 f s _ m t hs ht)with⟨v,m1,p',h1,h2⟩|⟨v,m1,h1,h2⟩
       .obtain⟨fr1,h3,h4⟩:=yP5 h1
        refine .inl ⟨p',v,fr1,m1,h4,.inl ⟨by simp[qz0,hg],λw0 R0 I w eb hm hev=>?_⟩,h3⟩;obtain⟨vs,r1,r2⟩:=run hev;rw[r2];exact h2 w0 R0 I w _ hm r1
       .refine .inr ⟨v,m1,h1,hg,λw0 R0 I w eb hm hev=>?_⟩
        obtain⟨vs,r1,r2⟩:=run hev;rw[r2];exact h2 w0 R0 I w _ hm r1
      .exact h.elim
     .exact .inl (old h)
    .exact .inl (old h)
   .exact .inl (old h)
  .exact .inl (old h)
theorem execOpsP_chain(hE:EOK P E)(hS:ze2 P E){call:za4 O}(hcall:za5 P false call){esc:SV->Fr->Mem->Tree O}{all:List Oper}{k:zc2 O}{L:O->Prop}:∀ (ops:List Oper) (p:Plan) (fr:Fr) (m:Mem),(zV0 E call esc all ops k p fr m).holds L->
  (∃p' fr' m',(k p' fr' m').holds L/\Chain P all ops fr m fr' m')\/∃v fr' m',(esc v fr' m').holds L/\ChainP P all ops fr m v fr' m'
 |[],p,fr,m,h=>.inl ⟨p,fr,m,h,.nil fr m⟩
 |o::rest,p,fr,m,h=>by
  change (yw8 E call esc all o (zV0 E call esc all rest k) p fr m).holds L at h
  rcases oneOpP_holds hE hS hcall h with⟨p1,v,fr1,m1,h1,h2,h3⟩|⟨v,m',h1,h2,h3⟩
  .rcases execOpsP_chain hE hS hcall rest p1 fr1 m1 h1 with⟨p',fr',m',h5,h6⟩|⟨v',fr',m',h5,h6⟩
   .exact .inl ⟨p',fr',m',h5,.cons h2 h3 h6⟩
   .exact .inr ⟨v',fr',m',h5,.next h2 h3 h6⟩
  .exact .inr ⟨v,fr,m',h1,.here h2 h3⟩
theorem yN0{o:Op}{t:Tree Ex}(h:yM9 E fr m o=some t):∃f c,o=.call c/\c.callee=.value (.func f)/\∃s,E.pn f=some s/\s (c.args.toList.map (o8 fr)) m=some t:=by
 unfold yM9 at h
 split at h
 .rename_i c
  split at h
  .rename_i g hc
   split at h
   .rename_i f
    split at h
    .rename_i s hs
     exact⟨f,c,rfl,hc,s,hs,h⟩
    .cases h
   .cases h
  .cases h
 .cases h
theorem xD6{m1:Mem}{o:Oper}{c:Call}(hop:o.op=.call c)(hc:c.callee=.value (.func f))(h:ze6 P f (c.args.toList.map (o8 fr)) m (.pan v m1)):zd8 P m v m1 o (o8 fr):=by
 intro w0 R0 I w eb hm hev
 have r1:j7 (RO w0 R0 I w m) I m.next w (c.args.toList.map (o8 fr)) (c.args.toList.map eb):=j7.map _ _ _ λx hx=>hev x (by rw[hop];simp[Op.operands,Call.operands]at hx ⊢;simp[hx])
 have hf:eb (.func f)=.func (.func f) #[] #[] :=by
  obtain⟨vs,us,h4,h5,h6⟩:=hev (.func f) (by rw[hop];simp[Op.operands,Call.operands,hc]);have h5:vs=[] :=h5;have h6:us=[] :=h6;subst h5 h6;exact h4
 have e1:(Go.execOp eb o).run P w=(Go.callFunc f (c.args.toList.map eb).toArray).run P w:=by
  obtain⟨dst,op,ty,pos,after,guard⟩:=o;dsimp only at hop;subst hop;simp only[Go.execOp,resolve,hc,hf,Deferred.ofValue,pure_bind,invoke]
  have e:(c.args.toList.map eb).toArray=(#[] :Array Value)++c.args.map eb++#[] :=by apply Array.ext';simp
  rw[e]
 rw[e1];exact h w0 R0 I w _ hm r1
theorem region_reach(hE:EOK P E)(hS:ze2 P E)(hmix:P.follows .mixedOrders=true){ih:zb1 O}(hih:zb2 P ih){id:Nat}{ops:Array Oper}{draw:Bool}{k:List Item}{Z:Out->Tree O}{L:O->Prop}(h:(zE3 E ih (.region id ops draw) k p fr m Z).holds L):
  (∃p' fr' m',(ih k p' fr' m' Z).holds L/\zd2 P (.code (.region id ops draw)::k) fr m (.stop k fr' m'))\/∃out,(Z out).holds L/\zd2 P (.code (.region id ops draw)::k) fr m out:=by
 have fin:∀ (fr':Fr) (m':Mem),(∀ (ds:List Deferred) w0 R0 I w a,m8 ds w0 R0 I w fr m a->(Code.region id ops draw).wp P (λe a' w'=>e=.normal/\∃I',m8 ds w0 R0 I' w' fr' m' a'/\b8 w0 R0 I w m I' w' m') a w)->zd2 P (.code (.region id ops draw)::k) fr m (.stop k fr' m'):=by
  intro fr' m' hw ds w0 R0 I w a hs b cs;obtain⟨e,a',w',⟨rfl,I',g1,g2⟩,harr⟩:=hw ds w0 R0 I w a hs b k cs;exact⟨I',w',a',g1,g2,harr⟩
 dsimp only[zE3]at h
 split at h
 .exact .inr ⟨_,h,zd2.refl _ _ _⟩
 cases draw with
 |false=>
  rcases execOpsP_chain hE hS (zz6 hE hS hih) _ _ _ _ h with⟨p',fr',m',h1,h2⟩|⟨v,fr',m',h1,h2⟩
  .refine .inl ⟨p',fr',m',h1,fin fr' m' λds w0 R0 I w a hs=>wp_region ?_⟩
   have:=zC8 (Q:=λe a' w'=>e=.normal/\∃I',m8 ds w0 R0 I' w' fr' m' a'/\b8 w0 R0 I w m I' w' m') h2 0 rfl I w a hs (λI' w' a' g1 g2=>⟨rfl,I',g1,g2⟩);rw[<-List.range_eq_range']at this
   simpa using this
  .refine .inr ⟨_,h1,λds w0 R0 I w a hs b cs=>?_⟩
   have:=zC6 (Q:=λe a' w'=>∃u I',e=.panic [{v:=u,recovered:=false}] /\m8 ds w0 R0 I' w' fr' m' a'/\b8 w0 R0 I w m I' w' m'/\Rep (RO w0 R0 I' w' m') I' m'.next w' v u) h2 0 rfl I w a hs (λI' w' a' u g1 g2 g3=>⟨u,I',rfl,g1,g2,g3⟩);rw[<-List.range_eq_range']at this;have hw:(Code.region id ops false).wp P (λe a' w'=>∃u I',e=.panic [{v:=u,recovered:=false}] /\m8 ds w0 R0 I' w' fr' m' a'/\b8 w0 R0 I w m I' w' m'/\Rep (RO w0 R0 I' w' m') I' m'.next w' v u) a w:=wp_region (by simpa using this);obtain⟨e,a',w',⟨u,I',rfl,g1,g2,g3⟩,todo,harr⟩:=hw b k cs;exact⟨I',w',a',todo,u,g1,g2,g3,harr⟩
 |true=>
  dsimp only at h
  split at h
  .rename_i hlex
   have hlex':Region.lexB .any ops.toList.toArray=true:=by simpa using hlex
   have hns:Region.noSelect ops.toList.toArray=true:=by
    have:=hlex';simp only[Region.lexB,Bool.and_eq_true]at this;exact this.1
   have hrep:∀k,k<ops.toList.length->(Array.replicate ops.toList.length false).getD k true=false:=λk h=>by
    rw[Array.getD_eq_getD_getElem?,Array.getElem?_replicate,if_pos h];rfl
   have ord:∀ (fr':Fr) (m':Mem) (frs:Nat->Fr) (vals:Nat->SV) (M:(Nat->Bool)->Mem),Walk ops.toList fr fr' frs vals->(∀S S',(∀k,k<ops.toList.length->S k=S' k)->M S=M S')->((∀id,(M λ_=>true).get id=m'.get id)/\(M λ_=>true).next=m'.next)->
     ((∀id,(M λk=>(Array.replicate ops.toList.length false).getD k true).get id=m.get id)/\m.next<=(M λk=>(Array.replicate ops.toList.length false).getD k true).next)->
     (ze0 fr m->∀ (S:Nat->Bool) i o,ops.toList[i]? =some o->S i=false->(∀j oj,ops.toList[j]? =some oj->S j=true->∀e∈oj.after,Region.binds .any e=true->S e.on=true)->(∀e∈o.after,Region.binds .any e=true->S e.on=true)->ze1 P ops.toList o (frs i) (M S) (vals i) (M λk=>if k=i then true else S k)\/za0 P o m.next (vals i) (cur ops.toList fr vals S ops.toList.length) (M S) (M λk=>if k=i then true else S k))->
     zd2 P (.code (.region id ops true)::k) fr m (.stop k fr' m'):=by
    intro fr' m' frs vals M hwalk hMc eAll eNone hst
    refine fin fr' m' λds w0 R0 I w a hs=>wp_region_any hmix ?_
    have hstart:=hs.start;obtain⟨hm,hfr,hd⟩:=hs;obtain⟨hm0,he0⟩:=hm.drew;obtain⟨hm1,he1⟩:=hm0.bump eNone.1 eNone.2;have he1:=he0.trans he1;have hfr1:=hfr.mono he1
    have hcur0:∀ (n:Nat) t,cur ops.toList fr vals (λi=>(Array.replicate ops.toList.length false).getD i true) n t=fr.get t\/n>ops.toList.length:=by
     intro n
     induction n with
     |zero=>intro t;exact .inl rfl
     |succ n ih2=>
      intro t;rcases Nat.lt_or_ge ops.toList.length (n+1)with hgt|hle
      .exact .inr hgt
      .left
       simp only[cur];rw[if_neg (λhc=>by have:=hc.1;rw[hrep n (by omega)]at this;cases this)];exact(ih2 t).resolve_right (by omega)
    have key:=zn1 (w0:=w0) (R0:=R0) (M:=M) m.next hwalk (qH2 hlex') hMc (hst hstart) hns (Q:=λe a' w'=>e=.normal/\∃I',m8 ds w0 R0 I' w' fr' m' a'/\b8 w0 R0 I w m I' w' m') (Ψ:=λI' w' mm=>b8 w0 R0 I w m I' w' mm)
     (λρ1 w1 m1 k r w2 m2 hk h1 hn hkeep=>⟨by rw[hn];exact h1.le,λid hid=>by rw[t7 _ _ (by omega)];exact h1.same id hid,λb hb=>by
       obtain⟨g1,g2⟩:=h1.keep b hb;obtain⟨g3,g4⟩:=hkeep b g1
       exact⟨g3,g4.trans g2⟩⟩)
     (λ_ _ _ _ _ _ h1 h2=>h1.trans h2) (λI' w' a' g1 g2=>by
       obtain⟨q1,q2,q3⟩:=g1;refine⟨rfl,I',⟨q1.congr (λid=>(eAll.1 id).symm) eAll.2.symm,?_,q3⟩,?_⟩
       .rw[<-RO.congr eAll.1,<-eAll.2];exact q2
       .unfold b8
        rw[<-RO.congr eAll.1,<-eAll.2];exact g2) ops.toList.length (Array.replicate ops.toList.length false) I w.drew a (by simp)
     (by
       have:∀n,n<=ops.toList.length->xW1 (Array.replicate ops.toList.length false) n=n:=by
        intro n
        induction n with
        |zero=>intro _;rfl
        |succ n ih2=>
         intro hn;simp only[xW1,ih2 (by omega),hrep n (by omega)];simp
       exact this _ (Nat.le_refl _))
     (λj oj hj hl=>by
       have hjl:=(List.getElem?_eq_some_iff.1 hj).1;rw[Array.getD_eq_getD_getElem?,Array.getElem?_replicate,if_pos (by omega)]at hl
       cases hl)
     hm1 hfr1.1 hd (λt=>by rw[(hcur0 _ t).resolve_right (by omega)];exact hfr1.2 t) he1
    simpa using key
   have tpart:∀p,(xN1 E ih ops.toList (λp fr m=>ih k p fr m Z) p fr m).holds L->∃p' fr' m',(ih k p' fr' m' Z).holds L/\zd2 P (.code (.region id ops true)::k) fr m (.stop k fr' m'):=by
    intro p h;unfold xN1 at h;obtain⟨p',fr',m',h1,h2⟩:=zV2 hE (zz6 hE hS hih) (zz7 hE hS hih) (zz4 hE hS hih) _ _ _ _ _ _ h;obtain⟨frs,vals,ms,rs,hw⟩:=h2.toWalk
    have get:∀j,j<ops.toList.length->∃o,ops.toList[j]? =some o:=λj hj=>⟨_,List.getElem?_eq_getElem hj⟩
    have hkeep:∀id j,j<ops.toList.length->id∉ (rs j).wt->(ms (j+1)).get id=(ms j).get id:=λid j hj hid=>by
     obtain⟨o,ho⟩:=get j hj;exact(hw.step j o ho).keep id hid
    have hsame:∀j,j<ops.toList.length->(rs j).g=false->(ms (j+1)).next=(ms j).next:=λj hj=>by
     obtain⟨o,ho⟩:=get j hj;exact(hw.step j o ho).same
    refine⟨p',fr',m',h1,ord fr' m' frs vals (qW5 ops.toList ms rs) ⟨hw.first,hw.last,hw.next⟩ (λS S' hS=>?_) ⟨λid=>?_,?_⟩ ⟨λid=>?_,?_⟩ (λhst S i o hoi hSi hcl hrd=>?_)⟩
    .unfold qW5
     rw[show qu9 ms rs S ops.toList.length=qu9 ms rs S' ops.toList.length from funext λid=>qv1 _ λj hj _=>hS j hj,q43 _ λj hj _=>hS j hj]
    .rw[qW6,qv0 _ (λj hj=>hkeep id j hj) (λ_ _ _=>rfl),hw.mlast]
    .rw[qW7,q42 _ hsame (λ_ _ _=>rfl),hw.mlast]
    .rw[qW6,qv3 (i:=0) _ (Nat.zero_le _) (λj _ h2 _=>hrep j h2)]
     show(ms 0).get id=_;rw[hw.mfirst];rfl
    .rw[qW7,q45 (i:=0) _ (Nat.zero_le _) (λj _ h2 _=>hrep j h2)]
     show _<=(ms 0).next;rw[hw.mfirst];exact Nat.le_add_right _ _
    .refine xS6 hw m.next (λc k hk=>?_) (λid B hB=>hst.2.1 id B hB) (λt k hk=>hst.2.2 t k hk) S i o hoi hSi hcl hrd
     have h3:=qF4 hk;obtain⟨h4,h5⟩:=yV9 _ _ _ h3;exact⟨h3,h4,h5⟩
   split at h
   . -- a call at the end
     split at h
     .rename_i hlb
      left
      have hne:ops.toList≠[] :=by
       intro hc;rename_i hany _;rw[hc]at hany;simp at hany
      have hpos:0<ops.toList.length:=List.length_pos_iff.2 hne;obtain⟨p',fr',m',h1,h2⟩:=zU9 hE (zz7 hE hS hih) (zz6 hE hS hih) _ _ _ _ hne h;obtain⟨frs,vals,q1,q2,q3,q4,q5⟩:=h2.index
      exact⟨p',fr',m',h1,ord fr' m' frs vals (λS=>if S (ops.toList.length-1)=true then m' else m) ⟨q1,q2,q3⟩ (λS S' hS=>by rw[hS (ops.toList.length-1) (by omega)])
       (by rw[if_pos rfl];exact⟨λ_=>rfl,rfl⟩) (by
         rw[if_neg (λh=>by
          have h2:(Array.replicate ops.toList.length false).getD (ops.toList.length-1) true=true:=h
          rw[hrep _ (by omega)]at h2;cases h2)]
         exact⟨λ_=>rfl,Nat.le_refl _⟩)
       (λ_ S i o hoi hSi hcl hrd=>.inl (qQ2 hlb q4 q5 S i o hoi hSi hcl))⟩
     .exact h.elim
   .split at h
    . -- a call that may panic
      rename_i c hpn
      split at h
      .rename_i oc hoc
       rw[q60]at hoc
       split at h
       .rename_i hcg
        obtain⟨p1,fr1,h1,frs,vals,q1,q2,q3⟩:=zV5 hE (zz7 hE hS hih) _ _ _ _ _ h
        split at h1
        .rename_i t ht
         obtain⟨f,cl,hop,hcal,s,hs,ht⟩:=yN0 ht;rcases bindX_holds t p1 h1 (hS.2.2.1 f s _ m t hs ht)with⟨v,m1,p',h2,h3⟩|⟨v,m1,h2,h3⟩
         .exact .inl (tpart p' h2)
         .right
          obtain⟨fr2,g1,g2,g3⟩:=xS3 _ _ _ h2;refine⟨_,g1,λds w0 R0 I w a hs b cs=>?_⟩;have hcl:=(List.getElem?_eq_some_iff.1 hoc).1;obtain⟨s1,s2,s3,s4,s5⟩:=x20 (c:=c) ops.toList 0 [];have hi:=qH2 hlex'
          have hpan:zd8 P m v m1 oc (o8 (frs ops.toList.length)):=by
           rw[q2];exact xD6 hop hcal h3
          obtain⟨hm,hfr,hd⟩:=hs;obtain⟨hm0,he0⟩:=hm.drew;have hfr0:=hfr.mono he0
          have key:=zn2 (ds:=ds) (D:=λj=>!qz6 (x19 c ops.toList 0 []) j) (w0:=w0) (R0:=R0) (v:=v) (m':=m1) (frs:=frs) (vals:=vals) (fr:=fr) (c:=c)
           ⟨q1,λi o ho=>by
            have:=q3 i o ho;rw[Nat.zero_add]at this
            exact⟨λhD=>(this.1 (by simpa using hD)).1,λhD=>this.2 (by simpa using hD)⟩⟩ hi
           (λi o ho hD=>by
             have:=q3 i o ho;rw[Nat.zero_add]at this
             exact(this.1 (by simpa using hD)).2) hoc hcg (by
             have:=s3 c oc hoc (Nat.zero_add c);rw[Nat.zero_add]at this
             simp[this]) hpan
           (λi o ho hD hic=>by
             have:=s4 i o ho (by rw[Nat.zero_add];simpa using hD);rw[Nat.zero_add]at this;rcases this with h|h|⟨e,e1,e2,e3⟩
             .cases h
             .exact absurd h hic
             .exact⟨e,e1,e2,by simp[e3]⟩)
           (λj oj hj hD e e1 e2=>by
             cases h4:qz6 (x19 c ops.toList 0 []) e.on with
             |false=>simp
             |true=>
              have:=s5 j oj hj ⟨e,e1,e2,h4,by rw[Nat.zero_add];exact hi.back j oj hj e e1 e2⟩;rw[Nat.zero_add]at this
              simp[this]at hD)
           (Q:=λe a' w'=>∃u I',e=.panic [{v:=u,recovered:=false}] /\m8 ds w0 R0 I' w' fr2 m1 a'/\b8 w0 R0 I w m I' w' m1/\Rep (RO w0 R0 I' w' m1) I' m1.next w' v u) (ρ0:=I) (wa:=w)
           (λI' w' a' u k1 k2 k3 k4 k5 k6=>⟨u,I',rfl,⟨k1,⟨g2.trans k2,λt=>by
             rcases g3 t with h|⟨h,h'⟩
             .rw[h];trivial
             .rw[h];exact k4 t h'⟩,k3⟩,k5,k6⟩) ops.toList.length (Array.replicate ops.toList.length false) I w.drew a (by simp)
           (by
             have:∀n,n<=ops.toList.length->xW1 (Array.replicate ops.toList.length false) n=n:=by
              intro n
              induction n with
              |zero=>intro _;rfl
              |succ n ih2=>
               intro hn;simp only[xW1,ih2 (by omega),hrep n (by omega)];simp
             exact this _ (Nat.le_refl _))
           (λj oj hj hl=>by
             rw[hrep j (List.getElem?_eq_some_iff.1 hj).1]at hl;cases hl)
           (λk hk hl=>by rw[hrep k hk]at hl;cases hl) hm0 hfr0.1 hd (λt=>by
             have hcur0:∀ (n:Nat),n<=ops.toList.length->cur ops.toList fr vals (λi=>(Array.replicate ops.toList.length false).getD i true) n t=fr.get t:=by
              intro n
              induction n with
              |zero=>intro _;rfl
              |succ n ih2=>
               intro hn;simp only[cur];rw[if_neg (λhc=>by have:=hc.1;rw[hrep n (by omega)]at this;cases this)];exact ih2 (by omega)
             rw[hcur0 _ (Nat.le_refl _)];exact hfr0.2 t) he0
          have hw:(Code.region id ops true).wp P (λe a' w'=>∃u I',e=.panic [{v:=u,recovered:=false}] /\m8 ds w0 R0 I' w' fr2 m1 a'/\b8 w0 R0 I w m I' w' m1/\Rep (RO w0 R0 I' w' m1) I' m1.next w' v u) a w:=wp_region_any hmix (by simpa using key);obtain⟨e,a',w',⟨u,I',rfl,k1,k2,k3⟩,todo,harr⟩:=hw b k cs;exact⟨I',w',a',todo,u,k1,k2,k3,harr⟩
        .exact h1.elim
       .exact h.elim
      .exact h.elim
    left
    split at h
    .split at h
     .rename_i hch
      obtain⟨p',fr',m',h1,h2⟩:=zU7 hE (zz6 hE hS hih) _ _ _ _ h;obtain⟨frs,vals,ms,hw⟩:=h2.toWalk
      have eA:zG5 E ops.toList ms (λ_=>true) ops.toList.length=m':=by rw[zG6 (qs7 hw) _ (Nat.le_refl _) (λ_ _ _=>rfl),hw.mlast]
      have eN:zG5 E ops.toList ms (λk=>(Array.replicate ops.toList.length false).getD k true) ops.toList.length=m:=by rw[zG8 (i:=0) _ (Nat.zero_le _) (λk _ h2 _=>hrep k h2)];exact hw.mfirst
      exact⟨p',fr',m',h1,ord fr' m' frs vals (λS=>zG5 E ops.toList ms S ops.toList.length) ⟨hw.first,hw.last,hw.next⟩ (λS S' hS=>zG7 _ λk hk _=>hS k hk)
       (by rw[eA];exact⟨λ_=>rfl,rfl⟩) (by rw[eN];exact⟨λ_=>rfl,Nat.le_refl _⟩)
       (λ_ S i o hoi hSi hcl hrd=>.inl (qs8 hw hch S i o hoi hSi hcl hrd))⟩
     .exact h.elim
    .split at h
     .rename_i hwetb
      have hwetb:=(Bool.and_eq_true _ _▸hwetb).1;obtain⟨p',fr',m',h1,h2⟩:=zV3 hE (zz7 hE hS hih) _ _ _ _ h;obtain⟨frs,vals,ms,hw⟩:=h2.toWalk;obtain⟨al,af,hwet⟩:=x22 hwetb
      have hquiet:∀i o,ops.toList[i]? =some o->x44 o.op=false->ms (i+1)=ms i:=λi o ho hwr=>x28 hw hwet i o ho hwr
      have eA:zG9 ops.toList ms (λ_=>true) ops.toList.length=m':=by rw[zH0 hquiet _ (Nat.le_refl _) (λ_ _ _=>rfl),hw.mlast]
      have eN:zG9 ops.toList ms (λk=>(Array.replicate ops.toList.length false).getD k true) ops.toList.length=m:=by rw[zH2 (i:=0) _ (Nat.zero_le _) (λk _ h2 _=>hrep k h2)];exact hw.mfirst
      exact⟨p',fr',m',h1,ord fr' m' frs vals (λS=>zG9 ops.toList ms S ops.toList.length) ⟨hw.first,hw.last,hw.next⟩ (λS S' hS=>zH1 _ λk hk _=>hS k hk)
       (by rw[eA];exact⟨λ_=>rfl,rfl⟩) (by rw[eN];exact⟨λ_=>rfl,Nat.le_refl _⟩)
       (λhst S i o hoi hSi hcl hrd=>.inl (x29 hw hwet hst.1 S i o hoi hSi hcl hrd))⟩
     .exact tpart _ h
  .exact h.elim
theorem zV6(hE:EOK P E)(hS:ze2 P E)(hmix:P.follows .mixedOrders=true):∀n:Nat,zb2 P (exec (O:=O) E n)
 |0=>λitems p fr m Z L h=>h.elim
 |n+1=>by
  have ihn:=zV6 hE hS hmix n;intro items p fr m Z L h
  change (xJ3 E (exec E n) items p fr m Z).holds L at h
  -- on from where one step leads
  have onn:∀ (items':List Item) (p:Plan) (fr':Fr) (m':Mem),(exec E n items' p fr' m' Z).holds L->zd2 P items fr m (.stop items' fr' m')->∃out,(Z out).holds L/\zd2 P items fr m out:=by
   intro items' p fr' m' h1 h2;obtain⟨out,h3,h4⟩:=ihn _ _ _ _ _ _ h1;exact⟨out,h3,h2.trans h4⟩
  unfold xJ3 at h
  split at h
  .exact⟨_,h,λds w0 R0 I w a hs b cs=>⟨I,w,a,[],hs,Ext.refl _ _ _ _,.one step_end⟩⟩
  .rename_i id k
   exact onn _ _ _ _ h (zd2.step λb a cs w _=>step_inBlock)
  .rename_i bd k
   exact onn _ _ _ _ h (zd2.step λb a cs w _=>xJ7)
  .rename_i bd k
   split at h
   .exact onn _ _ _ _ h (zd2.step λb a cs w _=>step_inLoop)
   .exact onn _ _ _ _ h (zd2.step λb a cs w _=>step_inLoop)
   .exact⟨_,h,zd2.refl _ _ _⟩
  .rename_i c k
   cases c with
   |skip=>exact onn _ _ _ _ h (zd2.step λb a cs w _=>step_skip)
   |label l=>exact onn _ _ _ _ h (zd2.step λb a cs w _=>step_label)
   |region id ops draw=>
    rcases region_reach hE hS hmix ihn h with⟨p',fr',m',h1,h2⟩|h
    .exact onn _ _ _ _ h1 h2
    .exact h
   |seq x y=>exact onn _ _ _ _ h (zd2.step λb a cs w _=>step_seq)
   |cond c x y=>
    dsimp only[zE3]at h
    split at h
    .rename_i bb hc
     obtain⟨p',h⟩:=zK3 h
     have st:∀ (a:Act) (w:World),(∀x,∃R I n,Rep R I n w (o8 fr x) (a.eval x))->a.eval c=.bool bb:=λa w hx=>by
      obtain⟨R,I,n,h1⟩:=hx c;rw[hc]at h1;exact h1
     cases bb with
     |true=>exact onn _ _ _ _ h (zd2.step λb a cs w hx=>by have:=step_cond (P:=P) (b:=b) (a:=a) (k:=k) (cs:=cs) (w:=w) (x:=x) (y:=y) (st a w hx);simpa using this)
     |false=>exact onn _ _ _ _ h (zd2.step λb a cs w hx=>by have:=step_cond (P:=P) (b:=b) (a:=a) (k:=k) (cs:=cs) (w:=w) (x:=x) (y:=y) (st a w hx);simpa using this)
    .exact h.elim
   |block id bd=>exact onn _ _ _ _ h (zd2.step λb a cs w _=>step_block)
   |loop bd=>
    dsimp only[zE3]at h
    split at h
    .exact onn _ _ _ _ h (zd2.step λb a cs w _=>step_loop)
    .exact onn _ _ _ _ h (zd2.step λb a cs w _=>step_loop)
    .exact⟨_,h,zd2.refl _ _ _⟩
   |rangeFunc f ps as1 bd=>exact h.elim
   |exit id=>
    dsimp only[zE3]at h
    split at h
    .rename_i k' hk
     exact onn _ _ _ _ h (zd2.step λb a cs w _=>step_exit hk)
    .exact h.elim
   |scope bd=>exact onn _ _ _ _ h (zd2.step λb a cs w _=>xJ8)
   |goto l=>exact h.elim
   |ret=>exact⟨_,h,λds w0 R0 I w a hs b cs=>⟨I,w,a,_,hs,Ext.refl _ _ _ _,.one step_ret⟩⟩
   |refuse why=>exact h.elim
  .rename_i ops l k
   split at h
   .exact onn _ _ _ _ h (zd2.step λb a cs w _=>step_region_end)
   .rename_i i rest
    split at h
    .rename_i hl
     have hl:=of_decide_eq_true hl
     have hlen:(ops.toList.drop i).length=ops.size-i:=by simp
     rcases execOpsP_chain hE hS (zz6 hE hS ihn) _ _ _ _ h with⟨p',fr',m',h1,h2⟩|⟨v,fr',m',h1,h2⟩
     .refine onn _ _ _ _ h1 λds w0 R0 I w a hs b cs=>?_
      have:=zC8 (Q:=λe a' w'=>e=.normal/\∃I',m8 ds w0 R0 I' w' fr' m' a'/\b8 w0 R0 I w m I' w' m') h2 i rfl I w a hs (λI' w' a' g1 g2=>⟨rfl,I',g1,g2⟩);rw[hlen,<-hl]at this
      have hq:wpOps P ops (λe a' w'=>e=.normal/\∃I',m8 ds w0 R0 I' w' fr' m' a'/\b8 w0 R0 I w m I' w' m') (i::rest) a w:=by simpa using this
      obtain⟨e,a',w',⟨rfl,I',g1,g2⟩,harr⟩:=wp_ops _ a w hq b k cs;exact⟨I',w',a',g1,g2,harr⟩
     .refine⟨_,h1,λds w0 R0 I w a hs b cs=>?_⟩
      have:=zC6 (Q:=λe a' w'=>∃u I',e=.panic [{v:=u,recovered:=false}] /\m8 ds w0 R0 I' w' fr' m' a'/\b8 w0 R0 I w m I' w' m'/\Rep (RO w0 R0 I' w' m') I' m'.next w' v u) h2 i rfl I w a hs (λI' w' a' u g1 g2 g3=>⟨u,I',rfl,g1,g2,g3⟩);rw[hlen,<-hl]at this
      have hq:wpOps P ops (λe a' w'=>∃u I',e=.panic [{v:=u,recovered:=false}] /\m8 ds w0 R0 I' w' fr' m' a'/\b8 w0 R0 I w m I' w' m'/\Rep (RO w0 R0 I' w' m') I' m'.next w' v u) (i::rest) a w:=by simpa using this
      obtain⟨e,a',w',⟨u,I',rfl,g1,g2,g3⟩,todo,harr⟩:=wp_ops _ a w hq b k cs;exact⟨I',w',a',todo,u,g1,g2,g3,harr⟩
    .exact h.elim
  .exact h.elim
structure Known (P:Program) (E:Env):Prop where
 e:EOK P E
 s:ze2 P E
 mix:P.follows .mixedOrders=true
theorem xD0(hK:Known P E){n:Nat}(hd:f6 args=true)(hvd:v.data=true)(h:(zU3 E n f args p).holds λx=>x.1=v):SCall P f args v:=by
 intro m w0 R0 I w vs hm hvs;unfold zU3 at h
 split at h
 .rename_i fn hfn
  have hf:=hK.e.fn f fn hfn
  split at h
  .rename_i body hb
   split at h
   .rename_i hn
    obtain⟨fr,h1,h2,h3,h4⟩:=qV1 h;obtain⟨out,h5,h6⟩:=zV6 hK.e hK.s hK.mix n _ _ _ _ _ _ h1
    cases out with
    |stop it fr' m'=>exact h5.elim
    |pan v fr' m'=>exact h5.elim
    |ret p' fr' mc=>
     dsimp only at h5;obtain⟨v',h7,h8⟩:=yZ8 hK.e h5;obtain rfl:v'=v:=h7;rw[zz2 hf hb hn];obtain⟨o1,o2⟩:=yF6 hm I;have hfr:=qs1 h2 h3 h4 (j7.data (R':=RO w (RS w0 R0 I w m) I w ⟨0,.e⟩) (I':=I) (n':=0) o2 args vs hd hvs)
     refine Calls.mono (zA0 hf hb h6 h8 o1 hfr) λe w' ⟨u,he,I',g1,g2,g3⟩=>⟨u,he,?_⟩
     have hst:=Hand.start hm g1;obtain⟨k1,k2⟩:=hst.finish hm g1;exact⟨I,k1,k2,Rep.data (λb hb=>hst.ro b (.inr hb)) v' u hvd g3⟩
   .exact h.elim
  .exact h.elim
 .exact h.elim
end
variable{w:World}
theorem zK9{R:Nat->Prop}:∀ (u:Ty) (vs rest:List Value),zK8 u vs=some rest->∃v1,vs=v1++rest/\r8 R w u u.dflt v1
 |.unit,vs,rest,h=>by simp only[zK8,Option.some.injEq]at h;exact⟨[],h,rfl⟩
 |.int k,vs,rest,h=>by
  unfold zK8 at h
  split at h
  .split at h
   .rename_i hk
    injection h with h;subst h hk;exact⟨[_],rfl,rfl⟩
   .cases h
  .cases h
 |.bool,vs,rest,h=>by
  unfold zK8 at h
  split at h
  .injection h with h;subst h
   exact⟨[_],rfl,rfl⟩
  .cases h
 |.str,vs,rest,h=>by
  unfold zK8 at h
  split at h
  .injection h with h;subst h
   exact⟨[_],rfl,rfl⟩
  .cases h
 |.list t,vs,rest,h=>by
  unfold zK8 at h
  split at h
  .injection h with h;subst h
   exact⟨[_],rfl,none,0,rfl,Nat.le_refl _,λh0=>absurd h0 (Nat.lt_irrefl _)⟩
  .cases h
 |.pair a b,vs,rest,h=>by
  unfold zK8 at h
  split at h
  .rename_i vs1 h1
   obtain⟨v1,e1,r1⟩:=zK9 a vs vs1 h1;obtain⟨v2,e2,r2⟩:=zK9 b vs1 rest h;exact⟨v1++v2,by rw[e1,e2];simp,v1,v2,rfl,r1,r2⟩
  .cases h
variable{P:Program}
theorem y60[ElOK P]{t:TypeId}{r:Row}(h:y58 P t=some r):RowOK P t r:=by
 have h00:=h;unfold y58 at h
 split at h
 .rename_i d i hd hi
  split at h
  .rename_i z hz
   injection h with h;have hel:∀hk:(r.ty=some (.int .u8)\/r.desc=.int .u8),r.size=1->El8 t:=y61 h00;subst h;refine⟨hd,⟨i,z,hi,rfl,rfl,hz,λR I n w=>yu4 R I n w _,λu hu R w=>?_⟩,rfl,rfl,hel⟩;dsimp only at hu;unfold xT7 at hu
   split at hu
   .rename_i u' hu'
    split at hu
    .rename_i hc
     injection hu with hu;subst hu;obtain⟨v1,e1,r1⟩:=zK9 (R:=R) (w:=w) u' _ _ hc;rw[List.append_nil]at e1;rw[e1];exact r1
    .cases hu
   .cases hu
  .cases h
 .cases h
theorem qO7[ElOK P]{sum:FuncId->Option (List SV->Option (Tree SV))}(hmix:P.follows .mixedOrders=true)(hsum:ze2 P (Env.of P sum)):Known P (Env.of P sum):=
 ⟨⟨λt r h=>y60 h,λf fn h=>h,λt z h=>(by cases h)⟩,hsum,hmix⟩
structure Fact where
 f:FuncId
 s:List SV->Option (Tree SV)
noncomputable def j9(l:List Fact)(f:FuncId):Option (List SV->Option (Tree SV)):=
 List.rec (motive:=λ_=>Option (List SV->Option (Tree SV))) none (λx _ ih=>match Nat.beq x.f f with
  |true=>some x.s
  |false=>ih) l
def Fact.ok(P:Program)(x:Fact):Prop:=∀args t,x.s args=some t->t.says (SCall P x.f args)
theorem xL9:∀ (l:List Fact),(∀x∈l,x.ok P)->∀f s args t,j9 l f=some s->s args=some t->t.says (SCall P f args)
 |[],_=>λf s args t h=>by cases h
 |x::l,h=>λf s args t hs ht=>by
  change (match Nat.beq x.f f with
   |true=>some x.s
   |false=>j9 l f)=some s at hs
  split at hs
  .rename_i hf
   injection hs with hs;subst hs;have:x.f=f:=Nat.eq_of_beq_eq_true hf;subst this;exact h x List.mem_cons_self args t ht
  .exact xL9 l (λy hy=>h y (List.mem_cons_of_mem _ hy)) f s args t hs ht
theorem xL8(l:List Fact)(h:∀x∈l,x.ok P):ze2 P (Env.of P (j9 l)):=⟨xL9 l h,λf s args m t h=>(by cases h),λf s args m t h=>(by cases h),λf s args B t h=>(by cases h),λf s args t h=>(by cases h)⟩
structure WFact where
 f:FuncId
 s:List SV->Mem->Option (Tree (SV×Mem))
noncomputable def s8(l:List WFact)(f:FuncId):Option (List SV->Mem->Option (Tree (SV×Mem))):=
 List.rec (motive:=λ_=>Option (List SV->Mem->Option (Tree (SV×Mem)))) none (λx _ ih=>match Nat.beq x.f f with
  |true=>some x.s
  |false=>ih) l
def WFact.ok(P:Program)(x:WFact):Prop:=∀args m t,x.s args m=some t->t.says (ze4 P x.f args m)
theorem x36:∀ (l:List WFact),(∀x∈l,x.ok P)->∀f s args m t,s8 l f=some s->s args m=some t->t.says (ze4 P f args m)
 |[],_=>λf s args m t h=>by cases h
 |x::l,h=>λf s args m t hs ht=>by
  change (match Nat.beq x.f f with
   |true=>some x.s
   |false=>s8 l f)=some s at hs
  split at hs
  .rename_i hf
   injection hs with hs;subst hs;have:x.f=f:=Nat.eq_of_beq_eq_true hf;subst this;exact h x List.mem_cons_self args m t ht
  .exact x36 l (λy hy=>h y (List.mem_cons_of_mem _ hy)) f s args m t hs ht
theorem qP0[ElOK P](hmix:P.follows .mixedOrders=true){l:List Fact}{k:List WFact}(hl:∀x∈l,x.ok P)(hk:∀x∈k,x.ok P):Known P (Env.ofW P (j9 l) (s8 k)):=
 ⟨⟨λt r h=>y60 h,λf fn h=>h,λt z h=>(by cases h)⟩,⟨xL9 l hl,x36 k hk,λf s args m t h=>(by cases h),λf s args B t h=>(by cases h),λf s args t h=>(by cases h)⟩,hmix⟩
def j6(l:List Nat)(f:FuncId):Bool:=l.any λx=>Nat.beq x f
structure PFact where
 f:FuncId
 s:List SV->Mem->Option (Tree Ex)
noncomputable def p9(l:List PFact)(f:FuncId):Option (List SV->Mem->Option (Tree Ex)):=
 List.rec (motive:=λ_=>Option (List SV->Mem->Option (Tree Ex))) none (λx _ ih=>match Nat.beq x.f f with
  |true=>some x.s
  |false=>ih) l
def PFact.ok(P:Program)(x:PFact):Prop:=∀args m t,x.s args m=some t->t.says (ze6 P x.f args m)
theorem yM8:∀ (l:List PFact),(∀x∈l,x.ok P)->∀f s args m t,p9 l f=some s->s args m=some t->t.says (ze6 P f args m)
 |[],_=>λf s args m t h=>by cases h
 |x::l,h=>λf s args m t hs ht=>by
  change (match Nat.beq x.f f with
   |true=>some x.s
   |false=>p9 l f)=some s at hs
  split at hs
  .rename_i hf
   injection hs with hs;subst hs;have:x.f=f:=Nat.eq_of_beq_eq_true hf;subst this;exact h x List.mem_cons_self args m t ht
  .exact yM8 l (λy hy=>h y (List.mem_cons_of_mem _ hy)) f s args m t hs ht
structure BFact where
 f:FuncId
 s:List SV->Box->Option (Tree (Bool×SV×Box))
noncomputable def p8(l:List BFact)(f:FuncId):Option (List SV->Box->Option (Tree (Bool×SV×Box))):=
 List.rec (motive:=λ_=>Option (List SV->Box->Option (Tree (Bool×SV×Box)))) none (λx _ ih=>match Nat.beq x.f f with
  |true=>some x.s
  |false=>ih) l
def BFact.ok(P:Program)(x:BFact):Prop:=∀args B t,x.s args B=some t->t.says (za1 P x.f args B)
theorem zy0:∀ (l:List BFact),(∀x∈l,x.ok P)->∀f s args B t,p8 l f=some s->s args B=some t->t.says (za1 P f args B)
 |[],_=>λf s args m t h=>by cases h
 |x::l,h=>λf s args m t hs ht=>by
  change (match Nat.beq x.f f with
   |true=>some x.s
   |false=>p8 l f)=some s at hs
  split at hs
  .rename_i hf
   injection hs with hs;subst hs;have:x.f=f:=Nat.eq_of_beq_eq_true hf;subst this;exact h x List.mem_cons_self args m t ht
  .exact zy0 l (λy hy=>h y (List.mem_cons_of_mem _ hy)) f s args m t hs ht
noncomputable def zx8(m:Mem)(id:Nat):Tree (Bool×SV×Box)->Tree Ex
 |.leaf x=>m.set id (some x.2.2) λm'=>.leaf (match x.1 with
  |true=>.pan x.2.1 m'
  |false=>.ok x.2.1 m')
 |.node b t f=>.node b (zx8 m id t) (zx8 m id f)
 |.req b t=>.req b (zx8 m id t)
 |.fail n=>.fail n
noncomputable def zx7(s:List SV->Box->Option (Tree (Bool×SV×Box)))(args:List SV)(m:Mem):Option (Tree Ex):=
 match args with
 |x::rest=>match x with
  |.ptr id off=>match Nat.beq off 0 with
   |true=>match m.get id with
    |some B=>match s rest B with
     |some t=>some (zx8 m id t)
     |none=>none
    |none=>none
   |false=>none
  |_=>none
 |_=>none
noncomputable def BFact.toP(x:BFact):PFact:=⟨x.f,zx7 x.s⟩
theorem xE1{β V:Type}{Φ:V->Prop}:∀ (d:Nat) (t:Tb β) (i:Nat) (v:Option β) (k:Tb β->Tree V),(∀t',ze3 t i v t'->(k t').says Φ)->(f8 d t i v k).says Φ
 |0,_,_,_,_,_=>trivial
 |d+1,.e,0,v,k,h=>h _ λj=>by cases j with
   |zero=>simp[Tb.get_n_zero]
   |succ j=>rw[Tb.get_n_succ];by_cases hj:j % 2=0<;>simp[Tb.pick_even,Tb.pick_odd,hj,Tb.get_e]
 |d+1,.n l u r,0,v,k,h=>h _ λj=>by cases j with
   |zero=>simp[Tb.get_n_zero]
   |succ j=>simp[Tb.get_n_succ]
 |d+1,.e,i+1,v,k,h=>by
  change Tree.says Φ (Tb.pick i (λi=>f8 d .e i v λl=>k (.n l none .e)) (λi=>f8 d .e i v λr=>k (.n .e none r)))
  by_cases hi:i % 2=0
  .rw[Tb.pick_even hi]
   refine xE1 d _ _ _ _ λt' h1=>h _ λj=>?_
   cases j with
   |zero=>simp[Tb.get_n_zero,Tb.get_e]
   |succ j=>
    rw[Tb.get_n_succ]
    by_cases hj:j % 2=0
    .rw[Tb.pick_even hj,h1 (j / 2),Tb.get_e,Tb.get_e]
     have:j / 2=i / 2↔j+1=i+1:=by omega
     simp[this]
    .rw[Tb.pick_odd hj,Tb.get_e,Tb.get_e,if_neg (by omega)]
  .rw[Tb.pick_odd hi]
   refine xE1 d _ _ _ _ λt' h1=>h _ λj=>?_
   cases j with
   |zero=>simp[Tb.get_n_zero,Tb.get_e]
   |succ j=>
    rw[Tb.get_n_succ]
    by_cases hj:j % 2=0
    .rw[Tb.pick_even hj,Tb.get_e,Tb.get_e,if_neg (by omega)]
    .rw[Tb.pick_odd hj,h1 (j / 2),Tb.get_e,Tb.get_e]
     have:j / 2=i / 2↔j+1=i+1:=by omega
     simp[this]
 |d+1,.n l u r,i+1,v,k,h=>by
  change Tree.says Φ (Tb.pick i (λi=>f8 d l i v λl=>k (.n l u r)) (λi=>f8 d r i v λr=>k (.n l u r)))
  by_cases hi:i % 2=0
  .rw[Tb.pick_even hi]
   refine xE1 d _ _ _ _ λt' h1=>h _ λj=>?_
   cases j with
   |zero=>simp[Tb.get_n_zero]
   |succ j=>
    rw[Tb.get_n_succ,Tb.get_n_succ]
    by_cases hj:j % 2=0
    .rw[Tb.pick_even hj,Tb.pick_even hj,h1 (j / 2)]
     have:j / 2=i / 2↔j+1=i+1:=by omega
     simp[this]
    .rw[Tb.pick_odd hj,Tb.pick_odd hj,if_neg (by omega)]
  .rw[Tb.pick_odd hi]
   refine xE1 d _ _ _ _ λt' h1=>h _ λj=>?_
   cases j with
   |zero=>simp[Tb.get_n_zero]
   |succ j=>
    rw[Tb.get_n_succ,Tb.get_n_succ]
    by_cases hj:j % 2=0
    .rw[Tb.pick_even hj,Tb.pick_even hj,if_neg (by omega)]
    .rw[Tb.pick_odd hj,Tb.pick_odd hj,h1 (j / 2)]
     have:j / 2=i / 2↔j+1=i+1:=by omega
     simp[this]
variable{m:Mem}{id:Nat}
theorem xE5{V:Type}{Φ:V->Prop}{b:Option Box}{k:Mem->Tree V}(h:∀m',zc0 m id b m'->(k m').says Φ):(m.set id b k).says Φ:=
 xE1 40 _ _ _ _ λt' ht=>h ⟨m.next,t'⟩ ⟨ht,rfl⟩
variable{f:FuncId}{args:List SV}
theorem zx9{B:Box}(hB:m.get id=some B):∀ (t:Tree (Bool×SV×Box)),t.says (za1 P f args B)->(zx8 m id t).says (ze6 P f (.ptr id 0::args) m)
 |.leaf x,h=>xE5 λm' hm=>h m m' id hB hm
 |.node _ t f',h=>⟨λhb=>zx9 hB t (h.1 hb),λhb=>zx9 hB f' (h.2 hb)⟩
 |.req _ t,h=>λhb=>zx9 hB t (h hb)
 |.fail _,_=>trivial
theorem BFact.toP_ok{x:BFact}(h:x.ok P):x.toP.ok P:=by
 intro args m t ht
 change zx7 x.s args m=some t at ht
 unfold zx7 at ht
 split at ht
 .split at ht
  .split at ht
   .rename_i off h0
    split at ht
    .rename_i B hB
     split at ht
     .rename_i t' ht'
      injection ht with ht;subst ht;rw[Nat.eq_of_beq_eq_true h0];exact zx9 hB t' (h _ B t' ht')
     .cases ht
    .cases ht
   .cases ht
  .cases ht
 .cases ht
theorem qO8[ElOK P](hmix:P.follows .mixedOrders=true){l:List Fact}{k:List WFact}{j:List PFact}{i:List BFact}(hl:∀x∈l,x.ok P)(hk:∀x∈k,x.ok P)(hj:∀x∈j,x.ok P)(hi:∀x∈i,x.ok P)(typed:TypeId->Bool)(lst rd:FuncId->Bool)(cut:Nat->Bool):Known P (Env.ofB P (j9 l) (s8 k) (p9 j) (p8 i) typed lst rd cut):=
 ⟨⟨λt r h=>y60 h,λf fn h=>h,λt z h=>by
   change (P.info? t).bind (λi=>i.zero)=some z at h
   cases hi:P.info? t with
   |none=>rw[hi]at h;cases h
   |some i=>rw[hi]at h;exact⟨i,rfl,h⟩⟩,⟨xL9 l hl,x36 k hk,yM8 j hj,zy0 i hi,λf s args t h=>(by cases h)⟩,hmix⟩
structure OFact where
 f:FuncId
 s:List SV->Option (Tree (SV×Mem))
noncomputable def yE5(l:List OFact)(f:FuncId):Option (List SV->Option (Tree (SV×Mem))):=
 List.rec (motive:=λ_=>Option (List SV->Option (Tree (SV×Mem)))) none (λx _ ih=>match Nat.beq x.f f with
  |true=>some x.s
  |false=>ih) l
def OFact.ok(P:Program)(x:OFact):Prop:=∀args t,x.s args=some t->t.says (zc5 P x.f args)
theorem yE6:∀ (l:List OFact),(∀x∈l,x.ok P)->∀f s args t,yE5 l f=some s->s args=some t->t.says (zc5 P f args)
 |[],_=>λf s args t h=>by cases h
 |x::l,h=>λf s args t hs ht=>by
  change (match Nat.beq x.f f with
   |true=>some x.s
   |false=>yE5 l f)=some s at hs
  split at hs
  .rename_i hf
   injection hs with hs;subst hs;have:x.f=f:=Nat.eq_of_beq_eq_true hf;subst this;exact h x List.mem_cons_self args t ht
  .exact yE6 l (λy hy=>h y (List.mem_cons_of_mem _ hy)) f s args t hs ht
variable{E:Env}
theorem qO9(h:Known P E){l:List OFact}(hl:∀x∈l,x.ok P):Known P (Env.ofC E (yE5 l)):=
 ⟨⟨h.e.row,h.e.fn,h.e.zv⟩,⟨h.s.1,h.s.2.1,h.s.2.2.1,h.s.2.2.2.1,yE6 l hl⟩,h.mix⟩
variable{v:SV}
theorem xC9[ElOK P](hmix:P.follows .mixedOrders=true)(l:List Fact)(hl:∀x∈l,x.ok P)(n:Nat)(p:Plan){t:Tree (SV×Mem)}(ht:zU3 (Env.of P (j9 l)) n f args p=t)(h:t.holds λx=>x.1=v)(hd:f6 args=true)(hv:v.data=true):SCall P f args v:=
 xD0 (qO7 hmix (xL8 l hl)) hd hv (by rw[ht];exact h)
open Go.RowKit Go.WideShapes
section
variable {H:Type} {enc:TypeId×Value->H} {P:Program} {W:World}
end
def Tree.vals:Tree (SV×Mem)->Tree SV
 |.leaf x=>.leaf x.1
 |.node b t f=>.node b t.vals f.vals
 |.req b t=>.req b t.vals
 |.fail n=>.fail n
theorem Tree.vals_holds{L:SV->Prop}:∀t:Tree (SV×Mem),t.vals.holds L->t.holds λx=>L x.1
 |.leaf _,h=>h
 |.node _ t f,h=>⟨λhb=>t.vals_holds (h.1 hb),λhb=>f.vals_holds (h.2 hb)⟩
 |.req _ t,h=>⟨h.1,t.vals_holds h.2⟩
 |.fail _,h=>h
def zm7(P:Program):List Fact->Prop
 |[] =>True
 |x::l=>x.ok P/\zm7 P l
theorem zm7.all:∀{l:List Fact},zm7 P l->∀x∈l,x.ok P
 |_::_,h,_,.head _=>h.1
 |_::_,h,_,.tail _ hx=>h.2.all _ hx
theorem v8[ElOK P](hmix:P.follows .mixedOrders=true)(l:List Fact)(hl:zm7 P l)(n:Nat)(p:Plan){t:Tree SV}
  (ht:(zU3 (Env.of P (j9 l)) n f args p).vals=t) (h:t.holds λx=>x=v) (hd:f6 args=true) (hv:v.data=true):SCall P f args v:=
 xC9 hmix l hl.all n p rfl (Tree.vals_holds _ (by rw[ht];exact h)) hd hv
theorem x42{x:Int}(h: -9223372036854775808<=x)(k:x<=9223372036854775807):IntKind.wrap .i64 x=x:=by
 have h2:IntKind.wrap .i64 x=if true&&decide (x % 18446744073709551616>=9223372036854775808)then x % 18446744073709551616-18446744073709551616 else x % 18446744073709551616:=rfl
 rw[h2];simp only[Bool.true_and,decide_eq_true_eq]
 split<;>omega
noncomputable def x01(fr:Fr):List Bool->Nat->List SV
 |[],_=>[]
 |true::ks,t=>fr.get t::x01 fr ks (t+1)
 |false::ks,t=>.top::x01 fr ks (t+1)
theorem x02(fr:Fr):∀ (ks:List Bool) (t i:Nat) (x:SV),(x01 fr ks t)[i]? =some x->x=.top\/x=fr.get (t+i)
 |[],_,_,_,h=>by simp[x01]at h
 |true::ks,t,0,x,h=>by simp[x01]at h;exact .inr h.symm
 |false::ks,t,0,x,h=>by simp[x01]at h;exact .inl h.symm
 |true::ks,t,i+1,x,h=>by
  have:=x02 fr ks (t+1) i x (by simpa[x01]using h)
  rwa [show t+(i+1)=t+1+i by omega]
 |false::ks,t,i+1,x,h=>by
  have:=x02 fr ks (t+1) i x (by simpa[x01]using h)
  rwa [show t+(i+1)=t+1+i by omega]
structure Canon (slots:List SV) (boxes:List (Option Box)) (fr:Fr) (m:Mem):Prop where
 size:fr.size=slots.length
 get:∀t,fr.get t=slots.getD t .undef
 next:m.next=boxes.length
 box:∀id,m.get id=(boxes[id]?).join
inductive Stop where
 |done (v:SV)
 |at(items:List Item) (size:Nat) (slots:List SV) (boxes:List (Option Box))
noncomputable def qW2{O:Type}:List (Option Box)->Mem->(Mem->Tree O)->Tree O
 |[],m,k=>k m
 |some B::l,m,k=>m.push B λm _=>qW2 l m k
 |none::l,m,k=>qW2 l ⟨m.next+1,m.tb⟩ k
theorem qW3{O:Type}{L:O->Prop}:∀ (l:List (Option Box)) (m:Mem) (k:Mem->Tree O),(qW2 l m k).holds L->(∀id,m.next<=id->m.get id=none)->
  ∃m',(k m').holds L/\m'.next=m.next+l.length/\(∀id,id<m.next->m'.get id=m.get id)/\∀id,m'.get (m.next+id)=(l[id]?).join
 |[],m,k,h,hf=>⟨m,h,rfl,λ_ _=>rfl,λid=>by simpa using hf (m.next+id) (by omega)⟩
 |none::l,m,k,h,hf=>by
  obtain⟨m',h1,h2,h3,h4⟩:=qW3 l ⟨m.next+1,m.tb⟩ k h λid hid=>hf id (by dsimp only at hid;omega)
  refine⟨m',h1,by rw[h2];simp;omega,λid hid=>h3 id (by dsimp only;omega),λid=>?_⟩
  cases id with
  |zero=>
   rw[h3 (m.next+0) (by dsimp only;omega)]
   simpa[Mem.get]using hf m.next (Nat.le_refl _)
  |succ id=>
   have:=h4 id;dsimp only at this;rw[show m.next+(id+1)=m.next+1+id by omega,this];simp
 |some B::l,m,k,h,hf=>by
  obtain⟨m1,hp,h0⟩:=Mem.push_holds (k:=λm _=>qW2 l m k) h
  obtain⟨m',h1,h2,h3,h4⟩:=qW3 l m1 k h0 λid hid=>by
   rw[hp.2]at hid;rw[hp.1 id,if_neg (by omega)];exact hf id (by omega)
  rw[hp.2]at h2 h3 h4;refine⟨m',h1,by rw[h2];simp;omega,λid hid=>?_,λid=>?_⟩
  .rw[h3 id (by omega),hp.1 id,if_neg (by omega)]
  .cases id with
   |zero=>
    rw[h3 (m.next+0) (by omega),hp.1];simp
   |succ id=>
    rw[show m.next+(id+1)=m.next+1+id by omega,h4 id];simp
def enter:List Item->List Item
 |.code (.loop b)::k=>.code b::.inLoop b::k
 |.inLoop b::k=>.code b::.inLoop b::k
 |x=>x
def qT6:Code->List Item->List (List Item)
 |.seq a b,k=>qT6 a (.code b::k)++qT6 b k
 |.cond _ x y,k=>qT6 x k++qT6 y k
 |.block id b,k=>qT6 b (.inBlock id::k)
 |.scope b,k=>qT6 b (.inScope b::k)
 |.loop b,k=>(.code b::.inLoop b::k)::qT6 b (.inLoop b::k)
 |_,_=>[]
def x9(P:Program)(f:FuncId):Func:=match P.funcs[f]? with
 |some fn=>fn
 |none=>default
def zx3(P:Program)(f:FuncId):Code:=match(x9 P f).body with
 |some b=>b
 |none=>.skip
def x8(P:Program)(f:FuncId)(i:Nat):List Item:=((qT6 (zx3 P f) [])[i]?).getD []
theorem xN5{β:Type}:∀ (i:Nat) (t:Tb β) (v:Option β),∃t',ze3 t i v t':=by
 intro i
 induction i using Nat.strongRecOn with
 |ind i ih=>
  intro t v
  obtain⟨l,x,r,hg⟩:∃l x r,∀k,t.get k=(Tb.n l x r).get k:=by
   cases t with
   |n l x r=>exact⟨l,x,r,λ_=>rfl⟩
   |e=>
    refine⟨.e,none,.e,λk=>?_⟩
    cases k with
    |zero=>rfl
    |succ j=>
     rw[Tb.get_n_succ]
     by_cases h:j % 2=0
     .rw[Tb.pick_even h];rfl
     .rw[Tb.pick_odd h];rfl
  cases i with
  |zero=>
   refine⟨.n l v r,λk=>?_⟩
   cases k with
   |zero=>rfl
   |succ j=>rw[if_neg (by omega),hg];rfl
  |succ i=>
   by_cases hi:i % 2=0
   .obtain⟨l',hl⟩:=ih (i / 2) (by omega) l v
    refine⟨.n l' x r,λk=>?_⟩
    cases k with
    |zero=>rw[if_neg (by omega),hg];rfl
    |succ j=>
     rw[hg,Tb.get_n_succ,Tb.get_n_succ]
     by_cases h:j % 2=0
     .rw[Tb.pick_even h,Tb.pick_even h,hl]
      by_cases e:j=i
      .subst e;simp
      .rw[if_neg (by omega),if_neg (by omega)]
     .rw[Tb.pick_odd h,Tb.pick_odd h,if_neg (by omega)]
   .obtain⟨r',hr⟩:=ih (i / 2) (by omega) r v
    refine⟨.n l x r',λk=>?_⟩
    cases k with
    |zero=>rw[if_neg (by omega),hg];rfl
    |succ j=>
     rw[hg,Tb.get_n_succ,Tb.get_n_succ]
     by_cases h:j % 2=0
     .rw[Tb.pick_even h,Tb.pick_even h,if_neg (by omega)]
     .rw[Tb.pick_odd h,Tb.pick_odd h,hr]
      by_cases e:j=i
      .subst e;simp
      .rw[if_neg (by omega),if_neg (by omega)]
theorem Tree.holds_mono{O:Type}{L L':O->Prop}(h:∀x,L x->L' x):∀t:Tree O,t.holds L->t.holds L'
 |.leaf _,k=>h _ k
 |.node _ t f,k=>⟨λhb=>t.holds_mono h (k.1 hb),λhb=>f.holds_mono h (k.2 hb)⟩
 |.req _ t,k=>⟨k.1,t.holds_mono h k.2⟩
 |.fail _,k=>k
variable{slots:List SV}
theorem Canon.of{boxes:List (Option Box)}:∃fr m,Canon slots boxes fr m:=by
 have hS:∀ (l:List SV) (t:Tb SV) (i:Nat),∃t':Tb SV,∀k,t'.get k=if i<=k/\k<i+l.length then l[k-i]? else t.get k:=by
  intro l
  induction l with
  |nil=>exact λt i=>⟨t,λk=>by rw[if_neg (by simp)]⟩
  |cons x l ih=>
   intro t i;obtain⟨t1,h1⟩:=ih t (i+1);have:∃t',ze3 t1 i (some x) t':=xN5 i t1 (some x);obtain⟨t',ht'⟩:=this;refine⟨t',λk=>?_⟩;rw[ht' k]
   by_cases hk:k=i
   .subst hk;simp
   .rw[if_neg hk,h1 k]
    by_cases h2:i+1<=k/\k<i+1+l.length
    .rw[if_pos h2,if_pos (by simp;omega)]
     rw[show k-i=(k-(i+1))+1 by omega];simp
    .rw[if_neg h2,if_neg (by simp;omega)]
 have hB:∀ (l:List (Option Box)) (t:Tb Box) (i:Nat),∃t':Tb Box,∀k,t'.get k=if i<=k/\k<i+l.length then(l[k-i]?).join else t.get k:=by
  intro l
  induction l with
  |nil=>exact λt i=>⟨t,λk=>by rw[if_neg (by simp)]⟩
  |cons x l ih=>
   intro t i;obtain⟨t1,h1⟩:=ih t (i+1);obtain⟨t',ht'⟩:=xN5 i t1 x;refine⟨t',λk=>?_⟩;rw[ht' k]
   by_cases hk:k=i
   .subst hk;simp
   .rw[if_neg hk,h1 k]
    by_cases h2:i+1<=k/\k<i+1+l.length
    .rw[if_pos h2,if_pos (by simp;omega)]
     rw[show k-i=(k-(i+1))+1 by omega];simp
    .rw[if_neg h2,if_neg (by simp;omega)]
 obtain⟨t,ht⟩:=hS slots .e 0;obtain⟨u,hu⟩:=hB boxes .e 0;refine⟨⟨slots.length,t⟩,⟨boxes.length,u⟩,⟨rfl,λk=>?_,rfl,λk=>?_⟩⟩
 .unfold Fr.get
  rw[ht k,List.getD_eq_getElem?_getD]
  by_cases h:k<slots.length
  .rw[if_pos (by omega)];simp[h]
  .rw[if_neg (by omega)]
   rw[Tb.get_e,List.getElem?_eq_none (by omega)];rfl
 .unfold Mem.get
  rw[hu k]
  by_cases h:k<boxes.length
  .rw[if_pos (by omega)];simp
  .rw[if_neg (by omega)]
   rw[Tb.get_e,List.getElem?_eq_none (by omega)];rfl
variable{ds:List Deferred}{w0:World}{R0:RSet}{I:Rho}{a:Act}
theorem Canon.swap{boxes:List (Option Box)}{fr fr':Fr}{m':Mem}(h:Canon slots boxes fr m)(h':Canon slots boxes fr' m')(hs:m8 ds w0 R0 I w fr m a):
  m8 ds w0 R0 I w fr' m' a/\(∀b,RO w0 R0 I w m b↔RO w0 R0 I w m' b):=by
 have hg:∀id,m'.get id=m.get id:=λid=>by rw[h.box,h'.box]
 have hn:m'.next=m.next:=by rw[h.next,h'.next]
 have hro:RO w0 R0 I w m'=RO w0 R0 I w m:=by
  funext b
  unfold RO;simp only[hg]
 obtain⟨h1,h2,h3⟩:=hs;refine⟨⟨⟨h1.below,λid B hB=>?_,λid B hB=>h1.lo id B (by rw[<-hg];exact hB),λid B hB=>h1.hi id B (by rw[<-hg];exact hB),λid id' B B' hB hB'=>h1.inj id id' B B' (by rw[<-hg];exact hB) (by rw[<-hg];exact hB'),λid B hB=>?_,h1.hid.1,λid B hB=>h1.hid.2 id B (by rw[<-hg];exact hB)⟩,⟨?_,λt=>?_⟩,h3⟩,λb=>by rw[hro]⟩
 .rw[hn];exact h1.lt id B (by rw[<-hg];exact hB)
 .rw[hro,hn];exact h1.box id B (by rw[<-hg];exact hB)
 .rw[h'.size,<-h.size];exact h2.1
 .rw[hro,hn,h'.get,<-h.get];exact h2.2 t
theorem yI5(l:List SV)(k t:Nat):(l++List.replicate k SV.undef).getD t .undef=l.getD t .undef:=by
 simp only[List.getD_eq_getElem?_getD]
 by_cases h:t<l.length
 .rw[List.getElem?_append_left h]
 .rw[List.getElem?_append_right (by omega),List.getElem?_eq_none (l:=l) (by omega)]
  cases hx:(List.replicate k SV.undef)[t-l.length]? with
  |none=>rfl
  |some x=>
   have:=List.eq_of_mem_replicate (List.mem_of_getElem? hx);subst this;rfl
theorem qG3:∀{l:List Nat} {k j:Nat},idx l k=some j->l[j]? =some k
 |x::l,k,j,h=>by
  unfold idx at h
  split at h
  .rename_i hx
   injection h with h;subst h;simp[Nat.eq_of_beq_eq_true hx]
  .split at h
   .rename_i j' hj
    injection h with h;subst h
    simpa using qG3 hj
   .cases h
mutual
/-- A value with its boxes named anew. -/
def ren(ids:List Nat):SV->SV
 |.row id=>match idx ids id with|some k=>.row k|none=>.top
 |.arr id o n=>match idx ids id with|some k=>.arr k o n|none=>.top
 |.ptr id o=>match idx ids id with|some k=>.ptr k o|none=>.top
 |.rptr id z i o=>match idx ids id with|some k=>.rptr k z i o|none=>.top
 |.agg cs=>.agg (renL ids cs)
 |.tuple cs=>.tuple (renL ids cs)
 |.fn f a b=>.fn f (renL ids a) (renL ids b)
 |v=>v
def renL(ids:List Nat):List SV->List SV
 |[] =>[]
 |x::xs=>ren ids x::renL ids xs
end
def yW0(ids:List Nat):Box->Box
 |.cells cs=>.cells (renL ids cs)
 |.rows t l=>.rows t l
 |.iter s p=>.iter s p
 |.obj t cs=>.obj t (renL ids cs)
noncomputable def qG0(m:Mem):List Nat->List Nat->List Nat
 |[],l=>l
 |id::r,l=>qG0 m r (match m.get id with
  |some (.cells cs)=>qF8 cs l
  |some (.obj _ cs)=>qF8 cs l
  |_=>l)
noncomputable def live(m:Mem)(slots:List SV):List Nat:=
 let l:=qF8 slots []
 let l:=qG0 m l l
 qG0 m l l
def q55:List Nat->Bool
 |[] =>true
 |x::l=>(match idx l x with|some _=>false|none=>true)&&q55 l
theorem qG5:∀{l:List Nat} {k:Nat},idx l k=none->k∉l
 |[],_,_=>List.not_mem_nil
 |x::l,k,h=>by
  unfold idx at h
  split at h
  .cases h
  .rename_i hx
   split at h
   .cases h
   .rename_i hj
    intro hm
    cases hm with
    |head=>simp at hx
    |tail _ hm=>exact qG5 hj hm
theorem q56:∀{l:List Nat},q55 l=true->l.Nodup
 |[],_=>List.nodup_nil
 |x::l,h=>by
  simp only[q55,Bool.and_eq_true]at h;refine List.nodup_cons.2 ⟨?_,q56 h.2⟩;have h1:=h.1
  split at h1
  .cases h1
  .rename_i hx;exact qG5 hx
section
variable {R R':Nat->Prop} {I I':Rho} {n n':Nat} {w:World} {ids:List Nat}
mutual
theorem Rep.ren(hR:∀b,R b->R' b)(hρ:∀id k,idx ids id=some k->k<n'/\I' k=I id):∀ (x:SV) (v:Value),Rep R I n w x v->Rep R' I' n' w (Go.Sx.ren ids x) v
 |.undef,_,h=>h
 |.top,_,h=>trivial
 |.int _ _,_,h=>h
 |.bool _,_,h=>h
 |.str _,_,h=>h
 |.nilS,_,h=>h
 |.list t l,v,h=>r8.mono (λb hb=>⟨hR b hb,rfl⟩) (.list t) l [v] h
 |.row id,v,h=>by
  unfold Go.Sx.ren
  split
  .rename_i k hk
   obtain⟨h1,h2⟩:=hρ id k hk;obtain⟨_,h⟩:=h;exact⟨h1,by rw[h2];exact h⟩
  .trivial
 |.arr id _ _,v,h=>by
  unfold Go.Sx.ren
  split
  .rename_i k hk
   obtain⟨h1,h2⟩:=hρ id k hk;exact⟨h1,by rw[h2];exact h.2⟩
  .trivial
 |.ptr id _,v,h=>by
  unfold Go.Sx.ren
  split
  .rename_i k hk
   obtain⟨h1,h2⟩:=hρ id k hk;exact⟨h1,by rw[h2];exact h.2⟩
  .trivial
 |.nilP,_,h=>h
 |.eptr t l i off,v,h=>by
  obtain⟨b,o,h1,h2,h3⟩:=h;exact⟨b,o,h1,h2,h3.mono λb hb=>⟨hR b hb,rfl⟩⟩
 |.rptr id _ _ _,v,h=>by
  unfold Go.Sx.ren
  split
  .rename_i k hk
   obtain⟨h1,h2⟩:=hρ id k hk;exact⟨h1,by rw[h2];exact h.2⟩
  .trivial
 |.agg cs,v,h=>by
  obtain⟨vs,h1,h2⟩:=h;exact⟨vs,h1,j7.ren hR hρ cs vs h2⟩
 |.tuple cs,v,h=>by
  obtain⟨vs,h1,h2⟩:=h;exact⟨vs,h1,j7.ren hR hρ cs vs h2⟩
 |.fn f first cap,v,h=>by
  obtain⟨vs,us,h1,h2,h3⟩:=h;exact⟨vs,us,h1,j7.ren hR hρ first vs h2,j7.ren hR hρ cap us h3⟩
 |.raw _,_,h=>h
theorem j7.ren(hR:∀b,R b->R' b)(hρ:∀id k,idx ids id=some k->k<n'/\I' k=I id):∀ (xs:List SV) (vs:List Value),j7 R I n w xs vs->j7 R' I' n' w (Go.Sx.renL ids xs) vs
 |[],_,h=>h
 |x::xs,vs,h=>by
  obtain⟨v,us,h1,h2,h3⟩:=h;exact⟨v,us,h1,Rep.ren hR hρ x v h2,j7.ren hR hρ xs us h3⟩
end
theorem za2.ren(hR:∀b,R b->R' b)(hρ:∀id k,idx ids id=some k->k<n'/\I' k=I id){r:Nat×Nat×Nat}:∀ (B:Box),za2 R I n w r B->za2 R' I' n' w r (yW0 ids B)
 |.cells cs,h=>by
  obtain⟨arr,e,fr,h1,h2,h3⟩:=h;exact⟨arr,e,fr,h1,h2,j7.ren hR hρ _ _ h3⟩
 |.rows t l,h=>by
  obtain⟨h1,h2,h3⟩:=h;refine⟨h1,h2,λh0=>?_⟩;obtain⟨arr,e,fr,k1,k2,k3,k4⟩:=h3 h0;refine⟨arr,e,fr,k1,k2,k3,λi hi=>?_⟩;obtain⟨cs,c1,c2,c3⟩:=k4 i hi;exact⟨cs,c1,c2,r8.mono (λb hb=>⟨hR b hb,rfl⟩) _ _ _ c3⟩
 |.iter s pos,h=>h
 |.obj t cs,h=>by
  obtain⟨arr,h1,h3⟩:=h;exact⟨arr,h1,j7.ren hR hρ _ _ h3⟩
end
theorem xG2{r:Nat×Nat×Nat}{ids:List Nat}:∀ (B:Box),xG1 r (yW0 ids B)↔xG1 r B
 |.cells _=>Iff.rfl
 |.rows _ _=>Iff.rfl
 |.iter _ _=>Iff.rfl
 |.obj _ _=>Iff.rfl
theorem qu8(ids:List Nat):∀ (l:List SV) (t:Nat),(renL ids l).getD t .undef=ren ids (l.getD t .undef)
 |[],t=>by cases t<;>rfl
 |x::l,0=>rfl
 |x::l,t+1=>by
  have:=qu8 ids l t
  simpa[renL]using this
theorem q57:∀{l:List Nat},l.Nodup->∀ (i j:Nat) (x:Nat),l[i]? =some x->l[j]? =some x->i=j
 |[],_,i,j,x,h,_=>by simp at h
 |y::l,hn,i,j,x,hi,hj=>by
  rw[List.nodup_cons]at hn
  cases i with
  |zero=>
   cases j with
   |zero=>rfl
   |succ j=>
    simp at hi hj;subst hi;exact absurd (List.mem_of_getElem? hj) hn.1
  |succ i=>
   cases j with
   |zero=>
    simp at hi hj;subst hj;exact absurd (List.mem_of_getElem? hi) hn.1
   |succ j=>rw[q57 hn.2 i j x (by simpa using hi) (by simpa using hj)]
theorem m8.rename{fr fr2:Fr}{m2:Mem}{ids:List Nat}(h:m8 ds w0 R0 I w fr m a)(hn:ids.Nodup)
  (hc:Canon (renL ids slots) (ids.map λid=>(m.get id).map (yW0 ids)) fr2 m2) (hlen:slots.length=fr.size) (hs:∀ (i:Nat) (x:SV),slots[i]? =some x->x=.top\/x=fr.get i):
  m8 ds w0 R0 (λk=>I (ids.getD k 0)) w fr2 m2 a/\∀b,RO w0 R0 I w m b->RO w0 R0 (λk=>I (ids.getD k 0)) w m2 b:=by
 obtain⟨h1,h2,h3⟩:=h
 have hg:∀k B,m2.get k=some B->∃id B0,ids[k]? =some id/\m.get id=some B0/\B=yW0 ids B0:=λk B hB=>by
  rw[hc.box k]at hB;simp only[List.getElem?_map]at hB
  cases hx:ids[k]? with
  |none=>rw[hx]at hB;cases hB
  |some id=>
   rw[hx]at hB
   cases hy:m.get id with
   |none=>simp[hy]at hB
   |some B0=>simp[hy]at hB;exact⟨id,B0,rfl,hy,hB.symm⟩
 have hρk:∀k id,ids[k]? =some id->I (ids.getD k 0)=I id:=λk id hk=>by rw[List.getD_eq_getElem?_getD,hk];rfl
 have hρ:∀id k,idx ids id=some k->k<m2.next/\(λk=>I (ids.getD k 0)) k=I id:=λid k hk=>by
  have:=qG3 hk;refine⟨?_,hρk k id this⟩;rw[hc.next]
  simpa using (List.getElem?_eq_some_iff.1 this).1
 have hro:∀b,RO w0 R0 I w m b->RO w0 R0 (λk=>I (ids.getD k 0)) w m2 b:=λb hb=>by
  rcases hb with hb|⟨k1,k2,k3,k4⟩
  .exact .inl hb
  .refine .inr ⟨k1,k2,λk B hB hsol=>?_,k4⟩
   obtain⟨id,B0,g1,g2,rfl⟩:=hg k B hB;dsimp only at hsol ⊢;rw[hρk k id g1]at hsol ⊢;exact k3 id B0 g2 ((xG2 B0).1 hsol)
 refine⟨⟨⟨h1.below,λk B hB=>?_,λk B hB hsol=>?_,λk B hB hsol=>?_,λk k' B B' hB hB' hsol hsol' heq=>?_,λk B hB=>?_,h1.hid.1,λk B hB hsol=>?_⟩,⟨?_,λt=>?_⟩,h3⟩,hro⟩
 .obtain⟨id,B0,g1,g2,rfl⟩:=hg k B hB
  rw[hc.next]
  simpa using (List.getElem?_eq_some_iff.1 g1).1
 .obtain⟨id,B0,g1,g2,rfl⟩:=hg k B hB
  rw[hρk k id g1]at hsol ⊢;exact h1.lo id B0 g2 ((xG2 B0).1 hsol)
 .obtain⟨id,B0,g1,g2,rfl⟩:=hg k B hB
  rw[hρk k id g1]at hsol ⊢;exact h1.hi id B0 g2 ((xG2 B0).1 hsol)
 .obtain⟨id,B0,g1,g2,rfl⟩:=hg k B hB
  obtain⟨id',B0',g1',g2',rfl⟩:=hg k' B' hB';rw[hρk k id g1]at hsol heq;rw[hρk k' id' g1']at hsol' heq;have:=h1.inj id id' B0 B0' g2 g2' ((xG2 B0).1 hsol) ((xG2 B0').1 hsol') heq;subst this;exact q57 hn k k' id g1 g1'
 .obtain⟨id,B0,g1,g2,rfl⟩:=hg k B hB
  rw[hρk k id g1];exact za2.ren hro hρ B0 (h1.box id B0 g2)
 .obtain⟨id,B0,g1,g2,rfl⟩:=hg k B hB
  rw[hρk k id g1]at hsol ⊢;exact h1.hid.2 id B0 g2 ((xG2 B0).1 hsol)
 .rw[hc.size,show(renL ids slots).length=slots.length from ?_,hlen]
  .exact h2.1
  .clear hc hlen hs
   induction slots with
   |nil=>rfl
   |cons x l ih=>simp[renL,ih]
 .rw[hc.get t,qu8]
  rw[List.getD_eq_getElem?_getD]
  cases hx:slots[t]? with
  |none=>
   have ht:slots.length<=t:=by simpa using hx
   have:a.tmps.getD t Go.undef=Go.undef:=by
    rw[Array.getD_eq_getD_getElem?,Array.getElem?_eq_none (by rw[<-h2.1,<-hlen];exact ht)];rfl
   rw[this];exact rfl
  |some x=>
   rcases hs t x hx with rfl|rfl
   .exact trivial
   .exact Rep.ren hro hρ _ _ (h2.2 t)
noncomputable def o7(E:Env)(n:Nat)(fn:Func)(hint:Ty)(keep:List Item->List Bool)(items:List Item)(p:Plan)(slots:List SV)(boxes:List (Option Box)):Tree Stop:=
 Fr.make slots.length slots λfr=>qW2 boxes ⟨0,.e⟩ λm=>exec E n items p fr m λo=>match o with
  |.ret _ fr m=>results E fn m fr λv=>.leaf (.done (qv4 hint m v))
  |.stop items fr m=>match live m (x01 fr (keep items) 0)with
   |ids=>match q55 ids with
    |true=>.leaf (.at (enter items) fr.size (renL ids (x01 fr (keep items) 0)) (ids.map λid=>(m.get id).map (yW0 ids)))
    |false=>.fail 170
  |.pan .. =>.fail 175
def t8(P:Program)(fn:Func)(v:SV)(items:List Item)(slots:List SV)(boxes:List (Option Box)):Prop:=
 ∀fr m,Canon slots boxes fr m->∀w0 R0 I w a,zd5 w0 R0 I w fr m a->∀ (b:Frame) (cs:List Frame),∃I' w' a' todo u,MRel w0 R0 I' w' ⟨0,.e⟩/\a'.defers=[] /\(∀b,RO w0 R0 I w m b->RO w0 R0 I' w' ⟨0,.e⟩ b/\w'.heap[b]? =w.heap[b]?)/\
  Steps P (lone (b.at a items) cs w) (lone {b.at a' todo with mode:=.returning} cs w')/\(Go.results fn a'.tmps).run P w'=.ok u w'/\Rep (RO w0 R0 I' w' ⟨0,.e⟩) I' 0 w' v u
variable{n:Nat}{fn:Func}{p:Plan}
theorem o5(hK:Known P E){hint:Ty}{keep:List Item->List Bool}{items:List Item}{boxes:List (Option Box)}(hvd:v.data=true)
  (h:(o7 E n fn hint keep items p slots boxes).holds λo=>match o with
    |.done v'=>v'=v
    |.at items' size slots' boxes'=>slots'.length=size/\t8 P fn v items' slots' boxes'):t8 P fn v items slots boxes:=by
 intro fr0 m0 hc0 w0 R0 I w a hs b cs;unfold o7 at h;obtain⟨fr,h1,h2,h3,h4⟩:=qV1 h
 obtain⟨m,h5,h6,h7,h8⟩:=qW3 boxes ⟨0,.e⟩ _ h1 λid _=>rfl
 have hc:Canon slots boxes fr m:=⟨h2,h4,by rw[h6];simp,λid=>by simpa using h8 id⟩;obtain⟨hs1,hro1⟩:=hc0.swap hc hs;obtain⟨out,h9,h10⟩:=zV6 hK.e hK.s hK.mix n _ _ _ _ _ _ h5
 cases out with
 |pan v1 fr' m'=>exact h9.elim
 |ret p' fr' m'=>
  dsimp only at h9;obtain⟨v',k1,k2⟩:=yZ8 hK.e h9;obtain rfl:qv4 hint m' v'=v:=k1;obtain⟨ρ1,w1,a1,todo,g1,g2,g3⟩:=h10 w0 R0 I w a hs1 b cs;obtain⟨u,r1,r2⟩:=k2 w0 R0 ρ1 w1 a1 g1;obtain⟨e1,e2⟩:=g1.1.bare;exact⟨ρ1,w1,a1,todo,u,e1,g1.2.2,λb hb=>⟨e2 b (g2.keep b ((hro1 b).1 hb)).1,(g2.keep b ((hro1 b).1 hb)).2⟩,g3,r1,qw3 g1.1 r2 hvd⟩
 |stop items' fr' m'=>
  dsimp only at h9
  split at h9
  .rename_i hnd
   have h10:zd2 P items fr m (.stop (enter items') fr' m'):=by
    refine h10.trans ?_;unfold enter
    split
    .exact zd2.step λb a cs w _=>step_loop
    .exact zd2.step λb a cs w _=>step_inLoop
    .exact zd2.refl _ _ _
   generalize hids:live m' (x01 fr' (keep items') 0)=ids at h9 hnd;obtain⟨k1,k5⟩:=h9;obtain⟨ρ1,w1,a1,g1,g2,g3⟩:=h10 w0 R0 I w a hs1 b cs;obtain⟨fr2,m2,hc2⟩:=Canon.of (slots:=renL ids (x01 fr' (keep items') 0)) (boxes:=ids.map λid=>(m'.get id).map (yW0 ids))
   have hlr:∀l:List SV,(renL ids l).length=l.length:=λl=>by
    induction l with
    |nil=>rfl
    |cons x l ih=>simp[renL,ih]
   obtain⟨e1,e2⟩:=g1.rename (q56 hnd) hc2 (by rw[<-k1,hlr]) (λi x hx=>by simpa using x02 fr' _ 0 i x hx);obtain⟨ρ3,w3,a3,todo,u,q1,q2,q3,q4,q5,q6⟩:=k5 fr2 m2 hc2 w0 R0 _ w1 a1 e1 b cs
   exact⟨ρ3,w3,a3,todo,u,q1,q2,λb hb=>by
    have s1:=g2.keep b ((hro1 b).1 hb);have s2:=q3 b (e2 b s1.1)
    exact⟨s2.1,s2.2.trans s1.2⟩,g3.trans q4,q5,q6⟩
  .exact h9.elim
theorem y81(hK:Known P E){hint:Ty}(hvd:v.data=true){σ:Type}(inv:σ->Prop)(μ:σ->Nat)(keep:List Item->List Bool)(it:σ->List Item)(sl:σ->List SV)(bx:σ->List (Option Box))(pl:σ->Plan)
  (h:∀s,inv s->(o7 E n fn hint keep (it s) (pl s) (sl s) (bx s)).holds λo=>match o with
    |.done v'=>v'=v
    |.at items' size slots' boxes'=>slots'.length=size/\((∃s',inv s'/\μ s'<μ s/\items'=it s'/\slots'=sl s'/\boxes'=bx s')\/t8 P fn v items' slots' boxes')):
  ∀s,inv s->t8 P fn v (it s) (sl s) (bx s):=by
 have:∀k s,μ s<k->inv s->t8 P fn v (it s) (sl s) (bx s):=by
  intro k
  induction k with
  |zero=>exact λs hk=>absurd hk (Nat.not_lt_zero _)
  |succ k ih=>
   intro s hk hs;refine o5 hK hvd (E:=E) (n:=n) (hint:=hint) (keep:=keep) (p:=pl s) (Tree.holds_mono (λo ho=>?_) _ (h s hs))
   cases o with
   |done v'=>exact ho
   |«at» items' size slots' boxes'=>
    obtain⟨a6,ho⟩:=ho;rcases ho with⟨s',a1,a2,rfl,rfl,rfl⟩|ho
    .exact⟨a6,ih s' (by omega) a1⟩
    .exact⟨a6,ho⟩
 exact λs hs=>this _ s (Nat.lt_succ_self _) hs
theorem s7(hd:f6 args=true)(hvd:v.data=true)
  (hf:(match P.funcs[f]? with
    | some fn => fn.body.isSome && !(fn.name == "runtime.NumGoroutine") && Nat.ble args.length fn.ntmps
    |none=>false)=true)
  (h:t8 P (x9 P f) v [.code (zx3 P f)] (args++List.replicate ((x9 P f).ntmps-args.length) .undef) []):SCall P f args v:=by
 unfold x9 zx3 at h;unfold x9 at h
 cases hx:P.funcs[f]? with
 |none=>rw[hx]at hf;cases hf
 |some fn=>
  rw[hx]at hf h;dsimp only at hf h;simp only[Bool.and_eq_true,Bool.not_eq_true']at hf;obtain⟨⟨h1,hn⟩,h3⟩:=hf;obtain⟨body,hb⟩:=Option.isSome_iff_exists.mp h1;rw[hb]at h;have hl:=Nat.le_of_ble_eq_true h3;intro m w0 R0 I w vs hm hvs;obtain⟨fr,mc0,hc⟩:=Canon.of (slots:=args++List.replicate (fn.ntmps-args.length) .undef) (boxes:=[]);have hc':Canon (args++List.replicate (fn.ntmps-args.length) .undef) [] fr ⟨0,.e⟩:=⟨hc.size,hc.get,rfl,λid=>rfl⟩;rw[zz2 hx hb hn];obtain⟨o1,o2⟩:=yF6 hm I;have hfr:=qs1 (size:=fn.ntmps) (by rw[hc.size];simp;omega) (.inr hl) (λt=>by rw[hc.get,yI5]) (j7.data (R':=RO w (RS w0 R0 I w m) I w ⟨0,.e⟩) (I':=I) (n':=0) o2 args vs hd hvs);intro cs
  let b:Frame:={ (default:Frame)with fn:=f,kind:=.normal}
  have henter:Frame.enter P f vs.toArray .normal=b.at {tmps:=vs.toArray++Array.replicate (fn.ntmps-vs.toArray.size) Go.undef,defers:=[]} [.code body] :=by
   simp[Frame.enter,Frame.at,hx,hb,b]
  obtain⟨I',w',a',todo,u,q1,q2,q3,q4,q5,q6⟩:=h fr ⟨0,.e⟩ hc' w (RS w0 R0 I w m) I w {tmps:=vs.toArray++Array.replicate (fn.ntmps-vs.toArray.size) Go.undef,defers:=[]} ⟨o1,hfr,rfl⟩ b cs;have hst:=Hand.start hm q1;obtain⟨k1,k2⟩:=hst.finish hm q1;exact⟨.returned u,w',_,⟨u,rfl,I,k1,k2,Rep.data (λb hb=>hst.ro b (.inr hb)) v u hvd q6⟩,by rw[henter];exact q4,rfl,rfl,q2,rfl,fn,hx,q5⟩
noncomputable def zU2(E:Env)(n:Nat)(f:FuncId)(args:List SV)(p:Plan)(m:Mem):Tree (SV×Mem):=
 match E.fn f with
 |some fn=>match fn.body with
  | some body => match fn.name == "runtime.NumGoroutine" with
    |false=>Fr.make fn.ntmps args λfr=>exec E n [.code body] p fr m λo=>match o with
     |.ret _ fr m=>results E fn m fr λv=>.leaf (v,m)
     |_=>.fail 142
    |true=>.fail 143
  |none=>.fail 144
 |none=>.fail 145
theorem xC5(hK:Known P E)(h:∀m,(zU2 E n f args p m).holds λx=>x=(v,m)):SCall P f args v:=by
 intro m w0 R0 I w vs hm hvs;have h:=h m;unfold zU2 at h
 split at h
 .rename_i fn hfn
  have hf:=hK.e.fn f fn hfn
  split at h
  .rename_i body hb
   split at h
   .rename_i hn
    obtain⟨fr,h1,h2,h3,h4⟩:=qV1 h;obtain⟨out,h5,h6⟩:=zV6 hK.e hK.s hK.mix n _ _ _ _ _ _ h1
    cases out with
    |stop it fr' m'=>exact h5.elim
    |pan v1 fr' m'=>exact h5.elim
    |ret p' fr' mc=>
     dsimp only at h5;obtain⟨v',h7,h8⟩:=yZ8 hK.e h5;have h7:(v',mc)=(v,m):=h7;injection h7 with e1 e2;subst e1 e2;rw[zz2 hf hb hn];exact zA0 hf hb h6 h8 hm (qs1 h2 h3 h4 hvs)
   .exact h.elim
  .exact h.elim
 .exact h.elim
def J(n:Int):SV:=.int .i64 n
def qf0(f:FuncId)(t:Tree SV):Fact:=⟨f,λargs=>match args with
 |[] =>some t
 |_=>none⟩
theorem qf1{t:Tree SV}(k:t.says (SCall P f [])):(qf0 f t).ok P:=λargs t' ht=>by
 simp only[qf0]at ht
 split at ht
 .injection ht with ht;subst ht;exact k
 .cases ht
def qi0(f:FuncId)(h:Int->Tree SV):Fact:=⟨f,λargs=>match args with
 |[.int .i64 a] =>some (h a)
 |_=>none⟩
theorem qi7{h:Int->Tree SV}(k:∀a,(h a).says (SCall P f [J a])):(qi0 f h).ok P:=λargs t ht=>by
 simp only[qi0]at ht
 split at ht
 .injection ht with ht;subst ht;exact k _
 .cases ht
def qi3(f:FuncId)(h:Int->Int->Tree SV):Fact:=⟨f,λargs=>match args with
 |[.int .i64 a,.int .i64 b] =>some (h a b)
 |_=>none⟩
theorem qi6{h:Int->Int->Tree SV}(k:∀a b,(h a b).says (SCall P f [J a,J b])):(qi3 f h).ok P:=λargs t ht=>by
 simp only[qi3]at ht
 split at ht
 .injection ht with ht;subst ht;exact k _ _
 .cases ht
def qi4(f:FuncId)(h:Int->Int->Int->Tree SV):Fact:=⟨f,λargs=>match args with
 |[.int .i64 a,.int .i64 b,.int .i64 c] =>some (h a b c)
 |_=>none⟩
theorem qi5{h:Int->Int->Int->Tree SV}(k:∀a b c,(h a b c).says (SCall P f [J a,J b,J c])):(qi4 f h).ok P:=λargs t ht=>by
 simp only[qi4]at ht
 split at ht
 .injection ht with ht;subst ht;exact k _ _ _
 .cases ht
def ql2(f:FuncId)(h:List UInt8->Tree SV):Fact:=⟨f,λargs=>match args with
 |[.str a] =>some (h a)
 |_=>none⟩
theorem ql3{h:List UInt8->Tree SV}(k:∀a,(h a).says (SCall P f [.str a])):(ql2 f h).ok P:=λargs t ht=>by
 simp only[ql2]at ht
 split at ht
 .injection ht with ht;subst ht;exact k _
 .cases ht
def x6(n:Nat)(ks:List Nat):List Item->List Bool:=λ_=>(List.range n).map λi=>ks.any λj=>Nat.beq i j
def x7(n:Nat)(ks:List (Nat×SV)):List SV:=(List.range n).map λi=>(ks.lookup i).getD .top
theorem u7(n:Nat)(ks:List (Nat×SV)):(x7 n ks).length=n:=by simp[x7]
theorem yW1(ids:List Nat)(l:List SV):(renL ids l).length=l.length:=by
 induction l with
 |nil=>rfl
 |cons x l ih=>simp[renL,ih]
noncomputable def v6(P:Program)(f:Nat)(args:List SV):List SV:=args++List.replicate ((x9 P f).ntmps-args.length) .undef
noncomputable def v7(P:Program)(f:Nat):List Item:=[.code (zx3 P f)]
inductive Fin where
 |ret (v:SV) (bs:List (Option Box))
 |pan (v:SV) (bs:List (Option Box))
def Fin.boxes:Fin->List (Option Box)
 |.ret _ bs=>bs
 |.pan _ bs=>bs
def Fin.val:Fin->SV
 |.ret v _=>v
 |.pan v _=>v
inductive StopX where
 |fin (r:Fin)
 |at(items:List Item) (size:Nat) (slots:List SV) (boxes:List (Option Box))
noncomputable def zI8:Box->Bool
 |.cells cs=>f6 cs
 |.obj _ cs=>f6 cs
 |_=>true
noncomputable def zJ1:List (Option Box)->Bool
 |[] =>true
 |some B::l=>zI8 B&&zJ1 l
 |none::l=>zJ1 l
noncomputable def gvV(np:Nat)(m:Mem)(v:SV):SV:=match v with
 |.row id=>match m.get id with
  |some (.rows t l)=>match Nat.ble np id with
   |true=>.list t l
   |false=>.row id
  |_=>.row id
 |v=>v
noncomputable def gvL(np:Nat)(m:Mem):List SV->List SV
 |[] =>[]
 |x::xs=>gvV np m x::gvL np m xs
noncomputable def gvA(np:Nat)(m:Mem)(v:SV):SV:=match v with
 |.agg cs=>.agg (gvL np m cs)
 |v=>gvV np m v
noncomputable def gvM(np:Nat)(m:Mem):List SV->List SV
 |[] =>[]
 |x::xs=>gvA np m x::gvM np m xs
noncomputable def gvW(np:Nat)(m:Mem)(v:SV):SV:=match v with
 |.tuple cs=>.tuple (gvM np m cs)
 |v=>gvA np m v
noncomputable def gvB(np:Nat)(m:Mem):Box->Box
 |.cells cs=>.cells (gvL np m cs)
 |B=>B
noncomputable def qp4(m:Mem)(np:Nat):List (Option Box):=(List.range np).map λk=>(m.get k).map (gvB np m)
noncomputable def qS9(np:Nat)(m:Mem)(slots:List SV):List Nat:=
 let l:=qF8 slots (List.range np)
 let l:=qG0 m l l
 qG0 m l l
noncomputable def xD3(E:Env)(n:Nat)(fn:Func)(np:Nat)(keep:List Item->List Bool)(items:List Item)(p:Plan)(slots:List SV)(boxes:List (Option Box)):Tree StopX:=
 Fr.make slots.length slots λfr=>qW2 boxes ⟨0,.e⟩ λm=>exec E n items p fr m λo=>match o with
  |.ret _ fr m=>results E fn m fr λv=>match zJ1 (qp4 m np)&& (gvW np m v).data with
   |true=>.leaf (.fin (.ret (gvW np m v) (qp4 m np)))
   |false=>.fail 180
  |.pan v fr m=>match zJ1 (qp4 m np)&&v.data with
   |true=>.leaf (.fin (.pan v (qp4 m np)))
   |false=>.fail 181
  |.stop items fr m=>match qS9 np m (x01 fr (keep items) 0)with
   |ids=>match q55 ids&&decide (ids.take np=List.range np)with
    |true=>.leaf (.at (enter items) fr.size (renL ids (x01 fr (keep items) 0)) (ids.map λid=>(m.get id).map (yW0 ids)))
    |false=>.fail 170
def zd4(P:Program)(fn:Func)(ds:List Deferred)(np:Nat)(r:Fin)(items:List Item)(slots:List SV)(boxes:List (Option Box)):Prop:=
 ∀fr m,Canon slots boxes fr m->∀w0 R0 I w a,m8 ds w0 R0 I w fr m a->∀ (b:Frame) (cs:List Frame),∃I' w' a' todo u mF,mF.next=np/\(∀k,mF.get k=(r.boxes[k]?).join)/\MRel w0 R0 I' w' mF/\(∀k,k<np->I' k=I k)/\a'.defers=ds/\
  (∀b,RO w0 R0 I w m b->RO w0 R0 I' w' mF b/\w'.heap[b]? =w.heap[b]?)/\Rep (RO w0 R0 I' w' mF) I' np w' r.val u/\
  match r with
  |.ret _ _=>Steps P (lone (b.at a items) cs w) (lone {b.at a' todo with mode:=.returning} cs w')/\(Go.results fn a'.tmps).run P w'=.ok u w'
  |.pan _ _=>Steps P (lone (b.at a items) cs w) (lone {b.at a' todo with mode:=.panicking [{v:=u,recovered:=false}]} cs w')
theorem zJ2:∀{l:List (Option Box)} {k:Nat} {B:Box},zJ1 l=true->(l[k]?).join=some B->zI8 B=true
 |[],k,B,_,h=>by simp at h
 |none::l,0,B,_,h=>by simp at h
 |none::l,k+1,B,hd,h=>zJ2 (l:=l) (k:=k) hd (by simpa using h)
 |some C::l,0,B,hd,h=>by
  have hd:(zI8 C&&zJ1 l)=true:=hd;rw[Bool.and_eq_true]at hd
  have:C=B:=by simpa using h
  rw[<-this];exact hd.1
 |some C::l,k+1,B,hd,h=>by
  have hd:(zI8 C&&zJ1 l)=true:=hd;rw[Bool.and_eq_true]at hd;exact zJ2 (l:=l) (k:=k) hd.2 (by simpa using h)
variable{np:Nat}
theorem qp5{k:Nat}:((qp4 m np)[k]?).join=if k<np then(m.get k).map (gvB np m)else none:=by
 unfold qp4;rw[List.getElem?_map]
 by_cases h:k<np
 .rw[List.getElem?_range h,if_pos h];rfl
 .rw[List.getElem?_eq_none (by simpa using h),if_neg h];rfl
theorem qy9{r:Nat×Nat×Nat}:∀ (B:Box),xG1 r (gvB np m B)↔xG1 r B
 |.cells _=>Iff.rfl
 |.rows _ _=>Iff.rfl
 |.iter _ _=>Iff.rfl
 |.obj _ _=>Iff.rfl
theorem MRel.first{mF:Mem}(h:MRel w0 R0 I w m)(hd:zJ1 (qp4 m np)=true)(hn:mF.next=np)(hg:∀k,mF.get k=((qp4 m np)[k]?).join):
  MRel w0 R0 I w mF/\(∀b,RO w0 R0 I w m b->RO w0 R0 I w mF b)/\∀v u,(gvW np m v).data=true->Rep (RO w0 R0 I w m) I m.next w v u->Rep (RO w0 R0 I w mF) I mF.next w (gvW np m v) u:=by
 have hsub:∀k B,mF.get k=some B->k<np/\zI8 B=true/\∃C,m.get k=some C/\B=gvB np m C:=λk B hB=>by
  rw[hg k]at hB;have hdB:=zJ2 hd hB;rw[qp5]at hB
  split at hB
  .rename_i hk
   cases hC:m.get k with
   |none=>rw[hC]at hB;cases hB
   |some C=>rw[hC]at hB;injection hB with hB;exact⟨hk,hdB,C,rfl,hB.symm⟩
  .cases hB
 have hsol:∀k B,mF.get k=some B->xG1 (I k) B->∃C,m.get k=some C/\xG1 (I k) C:=λk B hB hs=>by
  obtain⟨_,_,C,hC,e⟩:=hsub k B hB;exact⟨C,hC,by rw[e]at hs;exact(qy9 C).1 hs⟩
 have hro:∀b,RO w0 R0 I w m b->RO w0 R0 I w mF b:=λb hb=>by
  rcases hb with hb|⟨k1,k2,k3,k4⟩
  .exact .inl hb
  .exact .inr ⟨k1,k2,(λid B hB hs=>by
    obtain⟨C,hC,hs'⟩:=hsol id B hB hs
    exact k3 id C hC hs'),k4⟩
 have hv:∀ (x:SV) (u:Value),(gvV np m x).data=true->Rep (RO w0 R0 I w m) I m.next w x u->Rep (RO w0 R0 I w mF) I mF.next w (gvV np m x) u:=λx u hdx hr=>by
  unfold gvV at hdx ⊢
  split at hdx
  .rename_i id
   split at hdx
   .rename_i t l hgid
    split at hdx
    .rename_i hle
     have hle:=Nat.le_of_ble_eq_true hle;obtain⟨_,a,hu,ha⟩:=hr;obtain⟨b1,b2,hp⟩:=h.box id _ hgid;refine⟨a,(I id).2.2,by rw[hu,b1],b2,λh0=>?_⟩;have h0:0< (I id).2.2:=Nat.lt_of_lt_of_le h0 b2;obtain⟨arr,e,fr,k1,k2,k3,k4⟩:=hp h0;refine⟨(I id).1,0,ha h0,.inr ⟨h.lo id _ hgid h0,h.hi id _ hgid h0,λk B hB hs he=>?_,h.hid.2 id _ hgid h0⟩,λi hi=>?_⟩
     .obtain⟨C,hC,hs'⟩:=hsol k B hB hs
      have:=h.inj k id C _ hC hgid hs' h0 he;have:=(hsub k B hB).1;omega
     .obtain⟨cs,c1,c2,c3⟩:=k4 i hi
      refine⟨cs,c1,λj hj=>?_,r8.mono (λb hb=>⟨hro b hb,rfl⟩) _ _ _ c3⟩;rw[cell_of_row w _ _ arr e fr k1,Nat.zero_add];exact c2 j hj
    .cases hdx
   .cases hdx
  .exact Rep.data hro x u hdx hr
 have hvl:∀ (xs:List SV) (us:List Value),f6 (gvL np m xs)=true->j7 (RO w0 R0 I w m) I m.next w xs us->j7 (RO w0 R0 I w mF) I mF.next w (gvL np m xs) us:=by
  intro xs
  induction xs with
  |nil=>exact λus _ hr=>hr
  |cons x xs ih=>
   intro us hdx hr;obtain⟨u,us',rfl,r1,r2⟩:=hr;have hdx:f6 (gvV np m x::gvL np m xs)=true:=hdx;rw[zI9]at hdx
   cases hx:(gvV np m x).data with
   |false=>rw[hx]at hdx;cases hdx
   |true=>rw[hx]at hdx;exact⟨u,us',rfl,hv x u hx r1,ih us' hdx r2⟩
 have hva:∀ (x:SV) (u:Value),(gvA np m x).data=true->Rep (RO w0 R0 I w m) I m.next w x u->Rep (RO w0 R0 I w mF) I mF.next w (gvA np m x) u:=λx u hdx hr=>by
  unfold gvA at hdx ⊢
  split at hdx
  .obtain⟨vs,h1,h2⟩:=hr
   exact⟨vs,h1,hvl _ vs (by rw[<-zJ3];exact hdx) h2⟩
  .exact hv x u hdx hr
 have hvm:∀ (xs:List SV) (us:List Value),f6 (gvM np m xs)=true->j7 (RO w0 R0 I w m) I m.next w xs us->j7 (RO w0 R0 I w mF) I mF.next w (gvM np m xs) us:=by
  intro xs
  induction xs with
  |nil=>exact λus _ hr=>hr
  |cons x xs ih=>
   intro us hdx hr;obtain⟨u,us',rfl,r1,r2⟩:=hr;have hdx:f6 (gvA np m x::gvM np m xs)=true:=hdx;rw[zI9]at hdx
   cases hx:(gvA np m x).data with
   |false=>rw[hx]at hdx;cases hdx
   |true=>rw[hx]at hdx;exact⟨u,us',rfl,hva x u hx r1,ih us' hdx r2⟩
 have hvw:∀ (x:SV) (u:Value),(gvW np m x).data=true->Rep (RO w0 R0 I w m) I m.next w x u->Rep (RO w0 R0 I w mF) I mF.next w (gvW np m x) u:=λx u hdx hr=>by
  unfold gvW at hdx ⊢
  split at hdx
  .obtain⟨vs,h1,h2⟩:=hr
   exact⟨vs,h1,hvm _ vs (by rw[<-zJ5];exact hdx) h2⟩
  .exact hva x u hdx hr
 refine⟨⟨h.below,λid B hB=>by rw[hn];exact(hsub id B hB).1,λid B hB hs=>by obtain⟨C,hC,hs'⟩:=hsol id B hB hs;exact h.lo id C hC hs',λid B hB hs=>by obtain⟨C,hC,hs'⟩:=hsol id B hB hs;exact h.hi id C hC hs',λid id' B B' hB hB' hs hs' he=>?_,λid B hB=>?_,h.hid.1,λid B hB hs=>by obtain⟨C,hC,hs'⟩:=hsol id B hB hs;exact h.hid.2 id C hC hs'⟩,hro,hvw⟩
 .obtain⟨C,hC,g1⟩:=hsol id B hB hs
  obtain⟨C',hC',g2⟩:=hsol id' B' hB' hs';exact h.inj id id' C C' hC hC' g1 g2 he
 .obtain⟨_,hdB,C,hC,rfl⟩:=hsub id B hB
  have h4:=h.box id C hC
  cases C with
  |cells cs=>
   obtain⟨arr,e,fr,k1,k2,k3⟩:=h4;exact⟨arr,e,fr,k1,k2,hvl cs _ hdB k3⟩
  |rows t l=>
   obtain⟨k1,k2,k3⟩:=h4;refine⟨k1,k2,λh0=>?_⟩;obtain⟨arr,e,fr,q1,q2,q3,q4⟩:=k3 h0;refine⟨arr,e,fr,q1,q2,q3,λi hi=>?_⟩;obtain⟨cs,c1,c2,c3⟩:=q4 i hi;exact⟨cs,c1,c2,r8.mono (λb hb=>⟨hro b hb,rfl⟩) _ _ _ c3⟩
  |iter s pos=>exact h4
  |obj t cs=>
   obtain⟨arr,k1,k3⟩:=h4;exact⟨arr,k1,j7.data hro _ _ hdB k3⟩
theorem qW4(np:Nat)(bs:List (Option Box)):∃mF:Mem,mF.next=np/\∀k,mF.get k=(bs[k]?).join:=by
 obtain⟨fr,m,hc⟩:=Canon.of (slots:=[]) (boxes:=bs);exact⟨⟨np,m.tb⟩,rfl,hc.box⟩
variable{r:Fin}
theorem y83(hK:Known P E){keep:List Item->List Bool}{items:List Item}{boxes:List (Option Box)}(hnp:np<=boxes.length)
  (h:(xD3 E n fn np keep items p slots boxes).holds λo=>match o with
    |.fin r'=>r'=r
    |.at items' size slots' boxes'=>slots'.length=size/\zd4 P fn ds np r items' slots' boxes'):zd4 P fn ds np r items slots boxes:=by
 intro fr0 m0 hc0 w0 R0 I w a hs b cs;unfold xD3 at h;obtain⟨fr,h1,h2,h3,h4⟩:=qV1 h
 obtain⟨m,h5,h6,h7,h8⟩:=qW3 boxes ⟨0,.e⟩ _ h1 λid _=>rfl
 have hc:Canon slots boxes fr m:=⟨h2,h4,by rw[h6];simp,λid=>by simpa using h8 id⟩
 have hnm:np<=m.next:=by rw[hc.next];exact hnp
 obtain⟨hs1,hro1⟩:=hc0.swap hc hs;obtain⟨out,h9,h10⟩:=zV6 hK.e hK.s hK.mix n _ _ _ _ _ _ h5
 cases out with
 |ret p' fr' m'=>
  dsimp only at h9;obtain⟨v',k1,k2⟩:=yZ8 hK.e h9
  split at k1
  .rename_i hd
   rw[Bool.and_eq_true]at hd;have k1:Fin.ret (gvW np m' v') (qp4 m' np)=r:=k1;subst k1;obtain⟨ρ1,w1,a1,todo,g1,g2,g3⟩:=h10 w0 R0 I w a hs1 b cs;obtain⟨u,r1,r2⟩:=k2 w0 R0 ρ1 w1 a1 g1;obtain⟨mF,hn,hg⟩:=qW4 np (qp4 m' np);obtain⟨e1,e2,e3⟩:=g1.1.first hd.1 hn hg;exact⟨ρ1,w1,a1,todo,u,mF,hn,hg,e1,λk hk=>g2.same k (by omega),g1.2.2,λb hb=>⟨e2 b (g2.keep b ((hro1 b).1 hb)).1,(g2.keep b ((hro1 b).1 hb)).2⟩,by have:=e3 v' u hd.2 r2;rw[hn]at this;exact this,g3,r1⟩
  .exact k1.elim
 |pan v' fr' m'=>
  dsimp only at h9
  split at h9
  .rename_i hd
   rw[Bool.and_eq_true]at hd;have h9:Fin.pan v' (qp4 m' np)=r:=h9;subst h9;obtain⟨ρ1,w1,a1,todo,u,g1,g2,g3,g4⟩:=h10 w0 R0 I w a hs1 b cs;obtain⟨mF,hn,hg⟩:=qW4 np (qp4 m' np);obtain⟨e1,e2,_⟩:=g1.1.first hd.1 hn hg;exact⟨ρ1,w1,a1,todo,u,mF,hn,hg,e1,λk hk=>g2.same k (by omega),g1.2.2,λb hb=>⟨e2 b (g2.keep b ((hro1 b).1 hb)).1,(g2.keep b ((hro1 b).1 hb)).2⟩,Rep.data e2 v' u hd.2 g3,g4⟩
  .exact h9.elim
 |stop items' fr' m'=>
  dsimp only at h9
  split at h9
  .rename_i hnd
   rw[Bool.and_eq_true,decide_eq_true_eq]at hnd
   have h10:zd2 P items fr m (.stop (enter items') fr' m'):=by
    refine h10.trans ?_;unfold enter
    split
    .exact zd2.step λb a cs w _=>step_loop
    .exact zd2.step λb a cs w _=>step_inLoop
    .exact zd2.refl _ _ _
   generalize hids:qS9 np m' (x01 fr' (keep items') 0)=ids at h9 hnd;obtain⟨k1,k5⟩:=h9;obtain⟨ρ1,w1,a1,g1,g2,g3⟩:=h10 w0 R0 I w a hs1 b cs;obtain⟨fr2,m2,hc2⟩:=Canon.of (slots:=renL ids (x01 fr' (keep items') 0)) (boxes:=ids.map λid=>(m'.get id).map (yW0 ids));obtain⟨e1,e2⟩:=g1.rename (q56 hnd.1) hc2 (by rw[<-k1,yW1]) (λi x hx=>by simpa using x02 fr' _ 0 i x hx);obtain⟨ρ3,w3,a3,todo,u,mF,q1,q2,q3,q4,q5,q6,q7,q8⟩:=k5 fr2 m2 hc2 w0 R0 _ w1 a1 e1 b cs
   refine⟨ρ3,w3,a3,todo,u,mF,q1,q2,q3,λk hk=>?_,q5,λb hb=>by
    have s1:=g2.keep b ((hro1 b).1 hb);have s2:=q6 b (e2 b s1.1)
    exact⟨s2.1,s2.2.trans s1.2⟩,q7,?_⟩
   .rw[q4 k hk]
    have:ids.getD k 0=k:=by
     have h1:(ids.take np)[k]? =(List.range np)[k]? :=by rw[hnd.2]
     rw[List.getElem?_take_of_lt hk,List.getElem?_range hk]at h1;rw[List.getD_eq_getElem?_getD,h1];rfl
    rw[this];exact g2.same k (by omega)
   .cases r with
    |ret v bs=>exact⟨g3.trans q8.1,q8.2⟩
    |pan v bs=>exact g3.trans q8
  .exact h9.elim
def qr2(P:Program)(f:FuncId)(args:List SV):Bool:=match P.funcs[f]? with
 | some fn => fn.body.isSome && !(fn.name == "runtime.NumGoroutine") && Nat.ble args.length fn.ntmps
 |none=>false
theorem qr3 (h : qr2 P f args = true) : P.funcs[f]? = some (x9 P f) ∧ (x9 P f).body = some (zx3 P f) ∧ ((x9 P f).name == "runtime.NumGoroutine") = false ∧ args.length ≤ (x9 P f).ntmps := by
 unfold qr2 at h;unfold zx3 x9
 cases hx:P.funcs[f]? with
 |none=>rw[hx]at h;cases h
 |some fn=>
  rw[hx]at h;dsimp only at h ⊢;simp only[Bool.and_eq_true,Bool.not_eq_true']at h;obtain⟨⟨h1,h2⟩,h3⟩:=h;obtain⟨body,hb⟩:=Option.isSome_iff_exists.1 h1;rw[hb];exact⟨rfl,rfl,h2,Nat.le_of_ble_eq_true h3⟩
def Fin.ex:Fin->Mem->Ex
 |.ret v _,m=>.ok v m
 |.pan v _,m=>.pan v m
def Fin.post(P:Program)(Φ:Value->World->Prop):Fin->Result Next->Prop
 |.ret _ _=>zc1 P Φ
 |.pan _ _=>zc7 P Φ
theorem x63{boxes:List (Option Box)}(hf:qr2 P f args=true)(h:zd4 P (x9 P f) [] np r (v7 P f) (v6 P f args) boxes)
  {w0 w0c:World} {R0 R0c:RSet} {I ρc:Rho} {w:World} {m mc m':Mem} {vs:List Value} (hcn:mc.next=boxes.length) (hcg:∀k,mc.get k=(boxes[k]?).join) (hmc:MRel w0c R0c ρc w mc) (hvs:j7 (RO w0c R0c ρc w mc) ρc mc.next w args vs)
  (hout:∀I' w' u mF,mF.next=np->(∀k,mF.get k=(r.boxes[k]?).join)->MRel w0c R0c I' w' mF->(∀k,k<np->I' k=ρc k)->(∀b,RO w0c R0c ρc w mc b->RO w0c R0c I' w' mF b/\w'.heap[b]? =w.heap[b]?)->Rep (RO w0c R0c I' w' mF) I' np w' r.val u->f5 w0 R0 I w m r.val m' u w'):
  r.post P (f5 w0 R0 I w m r.val m') ((Go.callFunc f vs.toArray).run P w):=by
 obtain⟨hfn,hb,hn,hl⟩:=qr3 hf;obtain⟨fr,mx,hcx⟩:=Canon.of (slots:=v6 P f args) (boxes:=boxes);have hc:Canon (v6 P f args) boxes fr mc:=⟨hcx.size,hcx.get,hcn,hcg⟩;have hfr:=qs1 (fr:=fr) (size:=(x9 P f).ntmps) (by rw[hc.size];simp[v6];omega) (.inr hl) (λt=>by rw[hc.get];exact yI5 ..) hvs
 let b:Frame:={ (default:Frame)with fn:=f,kind:=.normal}
 have henter:Frame.enter P f vs.toArray .normal=b.at {tmps:=vs.toArray++Array.replicate ((x9 P f).ntmps-vs.toArray.size) Go.undef,defers:=[]} [.code (zx3 P f)] :=by
  simp[Frame.enter,Frame.at,hfn,hb,b]
 have key:=λcs=>h fr mc hc w0c R0c ρc w {tmps:=vs.toArray++Array.replicate ((x9 P f).ntmps-vs.toArray.size) Go.undef,defers:=[]} ⟨hmc,hfr,rfl⟩ b cs
 rw[zz2 hfn hb hn]
 cases r with
 |ret v bs=>
  intro cs;obtain⟨I',w',a',todo,u,mF,q1,q2,q3,q4,q5,q6,q7,q8,q9⟩:=key cs;exact⟨.returned u,w',_,⟨u,rfl,hout I' w' u mF q1 q2 q3 q4 q6 q7⟩,by rw[henter];exact q8,rfl,rfl,q5,rfl,_,hfn,q9⟩
 |pan v bs=>
  intro cs;obtain⟨I',w',a',todo,u,mF,q1,q2,q3,q4,q5,q6,q7,q8⟩:=key cs;exact⟨.panicked [{v:=u,recovered:=false}],w',_,⟨u,rfl,hout I' w' u mF q1 q2 q3 q4 q6 q7⟩,by rw[henter];exact q8,rfl,rfl,q5,_,hfn⟩
def zd1(R0:RSet)(I:Rho)(w:World)(m:Mem)(id:Nat):RSet:=⟨λb=>R0 b\/∃k B,k≠id/\m.get k=some B/\xG1 (I k) B/\(I k).1=b,λb=>w.heap[b]?⟩
theorem x64{argsc:List SV}{cs0 cs1:List SV}(hf:qr2 P f argsc=true)(h:zd4 P (x9 P f) [] 1 r (v7 P f) (v6 P f argsc) [some (.cells cs0)])(hr:r.boxes=[some (.cells cs1)])
  {m m':Mem} {id:Nat} (hB:m.get id=some (.cells cs0)) (fl0:f6 cs0=true) (fl1:f6 cs1=true) (flv:r.val.data=true) (hn':m'.next=m.next) (hg':∀k,m'.get k=if k=id then some (.cells cs1)else m.get k)
  (harg:∀R R' I n w (vs:List Value),(∀b,R b->R' b)->j7 R I n w args vs->j7 R' (λ_=>I id) 1 w argsc vs):ze6 P f args m (r.ex m'):=by
 have key:∀w0 R0 I w (vs:List Value),MRel w0 R0 I w m->j7 (RO w0 R0 I w m) I m.next w args vs->r.post P (f5 w0 R0 I w m r.val m') ((Go.callFunc f vs.toArray).run P w):=λw0 R0 I w vs hm hvs=>by
  obtain⟨mc,hn,hg⟩:=qW4 1 [some (.cells cs0)]
  have hgc:∀k,mc.get k=if k=0 then some (.cells cs0)else none:=λk=>by
   rw[hg k]
   cases k with
   |zero=>rfl
   |succ k=>simp
  have only:∀k B,mc.get k=some B->k=0/\B=.cells cs0:=λk B hk=>by
   rw[hgc k]at hk
   split at hk
   .rename_i h0;injection hk with hk;exact⟨h0,hk.symm⟩
   .cases hk
  have hown:¬zd1 R0 I w m id (I id).1:=λhh=>by
   rcases hh with hh|⟨k,B,h1,h2,h3,h4⟩
   .exact hm.hid.2 id _ hB trivial hh
   .exact h1 (hm.inj k id _ _ h2 hB h3 trivial h4)
  have hroc:∀b,RO w0 R0 I w m b->RO w0 (zd1 R0 I w m id) (λ_=>I id) w mc b:=λb hb=>by
   rcases hb with⟨h1,h2⟩|⟨k1,k2,k3,k4⟩
   .exact .inl ⟨.inl h1,h2⟩
   .refine .inr ⟨k1,k2,λk B hk hs=>by obtain⟨_,rfl⟩:=only k B hk;exact k3 id _ hB trivial,λhh=>?_⟩
    rcases hh with hh|⟨k,B,h1,h2,h3,h4⟩
    .exact k4 hh
    .exact k3 k B h2 h3 h4
  have hmc:MRel w0 (zd1 R0 I w m id) (λ_=>I id) w mc:=by
   refine⟨hm.below,λk B hk=>by rw[hn,(only k B hk).1];exact Nat.zero_lt_one,λk B hk hs=>?_,λk B hk hs=>?_,λk k' B B' hk hk' _ _ _=>by rw[(only k B hk).1,(only k' B' hk').1],λk B hk=>?_,λb hb=>⟨?_,rfl⟩,λk B hk hs=>?_⟩
   .obtain⟨_,rfl⟩:=only k B hk;exact hm.lo id _ hB trivial
   .obtain⟨_,rfl⟩:=only k B hk;exact hm.hi id _ hB trivial
   .obtain⟨_,rfl⟩:=only k B hk
    obtain⟨arr,e,fr,k1,k2,k3⟩:=hm.box id _ hB;exact⟨arr,e,fr,k1,k2,j7.data hroc _ _ fl0 k3⟩
   .rcases hb with hb|⟨k,B,h1,h2,h3,rfl⟩
    .exact(hm.hid.1 b hb).1
    .exact hm.hi k B h2 h3
   .obtain⟨_,rfl⟩:=only k B hk;exact hown
  refine x63 (m:=m) (m':=m') hf h (by rw[hn];rfl) hg hmc (by rw[hn];exact harg _ _ I _ w vs hroc hvs) λI' w' u mF e1 e2 e3 e4 e5 e6=>?_
  have eρ:I' 0=I id:=e4 0 Nat.zero_lt_one
  have hF:mF.get 0=some (.cells cs1):=by rw[e2,hr];rfl
  have onlyF:∀k B,mF.get k=some B->k=0:=λk B hk=>by
   rw[e2,hr]at hk
   cases k with
   |zero=>rfl
   |succ k=>simp at hk
  -- the caller's other boxes stand in blocks that the callee has left alone
  have hoth:∀k B,k≠id->m.get k=some B->xG1 (I k) B->zd1 R0 I w m id (I k).1:=λk B hk hkB hs=>.inr ⟨k,B,hk,hkB,hs,rfl⟩
  have hsame:∀b,zd1 R0 I w m id b->b<w'.heap.size/\w'.heap[b]? =w.heap[b]? :=λb hb=>e3.hid.1 b hb
  have hbid:∀k B,m'.get k=some B->xG1 (I k) B->(I k).1=(I id).1->k=id:=λk B hk hs heq=>by
   rw[hg' k]at hk
   split at hk
   .assumption
   .exact hm.inj k id _ _ hk hB hs trivial heq
  have hro':∀b,RO w0 (zd1 R0 I w m id) I' w' mF b->RO w0 R0 I w' m' b:=λb hb=>by
   rcases hb with⟨h1,h2⟩|⟨k1,k2,k3,k4⟩
   .rcases h1 with h1|⟨k,B,_,g2,g3,g4⟩
    .exact .inl ⟨h1,h2⟩
    .have:=hm.lo k B g2 g3;omega
   .refine .inr ⟨k1,k2,λk B hk hs=>?_,λhr0=>k4 (.inl hr0)⟩
    rw[hg' k]at hk
    split at hk
    .rename_i hkid
     subst hkid;rw[<-eρ];exact k3 0 _ hF trivial
    .rename_i hkid
     exact λheq=>k4 (.inr ⟨k,B,hkid,hk,hs,heq⟩)
  have hro:∀b,RO w0 R0 I w m b->RO w0 R0 I w' m' b/\w'.heap[b]? =w.heap[b]? :=λb hb=>by
   obtain⟨k1,k2⟩:=e5 b (hroc b hb);exact⟨hro' b k1,k2⟩
  have hext:b8 w0 R0 I w m I w' m':=⟨by rw[hn'];exact Nat.le_refl _,λ_ _=>rfl,hro⟩;refine⟨I,⟨e3.below,λk B hk=>?_,λk B hk hs=>?_,λk B hk hs=>?_,λk k' B B' hk hk' hs hs' heq=>?_,λk B hk=>?_,λb hb=>?_,λk B hk hs=>?_⟩,hext,Rep.data hro' _ _ flv e6⟩
  .rw[hg' k]at hk
   rw[hn']
   split at hk
   .rename_i hkid;subst hkid;exact hm.lt k _ hB
   .exact hm.lt k B hk
  .rw[hg' k]at hk
   split at hk
   .rename_i hkid;subst hkid;exact hm.lo k _ hB trivial
   .exact hm.lo k B hk hs
  .rw[hg' k]at hk
   split at hk
   .rename_i hkid;subst hkid
    rw[<-eρ];exact e3.hi 0 _ hF trivial
   .rename_i hkid
    exact(hsame _ (hoth k B hkid hk hs)).1
  .rw[hg' k]at hk
   rw[hg' k']at hk'
   split at hk
   .rename_i h1
    split at hk'
    .rename_i h2;rw[h1,h2]
    .rename_i h2
     subst h1;exact hm.inj k k' _ _ hB hk' trivial hs' heq
   .rename_i h1
    split at hk'
    .rename_i h2
     subst h2;exact hm.inj k k' _ _ hk hB hs trivial heq
    .exact hm.inj k k' _ _ hk hk' hs hs' heq
  .rw[hg' k]at hk
   split at hk
   .rename_i hkid
    subst hkid;injection hk with hk;subst hk;obtain⟨arr,e,fr,k1,k2,k3⟩:=e3.box 0 _ hF;rw[eρ]at k1;exact⟨arr,e,fr,k1,k2,j7.data hro' _ _ fl1 k3⟩
   .rename_i hkid
    exact za2.mono hext B (λhs=>(hsame _ (hoth k B hkid hk hs)).2) (hm.box k B hk)
  .obtain⟨g1,g2⟩:=hsame b (.inl hb)
   exact⟨g1,g2.trans (hm.hid.1 b hb).2⟩
  .rw[hg' k]at hk
   split at hk
   .rename_i hkid;subst hkid;exact hm.hid.2 k _ hB trivial
   .exact hm.hid.2 k B hk hs
 cases r with
 |ret v bs=>exact key
 |pan v bs=>exact key
def Fin.isPan:Fin->Bool
 |.ret _ _=>false
 |.pan _ _=>true
theorem zt3{rest:List SV}{cs0 cs1:List SV}(hf:qr2 P f (.ptr 0 0::rest)=true)(h:zd4 P (x9 P f) [] 1 r (v7 P f) (v6 P f (.ptr 0 0::rest)) [some (.cells cs0)])(hr:r.boxes=[some (.cells cs1)])
  (hd:f6 rest=true) (fl0:f6 cs0=true) (fl1:f6 cs1=true) (flv:r.val.data=true):za1 P f rest (.cells cs0) (r.isPan,r.val,.cells cs1):=by
 intro m m' id hB hm'
 have key:=x64 (args:=.ptr id 0::rest) hf h hr hB fl0 fl1 flv hm'.2 hm'.1 λR R' I n w vs hR hvs=>by
  obtain⟨u,us,rfl,⟨h1,h2⟩,h3⟩:=hvs;exact⟨u,us,rfl,⟨Nat.zero_lt_one,h2⟩,j7.data hR rest us hd h3⟩
 cases r with
 |ret v bs=>exact key
 |pan v bs=>exact key
noncomputable def xK4:Tree StopX->List Item
 |.leaf x=>match x with
  |.at items _ _ _=>items
  |_=>[]
 |.node _ t f=>match xK4 t with
  |[] =>xK4 f
  |l=>l
 |.req _ t=>xK4 t
 |.fail _=>[]
theorem zK7{ops:Array Oper}{o1 o2:Oper}{g:FuncId}{cap:Array Operand}{d:Tmp}{c:Call}(h:ops.toList=[o1,o2])(g1:o1.op=.makeFunc (.func g) #[] cap)(g1g:o1.guard=none)(g1d:o1.dst=some d)
  (g2:o2.op=.defer c) (g2c:c.callee=.value (.tmp d)) (g2a:c.args=#[]) (g2g:o2.guard=none) (g2d:o2.dst=none) (a:Act) (w:World) (hd:d<a.tmps.size):
  (Code.region id ops false).wp P (λe a' w'=>e=.normal/\w'=w/\a'={tmps:=a.tmps.setIfInBounds d (.func (.func g) #[] (cap.map a.eval)),defers:={target:=.fn (.func g) (cap.map a.eval),args:=#[]}::a.defers}) a w:=by
 refine wp_region ?_
 have hops:ops=#[o1,o2] :=by apply Array.ext';exact h
 subst hops;show wpOps P #[o1,o2] _ [0,1] a w;unfold wpOps;rw[show(#[o1,o2] :Array Oper)[0]? =some o1 from rfl];dsimp only;rw[if_pos (by simp[Region.wanted,g1g])];refine .inl ?_;unfold Oper.wp
 have e1:(Go.execOp a.eval o1).run P w=.ok (.value (.func (.func g) #[] (cap.map a.eval))) w:=by
  obtain⟨dst,op,ty,pos,after,guard⟩:=o1;dsimp only at g1;subst g1;simp[Go.execOp,Instr.makeFunc]
 rw[e1,Oper.upon_value,g1d];unfold wpOps;rw[show(#[o1,o2] :Array Oper)[1]? =some o2 from rfl];dsimp only;rw[if_pos (by simp[Region.wanted,g2g])];refine .inl ?_;unfold Oper.wp
 have ev:(a.put (some d) (.func (.func g) #[] (cap.map a.eval))).eval (.tmp d)=.func (.func g) #[] (cap.map a.eval):=by
  simp[Act.eval,Act.put,Array.getElem?_setIfInBounds,hd]
 have e2:(Go.execOp (a.put (some d) (.func (.func g) #[] (cap.map a.eval))).eval o2).run P w=.ok (.defer {target:=.fn (.func g) (cap.map a.eval),args:=#[]}) w:=by
  obtain⟨dst,op,ty,pos,after,guard⟩:=o2;dsimp only at g2;subst g2;simp[Go.execOp,resolve,g2c,g2a,ev,Deferred.ofValue]
 rw[e2,Oper.upon_defer,g2d];unfold wpOps;exact⟨rfl,rfl,rfl⟩
theorem yV3{b:Frame}{k:List Item}{cs cs':List Frame}{ops:Array Oper}{i:Nat}{rest:List Nat}{o:Oper}{v:Value}(hb:b.kind=.deferred)(ho:ops[i]? =some o)(hg0:o.guard=none)
  (hr:(Go.execOp a.eval o).run P w=.ok .recover w) (hv:(recoverD cs=some (v,cs'))\/(recoverD cs=none/\v=.nilIface/\cs'=cs)):
  step P (lone (b.at a (.inRegion ops (i::rest)::k)) cs w)=.next (lone (b.at (a.put o.dst v) (.inRegion ops rest::k)) cs' w):=by
 have hw:Region.wanted o (yielded ops a.tmps)=true:=by simp[Region.wanted,hg0]
 have hg:=stepG_op (P:=P) (b:=b) (k:=k) (cs:=cs) (w:=w) (rest:=rest) ho hw
 have hfin:∀v,(b.at a (.inRegion ops (i::rest)::k)).finish v=b.at (a.put o.dst v) (.inRegion ops rest::k):=by
  intro v;rw[Frame.finish_at,ho];rfl
 have hk:(b.at a (.inRegion ops (i::rest)::k)).kind=.deferred:=hb;have htr:=tryRecover_deferred hk cs;refine step_lone_go ?_;rw[hg,<-hfin];simp only[Frame.at]at htr ⊢;rcases hv with hrec|⟨hrec,rfl,rfl⟩
 .simp[stepG.apply,hr,htr,hrec]
 .simp[stepG.apply,hr,htr,hrec]
def Fin.hand:Fin->SV
 |.ret _ _=>.raw .nilIface
 |.pan v _=>v
def Fin.mode(u:Value):Fin->FrameMode
 |.ret _ _=>.returning
 |.pan _ _=>.panicking [{v:=u,recovered:=false}]
def Fin.mode2(u:Value):Fin->FrameMode
 |.ret _ _=>.returning
 |.pan _ _=>.panicking [{v:=u,recovered:=true}]
def Fin.got(u:Value):Fin->Value
 |.ret _ _=>.nilIface
 |.pan _ _=>u
def m6{β:Type 2}(p:β->Prop):List β->Prop
 |[] =>True
 |x::l=>p x/\m6 p l
theorem xD1(hK:Known P E)(n:Nat)(p:Plan){t:Tree SV}
  (ht:(zU3 E n f args p).vals=t) (h:t.holds λx=>x=v) (hd:f6 args=true) (hv:v.data=true):SCall P f args v:=
 xD0 (n:=n) (p:=p) hK hd hv (Tree.vals_holds _ (by rw[ht];exact h))
theorem MRel.fewer{m1:Mem}(h:MRel w0 R0 I w m)(hn:m1.next=m.next)(hs:∀k B,m1.get k=some B->m.get k=some B):MRel w0 R0 I w m1/\b8 w0 R0 I w m I w m1:=by
 have hro:∀b,RO w0 R0 I w m b->RO w0 R0 I w m1 b:=λb hb=>by
  rcases hb with hb|⟨k1,k2,k3,k4⟩
  .exact .inl hb
  .exact .inr ⟨k1,k2,λid B hB hs'=>k3 id B (hs _ _ hB) hs',k4⟩
 have e:b8 w0 R0 I w m I w m1:=⟨by omega,λid hid=>rfl,λb hb=>⟨hro b hb,rfl⟩⟩;refine⟨⟨h.below,λid B hB=>hn▸h.lt id B (hs _ _ hB),λid B hB=>h.lo id B (hs _ _ hB),λid B hB=>h.hi id B (hs _ _ hB),λid id' B B' hB hB'=>h.inj id id' B B' (hs _ _ hB) (hs _ _ hB'),λid B hB=>za2.mono e _ (λ_=>rfl) (h.box id _ (hs _ _ hB)),h.hid.1,λid B hB=>h.hid.2 id B (hs _ _ hB)⟩,e⟩
theorem zo0{m1:Mem}(h:MRel w0 R0 I w m)(hn:m1.next=m.next)(hs:∀k B,m1.get k=some B->m.get k=some B):∀{xs:List SV} {vs:List Value},(∀k,SV.row k∈xs->m1.get k=none)->j7 (RO w0 R0 I w m) I m.next w xs vs->j7 (RO w0 R0 I w m1) I m1.next w (xs.map (zn9 m)) vs
 |[],vs,_,hv=>hv
 |x::xs,vs,ho,hv=>by
  obtain⟨u,us,rfl,r1,r2⟩:=hv;have e:=(h.fewer hn hs).2;refine⟨u,us,rfl,?_,zo0 h hn hs (λk hk=>ho k (.tail _ hk)) r2⟩
  have plain:zn9 m x=x->Rep (RO w0 R0 I w m1) I m1.next w (zn9 m x) u:=λe'=>by
   rw[e'];exact Rep.mono e _ _ r1
  cases x with
  |row id=>
   cases hg:m.get id with
   |none=>exact plain (by simp only[zn9,hg])
   |some B=>
    cases B with
    |cells cs=>exact plain (by simp only[zn9,hg])
    |iter s p=>exact plain (by simp only[zn9,hg])
    |obj _ _=>exact plain (by simp only[zn9,hg])
    |rows t l=>
     have e':zn9 m (.row id)=.list t l:=by simp only[zn9,hg]
     rw[e'];obtain⟨_,a,hu,ha⟩:=r1;obtain⟨b1,b2,hp⟩:=h.box id _ hg;refine⟨a,(I id).2.2,by rw[hu,b1],b2,λh0=>?_⟩;have h0:0< (I id).2.2:=Nat.lt_of_lt_of_le h0 b2;obtain⟨arr,el,fr,k1,k2,k3,k4⟩:=hp h0;refine⟨(I id).1,0,ha h0,.inr ⟨h.lo id _ hg h0,h.hi id _ hg h0,λid' B' hB hs' heq=>?_,h.hid.2 id _ hg h0⟩,λi hi=>?_⟩
     .have:=h.inj id' id B' _ (hs _ _ hB) hg hs' h0 heq
      subst this;rw[ho id' (.head _)]at hB;cases hB
     .obtain⟨cs,c1,c2,c3⟩:=k4 i hi
      refine⟨cs,c1,λj hj=>?_,r8.mono e.keep _ _ _ c3⟩;rw[cell_of_row w _ _ arr el fr k1,Nat.zero_add];exact c2 j hj
  |_=>exact plain rfl
noncomputable def zN4{β:Type}:List SV->Mem->(Mem->Tree β)->Tree β
 |[],m,k=>k m
 |x::xs,m,k=>match x with
  |.row id=>m.set id none λm=>zN4 xs m k
  |_=>zN4 xs m k
def yJ1(m:Mem):Tree SV->Tree (SV×Mem)
 |.leaf v=>.leaf (v,m)
 |.node b t f=>.node b (yJ1 m t) (yJ1 m f)
 |.req b t=>.req b (yJ1 m t)
 |.fail n=>.fail n
theorem yJ2{Φ:SV->Prop}{Ψ:SV×Mem->Prop}(h:∀v,Φ v->Ψ (v,m)):∀t:Tree SV,t.says Φ->(yJ1 m t).says Ψ
 |.leaf _,ht=>h _ ht
 |.node _ t f,ht=>⟨λhb=>yJ2 h t (ht.1 hb),λhb=>yJ2 h f (ht.2 hb)⟩
 |.req _ t,ht=>λhb=>yJ2 h t (ht hb)
 |.fail _,_=>trivial
theorem zN5{β:Type}{Φ:β->Prop}:∀ (xs:List SV) (m:Mem) (k:Mem->Tree β),(∀m1:Mem,m1.next=m.next->(∀k B,m1.get k=some B->m.get k=some B)->(∀k,SV.row k∈xs->m1.get k=none)->(k m1).says Φ)->(zN4 xs m k).says Φ
 |[],m,k,h=>h m rfl (λ_ _ h=>h) (λ_ h=>by cases h)
 |x::xs,m,k,h=>by
  have go:(∀k,SV.row k≠x)->(zN4 xs m k).says Φ:=λhx=>zN5 xs m k λm1 h1 h2 h3=>h m1 h1 h2 λk hk=>by
   cases hk with
   |head=>exact absurd rfl (hx k)
   |tail _ hk=>exact h3 k hk
  cases x with
  |row id=>
   refine xE5 λm2 hm2=>zN5 xs m2 k λm1 h1 h2 h3=>h m1 (h1.trans hm2.2) (λk B hB=>?_) λk hk=>?_
   .have:=h2 k B hB
    rw[hm2.1]at this
    split at this
    .cases this
    .exact this
   .cases hk with
    |head=>
     cases hx:m1.get id with
     |none=>rfl
     |some B=>
      have:=h2 id B hx;rw[hm2.1,if_pos rfl]at this;cases this
    |tail _ hk=>exact h3 k hk
  |_=>exact go λk hk=>by cases hk
noncomputable def Fact.frz(x:Fact):WFact:=⟨x.f,λargs m=>match x.s (args.map (zn9 m))with
 |some t=>some (zN4 args m λm1=>yJ1 m1 t)
 |none=>none⟩
theorem Fact.frz_ok{x:Fact}(h:x.ok P):x.frz.ok P:=by
 intro args m t ht
 change (match x.s (args.map (zn9 m))with
  |some t=>some (zN4 args m λm1=>yJ1 m1 t)
  |none=>none)=some t at ht
 split at ht
 .rename_i t' ht'
  injection ht with ht;subst ht
  refine zN5 args m _ λm1 h1 h2 h3=>yJ2 (λv hv=>?_) _ (h _ _ ht')
  intro w0 R0 I w vs hm hvs;obtain⟨d1,d2⟩:=hm.fewer h1 h2;refine zc1.mono (λu w' hu=>?_) (hv m1 w0 R0 I w vs d1 (zo0 hm h1 h2 h3 hvs));obtain⟨I',g1,g2,g3⟩:=hu;exact⟨I',g1,d2.trans g2,g3⟩
 .cases ht
end Go.Sx
namespace Go.Proofs.YtnkaepnblikcdaaGreat
open Go.Sx
noncomputable abbrev pP:Program:=Tryz.prog
theorem mix:pP.follows .mixedOrders=true:=by kernel_rfl
theorem hB{l:List Fact}{k:List WFact}{j:List PFact}{i:List BFact}(ty ls rd cu:List Nat)(hl:zm7 pP l)(hk:∀x∈k,x.ok pP)(hj:∀x∈j,x.ok pP)(hi:∀x∈i,x.ok pP):Known pP (Env.ofB pP (j9 l) (s8 k) (p9 j) (p8 i) (j6 ty) (j6 ls) (j6 rd) (j6 cu)):=qO8 mix hl.all hk hj hi _ _ _ _
theorem u9{β:Type}{p:β->Prop}:∀x∈([] :List β),p x:=λ_ h=>by cases h
structure Ax where
 num:Int
 den:Int
 speed:Int
 accel:Int
 jerk:Int
 min:Int
 max:Int
def Ax.cells(a:Ax):List SV:=[J a.num,J a.den,J a.speed,J a.accel,J a.jerk,J a.min,J a.max]
structure Ma where
 x:Ax
 y:Ax
 z:Ax
 e:Ax
 xy:Bool
 ticks:Int
def Ma.cells(m:Ma):List SV:=[J m.x.num,J m.x.den,J m.x.speed,J m.x.accel,J m.x.jerk,J m.x.min,J m.x.max,
 J m.y.num,J m.y.den,J m.y.speed,J m.y.accel,J m.y.jerk,J m.y.min,J m.y.max,
 J m.z.num,J m.z.den,J m.z.speed,J m.z.accel,J m.z.jerk,J m.z.min,J m.z.max,
 J m.e.num,J m.e.den,J m.e.speed,J m.e.accel,J m.e.jerk,J m.e.min,J m.e.max,.bool m.xy,J m.ticks]
def Ma.sv(m:Ma):SV:=.agg m.cells
structure Co where
 target:Int
 kp:Int
 ki:Int
 scale:Int
 sum:Int
 limit:Int
def Co.cells(c:Co):List SV:=[J c.target,J c.kp,J c.ki,J c.scale,J c.sum,J c.limit]
def Co.sv(c:Co):SV:=.agg c.cells
structure Gu where
 low:Int
 high:Int
 watch:Int
 rise:Int
 band:Int
 base:Int
 count:Int
 idle:Int
 quiet:Int
 fault:Int
 door:Bool
def Gu.cells(g:Gu):List SV:=[J g.low,J g.high,J g.watch,J g.rise,J g.band,J g.base,J g.count,J g.idle,J g.quiet,J g.fault,.bool g.door]
def Gu.sv(g:Gu):SV:=.agg g.cells
def inR(n lo hi:Int):Bool:=decide (lo<=n)&&decide (n<=hi)
variable{n:Int}
theorem j8{lo hi:Int}:inR n lo hi=true↔lo<=n/\n<=hi:=by simp[inR]
def Ax.ok(a:Ax):Bool:=inR a.num 1 65536&&inR a.den 1 a.num&&inR a.speed 1 1048576&&inR a.accel 1 16777216&&inR a.jerk 1 1048576&&decide (a.min<=a.max)&&decide (-1048576<=a.min)&&decide (a.max<=1048576)
theorem Ax.ok_iff(a:Ax):a.ok=true↔(1<=a.num/\a.num<=65536)/\(1<=a.den/\a.den<=a.num)/\(1<=a.speed/\a.speed<=1048576)/\(1<=a.accel/\a.accel<=16777216)/\(1<=a.jerk/\a.jerk<=1048576)/\a.min<=a.max/\-1048576<=a.min/\a.max<=1048576:=by
 simp only[Ax.ok,Bool.and_eq_true,j8,decide_eq_true_eq,and_assoc]
def Ma.ok(m:Ma):Bool:=m.x.ok&& (m.y.ok&& (m.z.ok&& (m.e.ok&&inR m.ticks 1 1048576)))
def Co.ok(c:Co):Bool:=inR c.target 0 400000&&inR c.kp 0 1048576&&inR c.ki 0 1048576&&inR c.scale 1 1073741824&&inR c.limit 0 1099511627776&&inR c.sum 0 c.limit
theorem Co.ok_iff(c:Co):c.ok=true↔(0<=c.target/\c.target<=400000)/\(0<=c.kp/\c.kp<=1048576)/\(0<=c.ki/\c.ki<=1048576)/\(1<=c.scale/\c.scale<=1073741824)/\(0<=c.limit/\c.limit<=1099511627776)/\0<=c.sum/\c.sum<=c.limit:=by
 simp only[Co.ok,Bool.and_eq_true,j8,decide_eq_true_eq,and_assoc]
def Gu.ok(g:Gu):Bool:=decide (g.low<=g.high)&&inR g.low (-1073741824) 1073741824&&inR g.high (-1073741824) 1073741824&&inR g.base (-1073741824) 1073741824 &&
 inR g.watch 1 1048576&&inR g.idle 1 1048576&&inR g.rise 1 400000&&inR g.band 0 400000&&inR g.count 0 g.watch&&inR g.quiet 0 g.idle&&inR g.fault 0 4
theorem Gu.ok_iff(g:Gu):g.ok=true↔g.low<=g.high/\(-1073741824<=g.low/\g.low<=1073741824)/\(-1073741824<=g.high/\g.high<=1073741824)/\(-1073741824<=g.base/\g.base<=1073741824)/\
  (1<=g.watch/\g.watch<=1048576)/\(1<=g.idle/\g.idle<=1048576)/\(1<=g.rise/\g.rise<=400000)/\(0<=g.band/\g.band<=400000)/\(0<=g.count/\g.count<=g.watch)/\(0<=g.quiet/\g.quiet<=g.idle)/\0<=g.fault/\g.fault<=4:=by
 simp only[Gu.ok,Bool.and_eq_true,j8,decide_eq_true_eq,and_assoc]
theorem Ma.ok_iff(m:Ma):m.ok=true↔m.x.ok=true/\m.y.ok=true/\m.z.ok=true/\m.e.ok=true/\1<=m.ticks/\m.ticks<=1048576:=by
 simp only[Ma.ok,Bool.and_eq_true,j8]
abbrev V4:=Int×Int×Int×Int
def V4.cells(c:V4):List SV:=[J c.1,J c.2.1,J c.2.2.1,J c.2.2.2]
def V4.sv(c:V4):SV:=.agg [J c.1,J c.2.1,J c.2.2.1,J c.2.2.2]
def z4:V4:=(0,0,0,0)
def zi0(a b:V4):V4:=(a.1+b.1,a.2.1+b.2.1,a.2.2.1+b.2.2.1,a.2.2.2+b.2.2.2)
def xL6(a b:V4):V4:=(a.1-b.1,a.2.1-b.2.1,a.2.2.1-b.2.2.1,a.2.2.2-b.2.2.2)
def in4(k:Int)(c:V4):Bool:=inR c.1 (-k) k&& (inR c.2.1 (-k) k&& (inR c.2.2.1 (-k) k&&inR c.2.2.2 (-k) k))
variable{k:Int}{c:V4}
theorem qG8:in4 k c=true↔(-k<=c.1/\c.1<=k)/\(-k<=c.2.1/\c.2.1<=k)/\(-k<=c.2.2.1/\c.2.2.1<=k)/\-k<=c.2.2.2/\c.2.2.2<=k:=by
 simp only[in4,Bool.and_eq_true,j8]
def v9(c:V4):Bool:=in4 16777216 c
theorem q26{c:V4}:v9 c=true↔(-16777216<=c.1/\c.1<=16777216)/\(-16777216<=c.2.1/\c.2.1<=16777216)/\(-16777216<=c.2.2.1/\c.2.2.1<=16777216)/\-16777216<=c.2.2.2/\c.2.2.2<=16777216:=qG8
def nz4(c:V4):Bool:=!(c.1==0&& (c.2.1==0&& (c.2.2.1==0&&c.2.2.2==0)))
theorem q83:nz4 c=true↔¬(c.1=0/\c.2.1=0/\c.2.2.1=0/\c.2.2.2=0):=by
 simp only[nz4,Bool.not_eq_true',Bool.and_eq_false_iff,beq_eq_false_iff_ne,ne_eq];omega
def okC(c:V4):Bool:=v9 c&&nz4 c
theorem yv1:okC c=true↔((-16777216<=c.1/\c.1<=16777216)/\(-16777216<=c.2.1/\c.2.1<=16777216)/\(-16777216<=c.2.2.1/\c.2.2.1<=16777216)/\-16777216<=c.2.2.2/\c.2.2.2<=16777216)/\¬(c.1=0/\c.2.1=0/\c.2.2.1=0/\c.2.2.2=0):=by
 simp only[okC,Bool.and_eq_true,q26,q83]
def sz(n:Int):Int:=if n<0 then -n else n
theorem xM9(n:Int):0<=sz n:=by unfold sz;split<;>omega
def mx(a b:Int):Int:=if b>a then b else a
def mx4(c:V4):Int:=mx (mx (mx (mx 0 (sz c.1)) (sz c.2.1)) (sz c.2.2.1)) (sz c.2.2.2)
def dom(c:V4):Int:=match okC c with
 |true=>mx4 c
 |false=>0
theorem q22(h:okC c=true):1<=mx4 c/\mx4 c<=16777216/\sz c.1<=mx4 c/\sz c.2.1<=mx4 c/\sz c.2.2.1<=mx4 c/\sz c.2.2.2<=mx4 c:=by
 rw[yv1]at h;unfold mx4 mx sz;omega
theorem zN1(h:okC c=true):dom c=mx4 c:=by unfold dom;rw[h]
theorem zN0(h:okC c=false):dom c=0:=by unfold dom;rw[h]
theorem zN3(c:V4):0<=dom c/\dom c<=16777216:=by
 cases h:okC c with
 |true=>rw[zN1 h];have:=q22 h;omega
 |false=>rw[zN0 h];omega
theorem zN2(h:okC c=true):1<=dom c:=by rw[zN1 h];exact(q22 h).1
def stp(n i k:Int):Int:=if k<0 then -((2*i*sz k+n) / (2*n))else(2*i*sz k+n) / (2*n)
def clm(n i:Int):Int:=if i<0 then 0 else if n<i then n else i
def at4(c:V4)(i:Int):V4:=match okC c with
 |true=>(stp (mx4 c) (clm (mx4 c) i) c.1,stp (mx4 c) (clm (mx4 c) i) c.2.1,stp (mx4 c) (clm (mx4 c) i) c.2.2.1,stp (mx4 c) (clm (mx4 c) i) c.2.2.2)
 |false=>z4
abbrev Bk:=V4×Int×Int×Int×Int
def Bk.sv(b:Bk):SV:=.agg [J b.1.1,J b.1.2.1,J b.1.2.2.1,J b.1.2.2.2,J b.2.1,J b.2.2.1,J b.2.2.2.1,J b.2.2.2.2]
def f4(b:Bk):Bool:=okC b.1&& (inR b.2.1 1 16777216&&inR b.2.2.2.1 1 1099511627776)
theorem xH1{b:Bk}:f4 b=true↔okC b.1=true/\(1<=b.2.1/\b.2.1<=16777216)/\1<=b.2.2.2.1/\b.2.2.2.1<=1099511627776:=by
 simp only[f4,Bool.and_eq_true,j8]
def xX7(b:Bk):Bool:=f4 b&& (inR b.2.2.1 0 b.2.2.2.1&&inR b.2.2.2.2 0 b.2.2.2.1)
theorem xX8{b:Bk}:xX7 b=true↔(okC b.1=true/\(1<=b.2.1/\b.2.1<=16777216)/\1<=b.2.2.2.1/\b.2.2.2.1<=1099511627776)/\(0<=b.2.2.1/\b.2.2.1<=b.2.2.2.1)/\0<=b.2.2.2.2/\b.2.2.2.2<=b.2.2.2.1:=by
 simp only[xX7,Bool.and_eq_true,j8,xH1]
def rea(b:Bk):Int:=2*b.2.1*dom b.1
theorem qC9{b c:Bool}(h:b=true↔c=true):SV.bool b=SV.bool c:=congrArg SV.bool (Bool.eq_iff_iff.2 h)
def qi8(f:FuncId)(h:Ma->SV):Fact:=⟨f,λargs=>match args with
 |[.agg [.int .i64 a0,.int .i64 a1,.int .i64 a2,.int .i64 a3,.int .i64 a4,.int .i64 a5,.int .i64 a6,.int .i64 b0,.int .i64 b1,.int .i64 b2,.int .i64 b3,.int .i64 b4,.int .i64 b5,.int .i64 b6,
   .int .i64 c0,.int .i64 c1,.int .i64 c2,.int .i64 c3,.int .i64 c4,.int .i64 c5,.int .i64 c6,.int .i64 d0,.int .i64 d1,.int .i64 d2,.int .i64 d3,.int .i64 d4,.int .i64 d5,.int .i64 d6,.bool xy,.int .i64 t]] =>
  some (.leaf (h ⟨⟨a0,a1,a2,a3,a4,a5,a6⟩,⟨b0,b1,b2,b3,b4,b5,b6⟩,⟨c0,c1,c2,c3,c4,c5,c6⟩,⟨d0,d1,d2,d3,d4,d5,d6⟩,xy,t⟩))
 |_=>none⟩
variable{P:Program}{f:FuncId}
theorem qk1{h:Ma->SV}(k:∀m:Ma,SCall P f [m.sv] (h m)):(qi8 f h).ok P:=λargs t ht=>by
 simp only[qi8]at ht
 split at ht
 .injection ht with ht;subst ht;exact k ⟨⟨_,_,_,_,_,_,_⟩,⟨_,_,_,_,_,_,_⟩,⟨_,_,_,_,_,_,_⟩,⟨_,_,_,_,_,_,_⟩,_,_⟩
 .cases ht
def qf8(f:FuncId)(h:Co->SV):Fact:=⟨f,λargs=>match args with
 |[.agg [.int .i64 a0,.int .i64 a1,.int .i64 a2,.int .i64 a3,.int .i64 a4,.int .i64 a5]] =>some (.leaf (h ⟨a0,a1,a2,a3,a4,a5⟩))
 |_=>none⟩
theorem qg1{h:Co->SV}(k:∀m:Co,SCall P f [m.sv] (h m)):(qf8 f h).ok P:=λargs t ht=>by
 simp only[qf8]at ht
 split at ht
 .injection ht with ht;subst ht;exact k ⟨_,_,_,_,_,_⟩
 .cases ht
def qh4(f:FuncId)(h:Gu->SV):Fact:=⟨f,λargs=>match args with
 |[.agg [.int .i64 a0,.int .i64 a1,.int .i64 a2,.int .i64 a3,.int .i64 a4,.int .i64 a5,.int .i64 a6,.int .i64 a7,.int .i64 a8,.int .i64 a9,.bool b]] =>some (.leaf (h ⟨a0,a1,a2,a3,a4,a5,a6,a7,a8,a9,b⟩))
 |_=>none⟩
theorem qh9{h:Gu->SV}(k:∀m:Gu,SCall P f [m.sv] (h m)):(qh4 f h).ok P:=λargs t ht=>by
 simp only[qh4]at ht
 split at ht
 .injection ht with ht;subst ht;exact k ⟨_,_,_,_,_,_,_,_,_,_,_⟩
 .cases ht
theorem xb8(c:Co):SCall pP 180 [c.sv] (.bool c.ok):=
 v8 mix [] trivial 1000 (let z0:Plan:=.ln 3 (.lit .all);.fork .all (.fork z0 (.ln 3 (.fork .all (.fork (.ln 11 (.lit .all)) (.ln 3 (.fork (.ln 7 (.lit .all)) (.ln 3 (.fork z0 (.ln 3 (.fork .all (.fork (.ln 11 (.lit .all)) (.ln 3 (.fork (.ln 7 (.lit .all)) (.ln 3 (.fork z0 (.ln 3 (.fork .all (.fork (.ln 4 (.lit .all)) (.ln 4 (.lit .all)))))))))))))))))))))
  (t:=let y0:Tree SV:=.leaf (.bool false);.node (c.target==0&& (c.kp==0&& (c.ki==0&& (c.scale==0&& (c.sum==0&& (c.limit==0&&true)))))) y0 (.node (decide (c.target<0)) y0 (.node (decide (c.target>400000)) y0 (.node (decide (c.kp<0)) y0 (.node (decide (c.kp>1048576)) y0 (.node (decide (c.ki<0)) y0 (.node (decide (c.ki>1048576)) y0 (.node (decide (c.scale<1)) y0 (.node (decide (c.scale>1073741824)) y0 (.node (decide (c.limit<0)) y0 (.node (decide (c.limit>1099511627776)) y0 (.node (decide (c.sum>=0)) (.leaf (.bool (decide (c.sum<=c.limit)))) y0))))))))))))
  (by kernel_rfl) (by simp only[Tree.holds,eq_self,true_and,Bool.not_eq_true',Bool.not_eq_false',decide_eq_true_eq,decide_eq_false_iff_not,Bool.and_eq_true,beq_iff_eq];(repeat' (first|apply And.intro|intro _));all_goals(refine qC9 ?_;rw[Co.ok_iff];(try simp only[decide_eq_true_eq,Bool.false_eq_true,false_iff]);omega)) (by kernel_rfl) (by kernel_rfl)
theorem xb9(c:Co):SCall pP 138 [c.sv] (.bool c.ok):=
 v8 mix [] trivial 1000 (.fork (.ln 3 (.fork (.ln 3 (.fork (.ln 3 (.fork (.ln 3 (.fork (.ln 3 (.fork (.ln 3 (.fork (.ln 3 (.fork (.ln 3 (.fork (.ln 3 (.fork (.ln 3 (.fork (.ln 4 (.lit .all)) (.ln 4 (.lit .all)))) (.ln 8 (.lit .all)))) (.ln 12 (.lit .all)))) (.ln 16 (.lit .all)))) (.ln 20 (.lit .all)))) (.ln 24 (.lit .all)))) (.ln 28 (.lit .all)))) (.ln 32 (.lit .all)))) (.ln 36 (.lit .all)))) (.ln 40 (.lit .all)))) (.ln 44 (.lit .all)))
  (t:=let y0:Tree SV:=.leaf (.bool false);.node (decide (c.target>=0)) (.node (decide (c.target<=400000)) (.node (decide (c.kp>=0)) (.node (decide (c.kp<=1048576)) (.node (decide (c.ki>=0)) (.node (decide (c.ki<=1048576)) (.node (decide (c.scale>=1)) (.node (decide (c.scale<=1073741824)) (.node (decide (c.limit>=0)) (.node (decide (c.limit<=1099511627776)) (.node (decide (c.sum>=0)) (.leaf (.bool (decide (c.sum<=c.limit)))) y0) y0) y0) y0) y0) y0) y0) y0) y0) y0) y0)
  (by kernel_rfl) (by simp only[Tree.holds,eq_self,true_and,Bool.not_eq_true',Bool.not_eq_false',decide_eq_true_eq,decide_eq_false_iff_not,Bool.and_eq_true,beq_iff_eq];(repeat' (first|apply And.intro|intro _));all_goals(refine qC9 ?_;rw[Co.ok_iff];(try simp only[decide_eq_true_eq,Bool.false_eq_true,false_iff]);omega)) (by kernel_rfl) (by kernel_rfl)
theorem xg2(g:Gu):Tree.holds (λv=>v=(.bool g.ok)) (let y0:Tree SV:=.leaf (.bool false);.node (decide (g.low>g.high)) y0 (.node (decide (g.low>=-1073741824)) (.node (!decide (g.low<=1073741824)) y0 (.node (decide (g.high>=-1073741824)) (.node (!decide (g.high<=1073741824)) y0 (.node (decide (g.base>=-1073741824)) (.node (!decide (g.base<=1073741824)) y0 (.node (decide (g.watch>=1)) (.node (!decide (g.watch<=1048576)) y0 (.node (decide (g.idle>=1)) (.node (!decide (g.idle<=1048576)) y0 (.node (decide (g.rise>=1)) (.node (!decide (g.rise<=400000)) y0 (.node (decide (g.band>=0)) (.node (!decide (g.band<=400000)) y0 (.node (decide (g.count>=0)) (.node (decide (g.count<=g.watch)) (.node (decide (g.quiet>=0)) (.node (decide (g.quiet<=g.idle)) (.node (decide (g.fault>=0)) (.leaf (.bool (decide (g.fault<=4)))) y0) y0) y0) y0) y0)) y0)) y0)) y0)) y0)) y0)) y0)) y0):Tree SV):=by simp only[Tree.holds,eq_self,true_and,Bool.not_eq_true',Bool.not_eq_false',decide_eq_true_eq,decide_eq_false_iff_not,Bool.and_eq_true,beq_iff_eq];(repeat' (first|apply And.intro|intro _));all_goals(refine qC9 ?_;rw[Gu.ok_iff];(try simp only[decide_eq_true_eq,Bool.false_eq_true,false_iff]);omega)
theorem xg0(g:Gu):SCall pP 151 [g.sv] (.bool g.ok):=
 v8 mix [] trivial 1000 (.fork (.ln 14 (.lit .all)) (.lit (.lit (.fork (.ln 5 (.fork (.ln 9 (.lit .all)) (.lit (.lit (.fork (.ln 5 (.fork (.ln 4 (.lit .all)) (.lit (.lit (.fork (.ln 5 (.fork .all (.fork (.ln 3 (.fork (.ln 14 (.lit .all)) (.lit (.lit (.fork (.ln 5 (.fork (.ln 9 (.lit .all)) (.lit (.lit (.fork (.ln 5 (.fork (.ln 4 (.lit .all)) (.lit (.lit (.fork (.ln 5 (.fork .all (.fork (.ln 3 (.fork (.ln 4 (.fork (.ln 4 (.fork (.lit (.lit (.fork (.ln 3 (.lit .all)) (.ln 3 (.lit .all))))) (.lit (.lit (.lit .all))))) (.ln 7 (.lit .all)))) (.ln 8 (.lit .all)))) (.ln 12 (.lit .all))))) (.ln 5 (.lit .all))))))) (.ln 10 (.lit .all))))))) (.ln 15 (.lit .all))))))) (.ln 18 (.lit .all))))) (.ln 5 (.lit .all))))))) (.ln 10 (.lit .all))))))) (.ln 15 (.lit .all))))))
  (by kernel_rfl) (xg2 g) (by kernel_rfl) (by kernel_rfl)
theorem xg1(g:Gu):SCall pP 139 [g.sv] (.bool g.ok):=
 v8 mix [] trivial 1000 (.fork (.ln 14 (.lit .all)) (.lit (.lit (.fork (.ln 5 (.fork (.ln 9 (.lit .all)) (.lit (.lit (.fork (.ln 5 (.fork (.ln 4 (.lit .all)) (.lit (.lit (.fork (.ln 5 (.fork .all (.fork (.ln 3 (.fork (.ln 14 (.lit .all)) (.lit (.lit (.fork (.ln 5 (.fork (.ln 9 (.lit .all)) (.lit (.lit (.fork (.ln 5 (.fork (.ln 4 (.lit .all)) (.lit (.lit (.fork (.ln 5 (.fork .all (.fork (.ln 3 (.fork (.ln 4 (.fork (.ln 4 (.fork (.lit (.lit (.fork (.ln 3 (.lit .all)) (.ln 3 (.lit .all))))) (.lit (.lit (.lit .all))))) (.ln 7 (.lit .all)))) (.ln 8 (.lit .all)))) (.ln 12 (.lit .all))))) (.ln 5 (.lit .all))))))) (.ln 10 (.lit .all))))))) (.ln 15 (.lit .all))))))) (.ln 18 (.lit .all))))) (.ln 5 (.lit .all))))))) (.ln 10 (.lit .all))))))) (.ln 15 (.lit .all))))))
  (by kernel_rfl) (xg2 g) (by kernel_rfl) (by kernel_rfl)
theorem xk0(m:Ma):SCall pP 179 [m.sv] (.bool m.ok):=
 v8 mix [] trivial 1000 (let z0:Plan:=.ln 37 (.lit .all);let z1:Plan:=.ln 30 (.lit .all);let z2:Plan:=.ln 25 (.lit .all);let z3:Plan:=.ln 20 (.lit .all);let z4:Plan:=.ln 15 (.lit .all);let z5:Plan:=.ln 10 (.lit .all);let z6:Plan:=.ln 21 (.lit .all);let z7:Plan:=.ln 26 (.lit .all);let z8:Plan:=.ln 31 (.lit .all);let z9:Plan:=.ln 36 (.lit .all);let z10:Plan:=.ln 41 (.lit .all);let z11:Plan:=.ln 9 (.lit .all);let z12:Plan:=.ln 4 (.lit .all);let z13:Plan:=.ln 5 (.lit .all);.go (.lit (.fork (.ln 3 (.fork z0 (.ln 4 (.fork (.ln 5 (.fork z1 (.lit (.lit (.fork (.ln 5 (.fork z2 (.lit (.lit (.fork (.ln 5 (.fork z3 (.lit (.lit (.fork (.ln 5 (.fork z4 (.ln 5 (.fork z11 (.lit (.lit (.fork (.ln 5 (.fork z12 (.lit (.lit (.fork (.ln 5 (.fork .all (.go (.lit (.fork (.ln 3 (.fork z0 (.ln 4 (.fork (.ln 5 (.fork z1 (.lit (.lit (.fork (.ln 5 (.fork z2 (.lit (.lit (.fork (.ln 5 (.fork z3 (.lit (.lit (.fork (.ln 5 (.fork z4 (.ln 5 (.fork z11 (.lit (.lit (.fork (.ln 5 (.fork z12 (.lit (.lit (.fork (.ln 5 (.fork .all (.go (.lit (.fork (.ln 3 (.fork z0 (.ln 4 (.fork (.ln 5 (.fork z1 (.lit (.lit (.fork (.ln 5 (.fork z2 (.lit (.lit (.fork (.ln 5 (.fork z3 (.lit (.lit (.fork (.ln 5 (.fork z4 (.ln 5 (.fork z11 (.lit (.lit (.fork (.ln 5 (.fork z12 (.lit (.lit (.fork (.ln 5 (.fork .all (.go (.lit (.fork (.ln 3 (.fork z0 (.ln 4 (.fork (.ln 5 (.fork z1 (.lit (.lit (.fork (.ln 5 (.fork z2 (.lit (.lit (.fork (.ln 5 (.fork z3 (.lit (.lit (.fork (.ln 5 (.fork z4 (.ln 5 (.fork z11 (.lit (.lit (.fork (.ln 5 (.fork z12 (.lit (.lit (.fork (.ln 5 (.fork .all (.go (.lit (.fork (.lit (.lit (.lit .all))) (.lit (.lit (.lit .all)))))))) z13))))) z5))))))) z6))))) z7))))) z8))))) z9)))) z10))))) z13))))) z5))))))) z6))))) z7))))) z8))))) z9)))) z10))))) z13))))) z5))))))) z6))))) z7))))) z8))))) z9)))) z10))))) z13))))) z5))))))) z6))))) z7))))) z8))))) z9)))) z10)))
  (t:=let y0:Tree SV:=.leaf (.bool false);.req (true) (.node (decide (m.x.num>=1)) (.node (!decide (m.x.num<=65536)) y0 (.node (decide (m.x.den>=1)) (.node (!decide (m.x.den<=m.x.num)) y0 (.node (decide (m.x.speed>=1)) (.node (!decide (m.x.speed<=1048576)) y0 (.node (decide (m.x.accel>=1)) (.node (!decide (m.x.accel<=16777216)) y0 (.node (decide (m.x.jerk>=1)) (.node (!decide (m.x.jerk<=1048576)) y0 (.node (decide (m.x.min>m.x.max)) y0 (.node (decide (m.x.min>=-1048576)) (.node (!decide (m.x.min<=1048576)) y0 (.node (decide (m.x.max>=-1048576)) (.node (!decide (m.x.max<=1048576)) y0 (.req true (.node (decide (m.y.num>=1)) (.node (!decide (m.y.num<=65536)) y0 (.node (decide (m.y.den>=1)) (.node (!decide (m.y.den<=m.y.num)) y0 (.node (decide (m.y.speed>=1)) (.node (!decide (m.y.speed<=1048576)) y0 (.node (decide (m.y.accel>=1)) (.node (!decide (m.y.accel<=16777216)) y0 (.node (decide (m.y.jerk>=1)) (.node (!decide (m.y.jerk<=1048576)) y0 (.node (decide (m.y.min>m.y.max)) y0 (.node (decide (m.y.min>=-1048576)) (.node (!decide (m.y.min<=1048576)) y0 (.node (decide (m.y.max>=-1048576)) (.node (!decide (m.y.max<=1048576)) y0 (.req true (.node (decide (m.z.num>=1)) (.node (!decide (m.z.num<=65536)) y0 (.node (decide (m.z.den>=1)) (.node (!decide (m.z.den<=m.z.num)) y0 (.node (decide (m.z.speed>=1)) (.node (!decide (m.z.speed<=1048576)) y0 (.node (decide (m.z.accel>=1)) (.node (!decide (m.z.accel<=16777216)) y0 (.node (decide (m.z.jerk>=1)) (.node (!decide (m.z.jerk<=1048576)) y0 (.node (decide (m.z.min>m.z.max)) y0 (.node (decide (m.z.min>=-1048576)) (.node (!decide (m.z.min<=1048576)) y0 (.node (decide (m.z.max>=-1048576)) (.node (!decide (m.z.max<=1048576)) y0 (.req true (.node (decide (m.e.num>=1)) (.node (!decide (m.e.num<=65536)) y0 (.node (decide (m.e.den>=1)) (.node (!decide (m.e.den<=m.e.num)) y0 (.node (decide (m.e.speed>=1)) (.node (!decide (m.e.speed<=1048576)) y0 (.node (decide (m.e.accel>=1)) (.node (!decide (m.e.accel<=16777216)) y0 (.node (decide (m.e.jerk>=1)) (.node (!decide (m.e.jerk<=1048576)) y0 (.node (decide (m.e.min>m.e.max)) y0 (.node (decide (m.e.min>=-1048576)) (.node (!decide (m.e.min<=1048576)) y0 (.node (decide (m.e.max>=-1048576)) (.node (!decide (m.e.max<=1048576)) y0 (.node (decide (m.ticks>=1)) (.leaf (.bool (decide (m.ticks<=1048576)))) y0)) y0)) y0))) y0)) y0)) y0)) y0)) y0))) y0)) y0))) y0)) y0)) y0)) y0)) y0))) y0)) y0))) y0)) y0)) y0)) y0)) y0))) y0)) y0))) y0)) y0)) y0)) y0)) y0))
  (by kernel_rfl) (by simp only[Tree.holds,eq_self,true_and,Bool.not_eq_true',Bool.not_eq_false',decide_eq_true_eq,decide_eq_false_iff_not,Bool.and_eq_true,beq_iff_eq];(repeat' (first|apply And.intro|intro _));all_goals(refine qC9 ?_;rw[Ma.ok_iff];(try simp only[Ax.ok_iff,decide_eq_true_eq,Bool.false_eq_true,false_iff]);first|(intro hh;omega)|(constructor<;>intro hh<;>(try simp only[and_assoc])<;>(repeat' apply And.intro)<;>omega))) (by kernel_rfl) (by kernel_rfl)
theorem xk1(m:Ma):SCall pP 67 [m.sv] (.bool m.ok):=
 v8 mix [] trivial 1000 (let z0:Plan:=.ln 7 (.lit .all);let z1:Plan:=.ln 3 (.lit .all);let z2:Plan:=.ln 37 (.lit .all);let z3:Plan:=.ln 33 (.lit .all);let z4:Plan:=.ln 29 (.lit .all);let z5:Plan:=.ln 23 (.lit .all);let z6:Plan:=.ln 19 (.lit .all);let z7:Plan:=.ln 15 (.lit .all);let z8:Plan:=.ln 11 (.lit .all);.go (.lit (.fork z2 (.ln 3 (.fork z3 (.ln 3 (.fork z4 (.ln 5 (.fork z5 (.ln 3 (.fork z6 (.ln 3 (.fork z7 (.ln 3 (.fork z8 (.ln 3 (.fork z0 (.ln 3 (.fork z1 (.ln 3 (.fork .all (.fork z0 (.ln 3 (.fork z1 (.ln 3 (.fork .all (.go (.lit (.fork z2 (.ln 3 (.fork z3 (.ln 3 (.fork z4 (.ln 5 (.fork z5 (.ln 3 (.fork z6 (.ln 3 (.fork z7 (.ln 3 (.fork z8 (.ln 3 (.fork z0 (.ln 3 (.fork z1 (.ln 3 (.fork .all (.fork z0 (.ln 3 (.fork z1 (.ln 3 (.fork .all (.go (.lit (.fork z2 (.ln 3 (.fork z3 (.ln 3 (.fork z4 (.ln 5 (.fork z5 (.ln 3 (.fork z6 (.ln 3 (.fork z7 (.ln 3 (.fork z8 (.ln 3 (.fork z0 (.ln 3 (.fork z1 (.ln 3 (.fork .all (.fork z0 (.ln 3 (.fork z1 (.ln 3 (.fork .all (.go (.lit (.fork z2 (.ln 3 (.fork z3 (.ln 3 (.fork z4 (.ln 5 (.fork z5 (.ln 3 (.fork z6 (.ln 3 (.fork z7 (.ln 3 (.fork z8 (.ln 3 (.fork z0 (.ln 3 (.fork z1 (.ln 3 (.fork .all (.fork z0 (.ln 3 (.fork z1 (.ln 3 (.fork .all (.go (.lit (.fork (.lit (.lit (.lit .all))) (.lit (.lit (.lit .all))))))))))))))))))))))))))))))))))))))))))))))))))))))))))))))))))))))))))))))))))))))))))))))))))))))))))))))
  (t:=let y0:Tree SV:=.leaf (.bool false);.req (true) (.node (decide (m.x.num<1)) y0 (.node (decide (m.x.num>65536)) y0 (.node (decide (m.x.den<1)) y0 (.node (decide (m.x.den>m.x.num)) y0 (.node (decide (m.x.speed<1)) y0 (.node (decide (m.x.speed>1048576)) y0 (.node (decide (m.x.accel<1)) y0 (.node (decide (m.x.accel>16777216)) y0 (.node (decide (m.x.jerk<1)) y0 (.node (decide (m.x.jerk>1048576)) y0 (.node (decide (m.x.min>m.x.max)) y0 (.node (decide (m.x.min < -1048576)) y0 (.node (decide (m.x.max>1048576)) y0 (.req true (.node (decide (m.y.num<1)) y0 (.node (decide (m.y.num>65536)) y0 (.node (decide (m.y.den<1)) y0 (.node (decide (m.y.den>m.y.num)) y0 (.node (decide (m.y.speed<1)) y0 (.node (decide (m.y.speed>1048576)) y0 (.node (decide (m.y.accel<1)) y0 (.node (decide (m.y.accel>16777216)) y0 (.node (decide (m.y.jerk<1)) y0 (.node (decide (m.y.jerk>1048576)) y0 (.node (decide (m.y.min>m.y.max)) y0 (.node (decide (m.y.min < -1048576)) y0 (.node (decide (m.y.max>1048576)) y0 (.req true (.node (decide (m.z.num<1)) y0 (.node (decide (m.z.num>65536)) y0 (.node (decide (m.z.den<1)) y0 (.node (decide (m.z.den>m.z.num)) y0 (.node (decide (m.z.speed<1)) y0 (.node (decide (m.z.speed>1048576)) y0 (.node (decide (m.z.accel<1)) y0 (.node (decide (m.z.accel>16777216)) y0 (.node (decide (m.z.jerk<1)) y0 (.node (decide (m.z.jerk>1048576)) y0 (.node (decide (m.z.min>m.z.max)) y0 (.node (decide (m.z.min < -1048576)) y0 (.node (decide (m.z.max>1048576)) y0 (.req true (.node (decide (m.e.num<1)) y0 (.node (decide (m.e.num>65536)) y0 (.node (decide (m.e.den<1)) y0 (.node (decide (m.e.den>m.e.num)) y0 (.node (decide (m.e.speed<1)) y0 (.node (decide (m.e.speed>1048576)) y0 (.node (decide (m.e.accel<1)) y0 (.node (decide (m.e.accel>16777216)) y0 (.node (decide (m.e.jerk<1)) y0 (.node (decide (m.e.jerk>1048576)) y0 (.node (decide (m.e.min>m.e.max)) y0 (.node (decide (m.e.min < -1048576)) y0 (.node (decide (m.e.max>1048576)) y0 (.node (decide (m.ticks>=1)) (.leaf (.bool (decide (m.ticks<=1048576)))) y0)))))))))))))))))))))))))))))))))))))))))))))))))))))))))
  (by kernel_rfl) (by simp only[Tree.holds,eq_self,true_and,Bool.not_eq_true',Bool.not_eq_false',decide_eq_true_eq,decide_eq_false_iff_not,Bool.and_eq_true,beq_iff_eq];(repeat' (first|apply And.intro|intro _));all_goals(refine qC9 ?_;rw[Ma.ok_iff];(try simp only[Ax.ok_iff,decide_eq_true_eq,Bool.false_eq_true,false_iff]);first|(intro hh;omega)|(constructor<;>intro hh<;>(try simp only[and_assoc])<;>(repeat' apply And.intro)<;>omega))) (by kernel_rfl) (by kernel_rfl)
def zY0:Fact:=qf8 180 λc=>.bool c.ok
theorem yb9:zY0.ok pP:=qg1 xb8
def zY1:Fact:=qf8 138 λc=>.bool c.ok
theorem yc0:zY1.ok pP:=qg1 xb9
def z15:Fact:=qh4 151 λc=>.bool c.ok
theorem ye8:z15.ok pP:=qh9 xg0
def z16:Fact:=qh4 139 λc=>.bool c.ok
theorem ye9:z16.ok pP:=qh9 xg1
def z45:Fact:=qi8 179 λc=>.bool c.ok
theorem yh7:z45.ok pP:=qk1 xk0
def z46:Fact:=qi8 67 λc=>.bool c.ok
theorem yh8:z46.ok pP:=qk1 xk1
theorem xm8(c:V4):SCall pP 243 [V4.sv c] (.bool (okC c)):=
 v8 mix [] trivial 1000 (let z0:Plan:=.lit (.lit (.lit .all));.go (.lit (.fork z0 (.lit (.lit (.fork .all (.go (.lit (.fork z0 (.lit (.lit (.fork .all (.go (.lit (.fork z0 (.lit (.lit (.fork .all (.go (.lit (.fork z0 (.lit (.lit (.fork .all (.go (.lit .all))))))))))))))))))))))))))
  (t:=let y0:Tree SV:=.leaf (.bool false);.req (true) (.node (decide (c.1 < -16777216)) y0 (.node (decide (c.1>16777216)) y0 (.req true (.node (decide (c.2.1 < -16777216)) y0 (.node (decide (c.2.1>16777216)) y0 (.req true (.node (decide (c.2.2.1 < -16777216)) y0 (.node (decide (c.2.2.1>16777216)) y0 (.req true (.node (decide (c.2.2.2 < -16777216)) y0 (.node (decide (c.2.2.2>16777216)) y0 (.leaf (.bool !(c.1==0&& (c.2.1==0&& (c.2.2.1==0&& (c.2.2.2==0&&true))))))))))))))))))
  (by kernel_rfl) (by simp only[Tree.holds,sL,ne_eq,sLb,sLc,eq_self,sLd,sLe,sLf];(repeat' (first|apply And.intro|intro _));all_goals(refine qC9 ?_;rw[yv1];(try simp only[sL,ne_eq,sLb,sLc,eq_self,sLd,sLe,sLf]); first|omega|grind)) (by kernel_rfl) (by kernel_rfl)
theorem xm9(c:V4):SCall pP 97 [V4.sv c] (.bool (okC c)):=
 v8 mix [] trivial 1000 (let z0:Plan:=.ln 4 (.lit .all);let z2:Plan:=.go (.lit .all);let z1:Plan:=.go (.lit (.fork z0 (.ln 4 (.fork .all (.ln 5 z2)))));.go (.lit (.fork z0 (.ln 4 (.fork .all (.ln 5 (.go (.lit (.fork z0 (.ln 4 (.fork .all (.fork (.ln 4 (.go (.lit (.fork z0 (.ln 4 (.fork .all (.ln 5 z1))))))) (.ln 4 (.go (.lit (.fork z0 (.ln 4 (.fork .all (.fork (.ln 4 z1) (.ln 4 (.go (.lit (.fork z0 (.ln 4 (.fork .all (.fork (.ln 4 z2) (.ln 4 z2)))))))))))))))))))))))))))
  (t:=let y0:Tree SV:=.leaf (.bool false);let y1:Tree SV:=.req true (.node (decide (c.2.2.2 < -16777216)) y0 (.req true (.node (decide (c.2.2.2>16777216)) y0 (.leaf (.bool true)))));.req (true) (.node (decide (c.1 < -16777216)) y0 (.req true (.node (decide (c.1>16777216)) y0 (.req true (.req (true) (.node (decide (c.2.1 < -16777216)) y0 (.req true (.node (decide (c.2.1>16777216)) y0 (.node (c.1 != 0) (.req true (.node (decide (c.2.2.1 < -16777216)) y0 (.req true (.node (decide (c.2.2.1>16777216)) y0 y1)))) (.req true (.req (true) (.node (decide (c.2.2.1 < -16777216)) y0 (.req true (.node (decide (c.2.2.1>16777216)) y0 (.node (c.2.1 != 0) y1 (.req true (.req (true) (.node (decide (c.2.2.2 < -16777216)) y0 (.req true (.node (decide (c.2.2.2>16777216)) y0 (.node (c.2.2.1 != 0) (.leaf (.bool true)) (.req true (.leaf (.bool (c.2.2.2 != 0))))))))))))))))))))))))))
  (by kernel_rfl) (by simp only[Tree.holds,sL,ne_eq,sLb,sLc,eq_self,sLd,sLe,sLf];(repeat' (first|apply And.intro|intro _));all_goals(refine qC9 ?_;rw[yv1];(try simp only[sL,ne_eq,sLb,sLc,eq_self,sLd,sLe,sLf]); first|omega|grind)) (by kernel_rfl) (by kernel_rfl)
def qm0(f:FuncId)(h:V4->Tree SV):Fact:=⟨f,λargs=>match args with
 |[.agg [.int .i64 a,.int .i64 b,.int .i64 c,.int .i64 d]] =>some (h (a,b,c,d))
 |_=>none⟩
theorem qm5{h:V4->Tree SV}(k:∀c,(h c).says (SCall P f [V4.sv c])):(qm0 f h).ok P:=λargs t ht=>by
 simp only[qm0]at ht
 split at ht
 .injection ht with ht;subst ht;exact k (_,_,_,_)
 .cases ht
def qm1(f:FuncId)(h:V4->Int->Tree SV):Fact:=⟨f,λargs=>match args with
 |[.agg [.int .i64 a,.int .i64 b,.int .i64 c,.int .i64 d],.int .i64 i] =>some (h (a,b,c,d) i)
 |_=>none⟩
theorem qm2{h:V4->Int->Tree SV}(k:∀c i,(h c i).says (SCall P f [V4.sv c,J i])):(qm1 f h).ok P:=λargs t ht=>by
 simp only[qm1]at ht
 split at ht
 .injection ht with ht;subst ht;exact k (_,_,_,_) _
 .cases ht
def qm3(f:FuncId)(h:V4->V4->Tree SV):Fact:=⟨f,λargs=>match args with
 |[.agg [.int .i64 a,.int .i64 b,.int .i64 c,.int .i64 d],.agg [.int .i64 a',.int .i64 b',.int .i64 c',.int .i64 d']] =>some (h (a,b,c,d) (a',b',c',d'))
 |_=>none⟩
theorem qm4{h:V4->V4->Tree SV}(k:∀c d,(h c d).says (SCall P f [V4.sv c,V4.sv d])):(qm3 f h).ok P:=λargs t ht=>by
 simp only[qm3]at ht
 split at ht
 .injection ht with ht;subst ht;exact k (_,_,_,_) (_,_,_,_)
 .cases ht
def qf2(f:FuncId)(h:Bk->Tree SV):Fact:=⟨f,λargs=>match args with
 |[.agg [.int .i64 a,.int .i64 b,.int .i64 c,.int .i64 d,.int .i64 x,.int .i64 y,.int .i64 z,.int .i64 w]] =>some (h ((a,b,c,d),x,y,z,w))
 |_=>none⟩
theorem qf7{h:Bk->Tree SV}(k:∀b,(h b).says (SCall P f [Bk.sv b])):(qf2 f h).ok P:=λargs t ht=>by
 simp only[qf2]at ht
 split at ht
 .injection ht with ht;subst ht;exact k ((_,_,_,_),_,_,_,_)
 .cases ht
def qf3(f:FuncId)(h:Bk->Int->Tree SV):Fact:=⟨f,λargs=>match args with
 |[.agg [.int .i64 a,.int .i64 b,.int .i64 c,.int .i64 d,.int .i64 x,.int .i64 y,.int .i64 z,.int .i64 w],.int .i64 i] =>some (h ((a,b,c,d),x,y,z,w) i)
 |_=>none⟩
theorem qf6{h:Bk->Int->Tree SV}(k:∀b i,(h b i).says (SCall P f [Bk.sv b,J i])):(qf3 f h).ok P:=λargs t ht=>by
 simp only[qf3]at ht
 split at ht
 .injection ht with ht;subst ht;exact k ((_,_,_,_),_,_,_,_) _
 .cases ht
def qf4(f:FuncId)(h:Bk->Int->Int->Tree SV):Fact:=⟨f,λargs=>match args with
 |[.agg [.int .i64 a,.int .i64 b,.int .i64 c,.int .i64 d,.int .i64 x,.int .i64 y,.int .i64 z,.int .i64 w],.int .i64 i,.int .i64 j] =>some (h ((a,b,c,d),x,y,z,w) i j)
 |_=>none⟩
theorem qf5{h:Bk->Int->Int->Tree SV}(k:∀b i j,(h b i j).says (SCall P f [Bk.sv b,J i,J j])):(qf4 f h).ok P:=λargs t ht=>by
 simp only[qf4]at ht
 split at ht
 .injection ht with ht;subst ht;exact k ((_,_,_,_),_,_,_,_) _ _
 .cases ht
abbrev Mo:=Bk×Int×Int
def Mo.cells(m:Mo):List SV:=[J m.1.1.1,J m.1.1.2.1,J m.1.1.2.2.1,J m.1.1.2.2.2,J m.1.2.1,J m.1.2.2.1,J m.1.2.2.2.1,J m.1.2.2.2.2,J m.2.1,J m.2.2]
def Mo.sv(m:Mo):SV:=.agg [J m.1.1.1,J m.1.1.2.1,J m.1.1.2.2.1,J m.1.1.2.2.2,J m.1.2.1,J m.1.2.2.1,J m.1.2.2.2.1,J m.1.2.2.2.2,J m.2.1,J m.2.2]
def qk2(f:FuncId)(h:Mo->Tree SV):Fact:=⟨f,λargs=>match args with
 |[.agg [.int .i64 a,.int .i64 b,.int .i64 c,.int .i64 d,.int .i64 x,.int .i64 y,.int .i64 z,.int .i64 w,.int .i64 n,.int .i64 t]] =>some (h (((a,b,c,d),x,y,z,w),n,t))
 |_=>none⟩
theorem qk5{h:Mo->Tree SV}(k:∀m,(h m).says (SCall P f [Mo.sv m])):(qk2 f h).ok P:=λargs t ht=>by
 simp only[qk2]at ht
 split at ht
 .injection ht with ht;subst ht;exact k (((_,_,_,_),_,_,_,_),_,_)
 .cases ht
def qk3(f:FuncId)(h:Mo->Int->Tree SV):Fact:=⟨f,λargs=>match args with
 |[.agg [.int .i64 a,.int .i64 b,.int .i64 c,.int .i64 d,.int .i64 x,.int .i64 y,.int .i64 z,.int .i64 w,.int .i64 n,.int .i64 t],.int .i64 i] =>some (h (((a,b,c,d),x,y,z,w),n,t) i)
 |_=>none⟩
theorem qk4{h:Mo->Int->Tree SV}(k:∀m i,(h m i).says (SCall P f [Mo.sv m,J i])):(qk3 f h).ok P:=λargs t ht=>by
 simp only[qk3]at ht
 split at ht
 .injection ht with ht;subst ht;exact k (((_,_,_,_),_,_,_,_),_,_) _
 .cases ht
theorem w64{x:Int}(h0: -9223372036854775808<=x)(h1:x<=9223372036854775807):i64.wrap x=x:=x42 h0 h1
theorem xM6{a b:Int}(h:a=b):J a=J b:=congrArg J h
variable{i:Int}
theorem xL0(hn:1<=n/\n<=16777216)(hi:0<=i/\i<=n)(hk:sz k<=16777216):0<=i*sz k/\i*sz k<=281474976710656:=by
 have:=xM9 k;exact⟨Int.mul_nonneg hi.1 this,Int.le_trans (Int.mul_le_mul (show i<=16777216 by omega) hk this (by omega)) (by decide)⟩
theorem xL3(hn:1<=n/\n<=16777216)(hi:0<=i/\i<=n)(hk:sz k<=16777216):
  i64.wrap ((i64.wrap (i64.wrap (i64.wrap (2*i)*sz k)+n)).tdiv (i64.wrap (2*n)))=(2*i*sz k+n) / (2*n)/\0<=(2*i*sz k+n) / (2*n)/\(2*i*sz k+n) / (2*n)<=562949970198528:=by
 have b:=xL0 hn hi hk;have e:2*i*sz k=2*(i*sz k):=Int.mul_assoc _ _ _;rw[w64 (x:=2*i) (by omega) (by omega),w64 (x:=2*n) (by omega) (by omega),w64 (x:=2*i*sz k) (by omega) (by omega),w64 (x:=2*i*sz k+n) (by omega) (by omega),Int.tdiv_eq_ediv_of_nonneg (by omega)];have h0:0<=(2*i*sz k+n) / (2*n):=Int.ediv_nonneg (by omega) (by omega);have h1:(2*i*sz k+n) / (2*n)<=2*i*sz k+n:=Int.ediv_le_self _ (by omega);exact⟨w64 (by omega) (by omega),h0,by omega⟩
theorem xL2(hn:1<=n/\n<=16777216)(hi:0<=i/\i<=n)(hk:sz k<=16777216)(h:¬k<0):
  i64.wrap ((i64.wrap (i64.wrap (i64.wrap (2*i)*sz k)+n)).tdiv (i64.wrap (2*n)))=stp n i k:=by
 rw[(xL3 hn hi hk).1];unfold stp;rw[if_neg h]
theorem xL1(hn:1<=n/\n<=16777216)(hi:0<=i/\i<=n)(hk:sz k<=16777216)(h:k<0):
  i64.wrap (0-i64.wrap ((i64.wrap (i64.wrap (i64.wrap (2*i)*sz k)+n)).tdiv (i64.wrap (2*n))))=stp n i k:=by
 obtain⟨a,b,c⟩:=xL3 hn hi hk;rw[a,w64 (by omega) (by omega)];unfold stp;rw[if_pos h];omega
theorem xK9(hn:1<=n/\n<=16777216)(hi:0<=i/\i<=n)(hk:sz k<=16777216): -562949970198528<=stp n i k/\stp n i k<=562949970198528:=by
 obtain⟨a,b,c⟩:=xL3 hn hi hk
 unfold stp;split<;>omega
theorem zD0(hn:1<=n):0<=clm n i/\clm n i<=n:=by unfold clm;(repeat' split)<;>omega
theorem zp4(h:okC c=true):at4 c i=(stp (mx4 c) (clm (mx4 c) i) c.1,stp (mx4 c) (clm (mx4 c) i) c.2.1,stp (mx4 c) (clm (mx4 c) i) c.2.2.1,stp (mx4 c) (clm (mx4 c) i) c.2.2.2):=by unfold at4;rw[h]
theorem zp3(h:okC c=false):at4 c i=z4:=by unfold at4;rw[h]
def z66:Fact:=qm0 243 λc=>.leaf (.bool (okC c))
theorem yk2:z66.ok pP:=qm5 xm8
def z67:Fact:=qm0 97 λc=>.leaf (.bool (okC c))
theorem yk3:z67.ok pP:=qm5 xm9
def fSz(f:FuncId):Fact:=qi0 f λn=>.req (inR n (-4611686018427387904) 4611686018427387904) (.leaf (J (sz n)))
theorem xw1(n:Int)(hn:inR n (-4611686018427387904) 4611686018427387904=true):SCall pP 244 [J n] (J (sz n)):=
 v8 mix [] trivial 1000 (.fork (.all) (.all))
  (t:=.node (decide (n<0))
 (.leaf (SV.int IntKind.i64 (i64.wrap (0-n))))
 (.leaf (SV.int IntKind.i64 n)))
   (by kernel_rfl) (by
    rw[j8]at hn
    have e:i64.wrap (0-n)= -n:=by rw[w64 (by omega) (by omega)];omega
    unfold sz;simp only[Tree.holds,decide_eq_true_eq,decide_eq_false_iff_not,e];exact⟨λh=>by rw[if_pos h];rfl,λh=>by rw[if_neg h];rfl⟩) (by kernel_rfl) (by kernel_rfl)
theorem xw5(n:Int)(hn:inR n (-4611686018427387904) 4611686018427387904=true):SCall pP 100 [J n] (J (sz n)):=
 v8 mix [] trivial 1000 (.all)
  (t:=.leaf (SV.int IntKind.i64 (if i64.wrap (0-n)>n then i64.wrap (0-n)else n)))
  (by kernel_rfl) (by
   rw[j8]at hn
   have e:i64.wrap (0-n)= -n:=by rw[w64 (by omega) (by omega)];omega
   unfold sz;simp only[Tree.holds,e];congr 1;(repeat' split)<;>omega) (by kernel_rfl) (by kernel_rfl)
theorem yq5:(fSz 244).ok pP:=qi7 λn h=>xw1 n h
theorem yq9:(fSz 100).ok pP:=qi7 λn h=>xw5 n h
theorem xc9(c:V4):Tree.holds (λv=>v=(J (dom c))) (.node (!okC c) (.leaf (.int .i64 0)) (.req true (.req (inR c.1 (-4611686018427387904) 4611686018427387904) (.req true (.req (inR c.2.1 (-4611686018427387904) 4611686018427387904) (.req true (.req (inR c.2.2.1 (-4611686018427387904) 4611686018427387904) (.req true (.req (inR c.2.2.2 (-4611686018427387904) 4611686018427387904) (.leaf (.int .i64 (if sz c.2.2.2>if sz c.2.2.1>if sz c.2.1>if sz c.1>0 then sz c.1 else 0 then sz c.2.1 else if sz c.1>0 then sz c.1 else 0 then sz c.2.2.1 else if sz c.2.1>if sz c.1>0 then sz c.1 else 0 then sz c.2.1 else if sz c.1>0 then sz c.1 else 0 then sz c.2.2.2 else if sz c.2.2.1>if sz c.2.1>if sz c.1>0 then sz c.1 else 0 then sz c.2.1 else if sz c.1>0 then sz c.1 else 0 then sz c.2.2.1 else if sz c.2.1>if sz c.1>0 then sz c.1 else 0 then sz c.2.1 else if sz c.1>0 then sz c.1 else 0))))))))))):Tree SV):=by
  cases h:okC c with
  |false=>simp only[Tree.holds,show okC (c.1,c.2.1,c.2.2)=false from h,zN0 h,sL,ne_eq,sLb,sLc,eq_self,sLd,sLe,sLf];rfl
  |true=>
   have b:=yv1.1 h;have e:=q22 h;simp only[Tree.holds,show okC (c.1,c.2.1,c.2.2)=true from h,zN1 h,sL,ne_eq,sLb,sLc,eq_self,sLd,sLe,sLf]
   (repeat' apply And.intro)<;>first|rfl|(rw[j8];omega)|exact xM6 (by unfold mx4 mx;omega)
theorem xc7(c:V4):SCall pP 182 [V4.sv c] (J (dom c)):=
 v8 mix [z66,fSz 244] ⟨yk2,yq5,trivial⟩ 1000 (.fork (.all) (.go (.lit (.go (.lit (.go (.lit (.go (.lit (.go (.lit (.all))))))))))))
  (by kernel_rfl) (xc9 c) (by kernel_rfl) (by kernel_rfl)
theorem xc8(c:V4):SCall pP 38 [V4.sv c] (J (dom c)):=
 v8 mix [z67,fSz 100] ⟨yk3,yq9,trivial⟩ 1000 (.fork (.all) (.go (.lit (.go (.lit (.go (.lit (.go (.lit (.go (.lit (.all))))))))))))
  (by kernel_rfl) (xc9 c) (by kernel_rfl) (by kernel_rfl)
def zZ0:Fact:=qm0 182 λc=>.leaf (J (dom c))
theorem yc8:zZ0.ok pP:=qm5 xc7
def zZ1:Fact:=qm0 38 λc=>.leaf (J (dom c))
theorem yc9:zZ1.ok pP:=qm5 xc8
theorem xa6(c:V4)(i:Int):SCall pP 268 [V4.sv c,J i] (V4.sv (at4 c i)):=
 v8 mix [zZ0,fSz 244] ⟨yc8,yq5,trivial⟩ 1000 (let z1:Plan:=.go (.lit (.fork (.go (.lit (.all))) (.go (.lit (.all)))));let z0:Plan:=.go (.lit (.fork z1 z1));.fork (.all) (.go (.lit (.fork (.go (.lit (.fork z0 z0))) (.go (.lit (.fork z0 z0)))))))
  (t:=let y0:=2*if dom c<if 0>i then 0 else i then dom c else if 0>i then 0 else i;let y1:=i64.wrap (2*dom c);let y2:=(i64.wrap (i64.wrap (i64.wrap y0*sz c.2.2.1)+dom c)).tdiv y1;let y3:=(i64.wrap (i64.wrap (i64.wrap y0*sz c.2.2.2)+dom c)).tdiv y1;let y4:=(i64.wrap (i64.wrap (i64.wrap y0*sz c.2.1)+dom c)).tdiv y1;let y5:=(i64.wrap (i64.wrap (i64.wrap y0*sz c.1)+dom c)).tdiv y1;let y6:=!i64.wrap (2*dom c)==0;let y7:=inR c.2.2.2 (-4611686018427387904) 4611686018427387904;let y8:=i64.wrap (0-i64.wrap y5);let y9:=i64.wrap (0-i64.wrap y4);let y10:=i64.wrap (0-i64.wrap y2);let y11:=i64.wrap (0-i64.wrap y3);let y12:=inR c.2.2.1 (-4611686018427387904) 4611686018427387904;let y13:=decide (c.2.2.2<0);let y14:=i64.wrap y3;let y15:=i64.wrap y2;let y16:=i64.wrap y4;let y17:=i64.wrap y5;let y18:=decide (c.2.2.1<0);.node (dom c==0) (.leaf (.agg [.int .i64 0,.int .i64 0,.int .i64 0,.int .i64 0])) (.req true (.req (inR c.1 (-4611686018427387904) 4611686018427387904) (.req y6 (.req true (.node (decide (c.1<0)) (.req true (.req (true) (.req true (.req (inR c.2.1 (-4611686018427387904) 4611686018427387904) (.req y6 (.req true (.node (decide (c.2.1<0)) (.req true (.req (true) (.req true (.req y12 (.req y6 (.req true (.node y18 (.req true (.req (true) (.req true (.req y7 (.req y6 (.req true (.node y13 (.req true (.req (true) (.leaf (.agg [.int .i64 y8,.int .i64 y9,.int .i64 y10,.int .i64 y11])))) (.leaf (.agg [.int .i64 y8,.int .i64 y9,.int .i64 y10,.int .i64 y14]))))))))) (.req true (.req y7 (.req y6 (.req true (.node y13 (.req true (.req (true) (.leaf (.agg [.int .i64 y8,.int .i64 y9,.int .i64 y15,.int .i64 y11])))) (.leaf (.agg [.int .i64 y8,.int .i64 y9,.int .i64 y15,.int .i64 y14])))))))))))))) (.req true (.req y12 (.req y6 (.req true (.node y18 (.req true (.req (true) (.req true (.req y7 (.req y6 (.req true (.node y13 (.req true (.req (true) (.leaf (.agg [.int .i64 y8,.int .i64 y16,.int .i64 y10,.int .i64 y11])))) (.leaf (.agg [.int .i64 y8,.int .i64 y16,.int .i64 y10,.int .i64 y14]))))))))) (.req true (.req y7 (.req y6 (.req true (.node y13 (.req true (.req (true) (.leaf (.agg [.int .i64 y8,.int .i64 y16,.int .i64 y15,.int .i64 y11])))) (.leaf (.agg [.int .i64 y8,.int .i64 y16,.int .i64 y15,.int .i64 y14]))))))))))))))))))) (.req true (.req (inR c.2.1 (-4611686018427387904) 4611686018427387904) (.req y6 (.req true (.node (decide (c.2.1<0)) (.req true (.req (true) (.req true (.req y12 (.req y6 (.req true (.node y18 (.req true (.req (true) (.req true (.req y7 (.req y6 (.req true (.node y13 (.req true (.req (true) (.leaf (.agg [.int .i64 y17,.int .i64 y9,.int .i64 y10,.int .i64 y11])))) (.leaf (.agg [.int .i64 y17,.int .i64 y9,.int .i64 y10,.int .i64 y14]))))))))) (.req true (.req y7 (.req y6 (.req true (.node y13 (.req true (.req (true) (.leaf (.agg [.int .i64 y17,.int .i64 y9,.int .i64 y15,.int .i64 y11])))) (.leaf (.agg [.int .i64 y17,.int .i64 y9,.int .i64 y15,.int .i64 y14])))))))))))))) (.req true (.req y12 (.req y6 (.req true (.node y18 (.req true (.req (true) (.req true (.req y7 (.req y6 (.req true (.node y13 (.req true (.req (true) (.leaf (.agg [.int .i64 y17,.int .i64 y16,.int .i64 y10,.int .i64 y11])))) (.leaf (.agg [.int .i64 y17,.int .i64 y16,.int .i64 y10,.int .i64 y14]))))))))) (.req true (.req y7 (.req y6 (.req true (.node y13 (.req true (.req (true) (.leaf (.agg [.int .i64 y17,.int .i64 y16,.int .i64 y15,.int .i64 y11])))) (.leaf (.agg [.int .i64 y17,.int .i64 y16,.int .i64 y15,.int .i64 y14])))))))))))))))))))))))
  (by kernel_rfl) (by
   cases h:okC c with
   |false=>simp only[Tree.holds,show dom (c.1,c.2.1,c.2.2)=0 from zN0 h,sL,ne_eq,sLb,sLc,eq_self,sLd,sLe,sLf];rw[zp3 h];rfl
   |true=>
    have e:=q22 h
    have q:(if mx4 c<if 0>i then 0 else i then mx4 c else if 0>i then 0 else i)=clm (mx4 c) i:=by unfold clm;(repeat' split)<;>omega
    have hn:1<=mx4 c/\mx4 c<=16777216:=by omega
    have hi:=zD0 (i:=i) hn.1
    have hs:(∀k:Int,sz k<=mx4 c->sz k<=16777216):=λk hk=>by omega
    have e2:i64.wrap (2*mx4 c)≠0:=by rw[w64 (by omega) (by omega)];omega
    have b:=yv1.1 h;have i1:inR c.1 (-4611686018427387904) 4611686018427387904=true:=j8.2 (by omega);have i2:inR c.2.1 (-4611686018427387904) 4611686018427387904=true:=j8.2 (by omega);have i3:inR c.2.2.1 (-4611686018427387904) 4611686018427387904=true:=j8.2 (by omega);have i4:inR c.2.2.2 (-4611686018427387904) 4611686018427387904=true:=j8.2 (by omega)
    have hm:¬mx4 c=0:=by omega
    simp only[Tree.holds,show dom (c.1,c.2.1,c.2.2)=mx4 c from zN1 h,q,i1,i2,i3,i4,hm,e2,sL,ne_eq,sLb,sLc,eq_self,sLd,sLe,sLf];rw[zp4 h]
    have n1:=λhh=>xL1 (k:=c.1) hn hi (hs _ (by omega)) hh
    have n2:=λhh=>xL1 (k:=c.2.1) hn hi (hs _ (by omega)) hh
    have n3:=λhh=>xL1 (k:=c.2.2.1) hn hi (hs _ (by omega)) hh
    have n4:=λhh=>xL1 (k:=c.2.2.2) hn hi (hs _ (by omega)) hh
    have p1:=λhh=>xL2 (k:=c.1) hn hi (hs _ (by omega)) hh
    have p2:=λhh=>xL2 (k:=c.2.1) hn hi (hs _ (by omega)) hh
    have p3:=λhh=>xL2 (k:=c.2.2.1) hn hi (hs _ (by omega)) hh
    have p4:=λhh=>xL2 (k:=c.2.2.2) hn hi (hs _ (by omega)) hh
    refine⟨λh1=>?_,λh1=>?_⟩<;>refine⟨λh2=>?_,λh2=>?_⟩<;>refine⟨λh3=>?_,λh3=>?_⟩<;>refine⟨λh4=>?_,λh4=>?_⟩
    all_goals(first|rw[n1 h1] |rw[p1 h1])
    all_goals(first|rw[n2 h2] |rw[p2 h2])
    all_goals(first|rw[n3 h3] |rw[p3 h3])
    all_goals(first|rw[n4 h4] |rw[p4 h4])
    all_goals rfl) (by kernel_rfl) (by kernel_rfl)
theorem xa7(c:V4)(i:Int):SCall pP 206 [V4.sv c,J i] (V4.sv (at4 c i)):=
 v8 mix [zZ1,fSz 100] ⟨yc9,yq9,trivial⟩ 1000 (let z1:Plan:=.go (.lit (.fork (.go (.lit (.all))) (.go (.lit (.all)))));let z0:Plan:=.go (.lit (.fork z1 z1));.fork (.all) (.go (.lit (.fork (.go (.lit (.fork z0 z0))) (.go (.lit (.fork z0 z0)))))))
  (t:=let y0:=2*if(if dom c<i then dom c else i)>0 then if dom c<i then dom c else i else 0;let y1:=i64.wrap (2*dom c);let y2:=(i64.wrap (i64.wrap (i64.wrap y0*sz c.2.2.1)+dom c)).tdiv y1;let y3:=(i64.wrap (i64.wrap (i64.wrap y0*sz c.2.2.2)+dom c)).tdiv y1;let y4:=(i64.wrap (i64.wrap (i64.wrap y0*sz c.2.1)+dom c)).tdiv y1;let y5:=(i64.wrap (i64.wrap (i64.wrap y0*sz c.1)+dom c)).tdiv y1;let y6:=!i64.wrap (2*dom c)==0;let y7:=inR c.2.2.2 (-4611686018427387904) 4611686018427387904;let y8:=i64.wrap (0-i64.wrap y5);let y9:=i64.wrap (0-i64.wrap y4);let y10:=i64.wrap (0-i64.wrap y2);let y11:=i64.wrap (0-i64.wrap y3);let y12:=inR c.2.2.1 (-4611686018427387904) 4611686018427387904;let y13:=decide (c.2.2.2<0);let y14:=i64.wrap y3;let y15:=i64.wrap y2;let y16:=i64.wrap y4;let y17:=i64.wrap y5;let y18:=decide (c.2.2.1<0);.node (dom c==0) (.leaf (.agg [.int .i64 0,.int .i64 0,.int .i64 0,.int .i64 0])) (.req true (.req (inR c.1 (-4611686018427387904) 4611686018427387904) (.req y6 (.req true (.req (true) (.node (decide (c.1<0)) (.req true (.req (true) (.req true (.req (inR c.2.1 (-4611686018427387904) 4611686018427387904) (.req y6 (.req true (.req (true) (.node (decide (c.2.1<0)) (.req true (.req (true) (.req true (.req y12 (.req y6 (.req true (.req (true) (.node y18 (.req true (.req (true) (.req true (.req y7 (.req y6 (.req true (.req (true) (.node y13 (.req true (.req (true) (.leaf (.agg [.int .i64 y8,.int .i64 y9,.int .i64 y10,.int .i64 y11])))) (.leaf (.agg [.int .i64 y8,.int .i64 y9,.int .i64 y10,.int .i64 y14])))))))))) (.req true (.req y7 (.req y6 (.req true (.req (true) (.node y13 (.req true (.req (true) (.leaf (.agg [.int .i64 y8,.int .i64 y9,.int .i64 y15,.int .i64 y11])))) (.leaf (.agg [.int .i64 y8,.int .i64 y9,.int .i64 y15,.int .i64 y14])))))))))))))))) (.req true (.req y12 (.req y6 (.req true (.req (true) (.node y18 (.req true (.req (true) (.req true (.req y7 (.req y6 (.req true (.req (true) (.node y13 (.req true (.req (true) (.leaf (.agg [.int .i64 y8,.int .i64 y16,.int .i64 y10,.int .i64 y11])))) (.leaf (.agg [.int .i64 y8,.int .i64 y16,.int .i64 y10,.int .i64 y14])))))))))) (.req true (.req y7 (.req y6 (.req true (.req (true) (.node y13 (.req true (.req (true) (.leaf (.agg [.int .i64 y8,.int .i64 y16,.int .i64 y15,.int .i64 y11])))) (.leaf (.agg [.int .i64 y8,.int .i64 y16,.int .i64 y15,.int .i64 y14])))))))))))))))))))))) (.req true (.req (inR c.2.1 (-4611686018427387904) 4611686018427387904) (.req y6 (.req true (.req (true) (.node (decide (c.2.1<0)) (.req true (.req (true) (.req true (.req y12 (.req y6 (.req true (.req (true) (.node y18 (.req true (.req (true) (.req true (.req y7 (.req y6 (.req true (.req (true) (.node y13 (.req true (.req (true) (.leaf (.agg [.int .i64 y17,.int .i64 y9,.int .i64 y10,.int .i64 y11])))) (.leaf (.agg [.int .i64 y17,.int .i64 y9,.int .i64 y10,.int .i64 y14])))))))))) (.req true (.req y7 (.req y6 (.req true (.req (true) (.node y13 (.req true (.req (true) (.leaf (.agg [.int .i64 y17,.int .i64 y9,.int .i64 y15,.int .i64 y11])))) (.leaf (.agg [.int .i64 y17,.int .i64 y9,.int .i64 y15,.int .i64 y14])))))))))))))))) (.req true (.req y12 (.req y6 (.req true (.req (true) (.node y18 (.req true (.req (true) (.req true (.req y7 (.req y6 (.req true (.req (true) (.node y13 (.req true (.req (true) (.leaf (.agg [.int .i64 y17,.int .i64 y16,.int .i64 y10,.int .i64 y11])))) (.leaf (.agg [.int .i64 y17,.int .i64 y16,.int .i64 y10,.int .i64 y14])))))))))) (.req true (.req y7 (.req y6 (.req true (.req (true) (.node y13 (.req true (.req (true) (.leaf (.agg [.int .i64 y17,.int .i64 y16,.int .i64 y15,.int .i64 y11])))) (.leaf (.agg [.int .i64 y17,.int .i64 y16,.int .i64 y15,.int .i64 y14])))))))))))))))))))))))))))
  (by kernel_rfl) (by
   cases h:okC c with
   |false=>simp only[Tree.holds,show dom (c.1,c.2.1,c.2.2)=0 from zN0 h,sL,ne_eq,sLb,sLc,eq_self,sLd,sLe,sLf];rw[zp3 h];rfl
   |true=>
    have e:=q22 h
    have q:(if(if mx4 c<i then mx4 c else i)>0 then if mx4 c<i then mx4 c else i else 0)=clm (mx4 c) i:=by unfold clm;(repeat' split)<;>omega
    have hn:1<=mx4 c/\mx4 c<=16777216:=by omega
    have hi:=zD0 (i:=i) hn.1
    have hs:(∀k:Int,sz k<=mx4 c->sz k<=16777216):=λk hk=>by omega
    have e2:i64.wrap (2*mx4 c)≠0:=by rw[w64 (by omega) (by omega)];omega
    have b:=yv1.1 h;have i1:inR c.1 (-4611686018427387904) 4611686018427387904=true:=j8.2 (by omega);have i2:inR c.2.1 (-4611686018427387904) 4611686018427387904=true:=j8.2 (by omega);have i3:inR c.2.2.1 (-4611686018427387904) 4611686018427387904=true:=j8.2 (by omega);have i4:inR c.2.2.2 (-4611686018427387904) 4611686018427387904=true:=j8.2 (by omega)
    have hm:¬mx4 c=0:=by omega
    simp only[Tree.holds,show dom (c.1,c.2.1,c.2.2)=mx4 c from zN1 h,q,i1,i2,i3,i4,hm,e2,sL,ne_eq,sLb,sLc,eq_self,sLd,sLe,sLf];rw[zp4 h]
    have n1:=λhh=>xL1 (k:=c.1) hn hi (hs _ (by omega)) hh
    have n2:=λhh=>xL1 (k:=c.2.1) hn hi (hs _ (by omega)) hh
    have n3:=λhh=>xL1 (k:=c.2.2.1) hn hi (hs _ (by omega)) hh
    have n4:=λhh=>xL1 (k:=c.2.2.2) hn hi (hs _ (by omega)) hh
    have p1:=λhh=>xL2 (k:=c.1) hn hi (hs _ (by omega)) hh
    have p2:=λhh=>xL2 (k:=c.2.1) hn hi (hs _ (by omega)) hh
    have p3:=λhh=>xL2 (k:=c.2.2.1) hn hi (hs _ (by omega)) hh
    have p4:=λhh=>xL2 (k:=c.2.2.2) hn hi (hs _ (by omega)) hh
    refine⟨λh1=>?_,λh1=>?_⟩<;>refine⟨λh2=>?_,λh2=>?_⟩<;>refine⟨λh3=>?_,λh3=>?_⟩<;>refine⟨λh4=>?_,λh4=>?_⟩
    all_goals(first|rw[n1 h1] |rw[p1 h1])
    all_goals(first|rw[n2 h2] |rw[p2 h2])
    all_goals(first|rw[n3 h3] |rw[p3 h3])
    all_goals(first|rw[n4 h4] |rw[p4 h4])
    all_goals rfl) (by kernel_rfl) (by kernel_rfl)
def fAt:Fact:=qm1 268 λc i=>.leaf (V4.sv (at4 c i))
theorem ya4:fAt.ok pP:=qm2 xa6
def zW7:Fact:=qm1 206 λc i=>.leaf (V4.sv (at4 c i))
theorem ya5:zW7.ok pP:=qm2 xa7
theorem zp2(c:V4)(i:Int):((-562949970198528<=(at4 c i).1/\(at4 c i).1<=562949970198528)/\(-562949970198528<=(at4 c i).2.1/\(at4 c i).2.1<=562949970198528))/\(-562949970198528<=(at4 c i).2.2.1/\(at4 c i).2.2.1<=562949970198528)/\-562949970198528<=(at4 c i).2.2.2/\(at4 c i).2.2.2<=562949970198528:=by
 cases h:okC c with
 |false=>rw[zp3 h];decide
 |true=>
  rw[zp4 h];have e:=q22 h
  have hn:1<=mx4 c/\mx4 c<=16777216:=by omega
  have hi:=zD0 (i:=i) hn.1;exact⟨⟨xK9 hn hi (by omega),xK9 hn hi (by omega)⟩,xK9 hn hi (by omega),xK9 hn hi (by omega)⟩
def qJ8(n:Int):Nat->Int->Int
 |0,r=>r
 |k+1,r=>qJ8 n k (if r+2 ^ k<=n.tdiv (r+2 ^ k)then r+2 ^ k else r)
def isq(n:Int):Int:=qJ8 n 32 0
theorem yO0(k:Nat):(0:Int)<2 ^ k:=Int.pow_pos (by decide)
theorem qJ9(n:Int):∀ (k:Nat) (r:Int),r<=qJ8 n k r
 |0,r=>Int.le_refl _
 |k+1,r=>by
  have h:=qJ9 n k (if r+2 ^ k<=n.tdiv (r+2 ^ k)then r+2 ^ k else r);have hp:=yO0 k;unfold qJ8
  split at h
  .rename_i c;rw[if_pos c];omega
  .rename_i c;rw[if_neg c];omega
theorem qK0(n:Int):∀ (k:Nat) (r:Int),qJ8 n k r<r+2 ^ k
 |0,r=>by simp[qJ8];omega
 |k+1,r=>by
  have h:=qK0 n k (if r+2 ^ k<=n.tdiv (r+2 ^ k)then r+2 ^ k else r);have hp:=yO0 k
  have e:(2:Int) ^ (k+1)=2 ^ k+2 ^ k:=by rw[Int.pow_succ];omega
  unfold qJ8
  split at h
  .rename_i c;rw[if_pos c,e];omega
  .rename_i c;rw[if_neg c,e];omega
theorem qK1(hn:1<=n):∀ (k:Nat) (r:Int),0<=r->1<=qJ8 n (k+1) r
 |0,r,hr=>by
  unfold qJ8 qJ8
  by_cases h:0<r
  .split<;>omega
  .have h0:r=0:=by omega
   subst h0;rw[if_pos (by simpa using hn)];decide
 |k+1,r,hr=>by
  have hp:=yO0 (k+1);unfold qJ8
  exact qK1 hn k _ (by split<;>omega)
theorem qK6(n:Int):0<=isq n:=qJ9 n 32 0
theorem qK4(n:Int):isq n<4294967296:=qK0 n 32 0
theorem qK7(hn:1<=n):1<=isq n:=qK1 hn 31 0 (by decide)
def yR3(d low:Nat):Nat->Nat->Nat->Nat×Nat
 |0,q,r=>(q,r)
 |k+1,q,r=>if d<=2*r+low / 2 ^ k % 2 then yR3 d low k (2*q+1) (2*r+low / 2 ^ k % 2-d)else yR3 d low k (2*q) (2*r+low / 2 ^ k % 2)
theorem qY3(x k:Nat):x % 2 ^ (k+1)=(x / 2 ^ k % 2)*2 ^ k+x % 2 ^ k:=by
 rw[Nat.mod_pow_succ,Nat.add_comm,Nat.mul_comm]
theorem yR5{d low:Nat}:∀ (k q r:Nat),r<d->yR3 d low k q r=((((q*d+r)*2 ^ k+low % 2 ^ k) / d),(((q*d+r)*2 ^ k+low % 2 ^ k) % d))
 |0,q,r,h=>by
  have h0:(q*d+r)*2 ^ 0+low % 2 ^ 0=r+d*q:=by simp[Nat.mod_one,Nat.mul_comm d q,Nat.add_comm]
  rw[h0,Nat.add_mul_div_left _ _ (by omega),Nat.add_mul_mod_self_left,Nat.div_eq_of_lt h,Nat.mod_eq_of_lt h];simp[yR3]
 |k+1,q,r,h=>by
  have e:=qY3 low k;have hb:low / 2 ^ k % 2<2:=Nat.mod_lt _ (by decide);generalize hbit:low / 2 ^ k % 2=b at e hb
  have hp:(q*d+r)*2 ^ (k+1)+low % 2 ^ (k+1)=((q*d+r)*2+b)*2 ^ k+low % 2 ^ k:=by
   rw[e,Nat.pow_succ,Nat.add_mul ((q*d+r)*2) b (2 ^ k),Nat.mul_assoc (q*d+r) 2 (2 ^ k),Nat.mul_comm 2 (2 ^ k)];omega
  unfold yR3;rw[hbit,hp]
  split
  .rename_i c
   rw[yR5 k _ _ (by omega)]
   have:(2*q+1)*d+(2*r+b-d)=(q*d+r)*2+b:=by
    have:(2*q+1)*d=q*d*2+d:=by rw[Nat.add_mul,Nat.one_mul,Nat.mul_assoc,Nat.mul_comm 2]
    omega
   rw[this]
  .rename_i c
   rw[yR5 k _ _ (by omega)]
   have:2*q*d+(2*r+b)=(q*d+r)*2+b:=by
    have:2*q*d=q*d*2:=by rw[Nat.mul_assoc,Nat.mul_comm 2]
    omega
   rw[this]
theorem yR4{d high low:Nat}(hh:high<d)(hl:low<2 ^ 64):yR3 d low 64 0 high=((high*2 ^ 64+low) / d,(high*2 ^ 64+low) % d):=by
 rw[yR5 64 0 high hh,Nat.mod_eq_of_lt hl,Nat.zero_mul,Nat.zero_add]
section
variable {y u u1 q rh:Nat}
theorem zL2(h:q*(y / 4294967296)+rh=u):q*y+rh*4294967296=u*4294967296+q*(y % 4294967296):=by
 have e:y=y / 4294967296*4294967296+y % 4294967296:=by omega
 have e2:q*y=q*(y / 4294967296)*4294967296+q*(y % 4294967296):=by
  conv=>lhs;rw[e]
  rw[Nat.mul_add,Nat.mul_assoc]
 rw[e2,<-h,Nat.add_mul];omega
theorem zL5(hy:0<y)(h:q*(y / 4294967296)+rh=u)(hQ:(u*4294967296+u1) / y<=q)(hc:q*(y % 4294967296)<=4294967296*rh+u1):q=(u*4294967296+u1) / y:=by
 refine Nat.le_antisymm ((Nat.le_div_iff_mul_le hy).2 ?_) hQ;have:=zL2 h;omega
theorem zL4(hy:0<y)(hu:u<y)(h1:u1<4294967296):(u*4294967296+u1) / y<4294967296:=by
 rw[Nat.div_lt_iff_lt_mul hy];have:(u+1)*4294967296<=y*4294967296:=Nat.mul_le_mul_right _ hu;omega
theorem zL3(hy:0<y)(hu:u<y)(h1:u1<4294967296)(h:q*(y / 4294967296)+rh=u)(hc:4294967296<=q\/4294967296*rh+u1<q*(y % 4294967296)):(u*4294967296+u1) / y+1<=q:=by
 rcases hc with hc|hc
 .have:=zL4 hy hu h1;omega
 .rw[Nat.succ_le_iff,Nat.div_lt_iff_lt_mul hy]
  have:=zL2 h;omega
theorem zL0(hy:0<y)(h:q*(y / 4294967296)+rh=u)(hQ:(u*4294967296+u1) / y<=q)(hq:q<=4294967296)(hr:4294967296<=rh):q=(u*4294967296+u1) / y:=by
 refine Nat.le_antisymm ((Nat.le_div_iff_mul_le hy).2 ?_) hQ;have k:=zL2 h;have k1:q*(y % 4294967296)<=4294967296*4294967295:=Nat.mul_le_mul hq (by omega);omega
theorem zL1(hy:9223372036854775808<=y)(hy2:y<18446744073709551616)(hu:u<y)(h1:u1<4294967296):
  u / (y / 4294967296)*(y / 4294967296)+(u-u / (y / 4294967296)*(y / 4294967296))=u/\(u*4294967296+u1) / y<=u / (y / 4294967296)/\u / (y / 4294967296)<=4294967297/\u-u / (y / 4294967296)*(y / 4294967296)<4294967296:=by
 have hp:0<y / 4294967296:=by omega
 have hd:=Nat.div_add_mod u (y / 4294967296);have hm:=Nat.mod_lt u hp;have hc:=Nat.mul_comm (y / 4294967296) (u / (y / 4294967296));refine⟨by omega,?_,?_,by omega⟩
 .rw[Nat.le_div_iff_mul_le hp]
  have hQ:=Nat.div_mul_le_self (u*4294967296+u1) y;generalize (u*4294967296+u1) / y=Q at hQ
  have e:y=y / 4294967296*4294967296+y % 4294967296:=by omega
  have e2:Q*y=Q*(y / 4294967296)*4294967296+Q*(y % 4294967296):=by
   conv=>lhs;rw[e]
   rw[Nat.mul_add,Nat.mul_assoc]
  omega
 .rw[<-Nat.lt_succ_iff,Nat.div_lt_iff_lt_mul hp]
  omega
end
theorem xT6{y u u1 u0:Nat}(hy:0<y):(u*4294967296+u1) / y*4294967296+((u*4294967296+u1) % y*4294967296+u0) / y=(u*18446744073709551616+(u1*4294967296+u0)) / y/\((u*4294967296+u1) % y*4294967296+u0) % y=(u*18446744073709551616+(u1*4294967296+u0)) % y:=by
 have e:u*18446744073709551616+(u1*4294967296+u0)=((u*4294967296+u1) % y*4294967296+u0)+y*((u*4294967296+u1) / y*4294967296):=by
  have h:=Nat.div_add_mod (u*4294967296+u1) y;have h2:y*((u*4294967296+u1) / y*4294967296)=y*((u*4294967296+u1) / y)*4294967296:=(Nat.mul_assoc _ _ _).symm;omega
 rw[e,Nat.add_mul_div_left _ _ hy,Nat.add_mul_mod_self_left];omega
theorem xt7(b:Bk):Tree.holds (λv=>v=(.bool (f4 b))) (.node (okC b.1) (.node (decide (b.2.1>=1)) (.node (decide (b.2.1<=16777216)) (.node (decide (b.2.2.2.1>=1)) (.leaf (.bool (decide (b.2.2.2.1<=1099511627776)))) (.leaf (.bool false))) (.leaf (.bool false))) (.leaf (.bool false))) (.leaf (.bool false)):Tree SV):=by simp only[Tree.holds,sL,ne_eq,sLb,sLc,eq_self,sLd,sLe,sLf];(repeat' (first|apply And.intro|intro _));all_goals(refine qC9 ?_;rw[xH1];(try simp only[sL,ne_eq,sLb,sLc,eq_self,sLd,sLe,sLf]); first|omega|grind)
theorem xt5(b:Bk):SCall pP 242 [Bk.sv b] (.bool (f4 b)):=
 v8 mix [z66] ⟨yk2,trivial⟩ 1000 (.fork (.ln 3 (.fork (.ln 3 (.fork (.ln 3 (.fork (.lit (.lit (.lit .all))) (.lit (.lit (.lit .all))))) (.ln 6 (.lit .all)))) (.ln 10 (.lit .all)))) (.ln 14 (.lit .all)))
  (by kernel_rfl) (xt7 b) (by kernel_rfl) (by kernel_rfl)
theorem xt6(b:Bk):SCall pP 238 [Bk.sv b] (.bool (f4 b)):=
 v8 mix [z67] ⟨yk3,trivial⟩ 1000 (.fork (.ln 3 (.fork (.ln 3 (.fork (.ln 3 (.fork (.lit (.lit (.lit .all))) (.lit (.lit (.lit .all))))) (.ln 6 (.lit .all)))) (.ln 10 (.lit .all)))) (.ln 14 (.lit .all)))
  (by kernel_rfl) (xt7 b) (by kernel_rfl) (by kernel_rfl)
def qb4:Fact:=qf2 242 λb=>.leaf (.bool (f4 b))
def qb5:Fact:=qf2 238 λb=>.leaf (.bool (f4 b))
theorem yp3:qb4.ok pP:=qf7 (xt5)
theorem yp4:qb5.ok pP:=qf7 (xt6)
theorem xz8(b:Bk):Tree.holds (λv=>v=(.bool (xX7 b))) (.node (f4 b) (.node (decide (b.2.2.1>=0)) (.node (decide (b.2.2.1<=b.2.2.2.1)) (.node (decide (b.2.2.2.2>=0)) (.leaf (.bool (decide (b.2.2.2.2<=b.2.2.2.1)))) (.leaf (.bool false))) (.leaf (.bool false))) (.leaf (.bool false))) (.leaf (.bool false)):Tree SV):=by simp only[Tree.holds,sL,ne_eq,sLb,sLc,eq_self,sLd,sLe,sLf];(repeat' (first|apply And.intro|intro _));all_goals(refine qC9 ?_;rw[xX8,<-xH1];(try simp only[sL,ne_eq,sLb,sLc,eq_self,sLd,sLe,sLf]); first|omega|grind)
theorem xz5(b:Bk):SCall pP 181 [Bk.sv b] (.bool (xX7 b)):=
 v8 mix [qb4] ⟨yp3,trivial⟩ 1000 (.fork (.ln 3 (.fork (.ln 5 (.fork (.ln 3 (.fork (.ln 4 (.lit .all)) (.ln 4 (.lit .all)))) (.ln 8 (.lit .all)))) (.ln 14 (.lit .all)))) (.ln 18 (.lit .all)))
  (by kernel_rfl) (xz8 b) (by kernel_rfl) (by kernel_rfl)
theorem xz7(b:Bk):SCall pP 177 [Bk.sv b] (.bool (xX7 b)):=
 v8 mix [qb5] ⟨yp4,trivial⟩ 1000 (.fork (.ln 3 (.fork (.ln 5 (.fork (.ln 3 (.fork (.ln 4 (.lit .all)) (.ln 4 (.lit .all)))) (.ln 8 (.lit .all)))) (.ln 14 (.lit .all)))) (.ln 18 (.lit .all)))
  (by kernel_rfl) (xz8 b) (by kernel_rfl) (by kernel_rfl)
def qe4:Fact:=qf2 181 λb=>.leaf (.bool (xX7 b))
def qe6:Fact:=qf2 177 λb=>.leaf (.bool (xX7 b))
theorem ys5:qe4.ok pP:=qf7 (xz5)
theorem ys7:qe6.ok pP:=qf7 (xz7)
theorem xq8(b:Bk)(hb:f4 b=true):Tree.holds (λv=>v=(J (rea b))) (.leaf (SV.int IntKind.i64 (i64.wrap (i64.wrap (2*b.snd.fst)*dom b.fst))):Tree SV):=by
  have d:=zN3 b.1;have q:=(xH1.1 hb).2.1;have p:0<=b.2.1*dom b.1/\b.2.1*dom b.1<=16777216*16777216:=⟨Int.mul_nonneg (by omega) d.1,Int.mul_le_mul q.2 d.2 d.1 (by omega)⟩;have e:2*b.2.1*dom b.1=2*(b.2.1*dom b.1):=Int.mul_assoc _ _ _;refine xM6 ?_;rw[w64 (x:=2*b.2.1) (by omega) (by omega),w64 (x:=2*b.2.1*dom b.1) (by omega) (by omega)];rfl
theorem xq6(b:Bk)(hb:f4 b=true):SCall pP 320 [Bk.sv b] (J (rea b)):=
 v8 mix [zZ0] ⟨yc8,trivial⟩ 1000 (.all)
  (by kernel_rfl) (xq8 b hb) (by kernel_rfl) (by kernel_rfl)
theorem xq7(b:Bk)(hb:f4 b=true):SCall pP 294 [Bk.sv b] (J (rea b)):=
 v8 mix [zZ1] ⟨yc9,trivial⟩ 1000 (.all)
  (by kernel_rfl) (xq8 b hb) (by kernel_rfl) (by kernel_rfl)
def z96:Fact:=qf2 320 λb=>.req (f4 b) (.leaf (J (rea b)))
def z97:Fact:=qf2 294 λb=>.req (f4 b) (.leaf (J (rea b)))
theorem yn2:z96.ok pP:=qf7 (λb h=>xq6 b h)
theorem yn3:z97.ok pP:=qf7 (λb h=>xq7 b h)
def qI2:Plan:=.fork (.all) (.all)
theorem iq0(n:Int):o7 (Env.of pP (j9 [])) 1000 (x9 pP 269) .unit (x6 23 [0,4,5]) (v7 pP 269) qI2 (v6 pP 269 [J n]) [] =(.node (decide (n<0)) (.leaf (.done (.tuple [.int .i64 0,.int .i64 1]))) (.leaf (.at (x8 pP 269 0) 23 (x7 23 [(0,.int .i64 n),(4,.int .i64 0),(5,.int .i64 2147483648)]) []))):=by kernel_rfl
def qI3:Plan:=.fork (.fork (.all) (.all)) (.all)
theorem iq1(n r b:Int):o7 (Env.of pP (j9 [])) 1000 (x9 pP 269) .unit (x6 23 [0,4,5]) (x8 pP 269 0) qI3 (x7 23 [(0,J n),(4,J r),(5,J b)]) [] =(let y0:=(↑(BitVec.ofInt 64 r |||BitVec.ofInt 64 b).toNat:Int); .node (decide (b>0)) (.req (!i64.wrap y0==0) (.node (decide (i64.wrap y0<=i64.wrap (n.tdiv (i64.wrap y0)))) (.req true (.leaf (.at (x8 pP 269 0) 23 (x7 23 [(0,.int .i64 n),(4,.int .i64 (i64.wrap y0)),(5,.int .i64 (b.fdiv 2))]) []))) (.req true (.leaf (.at (x8 pP 269 0) 23 (x7 23 [(0,.int .i64 n),(4,.int .i64 r),(5,.int .i64 (b.fdiv 2))]) []))))) (.leaf (.done (.tuple [.int .i64 r,.int .i64 0])))):=by kernel_rfl
def qI5:Plan:=.fork (.all) (.all)
theorem qI4(n:Int):o7 (Env.of pP (j9 [])) 1000 (x9 pP 240) .unit (x6 25 [0,4,5]) (v7 pP 240) qI5 (v6 pP 240 [J n]) [] =(.node (decide (n<0)) (.leaf (.done (.tuple [.int .i64 0,.int .i64 1]))) (.leaf (.at (x8 pP 240 0) 25 (x7 25 [(0,.int .i64 n),(4,.int .i64 0),(5,.int .i64 2147483648)]) []))):=by kernel_rfl
def qI7:Plan:=.fork (.fork (.all) (.all)) (.all)
theorem qI6(n r b:Int):o7 (Env.of pP (j9 [])) 1000 (x9 pP 240) .unit (x6 25 [0,4,5]) (x8 pP 240 0) qI7 (x7 25 [(0,J n),(4,J r),(5,J b)]) [] =(.node (decide (b>0)) (.req (!i64.wrap (r+b)==0) (.node (decide (i64.wrap (r+b)<=i64.wrap (n.tdiv (i64.wrap (r+b))))) (.req true (.leaf (.at (x8 pP 240 0) 25 (x7 25 [(0,.int .i64 n),(4,.int .i64 (i64.wrap (r+b))),(5,.int .i64 (i64.wrap (b.tdiv 2)))]) []))) (.req true (.leaf (.at (x8 pP 240 0) 25 (x7 25 [(0,.int .i64 n),(4,.int .i64 r),(5,.int .i64 (i64.wrap (b.tdiv 2)))]) []))))) (.leaf (.done (.tuple [.int .i64 r,.int .i64 0])))):=by kernel_rfl
def fwd(u r:Nat->Int)(e:Int):Nat->Int
 |0=>e
 |i+1=>min (u (i+1)) (fwd u r e i+r i)
def bwd(p r:Nat->Int)(n:Nat):Nat->Int
 |0=>p n
 |k+1=>min (p (n-(k+1))) (bwd p r n k+r (n-(k+1)))
def grt(u r:Nat->Int)(e:Int)(n i:Nat):Int:=bwd (fwd u r e) r n (n-i)
structure Sol (u r:Nat->Int) (e:Int) (n:Nat) (x:Nat->Int):Prop where
 first:x 0=e
 last:x n=0
 cap:∀i,0<i->i<n->x i<=u i
 up:∀i,i+1<n->x (i+1)<=x i+r i
 down:∀i,0<i->i<n->x i<=x (i+1)+r i
structure Lim (u r:Nat->Int) (e:Int) (n:Nat):Prop where
 hu:∀i,0<=u i
 hr:∀i,0<=r i
 he:0<=e
 hn:1<=n
 un:u n=0
section
variable {u r:Nat->Int} {e:Int} {n:Nat}
theorem qy4:grt u r e n n=fwd u r e n:=by unfold grt;rw[Nat.sub_self];rfl
theorem qy7{i:Nat}(h:i<n):grt u r e n i=min (fwd u r e i) (grt u r e n (i+1)+r i):=by
 unfold grt;obtain⟨k,hk⟩:∃k,n-i=k+1:=⟨n-i-1,by omega⟩;rw[hk,show n-(i+1)=k by omega];show min (fwd u r e (n-(k+1))) (bwd (fwd u r e) r n k+r (n-(k+1)))=_;rw[show n-(k+1)=i by omega]
theorem qu1(h:Lim u r e n):∀i,0<=fwd u r e i
 |0=>h.he
 |i+1=>by
  have:=qu1 h i;have h1:=h.hu (i+1);have h2:=h.hr i;simp only[fwd];omega
theorem qu0(h:Lim u r e n):fwd u r e n=0:=by
 have hn:=h.hn;obtain⟨k,rfl⟩:∃k,n=k+1:=⟨n-1,by omega⟩;have:=qu1 h k;have h2:=h.hr k;have h3:=h.un;simp only[fwd];omega
theorem qy2(h:Lim u r e n):grt u r e n n=0:=by rw[qy4,qu0 h]
theorem qy3{i:Nat}(h:i<=n):grt u r e n i<=fwd u r e i:=by
 rcases Nat.lt_or_ge i n with k|k
 .rw[qy7 k];omega
 .obtain rfl:i=n:=by omega
  rw[qy4];omega
theorem qy5(h:Lim u r e n):∀k i,n-i=k->i<=n->0<=grt u r e n i
 |0,i,hk,hi=>by
  obtain rfl:i=n:=by omega
  rw[qy2 h];omega
 |k+1,i,hk,hi=>by
  have h1:=qy5 h k (i+1) (by omega) (by omega);have h2:=qu1 h i;have h3:=h.hr i;rw[qy7 (by omega)];omega
theorem xF8(h:Lim u r e n){x:Nat->Int}(hx:Sol u r e n x):∀i,i<=n->x i<=fwd u r e i
 |0,_=>by rw[hx.first];exact Int.le_refl _
 |i+1,hi=>by
  have h0:=xF8 h hx i (by omega);rcases Nat.lt_or_ge (i+1) n with k|k
  .have h1:=hx.cap (i+1) (by omega) k
   have h2:=hx.up i k;simp only[fwd];omega
  .obtain rfl:i+1=n:=by omega
   rw[hx.last];exact qu1 h _
theorem xF9(h:Lim u r e n){x:Nat->Int}(hx:Sol u r e n x):∀k i,n-i=k->0<i->i<=n->x i<=grt u r e n i
 |0,i,hk,_,hi=>by
  obtain rfl:i=n:=by omega
  rw[hx.last,qy2 h];omega
 |k+1,i,hk,h0,hi=>by
  have h1:=xF9 h hx k (i+1) (by omega) (by omega) (by omega);have h2:=xF8 h hx i hi;have h3:=hx.down i h0 (by omega);rw[qy7 (by omega)];omega
theorem qy6(h:Lim u r e n)(h0:grt u r e n 0=e):Sol u r e n (grt u r e n) where
 first:=h0
 last:=qy2 h
 cap:=λi hi hn=>by
  have h1:=qy3 (u:=u) (r:=r) (e:=e) (n:=n) (i:=i) (by omega);obtain⟨k,rfl⟩:∃k,i=k+1:=⟨i-1,by omega⟩;simp only[fwd]at h1;omega
 up:=λi hi=>by
  have h1:=qy3 (u:=u) (r:=r) (e:=e) (n:=n) (i:=i+1) (by omega);have h3:=h.hr i;have h4:=qy7 (u:=u) (r:=r) (e:=e) (n:=n) (i:=i) (by omega);simp only[fwd]at h1;omega
 down:=λi hi hn=>by
  have h4:=qy7 (u:=u) (r:=r) (e:=e) (n:=n) (i:=i) (by omega);omega
theorem qy8(h:Lim u r e n):grt u r e n 0<=e:=by
 have h1:=qy7 (u:=u) (r:=r) (e:=e) (n:=n) (i:=0) (by have:=h.hn;omega);simp only[fwd]at h1;omega
theorem xG0(h:Lim u r e n):Sol u r e n (λi=>if i=0 then e else 0) where
 first:=rfl
 last:=by have:=h.hn;rw[if_neg (by omega)]
 cap:=λi hi hn=>by rw[if_neg (by omega)];exact h.hu i
 up:=λi hi=>by have:=h.hr i;have:=h.he;rw[if_neg (by omega)];split<;>omega
 down:=λi hi hn=>by have:=h.hr i;rw[if_neg (by omega),if_neg (by omega)];omega
def zc8(cr cap r:Nat->Int)(e:Int)(n:Nat)(s:Nat->Int):Prop:=
 s 0=e/\s n=0/\∀i,i<=n->0<=s i/\(i<n->s i<=cr i)/\(0<i->s i<=cr (i-1))/\(0<i->i<n->s i<=cap i)/\(i<n->s (i+1)-s i<=r i/\s i-s (i+1)<=r i)
def zA8(cr cap:Nat->Int)(n i:Nat):Int:=if 0<i/\i<n then min (cap i) (min (cr (i-1)) (cr i))else 0
theorem zA9{cr cap:Nat->Int}(hn:1<=n)(he:0<=e)(hc:∀i,0<=cap i)(hcr:∀i,0<=cr i)(hr:∀i,0<=r i):Lim (zA8 cr cap n) r e n where
 hu:=λi=>by
  have:=hc i;have:=hcr i;have:=hcr (i-1)
  unfold zA8;split<;>omega
 hr:=hr
 he:=he
 hn:=hn
 un:=by unfold zA8;rw[if_neg (by omega)]
theorem yL5{cr cap:Nat->Int}(h:Lim (zA8 cr cap n) r e n)(he:e<=cr 0)(hcr:∀i,0<=cr i){s:Nat->Int}(hs:Sol (zA8 cr cap n) r e n s)(hg:∀x,Sol (zA8 cr cap n) r e n x->∀i,i<=n->x i<=s i):
  (zc8 cr cap r e n s↔grt (zA8 cr cap n) r e n 0=e)/\(grt (zA8 cr cap n) r e n 0=e->∀i,i<=n->s i=grt (zA8 cr cap n) r e n i):=by
 have hn:=h.hn
 have eq:grt (zA8 cr cap n) r e n 0=e->∀i,i<=n->s i=grt (zA8 cr cap n) r e n i:=λh0 i hi=>by
  have h1:=hg _ (qy6 h h0) i hi;rcases Nat.eq_zero_or_pos i with rfl|hp
  .rw[hs.first,h0]
  .have:=xF9 h hs _ i rfl hp hi;omega
 refine⟨⟨λhp=>?_,λh0=>?_⟩,eq⟩
 .have h1:=qy8 h
  have h2:=qy7 (u:=zA8 cr cap n) (r:=r) (e:=e) (n:=n) (i:=0) (by omega);have h3:=xF9 h hs _ 1 rfl (by omega) hn;have h4:=((hp.2.2 0 (by omega)).2.2.2.2 (by omega)).2
  have h5:=hs.first
  simp only[fwd,Nat.zero_add]at h2 h4;omega
 .refine⟨hs.first,hs.last,λi hi=>?_⟩
  have e1:=eq h0 i hi;have p1:=qy5 h _ i rfl hi
  have hu:0<i->i<n->s i<=cap i/\s i<=cr (i-1)/\s i<=cr i:=λa b=>by
   have:=hs.cap i a b;unfold zA8 at this;rw[if_pos ⟨a,b⟩]at this;omega
  refine⟨by omega,λhl=>?_,λhp=>?_,λa b=>(hu a b).1,λhl=>?_⟩
  .rcases Nat.eq_zero_or_pos i with rfl|hp
   .rw[hs.first];exact he
   .exact(hu hp hl).2.2
  .rcases Nat.lt_or_ge i n with k|k
   .exact(hu hp k).2.1
   .obtain rfl:i=n:=by omega
    rw[hs.last];exact hcr _
  .have e2:=eq h0 (i+1) (by omega)
   have p2:=qy5 h _ (i+1) rfl (by omega);have st:=qy7 (u:=zA8 cr cap n) (r:=r) (e:=e) (n:=n) hl;have rr:=h.hr i;refine⟨?_,by omega⟩;rcases Nat.lt_or_ge (i+1) n with k|k
   .have:=hs.up i k;omega
   .obtain rfl:i+1=n:=by omega
    have:=hs.last;omega
end
abbrev o9:Ty:=.pair (.pair (.int .i64) (.pair (.int .i64) (.pair (.int .i64) (.int .i64)))) (.pair (.int .i64) (.pair (.int .i64) (.pair (.int .i64) (.int .i64))))
def LB(l:List Bk):SV:=.list o9 l
def LI(l:List Int):SV:=.list (.int .i64) l
def dBk:Bk:=((0,0,0,0),0,0,0,0)
def qw9:Plan:=.all
theorem gr0(l:List Bk)(caps:List Int)(e:Int):o7 (Env.of pP (j9 [z96])) 1000 (x9 pP 291) .unit (x6 97 [0,1,2,7,8,9,10]) (v7 pP 291) qw9 (v6 pP 291 [LB l,LI caps,J e]) [] =(let y0:=(↑l.length:Int)+1;let y1:=List.replicate (i64.wrap y0).toNat (0:Int); .req (decide (0<=i64.wrap y0)&&i64.wrap y0==i64.wrap y0&&decide (8*i64.wrap y0<=140737488355328)&&decide (i64.wrap y0<=(9223372036854775807:Int))) (.req (decide (0< (↑y1.length:Int))) (.req (decide (0<y1.length)) (.leaf (.at (x8 pP 291 0) 97 (x7 97 [(0,.list o9 l),(1,.list (Ty.int IntKind.i64) caps),(2,.int .i64 e),(7,.int .i64 (↑l.length:Int)),(8,SV.row 0),(9,.int .i64 1),(10,SV.undef)]) [some (.rows (Ty.int IntKind.i64) (y1.set 0 e))]))))):=by kernel_rfl
def qx3:Plan:=.fork (.all) (.all)
theorem gr1(l:List Bk)(caps:List Int)(e n:Int)(s:List Int)(i:Int):o7 (Env.of pP (j9 [z96])) 1000 (x9 pP 291) .unit (x6 97 [0,1,2,7,8,9,10]) (x8 pP 291 0) qx3 (x7 97 [(0,LB l),(1,LI caps),(2,J e),(7,J n),(8,.row 0),(9,J i),(10,.undef)]) [some (.rows (.int .i64) s)] =(let y1:=i64.wrap (n-1);let y2:=decide (0<=i64.wrap (i-1))&&decide (i64.wrap (i-1)< (↑l.length:Int));let y3:=i64.wrap (i-1);let y0:=l.getD y3.toNat dBk;let y4:=Ty.int IntKind.i64;let y5:=l.getD i.toNat dBk; .node (decide (i<n)) (.req (decide (0<=i)&&decide (i< (↑caps.length:Int))) (.req y2 (.req (decide (0<=i)&&decide (i< (↑l.length:Int))) (.req (decide (0<=i64.wrap (i-1))&&decide (i64.wrap (i-1)< (↑s.length:Int))) (.req (decide (y3.toNat<s.length)) (.req y2 (.req (f4 y0) (.req (decide (0<=i)&&decide (i< (↑s.length:Int))) (.req (decide (i.toNat<s.length)) (.leaf (.at (x8 pP 291 0) 97 (x7 97 [(0,.list o9 l),(1,.list y4 caps),(2,.int .i64 e),(7,.int .i64 n),(8,SV.row 0),(9,.int .i64 (i64.wrap (i+1))),(10,SV.undef)]) [some (.rows y4 (s.set i.toNat (if i64.wrap (s.getD y3.toNat 0+rea y0)<if y5.2.2.2.1<if y0.2.2.2.1<caps.getD i.toNat 0 then y0.2.2.2.1 else caps.getD i.toNat 0 then y5.2.2.2.1 else if y0.2.2.2.1<caps.getD i.toNat 0 then y0.2.2.2.1 else caps.getD i.toNat 0 then i64.wrap (s.getD y3.toNat 0+rea y0)else if y5.2.2.2.1<if y0.2.2.2.1<caps.getD i.toNat 0 then y0.2.2.2.1 else caps.getD i.toNat 0 then y5.2.2.2.1 else if y0.2.2.2.1<caps.getD i.toNat 0 then y0.2.2.2.1 else caps.getD i.toNat 0)))]))))))))))) (.req (decide (0<=i64.wrap (n-1))&&decide (i64.wrap (n-1)< (↑s.length:Int))) (.req (decide (y1.toNat<s.length)) (.req (decide (0<=i64.wrap (n-1))&&decide (i64.wrap (n-1)< (↑l.length:Int))) (.req (f4 (l.getD y1.toNat dBk)) (.req (decide (0<=n)&&decide (n< (↑s.length:Int))) (.req (decide (n.toNat<s.length)) (.leaf (.at (x8 pP 291 1) 97 (x7 97 [(0,.list o9 l),(1,.list y4 caps),(2,.int .i64 e),(7,.int .i64 n),(8,SV.row 0),(9,.int .i64 i),(10,.int .i64 y1)]) [some (.rows y4 (s.set n.toNat (if i64.wrap (s.getD y1.toNat 0+rea (l.getD y1.toNat dBk))<0 then i64.wrap (s.getD y1.toNat 0+rea (l.getD y1.toNat dBk))else 0)))]))))))))):=by kernel_rfl
def qx7:Plan:=.fork (.all) (.all)
theorem gr2(l:List Bk)(caps:List Int)(e n:Int)(s:List Int)(i j:Int):o7 (Env.of pP (j9 [z96])) 1000 (x9 pP 291) .unit (x6 97 [0,1,2,7,8,9,10]) (x8 pP 291 1) qx7 (x7 97 [(0,LB l),(1,LI caps),(2,J e),(7,J n),(8,.row 0),(9,J j),(10,J i)]) [some (.rows (.int .i64) s)] =(let y0:=s.getD (i64.wrap (i+1)).toNat 0+rea (l.getD i.toNat dBk); .node (decide (i>=0)) (.req (decide (0<=i)&&decide (i< (↑s.length:Int))) (.req (decide (i.toNat<s.length)) (.req (decide (0<=i64.wrap (i+1))&&decide (i64.wrap (i+1)< (↑s.length:Int))) (.req (decide ((i64.wrap (i+1)).toNat<s.length)) (.req (decide (0<=i)&&decide (i< (↑l.length:Int))) (.req (f4 (l.getD i.toNat dBk)) (.req (decide (0<=i)&&decide (i< (↑s.length:Int))) (.req (decide (i.toNat<s.length)) (.leaf (.at (x8 pP 291 1) 97 (x7 97 [(0,.list o9 l),(1,.list (Ty.int IntKind.i64) caps),(2,.int .i64 e),(7,.int .i64 n),(8,SV.row 0),(9,.int .i64 j),(10,.int .i64 (i64.wrap (i-1)))]) [some (.rows (Ty.int IntKind.i64) (s.set i.toNat (if i64.wrap y0<s.getD i.toNat 0 then i64.wrap y0 else s.getD i.toNat 0)))])))))))))) (.leaf (.done (.list (Ty.int IntKind.i64) s)))):=by kernel_rfl
theorem kW{l:List Fact}(hl:zm7 pP l):Known pP (Env.of pP (j9 l)):=qO7 mix (xL8 l hl.all)
theorem k0:Known pP (Env.of pP (j9 [])):=kW trivial
def zw0:Nat->Int
 |0=>0
 |k+1=>2 ^ k
theorem yN9{k:Nat}(h:k<32):(2:Int) ^ k<=2147483648:=by
 have:(2:Nat) ^ k<=2 ^ 31:=Nat.pow_le_pow_right (by decide) (by omega);have h2:((2 ^ k:Nat):Int)<=((2 ^ 31:Nat):Int):=Int.ofNat_le.2 this
 simpa using h2
theorem zw1(k:Nat):(2:Int) ^ k / 2=zw0 k:=by
 cases k with
 |zero=>decide
 |succ k=>simp only[zw0];rw[Int.pow_succ];omega
variable{r:Int}
theorem yD2{k:Nat}(hk:k<32)(h0:0<=r)(h1:r<4294967296)(hd:(2:Int) ^ (k+1) ∣ r):i64.wrap (((BitVec.ofInt 64 r |||BitVec.ofInt 64 (2 ^ k)).toNat:Nat):Int)=r+2 ^ k:=by
 obtain⟨m,rfl⟩:=Int.eq_ofNat_of_zero_le h0;have hp:=yN9 hk
 have e1:(BitVec.ofInt 64 (m:Int)).toNat=m:=by
  rw[BitVec.toNat_ofInt];have:((2 ^ 64:Nat):Int)=18446744073709551616:=rfl;rw[this];omega
 have e2:(BitVec.ofInt 64 ((2:Int) ^ k)).toNat=2 ^ k:=by
  rw[BitVec.toNat_ofInt];have:((2 ^ 64:Nat):Int)=18446744073709551616:=rfl;rw[this,show((2:Int) ^ k)=((2 ^ k:Nat):Int) by simp];have h2:(2 ^ k:Nat)<=2 ^ 31:=Nat.pow_le_pow_right (by decide) (by omega);generalize 2 ^ k=q at h2 ⊢;omega
 rw[BitVec.toNat_or,e1,e2]
 have hd':2 ^ (k+1) ∣ m:=by
  have:((2 ^ (k+1):Nat):Int) ∣ (m:Int):=by simpa using hd
  exact Int.natCast_dvd_natCast.1 this
 obtain⟨q,rfl⟩:=hd';rw[<-Nat.two_pow_add_eq_or_of_lt (i:=k+1) (b:=2 ^ k) (Nat.pow_lt_pow_right (by decide) (by omega)) q]
 have:((2 ^ (k+1)*q+2 ^ k:Nat):Int)=((2 ^ (k+1)*q:Nat):Int)+2 ^ k:=by simp
 rw[this];exact w64 (by omega) (by omega)
theorem qK3{k:Nat}(hd:(2:Int) ^ (k+1) ∣ r):(2:Int) ^ k ∣ r:=Int.dvd_trans ⟨2,by rw[Int.pow_succ]⟩ hd
theorem qK5{k:Nat}(hd:(2:Int) ^ (k+1) ∣ r):(2:Int) ^ k ∣ r+2 ^ k:=Int.dvd_add (qK3 hd) (Int.dvd_refl _)
theorem xN8{t:Int}(h0:0<=n)(h1:n<=9223372036854775807)(ht:1<=t):i64.wrap (n.tdiv t)=n.tdiv t:=by
 rw[Int.tdiv_eq_ediv_of_nonneg h0];have a:=Int.ediv_nonneg h0 (show 0<=t by omega);have b:=Int.ediv_le_self t h0;exact w64 (by omega) (by omega)
theorem qI9(h0:0<=n)(h1:n<=9223372036854775807):∀ (k:Nat) (r:Int),k<=32->0<=r->r+2 ^ k<=4294967296->(2:Int) ^ k ∣ r->
  t8 pP (x9 pP 269) (.tuple [J (qJ8 n k r),J 0]) (x8 pP 269 0) (x7 23 [(0,J n),(4,J r),(5,J (zw0 k))]) []
 |k,r,hk,hr,hs,hd=>by
  refine o5 k0 (n:=1000) (hint:=.unit) (keep:=x6 23 [0,4,5]) (p:=qI3) rfl ?_
  match k,hk,hs,hd with
  |0,hk,hs,hd=>
   erw [iq1 n r 0];exact⟨λh=>absurd (of_decide_eq_true h) (by decide),λ_=>rfl⟩
  |k+1,hk,hs,hd=>
   have hp:=yO0 k;have hp2:=yN9 (show k<32 by omega)
   have e2:(2:Int) ^ (k+1)=2 ^ k+2 ^ k:=by rw[Int.pow_succ];omega
   have e3:(2:Int) ^ k / 2=zw0 k:=zw1 k;erw [iq1 n r (2 ^ k)];refine⟨λ_=>?_,λh=>absurd (of_decide_eq_false h) (by omega)⟩;rw[yD2 (by omega) hr (by omega) hd,xN8 h0 h1 (by omega),Int.fdiv_eq_ediv_of_nonneg _ (by omega),e3];refine⟨by simp;omega,λh=>⟨rfl,u7 _ _,?_⟩,λh=>⟨rfl,u7 _ _,?_⟩⟩
   .have:=qI9 h0 h1 k (r+2 ^ k) (by omega) (by omega) (by omega) (qK5 hd)
    rw[qJ8,if_pos (of_decide_eq_true h)];exact this
   .have:=qI9 h0 h1 k r (by omega) (by omega) (by omega) (qK3 hd)
    rw[qJ8,if_neg (of_decide_eq_false h)];exact this
theorem qI8(h0:0<=n)(h1:n<=9223372036854775807):∀ (k:Nat) (r:Int),k<=32->0<=r->r+2 ^ k<=4294967296->
  t8 pP (x9 pP 240) (.tuple [J (qJ8 n k r),J 0]) (x8 pP 240 0) (x7 25 [(0,J n),(4,J r),(5,J (zw0 k))]) []
 |k,r,hk,hr,hs=>by
  refine o5 k0 (n:=1000) (hint:=.unit) (keep:=x6 25 [0,4,5]) (p:=qI7) rfl ?_
  match k,hk,hs with
  |0,hk,hs=>
   erw [qI6 n r 0];exact⟨λh=>absurd (of_decide_eq_true h) (by decide),λ_=>rfl⟩
  |k+1,hk,hs=>
   have hp:=yO0 k;have hp2:=yN9 (show k<32 by omega)
   have e2:(2:Int) ^ (k+1)=2 ^ k+2 ^ k:=by rw[Int.pow_succ];omega
   have e3:i64.wrap ((2:Int) ^ k |>.tdiv 2)=zw0 k:=by rw[Int.tdiv_eq_ediv_of_nonneg (by omega),w64 (by omega) (by omega)];exact zw1 k
   erw [qI6 n r (2 ^ k)];refine⟨λ_=>?_,λh=>absurd (of_decide_eq_false h) (by omega)⟩;rw[w64 (x:=r+2 ^ k) (by omega) (by omega),xN8 h0 h1 (by omega),e3];refine⟨by simp;omega,λh=>⟨rfl,u7 _ _,?_⟩,λh=>⟨rfl,u7 _ _,?_⟩⟩
   .have:=qI8 h0 h1 k (r+2 ^ k) (by omega) (by omega) (by omega)
    rw[qJ8,if_pos (of_decide_eq_true h)];exact this
   .have:=qI8 h0 h1 k r (by omega) (by omega) (by omega)
    rw[qJ8,if_neg (of_decide_eq_false h)];exact this
theorem xh6(n:Int)(h0:0<=n)(h1:n<=9223372036854775807):SCall pP 269 [J n] (.tuple [J (isq n),J 0]):=by
 refine s7 rfl rfl (by kernel_rfl) (o5 k0 (n:=1000) (hint:=.unit) (keep:=x6 23 [0,4,5]) (p:=qI2) (boxes:=[]) rfl ?_);have e:=iq0 n;unfold v6 v7 at e;erw [e];exact⟨λh=>absurd (of_decide_eq_true h) (by omega),λ_=>⟨u7 _ _,qI9 h0 h1 32 0 (by omega) (by omega) (by decide) (Int.dvd_zero _)⟩⟩
theorem xh7(n:Int)(h0:0<=n)(h1:n<=9223372036854775807):SCall pP 240 [J n] (.tuple [J (isq n),J 0]):=by
 refine s7 rfl rfl (by kernel_rfl) (o5 k0 (n:=1000) (hint:=.unit) (keep:=x6 25 [0,4,5]) (p:=qI5) (boxes:=[]) rfl ?_);have e:=qI4 n;unfold v6 v7 at e;erw [e];exact⟨λh=>absurd (of_decide_eq_true h) (by omega),λ_=>⟨u7 _ _,qI8 h0 h1 32 0 (by omega) (by omega) (by decide)⟩⟩
def qK2(n:Int):Tree SV:=.req (inR n 0 9223372036854775807) (.leaf (.tuple [J (isq n),J 0]))
def z29:Fact:=qi0 269 qK2
def z30:Fact:=qi0 240 qK2
theorem yg2:z29.ok pP:=qi7 λn h=>xh6 n (j8.1 h).1 (j8.1 h).2
theorem yg3:z30.ok pP:=qi7 λn h=>xh7 n (j8.1 h).1 (j8.1 h).2
def crL(l:List Bk)(i:Nat):Int:=(l.getD i dBk).2.2.2.1
def zA7(caps:List Int)(i:Nat):Int:=caps.getD i 0
def reL(l:List Bk)(i:Nat):Int:=rea (l.getD i dBk)
def uL(l:List Bk)(caps:List Int):Nat->Int:=zA8 (crL l) (zA7 caps) l.length
def fL(l:List Bk)(caps:List Int)(e:Int):Nat->Int:=fwd (uL l caps) (reL l) e
def gL(l:List Bk)(caps:List Int)(e:Int):Nat->Int:=grt (uL l caps) (reL l) e l.length
structure PlOk (l:List Bk) (caps:List Int) (e:Int):Prop where
 ne:1<=l.length
 snd:∀b∈l,f4 b=true
 len:caps.length=l.length
 cap:∀c∈caps,0<=c/\c<=1099511627776
 ent:0<=e/\e<=1099511627776
section
variable {l:List Bk} {caps:List Int} {e:Int}
theorem qu5{O:Type}{p:O->Prop}{l:List O}{d:O}(h:∀x∈l,p x)(hd:p d)(i:Nat):p (l.getD i d):=by
 rw[List.getD_eq_getElem?_getD]
 cases hx:l[i]? with
 |none=>exact hd
 |some x=>exact h x (List.mem_of_getElem? hx)
variable{i:Nat}
theorem qu6{O:Type}{p:O->Prop}{l:List O}{d:O}(h:∀x∈l,p x)(hi:i<l.length):p (l.getD i d):=by
 rw[List.getD_eq_getElem?_getD,List.getElem?_eq_getElem hi];exact h _ (List.getElem_mem hi)
theorem PlOk.capR(h:PlOk l caps e)(i:Nat):0<=zA7 caps i/\zA7 caps i<=1099511627776:=qu5 (p:=λc=>0<=c/\c<=1099511627776) h.cap (by decide) i
theorem PlOk.crR(h:PlOk l caps e)(i:Nat):0<=crL l i/\crL l i<=1099511627776:=qu5 (p:=λb:Bk=>0<=b.2.2.2.1/\b.2.2.2.1<=1099511627776) (λb hb=>by have:=xH1.1 (h.snd b hb);omega) (by decide) i
theorem yU3{b:Bk}(h:f4 b=true):0<=rea b/\rea b<=562949953421312:=by
 have d:=zN3 b.1;have q:=(xH1.1 h).2.1;have p:0<=b.2.1*dom b.1/\b.2.1*dom b.1<=16777216*16777216:=⟨Int.mul_nonneg (by omega) d.1,Int.mul_le_mul q.2 d.2 d.1 (by omega)⟩;have e:2*b.2.1*dom b.1=2*(b.2.1*dom b.1):=Int.mul_assoc _ _ _;unfold rea;omega
theorem PlOk.reR(h:PlOk l caps e)(i:Nat):0<=reL l i/\reL l i<=562949953421312:=qu5 (p:=λb:Bk=>0<=rea b/\rea b<=562949953421312) (λb hb=>yU3 (h.snd b hb)) (by decide) i
theorem PlOk.lim(h:PlOk l caps e):Lim (uL l caps) (reL l) e l.length:=zA9 h.ne h.ent.1 (λi=>(h.capR i).1) (λi=>(h.crR i).1) λi=>(h.reR i).1
theorem xU9(h:PlOk l caps e)(i:Nat):uL l caps i<=1099511627776:=by
 have:=h.capR i
 unfold uL zA8;split<;>omega
theorem z36(h:PlOk l caps e)(i:Nat):0<=fL l caps e i/\fL l caps e i<=1099511627776:=by
 refine⟨qu1 h.lim i,?_⟩
 cases i with
 |zero=>exact h.ent.2
 |succ i=>have:=xU9 h (i+1);unfold fL;simp only[fwd];omega
theorem z37(i:Nat):fL l caps e (i+1)=min (uL l caps (i+1)) (fL l caps e i+reL l i):=rfl
theorem qu3(h:PlOk l caps e)(hi:i<=l.length):0<=gL l caps e i/\gL l caps e i<=1099511627776:=by
 have h1:=qy5 h.lim _ i rfl hi;have h2:=qy3 (u:=uL l caps) (r:=reL l) (e:=e) hi;have h3:=z36 h i;unfold fL at h3;unfold gL;omega
theorem qu4(hi:i<l.length):gL l caps e i=min (fL l caps e i) (gL l caps e (i+1)+reL l i):=qy7 hi
theorem qu2:gL l caps e l.length=fL l caps e l.length:=qy4
theorem xU8(h0:0<i)(hi:i<l.length):uL l caps i=min (zA7 caps i) (min (crL l (i-1)) (crL l i)):=if_pos ⟨h0,hi⟩
theorem xV0:uL l caps l.length=0:=if_neg (by omega)
theorem xE3{s:List Int}{j:Nat}{v:Int}(hi:i<s.length):(s.set i v).getD j 0=if i=j then v else s.getD j 0:=by
 rw[List.getD_eq_getElem?_getD,List.getElem?_set]
 split
 .rename_i hij;subst hij;simp[hi]
 .rw[List.getD_eq_getElem?_getD]
theorem qS7{s:List Int}{n:Nat}{g:Nat->Int}(hl:s.length=n)(h:∀j,j<n->s.getD j 0=g j):s=(List.range n).map g:=by
 apply List.ext_getElem?;intro j
 by_cases hj:j<n
 .have:=h j hj
  rw[List.getD_eq_getElem?_getD,List.getElem?_eq_getElem (by omega)]at this;rw[List.getElem?_eq_getElem (by omega)];simp[hj];exact this
 .rw[List.getElem?_eq_none (by omega),List.getElem?_eq_none (by simp;omega)]
theorem qx6(h:PlOk l caps e)(hlen:l.length<4611686018427387904):∀ (k:Nat) (s:List Int) (j:Int),k<=l.length->s.length=l.length+1->(∀t,t<k->s.getD t 0=fL l caps e t)->(∀t,k<=t->t<=l.length->s.getD t 0=gL l caps e t)->
  t8 pP (x9 pP 291) (LI ((List.range (l.length+1)).map (gL l caps e))) (x8 pP 291 1) (x7 97 [(0,LB l),(1,LI caps),(2,J e),(7,J (l.length:Int)),(8,.row 0),(9,J j),(10,J ((k:Int)-1))]) [some (.rows (.int .i64) s)]
 |k,s,j,hk,hs,h1,h2=>by
  refine o5 (kW (l:=[z96]) ⟨yn2,trivial⟩) (n:=1000) (hint:=.unit) (keep:=x6 97 [0,1,2,7,8,9,10]) (p:=qx7) rfl ?_;erw [gr2 l caps e l.length s ((k:Int)-1) j]
  match k,hk,h1,h2 with
  |0,hk,h1,h2=>
   refine⟨λc=>absurd (of_decide_eq_true c) (by omega),λ_=>?_⟩;show LI s=_;rw[qS7 hs λt ht=>h2 t (Nat.zero_le _) (by omega)]
  |k+1,hk,h1,h2=>
   have e0:((k+1:Nat):Int)-1=(k:Int):=by omega
   have w1:i64.wrap ((k:Int)+1)=((k+1:Nat):Int):=by rw[w64 (by omega) (by omega)];omega
   have w2:i64.wrap ((k:Int)-1)=(k:Int)-1:=w64 (by omega) (by omega)
   have t1:((k+1:Nat):Int).toNat=k+1:=by omega
   have t0:(k:Int).toNat=k:=by omega
   have g1:=h2 (k+1) (by omega) (by omega);have f1:=h1 k (by omega);have r1:=qu3 h (i:=k+1) (by omega);have r2:=h.reR k;have r3:=z36 h k
   have w3:i64.wrap (s.getD (k+1) 0+rea (l.getD k dBk))=gL l caps e (k+1)+reL l k:=by rw[g1];exact w64 (by unfold reL at r2;omega) (by unfold reL at r2;omega)
   have hsb:f4 (l.getD k dBk)=true:=qu6 (p:=λb=>f4 b=true) h.snd (by omega);rw[e0];refine⟨λc=>?_,λc=>absurd (of_decide_eq_false c) (by omega)⟩;simp only[w1,w2,t1,t0,w3,hsb,Tree.holds,Bool.and_eq_true,decide_eq_true_eq];refine⟨by omega,by omega,by omega,by omega,by omega,trivial,by omega,by omega,u7 _ _,?_⟩
   have hv:(if gL l caps e (k+1)+reL l k<s.getD k 0 then gL l caps e (k+1)+reL l k else s.getD k 0)=gL l caps e k:=by
    rw[qu4 (i:=k) (by omega),f1]
    split<;>omega
   rw[hv];refine qx6 h hlen k (s.set k (gL l caps e k)) j (by omega) (by simpa using hs) (λt ht=>?_) (λt ht1 ht2=>?_)
   .rw[xE3 (by omega),if_neg (by omega)];exact h1 t (by omega)
   .rw[xE3 (by omega)]
    split
    .rename_i hkt;subst hkt;rfl
    .exact h2 t (by omega) ht2
theorem qx2(h:PlOk l caps e)(hlen:l.length<4611686018427387904):∀ (k i:Nat) (s:List Int),i+k=l.length->1<=i->s.length=l.length+1->(∀t,t<i->s.getD t 0=fL l caps e t)->
  t8 pP (x9 pP 291) (LI ((List.range (l.length+1)).map (gL l caps e))) (x8 pP 291 0) (x7 97 [(0,LB l),(1,LI caps),(2,J e),(7,J (l.length:Int)),(8,.row 0),(9,J (i:Int)),(10,.undef)]) [some (.rows (.int .i64) s)]
 |k,i,s,hi,h1,hs,hf=>by
  have e1:((i:Int)-1)=((i-1:Nat):Int):=by omega
  have w1:i64.wrap (((i-1:Nat):Int))=((i-1:Nat):Int):=w64 (by omega) (by omega)
  have w2:i64.wrap ((i:Int)+1)=((i+1:Nat):Int):=by rw[w64 (by omega) (by omega)];omega
  have t0:(i:Int).toNat=i:=by omega
  have t1:((i-1:Nat):Int).toNat=i-1:=by omega
  have f1:=hf (i-1) (by omega);have r2:=h.reR (i-1);have r3:=z36 h (i-1);have hsb:f4 (l.getD (i-1) dBk)=true:=qu6 (p:=λb=>f4 b=true) h.snd (by omega)
  have w3:i64.wrap (s.getD (i-1) 0+rea (l.getD (i-1) dBk))=fL l caps e (i-1)+reL l (i-1):=by rw[f1];exact w64 (by unfold reL at r2;omega) (by unfold reL at r2;omega)
  refine o5 (kW (l:=[z96]) ⟨yn2,trivial⟩) (n:=1000) (hint:=.unit) (keep:=x6 97 [0,1,2,7,8,9,10]) (p:=qx3) rfl ?_;erw [gr1 l caps e l.length s i]
  have hfs:fL l caps e i=min (uL l caps i) (fL l caps e (i-1)+reL l (i-1)):=by
   have:=z37 (l:=l) (caps:=caps) (e:=e) (i-1)
   rwa [show i-1+1=i by omega]at this
  match k,hi with
  |0,hi=>
   have hin:i=l.length:=by omega
   subst hin;refine⟨λc=>absurd (of_decide_eq_true c) (by omega),λ_=>?_⟩;simp only[e1,w1,t0,t1,w3,hsb,Tree.holds,Bool.and_eq_true,decide_eq_true_eq];refine⟨by omega,by omega,by omega,trivial,by omega,by omega,u7 _ _,?_⟩
   have hv:(if fL l caps e (l.length-1)+reL l (l.length-1)<0 then fL l caps e (l.length-1)+reL l (l.length-1)else 0)=fL l caps e l.length:=by
    rw[hfs,xV0];split<;>omega
   rw[hv,<-e1];refine qx6 h hlen l.length _ _ (Nat.le_refl _) (by simpa using hs) (λt ht=>?_) (λt ht1 ht2=>?_)
   .rw[xE3 (by omega),if_neg (by omega)];exact hf t ht
   .rw[xE3 (by omega),if_pos (by omega),show t=l.length by omega,qu2]
  |k+1,hi=>
   refine⟨λ_=>?_,λc=>absurd (of_decide_eq_false c) (by omega)⟩
   have hv:∀a b c d:Int,(if d< (if b< (if a<c then a else c)then b else if a<c then a else c)then d else if b< (if a<c then a else c)then b else if a<c then a else c)=min (min c (min a b)) d:=λa b c d=>by(repeat' split)<;>omega
   have hlen2:=h.len;simp only[e1,w1,w2,t0,t1,w3,hsb,hv,Tree.holds,Bool.and_eq_true,decide_eq_true_eq];refine⟨by omega,by omega,by omega,by omega,by omega,by omega,trivial,by omega,by omega,u7 _ _,?_⟩
   have hx:min (min (caps.getD i 0) (min (l.getD (i-1) dBk).2.2.2.1 (l.getD i dBk).2.2.2.1)) (fL l caps e (i-1)+reL l (i-1))=fL l caps e i:=by
    rw[hfs,xU8 (by omega) (by omega)];rfl
   rw[hx];refine qx2 h hlen k (i+1) (s.set i (fL l caps e i)) (by omega) (by omega) (by simpa using hs) (λt ht=>?_);rw[xE3 (by omega)]
   split
   .rename_i hit;subst hit;rfl
   .exact hf t (by omega)
theorem xf8(h:PlOk l caps e)(hlen:l.length<4611686018427387904)(hsz:8*((l.length:Int)+1)<=140737488355328):SCall pP 291 [LB l,LI caps,J e] (LI ((List.range (l.length+1)).map (gL l caps e))):=by
 refine s7 rfl rfl (by kernel_rfl) (o5 (kW (l:=[z96]) ⟨yn2,trivial⟩) (n:=1000) (hint:=.unit) (keep:=x6 97 [0,1,2,7,8,9,10]) (p:=qw9) (boxes:=[]) rfl ?_);have q:=gr0 l caps e;unfold v6 v7 at q;erw [q]
 have w1:i64.wrap ((l.length:Int)+1)=((l.length+1:Nat):Int):=by rw[w64 (by omega) (by omega)];omega
 have t1:((l.length+1:Nat):Int).toNat=l.length+1:=by omega
 have hne:=h.ne;simp only[w1,t1,Tree.holds,Bool.and_eq_true,decide_eq_true_eq,beq_self_eq_true,List.length_replicate];refine⟨⟨⟨⟨by omega,trivial⟩,by omega⟩,by omega⟩,by omega,by omega,u7 _ _,?_⟩
 have:=qx2 h hlen (l.length-1) 1 ((List.replicate (l.length+1) (0:Int)).set 0 e) (by omega) (by omega) (by simp) (λt ht=>by
  obtain rfl:t=0:=by omega
  rw[xE3 (by simp)];rfl)
 exact this
end
def yv8(l:List Bk)(caps:List Int)(e:Int):Bool:=decide (1<=l.length)&& (decide (l.length<=1000000)&& (l.all f4&& (decide (caps.length=l.length)&& (caps.all (λc=>inR c 0 1099511627776)&&inR e 0 1099511627776))))
variable{l:List Bk}{caps:List Int}{e:Int}
theorem yv9:yv8 l caps e=true↔l.length<=1000000/\PlOk l caps e:=by
 simp only[yv8,Bool.and_eq_true,decide_eq_true_eq,List.all_eq_true,j8];exact⟨λ⟨h1,h2,h3,h4,h5,h6⟩=>⟨h2,h1,h3,h4,h5,h6⟩,λ⟨h2,h1,h3,h4,h5,h6⟩=>⟨h1,h2,h3,h4,h5,h6⟩⟩
def grL(l:List Bk)(caps:List Int)(e:Int):List Int:=(List.range (l.length+1)).map (gL l caps e)
def qk8(f:FuncId)(h:List Bk->List Int->Int->Tree SV):Fact:=⟨f,λargs=>match args with
 |[.list (.pair (.pair (.int .i64) (.pair (.int .i64) (.pair (.int .i64) (.int .i64)))) (.pair (.int .i64) (.pair (.int .i64) (.pair (.int .i64) (.int .i64))))) l,.list (.int .i64) caps,.int .i64 e] =>some (h l caps e)
 |_=>none⟩
theorem qk9{h:List Bk->List Int->Int->Tree SV}(k:∀l caps e,(h l caps e).says (SCall P f [LB l,LI caps,J e])):(qk8 f h).ok P:=λargs t ht=>by
 simp only[qk8]at ht
 split at ht
 .injection ht with ht;subst ht;exact k _ _ _
 .cases ht
def z09:Fact:=qk8 291 λl caps e=>.req (yv8 l caps e) (.leaf (LI (grL l caps e)))
theorem ye6:z09.ok pP:=qk9 λl caps e h=>xf8 (yv9.1 h).2 (by have:=(yv9.1 h).1;omega) (by have:=(yv9.1 h).1;omega)
def yL7:Plan:=.all
theorem pl0(l:List Bk)(caps:List Int)(e:Int):o7 (Env.of pP (j9 [qb4,z09])) 1000 (x9 pP 262) o9 (x6 100 [0,1,2,10,11,13,14,15,72,73]) (v7 pP 262) yL7 (v6 pP 262 [LB l,LI caps,J e]) [] =(.leaf (.at (x8 pP 262 0) 100 (x7 100 [(0,.list o9 l),(1,.list (Ty.int IntKind.i64) caps),(2,.int .i64 e),(10,SV.undef),(11,SV.undef),(13,.list o9 l),(14,.int .i64 (↑l.length:Int)),(15,.int .i64 0),(72,SV.undef),(73,SV.undef)]) [])):=by kernel_rfl
def yL9:Plan:=let z0:Plan:=.fork .all (.fork (.ln 6 (.lit .all)) (.ln 6 (.fork .all .all)));.fork (.fork .all .all) (.fork (.ln 5 (.lit .all)) (.ln 3 (.fork (.lit (.lit (.fork (.ln 10 (.lit .all)) (.ln 10 (.fork .all z0))))) (.ln 7 z0))))
theorem pl1(l:List Bk)(caps:List Int)(e i:Int):o7 (Env.of pP (j9 [qb4,z09])) 1000 (x9 pP 262) o9 (x6 100 [0,1,2,10,11,13,14,15,72,73]) (x8 pP 262 0) yL9 (x7 100 [(0,LB l),(1,LI caps),(2,J e),(10,.undef),(11,.undef),(13,LB l),(14,J l.length),(15,J i),(72,.undef),(73,.undef)]) [] =(let y1:=(↑l.length:Int);let y2:Tree Stop:=.leaf (.done (.tuple [.list o9 [],.int .i64 1]));let y3:=Ty.int IntKind.i64;let y0:Tree Stop:=.node (y1==0) (.leaf (.done (.tuple [.list o9 [],.int .i64 0]))) (.req (yv8 l caps e) (.req (decide (0< (↑(grL l caps e).length:Int))) (.node ((grL l caps e).getD 0 0 != e) (.leaf (.done (.tuple [.list o9 [],.int .i64 8]))) (.req (decide (0<=y1)&&decide (y1< (↑(grL l caps e).length:Int))) (.node ((grL l caps e).getD y1.toNat 0 != 0) (.leaf (.done (.tuple [.list o9 [],.int .i64 8]))) (.req (decide (0<=y1)&&y1==y1&&decide (64*y1<=140737488355328)&&decide (y1<=(9223372036854775807:Int))) (.req (l.length==(List.replicate y1.toNat ((xT9.rep y3 4).pair (y3.pair (y3.pair (y3.pair y3)))).dflt).length&&!l.isEmpty) (.leaf (.at (x8 pP 262 1) 100 (x7 100 [(0,.list o9 l),(1,.list y3 caps),(2,.int .i64 e),(10,.list y3 (grL l caps e)),(11,SV.row 0),(13,.list o9 l),(14,.int .i64 y1),(15,.int .i64 i),(72,.int .i64 y1),(73,.int .i64 0)]) [some (.rows o9 l)]))))))))); .node (decide (i<y1)) (.req (decide (0<=i)&&decide (i<y1)) (.node (!f4 (l.getD i.toNat dBk)) y2 (.leaf (.at (x8 pP 262 0) 100 (x7 100 [(0,.list o9 l),(1,.list y3 caps),(2,.int .i64 e),(10,SV.undef),(11,SV.undef),(13,.list o9 l),(14,.int .i64 y1),(15,.int .i64 (i64.wrap (i+1))),(72,SV.undef),(73,SV.undef)]) [])))) (.node (y1 !=(↑caps.length:Int)) y2 (.node (decide (y1>0)) (.node (decide (e<0)) y2 (.req (decide (0<y1)) (.node (decide (e> (l.getD 0 dBk).2.2.2.1)) y2 y0))) y0))):=by kernel_rfl
def yM1:Plan:=.fork (.fork (.all) (.all)) (.all)
theorem pl2(l:List Bk)(caps:List Int)(e:Int)(s:List Int)(o:List Bk)(i j k:Int):o7 (Env.of pP (j9 [qb4,z09])) 1000 (x9 pP 262) o9 (x6 100 [0,1,2,10,11,13,14,15,72,73]) (x8 pP 262 1) yM1 (x7 100 [(0,LB l),(1,LI caps),(2,J e),(10,LI s),(11,.row 0),(13,LB l),(14,J j),(15,J k),(72,J l.length),(73,J i)]) [some (.rows o9 o)] =(let y0:=o.set i.toNat ((o.getD i.toNat dBk).1,(o.getD i.toNat dBk).2.1,s.getD i.toNat 0,(o.getD i.toNat dBk).2.2.2);let y1:=y0.getD i.toNat dBk; .node (decide (i< (↑l.length:Int))) (.req (decide (0<=i)&&decide (i< (↑s.length:Int))) (.node (decide (s.getD i.toNat 0<0)) (.leaf (.done (.tuple [.list o9 [],.int .i64 8]))) (.req (decide (0<=i)&&decide (i< (↑s.length:Int))) (.req (decide (0<=i64.wrap (i+1))&&decide (i64.wrap (i+1)< (↑s.length:Int))) (.req (decide (0<=i)&&decide (i< (↑o.length:Int))) (.req (decide (i.toNat<o.length)) (.req (decide (0<=i)&&decide (i< (↑y0.length:Int))) (.req (decide (i.toNat<y0.length)) (.leaf (.at (x8 pP 262 1) 100 (x7 100 [(0,.list o9 l),(1,.list (Ty.int IntKind.i64) caps),(2,.int .i64 e),(10,.list (Ty.int IntKind.i64) s),(11,SV.row 0),(13,.list o9 l),(14,.int .i64 j),(15,.int .i64 k),(72,.int .i64 (↑l.length:Int)),(73,.int .i64 (i64.wrap (i+1)))]) [some (.rows o9 (y0.set i.toNat (y1.1,y1.2.1,y1.2.2.1,y1.2.2.2.1,s.getD (i64.wrap (i+1)).toNat 0)))])))))))))) (.leaf (.done (.tuple [.list o9 o,.int .i64 0])))):=by kernel_rfl
def xD7(b:Bk)(x y:Int):Bk:=(b.1,b.2.1,x,b.2.2.2.1,y)
def plB(l:List Bk)(g:Nat->Int):List Bk:=(List.range l.length).map λi=>xD7 (l.getD i dBk) (g i) (g (i+1))
def plS(l:List Bk)(caps:List Int)(e:Int):SV:=if e<=crL l 0 then(if gL l caps e 0=e then .tuple [LB (plB l (gL l caps e)),J 0]else .tuple [LB [],J 8])else .tuple [LB [],J 1]
theorem xE4{O:Type}{s:List O}{d:O}{i j:Nat}{v:O}(hi:i<s.length):(s.set i v).getD j d=if i=j then v else s.getD j d:=by
 rw[List.getD_eq_getElem?_getD,List.getElem?_set]
 split
 .rename_i hij;subst hij;simp[hi]
 .rw[List.getD_eq_getElem?_getD]
theorem qS8{O:Type}{s:List O}{d:O}{n:Nat}{g:Nat->O}(hl:s.length=n)(h:∀j,j<n->s.getD j d=g j):s=(List.range n).map g:=by
 apply List.ext_getElem?;intro j
 by_cases hj:j<n
 .have:=h j hj
  rw[List.getD_eq_getElem?_getD,List.getElem?_eq_getElem (by omega)]at this;rw[List.getElem?_eq_getElem (by omega)];simp[hj];exact this
 .rw[List.getElem?_eq_none (by omega),List.getElem?_eq_none (by simp;omega)]
theorem qx8{t:Nat}(ht:t<=l.length):(grL l caps e).getD t 0=gL l caps e t:=by
 unfold grL;rw[List.getD_eq_getElem?_getD,List.getElem?_map,List.getElem?_range (by omega)];rfl
theorem qx9:(grL l caps e).length=l.length+1:=by simp[grL]
section
variable {l:List Bk} {caps:List Int} {e:Int}
theorem fsP:zm7 pP [qb4,z09] :=⟨yp3,ye6,trivial⟩
theorem yM0(h:PlOk l caps e)(hlen:l.length<=1000000):∀ (k i:Nat) (o:List Bk) (j m:Int),i+k=l.length->o.length=l.length->(∀t,t<i->o.getD t dBk=xD7 (l.getD t dBk) (gL l caps e t) (gL l caps e (t+1)))->(∀t,i<=t->o.getD t dBk=l.getD t dBk)->
  t8 pP (x9 pP 262) (.tuple [LB (plB l (gL l caps e)),J 0]) (x8 pP 262 1) (x7 100 [(0,LB l),(1,LI caps),(2,J e),(10,LI (grL l caps e)),(11,.row 0),(13,LB l),(14,J j),(15,J m),(72,J l.length),(73,J i)]) [some (.rows o9 o)]
 |0,i,o,j,m,hi,ho,h1,h2=>by
  refine o5 (kW fsP) (n:=1000) (hint:=o9) (keep:=x6 100 [0,1,2,10,11,13,14,15,72,73]) (p:=yM1) rfl ?_;erw [pl2 l caps e (grL l caps e) o i j m];refine⟨λc=>absurd (of_decide_eq_true c) (by omega),λ_=>?_⟩;show SV.tuple [LB o,J 0] =_;rw[qS8 (d:=dBk) ho λt ht=>h1 t (by omega)];rfl
 |k+1,i,o,j,m,hi,ho,h1,h2=>by
  refine o5 (kW fsP) (n:=1000) (hint:=o9) (keep:=x6 100 [0,1,2,10,11,13,14,15,72,73]) (p:=yM1) rfl ?_;erw [pl2 l caps e (grL l caps e) o i j m]
  have t0:(i:Int).toNat=i:=by omega
  have w1:i64.wrap ((i:Int)+1)=((i+1:Nat):Int):=by rw[w64 (by omega) (by omega)];omega
  have t1:((i+1:Nat):Int).toNat=i+1:=by omega
  have r1:=qu3 h (i:=i) (by omega);refine⟨λ_=>?_,λc=>absurd (of_decide_eq_false c) (by omega)⟩;simp only[t0,w1,t1,qx8 (l:=l) (caps:=caps) (e:=e) (t:=i) (by omega),qx8 (l:=l) (caps:=caps) (e:=e) (t:=i+1) (by omega),qx9,Tree.holds,Bool.and_eq_true,decide_eq_true_eq,decide_eq_false_iff_not,List.length_set];refine⟨by omega,λc=>absurd c (by omega),λ_=>⟨by omega,by omega,by omega,by omega,by omega,by omega,u7 _ _,?_⟩⟩;refine yM0 h hlen k (i+1) _ j m (by omega) (by simpa using ho) (λt ht=>?_) (λt ht=>?_)
  .rw[xE4 (by simp;omega)]
   split
   .rename_i hit
    subst hit;rw[xE4 (by omega),if_pos rfl,h2 i (by omega)];rfl
   .rename_i hit
    rw[xE4 (by omega),if_neg hit];exact h1 t (by omega)
  .rw[xE4 (by simp;omega),if_neg (by omega),xE4 (by omega),if_neg (by omega)]
   exact h2 t (by omega)
theorem yL8(h:PlOk l caps e)(hlen:l.length<=1000000):∀ (k i:Nat),i+k=l.length->
  t8 pP (x9 pP 262) (plS l caps e) (x8 pP 262 0) (x7 100 [(0,LB l),(1,LI caps),(2,J e),(10,.undef),(11,.undef),(13,LB l),(14,J l.length),(15,J i),(72,.undef),(73,.undef)]) []
 |k,i,hi=>by
  have hd:(plS l caps e).data=true:=by unfold plS;(repeat' split)<;>rfl
  refine o5 (kW fsP) (n:=1000) (hint:=o9) (keep:=x6 100 [0,1,2,10,11,13,14,15,72,73]) (p:=yL9) hd ?_;erw [pl1 l caps e i]
  have t0:(i:Int).toNat=i:=by omega
  have tl:(l.length:Int).toNat=l.length:=by omega
  match k,hi with
  |k+1,hi=>
   have w1:i64.wrap ((i:Int)+1)=((i+1:Nat):Int):=by rw[w64 (by omega) (by omega)];omega
   have hsb:f4 (l.getD i dBk)=true:=qu6 (p:=λb=>f4 b=true) h.snd (by omega)
   have hi2:(i:Int)<l.length:=by omega
   have:=yL8 h hlen k (i+1) (by omega);simp only[t0,w1,hsb,hi2,Tree.holds,Bool.and_eq_true,decide_eq_true_eq,decide_eq_false_iff_not,Bool.not_true,Bool.false_eq_true,false_implies,true_and,not_true_eq_false,and_true,true_implies];exact⟨by omega,u7 _ _,this⟩
  |0,hi=>
   have hi2:¬((i:Int)<l.length):=by omega
   have hne:=h.ne;have hl:=h.len;have he:=h.ent;have ok:yv8 l caps e=true:=yv9.2 ⟨hlen,h⟩;have g0:=qx8 (l:=l) (caps:=caps) (e:=e) (t:=0) (by omega);have gn:gL l caps e l.length=0:=qy2 h.lim;have gnn:=qx8 (l:=l) (caps:=caps) (e:=e) (t:=l.length) (Nat.le_refl _);have fin:=yM0 h hlen l.length 0 l (l.length:Int) (i:Int) (by omega) rfl (λt ht=>absurd ht (Nat.not_lt_zero _)) (λt _=>rfl);have lz:((l.length:Int)==0)=false:=beq_eq_false_iff_ne.2 (by omega)
   have le:l.isEmpty=false:=by cases l with
    |nil=>simp at hne
    |cons=>rfl
   have lc:((l.length:Int) !=(caps.length:Int))=false:=bne_eq_false_iff_eq.2 (by omega);unfold plS;simp only[t0,tl,hi2,lc,lz,le,ok,g0,gn,gnn,qx9,List.length_replicate,Tree.holds,Bool.and_eq_true,decide_eq_true_eq,decide_eq_false_iff_not,Bool.false_eq_true,false_implies,true_and,true_implies,not_false_eq_true,bne_iff_ne,bne_eq_false_iff_eq,ne_eq,beq_self_eq_true];have hc:crL l 0=(l.getD 0 dBk).2.2.2.1:=rfl
   have no:¬¬True:=λc=>c trivial
   refine⟨λ_=>⟨λa=>absurd a (by omega),λ_=>⟨by omega,λa=>?_,λa=>⟨by omega,λb=>?_,λb=>⟨⟨by omega,by omega⟩,λc=>absurd c no,⟨⟨⟨by omega,trivial⟩,by omega⟩,by omega⟩,rfl,u7 _ _,?_⟩⟩⟩⟩,λa=>absurd a (by omega)⟩
   .rw[if_neg (by omega)];rfl
   .rw[if_pos (by omega),if_neg b];rfl
   .rw[if_pos (by omega),if_pos b];exact fin
theorem xo5(h:PlOk l caps e)(hlen:l.length<=1000000):SCall pP 262 [LB l,LI caps,J e] (plS l caps e):=by
 have hd:(plS l caps e).data=true:=by unfold plS;(repeat' split)<;>rfl
 refine s7 rfl hd (by kernel_rfl) (o5 (kW fsP) (n:=1000) (hint:=o9) (keep:=x6 100 [0,1,2,10,11,13,14,15,72,73]) (p:=yL7) (boxes:=[]) hd ?_);have q:=pl0 l caps e;unfold v6 v7 at q;erw [q];exact⟨u7 _ _,yL8 h hlen l.length 0 (by omega)⟩
end
def plT(l:List Bk)(caps:List Int)(e:Int):Tree SV:=.req (yv8 l caps e) (.node (decide (e<=crL l 0)) (.node (decide (gL l caps e 0=e)) (.leaf (.tuple [LB (plB l (gL l caps e)),J 0])) (.leaf (.tuple [LB [],J 8]))) (.leaf (.tuple [LB [],J 1])))
theorem yM4(k:yv8 l caps e=true->SCall pP f [LB l,LI caps,J e] (plS l caps e)):(plT l caps e).says (SCall pP f [LB l,LI caps,J e]):=λok=>by
 have k:=k ok;unfold plS at k;refine⟨λa=>⟨λb=>?_,λb=>?_⟩,λa=>?_⟩
 .rw[if_pos (of_decide_eq_true a),if_pos (of_decide_eq_true b)]at k;exact k
 .rw[if_pos (of_decide_eq_true a),if_neg (of_decide_eq_false b)]at k;exact k
 .rw[if_neg (of_decide_eq_false a)]at k;exact k
def z82:Fact:=qk8 262 plT
theorem yl8:z82.ok pP:=qk9 λl caps e=>yM4 λok=>xo5 (yv9.1 ok).2 (yv9.1 ok).1
theorem xw2(n:Int)(hn:inR n (-4611686018427387904) 4611686018427387904=true):SCall pP 295 [J n] (J (sz n)):=
 v8 mix [] trivial 1000 (.all)
  (t:=.leaf (SV.int IntKind.i64 (if i64.wrap (0-n)>n then i64.wrap (0-n)else n)))
  (by kernel_rfl) (by
   rw[j8]at hn
   have e:i64.wrap (0-n)= -n:=by rw[w64 (by omega) (by omega)];omega
   simp only[Tree.holds,sL,ne_eq,sLb,sLc,eq_self,sLd,sLe,sLf];(repeat' (first|apply And.intro|intro _));all_goals((try simp only[e]);refine xM6 ?_;unfold sz;(repeat' split)<;>omega)) (by kernel_rfl) (by kernel_rfl)
theorem yq6:(fSz 295).ok pP:=qi7 λn h=>xw2 n h
def y38:Plan:=.all
theorem rg0(l:List Bk)(caps:List Int)(e:Int):o7 (Env.of pP (j9 [z97])) 1000 (x9 pP 264) .unit (x6 85 [0,1,2,7,8,9,10,11]) (v7 pP 264) y38 (v6 pP 264 [LB l,LI caps,J e]) [] =(.leaf (.at (x8 pP 264 0) 85 (x7 85 [(0,.list o9 l),(1,.list (Ty.int IntKind.i64) caps),(2,.int .i64 e),(7,.int .i64 (↑l.length:Int)),(8,SV.arr 0 0 1),(9,.int .i64 1),(10,SV.undef),(11,SV.undef)]) [some (.cells [.int .i64 e])])):=by kernel_rfl
def y43:Plan:=.fork (.lit (.all)) (.lit (.all))
theorem y42(l:List Bk)(caps:List Int)(e n:Int)(i:Int):o7 (Env.of pP (j9 [z97])) 1000 (x9 pP 264) .unit (x6 85 [0,1,2,7,8,9,10,11]) (x8 pP 264 0) y43 (x7 85 [(0,LB l),(1,LI caps),(2,J e),(7,J n),(8,.arr 0 0 1),(9,J i),(10,.undef),(11,.undef)]) [some (.cells [J e])] =(let y0:=l.getD (i64.wrap (i-1)).toNat dBk;let y1:=l.getD i.toNat dBk;let y2:=Ty.int IntKind.i64; .node (decide (i<n)) (.req (decide (0<=i)&&decide (i< (↑caps.length:Int))) (.req (decide (0<=i64.wrap (i-1))&&decide (i64.wrap (i-1)< (↑l.length:Int))) (.req (decide (0<=i)&&decide (i< (↑l.length:Int))) (.req (decide (([e].length+ [if y1.2.2.2.1<if y0.2.2.2.1<caps.getD i.toNat 0 then y0.2.2.2.1 else caps.getD i.toNat 0 then y1.2.2.2.1 else if y0.2.2.2.1<caps.getD i.toNat 0 then y0.2.2.2.1 else caps.getD i.toNat 0].length)*8<=140737488355328)) (.leaf (.at (x8 pP 264 0) 85 (x7 85 [(0,.list o9 l),(1,.list y2 caps),(2,.int .i64 e),(7,.int .i64 n),(8,SV.row 0),(9,.int .i64 (i64.wrap (i+1))),(10,SV.undef),(11,SV.undef)]) [some (.rows y2 ([e] ++[if y1.2.2.2.1<if y0.2.2.2.1<caps.getD i.toNat 0 then y0.2.2.2.1 else caps.getD i.toNat 0 then y1.2.2.2.1 else if y0.2.2.2.1<caps.getD i.toNat 0 then y0.2.2.2.1 else caps.getD i.toNat 0]))])))))) (.req (decide (([e].length+1)*8<=140737488355328)) (.leaf (.at (x8 pP 264 1) 85 (x7 85 [(0,.list o9 l),(1,.list y2 caps),(2,.int .i64 e),(7,.int .i64 n),(8,SV.row 0),(9,.int .i64 i),(10,.bool true),(11,SV.undef)]) [some (.rows y2 ([e] ++[0]))])))):=by kernel_rfl
def y41:Plan:=.fork (.all) (.all)
theorem rg1(l:List Bk)(caps:List Int)(e n:Int)(s:List Int)(i:Int):o7 (Env.of pP (j9 [z97])) 1000 (x9 pP 264) .unit (x6 85 [0,1,2,7,8,9,10,11]) (x8 pP 264 0) y41 (x7 85 [(0,LB l),(1,LI caps),(2,J e),(7,J n),(8,.row 0),(9,J i),(10,.undef),(11,.undef)]) [some (.rows (.int .i64) s)] =(let y0:=l.getD (i64.wrap (i-1)).toNat dBk;let y1:=l.getD i.toNat dBk;let y2:=Ty.int IntKind.i64; .node (decide (i<n)) (.req (decide (0<=i)&&decide (i< (↑caps.length:Int))) (.req (decide (0<=i64.wrap (i-1))&&decide (i64.wrap (i-1)< (↑l.length:Int))) (.req (decide (0<=i)&&decide (i< (↑l.length:Int))) (.req (decide ((s.length+ [if y1.2.2.2.1<if y0.2.2.2.1<caps.getD i.toNat 0 then y0.2.2.2.1 else caps.getD i.toNat 0 then y1.2.2.2.1 else if y0.2.2.2.1<caps.getD i.toNat 0 then y0.2.2.2.1 else caps.getD i.toNat 0].length)*8<=140737488355328)) (.leaf (.at (x8 pP 264 0) 85 (x7 85 [(0,.list o9 l),(1,.list y2 caps),(2,.int .i64 e),(7,.int .i64 n),(8,SV.row 0),(9,.int .i64 (i64.wrap (i+1))),(10,SV.undef),(11,SV.undef)]) [some (.rows y2 (s++[if y1.2.2.2.1<if y0.2.2.2.1<caps.getD i.toNat 0 then y0.2.2.2.1 else caps.getD i.toNat 0 then y1.2.2.2.1 else if y0.2.2.2.1<caps.getD i.toNat 0 then y0.2.2.2.1 else caps.getD i.toNat 0]))])))))) (.req (decide ((s.length+1)*8<=140737488355328)) (.leaf (.at (x8 pP 264 1) 85 (x7 85 [(0,.list o9 l),(1,.list y2 caps),(2,.int .i64 e),(7,.int .i64 n),(8,SV.row 0),(9,.int .i64 i),(10,.bool true),(11,SV.undef)]) [some (.rows y2 (s++[0]))])))):=by kernel_rfl
def y50:Plan:=.fork (.all) (.all)
theorem y49(l:List Bk)(caps:List Int)(e n:Int)(s:List Int)(i:Int)(b:Bool):o7 (Env.of pP (j9 [z97])) 1000 (x9 pP 264) .unit (x6 85 [0,1,2,7,8,9,10,11]) (x8 pP 264 1) y50 (x7 85 [(0,LB l),(1,LI caps),(2,J e),(7,J n),(8,.row 0),(9,J i),(10,.bool b),(11,.undef)]) [some (.rows (.int .i64) s)] =(.node (b) (.leaf (.at (x8 pP 264 2) 85 (x7 85 [(0,.list o9 l),(1,.list (Ty.int IntKind.i64) caps),(2,.int .i64 e),(7,.int .i64 n),(8,SV.row 0),(9,.int .i64 i),(10,.bool false),(11,.int .i64 1)]) [some (.rows (Ty.int IntKind.i64) s)])) (.leaf (.done (.list (Ty.int IntKind.i64) s)))):=by kernel_rfl
def y48:Plan:=.fork (.all) (.all)
theorem rg2(l:List Bk)(caps:List Int)(e n:Int)(s:List Int)(i j:Int)(b:Bool):o7 (Env.of pP (j9 [z97])) 1000 (x9 pP 264) .unit (x6 85 [0,1,2,7,8,9,10,11]) (x8 pP 264 1) y48 (x7 85 [(0,LB l),(1,LI caps),(2,J e),(7,J n),(8,.row 0),(9,J i),(10,.bool b),(11,J j)]) [some (.rows (.int .i64) s)] =(.node (b) (.leaf (.at (x8 pP 264 2) 85 (x7 85 [(0,.list o9 l),(1,.list (Ty.int IntKind.i64) caps),(2,.int .i64 e),(7,.int .i64 n),(8,SV.row 0),(9,.int .i64 i),(10,.bool false),(11,.int .i64 1)]) [some (.rows (Ty.int IntKind.i64) s)])) (.leaf (.done (.list (Ty.int IntKind.i64) s)))):=by kernel_rfl
def y52:Plan:=.fork (.fork (.all) (.all)) (.all)
theorem rg3(l:List Bk)(caps:List Int)(e n:Int)(s:List Int)(i j:Int)(b:Bool):o7 (Env.of pP (j9 [z97])) 1000 (x9 pP 264) .unit (x6 85 [0,1,2,7,8,9,10,11]) (x8 pP 264 2) y52 (x7 85 [(0,LB l),(1,LI caps),(2,J e),(7,J n),(8,.row 0),(9,J i),(10,.bool b),(11,J j)]) [some (.rows (.int .i64) s)] =(let y2:=Ty.int IntKind.i64;let y3:=i64.wrap (j-1);let y0:=s.getD y3.toNat 0+rea (l.getD y3.toNat dBk);let y4:=i64.wrap (j+1);let y1:=s.getD y4.toNat 0+rea (l.getD j.toNat dBk); .node (decide (j<n)) (.req (decide (0<=i64.wrap (j-1))&&decide (i64.wrap (j-1)< (↑s.length:Int))) (.req (decide (y3.toNat<s.length)) (.req (decide (0<=i64.wrap (j-1))&&decide (i64.wrap (j-1)< (↑l.length:Int))) (.req (f4 (l.getD y3.toNat dBk)) (.req (decide (0<=i64.wrap (j+1))&&decide (i64.wrap (j+1)< (↑s.length:Int))) (.req (decide (y4.toNat<s.length)) (.req (decide (0<=j)&&decide (j< (↑l.length:Int))) (.req (f4 (l.getD j.toNat dBk)) (.req (decide (0<=j)&&decide (j< (↑s.length:Int))) (.req (decide (j.toNat<s.length)) (.node (decide (s.getD j.toNat 0>if i64.wrap y1<i64.wrap y0 then i64.wrap y1 else i64.wrap y0)) (.req (decide (0<=j)&&decide (j< (↑s.length:Int))) (.req (decide (j.toNat<s.length)) (.leaf (.at (x8 pP 264 2) 85 (x7 85 [(0,.list o9 l),(1,.list y2 caps),(2,.int .i64 e),(7,.int .i64 n),(8,SV.row 0),(9,.int .i64 i),(10,.bool true),(11,.int .i64 y4)]) [some (.rows y2 (s.set j.toNat (if i64.wrap y1<i64.wrap y0 then i64.wrap y1 else i64.wrap y0)))])))) (.leaf (.at (x8 pP 264 2) 85 (x7 85 [(0,.list o9 l),(1,.list y2 caps),(2,.int .i64 e),(7,.int .i64 n),(8,SV.row 0),(9,.int .i64 i),(10,.bool b),(11,.int .i64 y4)]) [some (.rows y2 s)]))))))))))))) (.leaf (.at (x8 pP 264 1) 85 (x7 85 [(0,.list o9 l),(1,.list y2 caps),(2,.int .i64 e),(7,.int .i64 n),(8,SV.row 0),(9,.int .i64 i),(10,.bool b),(11,.int .i64 j)]) [some (.rows y2 s)]))):=by kernel_rfl
def yS9:Plan:=.fork (.ln 5 (.lit .all)) (.ln 5 (.fork .all .all))
theorem rc0(l:List Bk)(caps:List Int)(e:Int)(s:List Int):o7 (Env.of pP (j9 [z97,fSz 295])) 1000 (x9 pP 265) .unit (x6 111 [0,1,2,3,9,10]) (v7 pP 265) yS9 (v6 pP 265 [LB l,LI caps,J e,LI s]) [] =(.req (decide (0< (↑s.length:Int))) (.node (s.getD 0 0 != e) (.leaf (.done (.bool false))) (.req (decide (0<=(↑l.length:Int))&&decide ((↑l.length:Int)< (↑s.length:Int))) (.node (s.getD (↑l.length:Int).toNat 0 != 0) (.leaf (.done (.bool false))) (.leaf (.at (x8 pP 265 0) 111 (x7 111 [(0,.list o9 l),(1,.list (Ty.int IntKind.i64) caps),(2,.int .i64 e),(3,.list (Ty.int IntKind.i64) s),(9,.int .i64 (↑l.length:Int)),(10,.int .i64 0)]) [])))))):=by kernel_rfl
def yT0:Plan:=let z1:Plan:=.fork (.ln 17 (.fork .all .all)) (.ln 17 (.lit .all));let z0:Plan:=.fork (.ln 5 (.fork (.ln 11 (.fork .all z1)) (.ln 12 z1))) (.ln 18 z1);let z2:Plan:=.fork (.ln 13 (.fork (.ln 6 (.lit .all)) (.lit (.lit z0)))) (.ln 16 z0);.fork (.fork (.ln 17 (.lit .all)) (.ln 3 (.fork (.ln 12 (.fork (.ln 11 (.lit .all)) (.lit (.lit z2)))) (.ln 15 z2)))) .all
theorem rc1(l:List Bk)(caps:List Int)(e:Int)(s:List Int)(n i:Int):o7 (Env.of pP (j9 [z97,fSz 295])) 1000 (x9 pP 265) .unit (x6 111 [0,1,2,3,9,10]) (x8 pP 265 0) yT0 (x7 111 [(0,LB l),(1,LI caps),(2,J e),(3,LI s),(9,J n),(10,J i)]) [] =(let y3:Tree Stop:=.leaf (.at (x8 pP 265 0) 111 (x7 111 [(0,.list o9 l),(1,.list (Ty.int IntKind.i64) caps),(2,.int .i64 e),(3,.list (Ty.int IntKind.i64) s),(9,.int .i64 n),(10,.int .i64 (i64.wrap (i+1)))]) []);let y4:=decide (0<=i)&&decide (i< (↑s.length:Int));let y5:Tree Stop:=.leaf (.done (.bool false));let y6:=i64.wrap (s.getD (i64.wrap (i+1)).toNat 0-s.getD i.toNat 0);let y0:Tree Stop:=.node (decide (i<n)) (.req (decide (0<=i64.wrap (i+1))&&decide (i64.wrap (i+1)< (↑s.length:Int))) (.req y4 (.req (inR y6 (-4611686018427387904) 4611686018427387904) (.req (decide (0<=i)&&decide (i< (↑l.length:Int))) (.req (f4 (l.getD i.toNat dBk)) (.node (decide (sz y6>rea (l.getD i.toNat dBk))) y5 y3)))))) y3;let y2:Tree Stop:=.node (decide (i>0)) (.node (decide (i<n)) (.req y4 (.req (decide (0<=i)&&decide (i< (↑caps.length:Int))) (.node (decide (s.getD i.toNat 0>caps.getD i.toNat 0)) y5 y0))) y0) y0;let y1:Tree Stop:=.node (decide (i>0)) (.req y4 (.req (decide (0<=i64.wrap (i-1))&&decide (i64.wrap (i-1)< (↑l.length:Int))) (.node (decide (s.getD i.toNat 0> (l.getD (i64.wrap (i-1)).toNat dBk).2.2.2.1)) y5 y2))) y2; .node (decide (i<=n)) (.req y4 (.node (decide (s.getD i.toNat 0<0)) y5 (.node (decide (i<n)) (.req y4 (.req (decide (0<=i)&&decide (i< (↑l.length:Int))) (.node (decide (s.getD i.toNat 0> (l.getD i.toNat dBk).2.2.2.1)) y5 y1))) y1))) (.leaf (.done (.bool true)))):=by kernel_rfl
end Go.Proofs.YtnkaepnblikcdaaGreat
