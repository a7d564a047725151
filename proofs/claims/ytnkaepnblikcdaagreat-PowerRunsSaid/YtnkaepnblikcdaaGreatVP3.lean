/-
  Evaluator, contracts, plain law.
-/
import Derived.Test.YtnkaepnblikcdaaGreatVP2
import Derived.ProofKit
import Derived.Recover
import Derived.Test.YtnkaepnblikcdaaGreatProg
set_option maxRecDepth 100000
set_option linter.unusedVariables false
set_option linter.defProp false
set_option linter.unusedSimpArgs false
open Go.IntKind (i64 u64 u8)
namespace Go.Sx
noncomputable section
open Go.RowKit
section
variable {P:Program} {b:Frame} {a:Act} {k:List Item} {cs:List Frame} {w:World}
def jh0{x:Code}:step P (lone (b.at a (.code (.scope x)::k)) cs w)=.next (lone (b.at a (.code x::.inScope x::k)) cs w):=
 step_lone_go (by simp[stepG,stepG.exec,Frame.at])
def jg7{x:Code}:step P (lone (b.at a (.inScope x::k)) cs w)=.next (lone (b.at a k) cs w):=
 step_lone_go (by simp[stepG,stepG.exec,Frame.at])
end
section
variable {P:Program} {E:Env} {α:Type}
def dS(P:Program)(items:List Item)(fr:Fr)(m:Mem)(out:Out):Prop:=
 ∀⦃ds:List Deferred⦄ w0 R0 I w a,dG ds w0 R0 I w fr m a->∀ (b:Frame) (cs:List Frame),match out with
  |.ret _ aD m'=>∃I' w' a' todo,dG ds w0 R0 I' w' aD m' a'/\m8 w0 R0 I w m I' w' m'/\Steps P (lone (b.at a items) cs w) (lone {b.at a' todo with mode:=.returning} cs w')
  |.stop gV aD m'=>∃I' w' a',dG ds w0 R0 I' w' aD m' a'/\m8 w0 R0 I w m I' w' m'/\Steps P (lone (b.at a items) cs w) (lone (b.at a' gV) cs w')
  |.cE v aD m'=>∃I' w' a' todo u,dG ds w0 R0 I' w' aD m' a'/\m8 w0 R0 I w m I' w' m'/\aJ (RO w0 R0 I' w' m') I' m'.next w' v u/\Steps P (lone (b.at a items) cs w) (lone {b.at a' todo with mode:=.panicking [{v:=u,recovered:=false}]} cs w')
variable{fr:Fr}{m m':Mem}
theorem dS.trans{items gV:List Item}{aD:Fr}{out:Out}(h:dS P items fr m (.stop gV aD m'))(k:dS P gV aD m' out):dS P items fr m out:=by
 intro ds w0 R0 I w a hs b cs;obtain⟨ρ1,w1,a1,h1,h2,h3⟩:=h w0 R0 I w a hs b cs;have h4:=k w0 R0 ρ1 w1 a1 h1 b cs
 cases out with
 |ret p cH m2=>
  obtain⟨ρ2,w2,a2,todo,g1,g2,g3⟩:=h4;exact⟨ρ2,w2,a2,todo,g1,h2.trans g2,h3.trans g3⟩
 |stop it cH m2=>
  obtain⟨ρ2,w2,a2,g1,g2,g3⟩:=h4;exact⟨ρ2,w2,a2,g1,h2.trans g2,h3.trans g3⟩
 |cE v cH m2=>
  obtain⟨ρ2,w2,a2,todo,u,g1,g2,g3,g4⟩:=h4;exact⟨ρ2,w2,a2,todo,u,g1,h2.trans g2,g3,h3.trans g4⟩
theorem dS.step{items gV:List Item}(h:∀ (b:Frame) (a:Act) cs w,(∀x,∃R I n,aJ R I n w (t4 fr x) (a.eval x))->Go.step P (lone (b.at a items) cs w)=.next (lone (b.at a gV) cs w)):dS P items fr m (.stop gV fr m):=
 λds w0 R0 I w a hs b cs=>⟨I,w,a,hs,Ext.refl _ _ _ _,.one (h b a cs w λx=>⟨_,_,_,hs.2.1.eval x⟩)⟩
theorem dS.refl(items:List Item)(fr:Fr)(m:Mem):dS P items fr m (.stop items fr m):=
 λds w0 R0 I w a hs b cs=>⟨I,w,a,hs,Ext.refl _ _ _ _,Steps.refl _ _⟩
def AR(P:Program)(ih:mV α):Prop:=
 ∀items p fr m (V:Out->ak α) (L:α->Prop),(ih items p fr m V).holds L->∃out,(V out).holds L/\dS P items fr m out
variable{f:FuncId}
def nS {fn : Func} {body : Code} (hf : P.funcs[f]? = some fn) (hb : fn.body = some body) (hn : (fn.name == "runtime.NumGoroutine") = false) (args : Array Value) (w : World) : (Go.callFunc f args).run P w = .ok (.enter f args) w := by
 simp only[Go.callFunc,bX,KC,bZ,hf,hn,eY,iD,hb,Option.isNone_some,cU]
variable{p:ax}{v:SV}
def ve{fn:Func}{body:Code}(hf:P.funcs[f]? =some fn)(hb:fn.body=some body){aD:Fr}(hr:dS P [.code body] fr m (.ret p aD m'))
  (hv:∀⦃ds:List Deferred⦄ w0 R0 I w a,dG ds w0 R0 I w aD m' a->∃u,(Go.results fn a.tmps).run P w=.ok u w/\aJ (RO w0 R0 I w m') I m'.next w v u) {w0:World} {R0:eo} {I:bu} {w:World} {vs:List Value} (hm:aQ w0 R0 I w m)
  (cn:rj (RO w0 R0 I w m) I m.next w fr (vs.toArray++Array.replicate (fn.ntmps-vs.toArray.size) Go.undef)):
  Calls P f vs.toArray w λe w'=>∃u,e=.returned u/\∃I',aQ w0 R0 I' w' m'/\m8 w0 R0 I w m I' w' m'/\aJ (RO w0 R0 I' w' m') I' m'.next w' v u:=by
 intro cs
 let b:Frame:={ (default:Frame)with fn:=f,kind:=.normal}
 have tc:Frame.enter P f vs.toArray .normal=b.at {tmps:=vs.toArray++Array.replicate (fn.ntmps-vs.toArray.size) Go.undef,defers:=[]} [.code body] :=by
  simp[Frame.enter,Frame.at,hf,hb,b]
 obtain⟨I',w',a',todo,g1,g2,g3⟩:=hr w0 R0 I w {tmps:=vs.toArray++Array.replicate (fn.ntmps-vs.toArray.size) Go.undef,defers:=[]} ⟨hm,cn,rfl⟩ b cs;obtain⟨u,h1,h2⟩:=hv w0 R0 I' w' a' g1;refine⟨.returned u,w',_,⟨u,rfl,I',g1.1,g2,h2⟩,by rw[tc];exact g3,rfl,rfl,g1.2.2,rfl,fn,hf,h1⟩
mutual
theorem aJ.uf{R R':Nat->Prop}{I:bu}{n:Nat}{w:World}:∀ (x:SV) (v:Value),Go.Sx.uf x=true->aJ R I n w x v->aJ R' I n w x v
 |.undef,_,_,h=>h
 |.di,_,_,_=>trivial
 |.int _ _,_,_,h=>h
 |.bool _,_,_,h=>h
 |.str _,_,_,h=>h
 |.cm,_,_,h=>h
 |.list _ _,_,hd,_=>by cases hd
 |.row _,_,_,h=>h
 |.arr _ _ _,_,hd,_=>by cases hd
 |.ptr _ _,_,hd,_=>by cases hd
 |.pY,_,_,h=>h
 |.jt _ _ _ _,_,hd,_=>by cases hd
 |.iy _ _ _ _,_,hd,_=>by cases hd
 |.agg cs,v,hd,h=>by
  obtain⟨vs,h1,h2⟩:=h;exact⟨vs,h1,j8.uf cs vs hd h2⟩
 |.tuple cs,v,hd,h=>by
  obtain⟨vs,h1,h2⟩:=h;exact⟨vs,h1,j8.uf cs vs hd h2⟩
 |.fn _ _ _,_,hd,_=>by cases hd
 |.dO _,_,hd,_=>by cases hd
theorem j8.uf{R R':Nat->Prop}{I:bu}{n:Nat}{w:World}:∀ (xs:List SV) (vs:List Value),Go.Sx.GN xs=true->j8 R I n w xs vs->j8 R' I n w xs vs
 |[],_,_,h=>h
 |x::xs,vs,hd,h=>by
  obtain⟨u,us,h1,h2,h3⟩:=h;have hd:(Go.Sx.uf x&&Go.Sx.GN xs)=true:=hd;rw[aH]at hd;exact⟨u,us,h1,aJ.uf x u hd.1 h2,j8.uf xs us hd.2 h3⟩
end
variable{w:World}
theorem p7.vV{R R':Nat->Prop}:∀ (t:Ty) (x:t.T) (vs:List Value),t.vV=true->p7 R w t x vs->p7 R' w t x vs
 |.unit,_,_,_,h=>h
 |.int _,_,_,_,h=>h
 |.bool,_,_,_,h=>h
 |.str,_,_,_,h=>h
 |.list _,_,_,hd,_=>by cases hd
 |.pair a b,x,vs,hd,h=>by
  obtain⟨v1,v2,h1,h2,h3⟩:=h;have hd:(a.vV&&b.vV)=true:=hd;rw[aH]at hd;exact⟨v1,v2,h1,p7.vV a _ _ hd.1 h2,p7.vV b _ _ hd.2 h3⟩
theorem Tb.Ua{β:Type}(f:β->Bool):∀ (t:Tb β) (i:Nat),(t.EC f).get i=match t.get i with
  |some x=>match f x with
   |true=>some x
   |false=>none
  |none=>none
 |.e,i=>rfl
 |.n l v r,0=>rfl
 |.n l v r,j+1=>by
  show(Tb.n (l.EC f) _ (r.EC f)).get (j+1)=_;rw[Tb.iF,Tb.iF]
  by_cases h:j % 2=0
  .rw[Tb.fG h,Tb.fG h,Tb.Ua f l]
  .rw[Tb.fF h,Tb.fF h,Tb.Ua f r]
def Bp{id:Nat}{B:aR}(h:m.BX.get id=some B):m.get id=some B/\qD6 B=true:=by
 unfold Mem.BX Mem.get at h;dsimp only at h;rw[Tb.Ua]at h
 split at h
 .rename_i x hx
  split at h
  .rename_i hf
   cases h;exact⟨hx,hf⟩
  .cases h
 .cases h
variable{w0:World}{R0:eo}{I:bu}
theorem aQ.BX{R1:eo}(h:aQ w0 R0 I w m)(hs:∀b,R1 b->R0 b/\R1.keep b=R0.keep b):aQ w0 R1 I w m.BX:=by
 refine⟨h.below,λid B hB=>h.lt id B (Bp hB).1,λid B hB=>h.lo id B (Bp hB).1,λid B hB=>h.hi id B (Bp hB).1,λid bY B B' hB rN=>h.inj id bY B B' (Bp hB).1 (Bp rN).1,λid B hB=>?_,λb hb=>⟨(h.aI.1 b (hs b hb).1).1,by rw[(hs b hb).2];exact(h.aI.1 b (hs b hb).1).2⟩,λid B hB bC hr=>h.aI.2 id B (Bp hB).1 bC (hs _ hr).1⟩;obtain⟨h1,h2⟩:=Bp hB
 cases B with
 |cells cs=>cases h2
 |iter s p=>cases h2
 |obj _ _=>cases h2
 |rows t l=>
  obtain⟨b1,b2,b3⟩:=h.box id _ h1;refine⟨b1,b2,λh0=>?_⟩;obtain⟨arr,e,fr,k1,k2,k3,k4⟩:=b3 h0;refine⟨arr,e,fr,k1,k2,k3,λi hi=>?_⟩;obtain⟨cs,c1,c2,c3⟩:=k4 i hi;exact⟨cs,c1,c2,p7.vV t _ _ h2 c3⟩
theorem Vn(h:aQ w0 R0 I w m){R:Nat->Prop}(hR:∀b,b<w.heap.size->R b):∀{xs:List SV} {vs:List Value},j8 (RO w0 R0 I w m) I m.next w xs vs->f7 (xs.map (gd m))=true->j8 R I 0 w (xs.map (gd m)) vs
 |[],_,hr,_=>hr
 |x::xs,vs,hr,hd=>by
  obtain⟨u,us,rfl,r1,r2⟩:=hr;have hd:f7 (gd m x::xs.map (gd m))=true:=hd;rw[wP]at hd
  cases hx:(gd m x).data with
  |false=>rw[hx]at hd;cases hd
  |true=>
   rw[hx]at hd;refine⟨u,us,rfl,?_,Vn h hR r2 hd⟩
   have cW:∀b,RO w0 R0 I w m b->R b:=λb hb=>hR b (h.mB hb)
   have plain:gd m x=x->aJ R I 0 w (gd m x) u:=λe=>by
    rw[e]at hx ⊢;exact aJ.data cW x u hx r1
   cases x with
   |row id=>
    cases hg:m.get id with
    |none=>exact plain (by simp only[gd,hg])
    |some B=>
     cases B with
     |cells cs=>exact plain (by simp only[gd,hg])
     |iter s p=>exact plain (by simp only[gd,hg])
     |obj _ _=>exact plain (by simp only[gd,hg])
     |rows t l=>
      have e:gd m (.row id)=.list t l:=by simp only[gd,hg]
      rw[e];obtain⟨_,a,hu,ha⟩:=r1;obtain⟨b1,b2,hp⟩:=h.box id _ hg;refine⟨a,(I id).2.2,by rw[hu,b1],b2,λh0=>?_⟩;have h0:0< (I id).2.2:=qS h0 b2;obtain⟨arr,e,fr,k1,k2,k3,k4⟩:=hp h0;refine⟨(I id).1,0,ha h0,hR _ (h.hi id _ hg h0),λi hi=>?_⟩;obtain⟨cs,c1,c2,c3⟩:=k4 i hi;refine⟨cs,c1,λj hj=>?_,p7.mono (λb hb=>⟨cW b hb,rfl⟩) _ _ _ c3⟩;rw[rR w _ _ arr e fr k1,gY];exact c2 j hj
   |_=>exact plain rfl
variable{args:List SV}
theorem je.congr{m2 bh:Mem}(hg:∀id,m2.get id=m.get id)(hn:m2.next=m.next)(lk:∀id,bh.get id=m'.get id)(gW:bh.next=m'.next)(h:je P m v m' f args):je P m2 v bh f args:=by
 intro w0 R0 I w vs hm bR;have h1:=h w0 R0 I w vs (hm.congr (λid=>(hg id).symm) hn.symm) (by rw[<-RO.congr hg,<-hn];exact bR);exact kN.mono (λu w' hu=>hu.congr hg hn lk gW) h1
def Vu{mc:Mem}{k:SV->Mem->ak α}{L:α->Prop}(h:(lU v mc m k).holds L):∃v' m',(k v' m').holds L/\∀ (δ:Type) (k2:SV->Mem->ak δ),lU v mc m k2=k2 v' m':=by
 obtain⟨v',_,_,_,_,ha⟩:=Vv h;obtain⟨m',_,_,hk⟩:=ha m rfl;rw[hk]at h;exact⟨v',m',h,hk⟩
def WU(hE:dF P E){ih:mV α}(kH:AR P ih){V:p9 α}{L:α->Prop}(h:(Jd E ih f args p m V).holds L):
  ∃v0 mc p',(lU v0 mc m λv m=>V v p' m).holds L/\∀m2 v' bh,args.map (gd m2)=args.map (gd m)->(lU v0 mc m2 λv m=>.ai (v,m)).holds (λy=>y=(v',bh))->je P m2 v' bh f args:=by
 unfold Jd at h
 split at h
 .rename_i fn jG
  have hf:=hE.fn f fn jG
  split at h
  .rename_i body hb
   split at h
   .rename_i hn
    split at h
    .rename_i hd
     obtain⟨fr,h1,h2,h3,h4⟩:=qz h;obtain⟨out,h5,h6⟩:=kH _ _ _ _ _ _ h1
     cases out with
     |stop it aD m'=>cases h5
     |cE v aD m'=>cases h5
     |ret p' aD mc=>
      dsimp only at h5;obtain⟨v,h7,h8⟩:=qE hE h5
      split at h7
      .rename_i hnr
       refine⟨v,mc.BX,p',h7,λm2 v' bh he ha w0 R0 I w vs hm bR=>?_⟩;obtain⟨v1,m1,hl,nH⟩:=N3 ha;injection hl with e1 e2;subst e1 e2;rw[nS hf hb hn];have o1:aQ w (.all w) I w ⟨0,.e⟩:=⟨⟨Below.refl _ _,hm.Np⟩,λid B h=>(by cases h),λid B h=>(by cases h),λid B h=>(by cases h),λid bY B B' h=>(by cases h),λid B h=>(by cases h),λb hb=>⟨hb,rfl⟩,λid B h=>(by cases h)⟩;have M3:=Vn hm (R:=RO w (.all w) I w ⟨0,.e⟩) (λb hb=>.inl ⟨hb,hb⟩) bR (by rw[he];exact hd);rw[he]at M3;have cn:=pV h2 h3 h4 M3
       refine Calls.mono (ve hf hb h6 h8 o1 cn) λe w' ⟨u,he,I',g1,g2,g3⟩=>⟨u,he,?_⟩
       exact nH w0 R0 I w I' w' u hm (g1.BX λb hb=>⟨hm.mB hb,rfl⟩) (aJ.uf v u hnr g3)
      .exact h7.elim
    .exact h.elim
   .exact h.elim
  .exact h.elim
 .exact h.elim
def zD0(hE:dF P E){ih:mV α}(kH:AR P ih){V:p9 α}{L:α->Prop}(h:(OG E ih f args p m V).holds L):
  ∃v0 mc p',(lU v0 mc m λv m=>V v p' m).holds L/\∀m2 v' bh,(lU v0 mc m2 λv m=>.ai (v,m)).holds (λy=>y=(v',bh))->je P m2 v' bh f args:=by
 unfold OG at h
 split at h
 .rename_i fn jG
  have hf:=hE.fn f fn jG
  split at h
  .rename_i body hb
   split at h
   .rename_i hn
    split at h
    .rename_i hd
     obtain⟨fr,h1,h2,h3,h4⟩:=qz h;obtain⟨out,h5,h6⟩:=kH _ _ _ _ _ _ h1
     cases out with
     |stop it aD m'=>cases h5
     |cE v aD m'=>cases h5
     |ret p' aD mc=>
      dsimp only at h5;obtain⟨v,h7,h8⟩:=qE hE h5;refine⟨v,mc,p',h7,λm2 v' bh ha w0 R0 I w vs hm bR=>?_⟩;obtain⟨v1,m1,hl,nH⟩:=N3 ha;injection hl with e1 e2;subst e1 e2;rw[nS hf hb hn];obtain⟨o1,o2⟩:=xh hm I;have cn:=pV h2 h3 h4 (j8.data (R':=RO w (RS w0 R0 I w m2) I w ⟨0,.e⟩) (I':=I) (n':=0) o2 args vs hd bR)
      refine Calls.mono (ve hf hb h6 h8 o1 cn) λe w' ⟨u,he,I',g1,g2,g3⟩=>⟨u,he,?_⟩
      exact nH w0 R0 I w I' w' u hm g1 g3
    .exact h.elim
   .exact h.elim
  .exact h.elim
 .exact h.elim
def zD3(hE:dF P E)(hS:uX P E){ih:mV α}(kH:AR P ih):E7 P (kv E ih):=by
 have fin:∀ (f:FuncId) (args:List SV) (v0:SV) (mc m:Mem) (p':ax) (V:p9 α) (L:α->Prop),(lU v0 mc m λv m=>V v p' m).holds L->
   (∀m2 v' bh,args.map (gd m2)=args.map (gd m)->(lU v0 mc m2 λv m=>.ai (v,m)).holds (λy=>y=(v',bh))->je P m2 v' bh f args)->
   ∃v p' m',(V v p' m').holds L/\m.next<=m'.next/\∀ (F:List Nat) (m2 bh:Mem),(∀id,iT id args=true->id∈F)->(∀id∈F,m2.get id=m.get id)->m2.next=m.next->
    (∀id,bh.get id=if id∈F++List.range' m.next (m'.next-m.next)then m'.get id else m2.get id)->bh.next=m'.next->je P m2 v bh f args:=by
  intro f args v0 mc m p' V L h nH;obtain⟨v,m',h1,h2,h3,h4⟩:=Vv h;refine⟨v,p',m',h1,h2,λF m2 bh hF ha hn hp gW=>?_⟩;obtain⟨m3,n3,e3,k3⟩:=h4 m2 hn
  have hargs:args.map (gd m2)=args.map (gd m):=by
   refine EN λx hx=>?_
   cases x<;>try rfl
   rename_i id;have:=ha id (hF id (JO hx (by simp[gH])));simp only[gd,this]
  refine(nH m2 v m3 hargs (by rw[k3];exact rfl)).congr (λ_=>rfl) rfl (λid=>?_) (by rw[gW,n3]);rw[hp id,e3 id];simp only[wu,Fz]
  by_cases c:m.next<=id/\id<m'.next
  .rw[ay c,ay (.inr ⟨c.1,by omega⟩)]
  .rw[au c]
   by_cases c2:id∈F
   .rw[ay (.inl c2),h3 id c,<-ha id c2]
   .rw[au (λd=>d.elim c2 λd=>c ⟨d.1,by omega⟩)]
 intro f args p m V L h;unfold kv at h
 split at h;.exact h.elim
 .split at h
  .exact h.elim
  .split at h
   .rename_i s hs
    split at h
    .rename_i id off rest
     split at h
     .rename_i h0
      have h0:=gQ h0;subst h0
      split at h
      .rename_i B hB
       split at h
       .rename_i t ht
        obtain⟨v,B',p',h1,h2⟩:=Ir t p h (hS.2.2.2.1 f s rest B t hs ht);obtain⟨m',h3,h4⟩:=Mem.iN h1;refine⟨v,p',m',h4,by rw[h3.2];exact bA _,λF m2 bh hF ha hn hp gW=>?_⟩;have ahw:id∈F:=hF id (JO mO (by simp[gH]));refine h2 m2 bh id ((ha id ahw).trans hB) ⟨λk=>?_,by rw[gW,h3.2,hn]⟩;rw[hp k,h3.2,UL,List.range'_zero,wA,h3.1 k]
        by_cases hk:k∈F
        .rw[ay hk]
         by_cases dB:k=id
         .rw[ay dB,ay dB]
         .rw[au dB,au dB,ha k hk]
        .rw[au hk,au (λc=>hk (by rw[c];exact ahw))]
       .exact h.elim
      .exact h.elim
     .exact h.elim
    .exact h.elim
   .split at h
    .rename_i s hs
     split at h
     .rename_i t ht
      obtain⟨x,p',h1,h2⟩:=EY t p h (hS.2.2.2.2 f s args t hs ht)
      exact fin f args x.1 x.2 m p' V L h1 λm2 v' bh _=>h2 m2 v' bh
     .exact h.elim
    split at h
    .obtain⟨v0,mc,p',h1,h2⟩:=WU hE kH h
     exact fin f args v0 mc m p' V L h1 h2
    .obtain⟨v0,mc,p',h1,h2⟩:=zD0 hE kH h
     exact fin f args v0 mc m p' V L h1 λm2 v' bh _=>h2 m2 v' bh
def Fi(hE:dF P E)(hS:uX P E){ih:mV α}(kH:AR P ih):jL P false (AZ E ih):=by
 intro f args p m V L h;unfold AZ at h
 split at h
 .rename_i s hs
  split at h
  .rename_i t ht
   obtain⟨v,p',h1,h2⟩:=EX t p h (hS.1 f s args t hs ht);exact⟨v,p',m,h1,λhq=>(by cases hq),h2 m⟩
  .exact h.elim
 .split at h
  .rename_i s hs
   split at h
   .rename_i t ht
    obtain⟨x,p',h1,h2⟩:=Iq t p h (hS.2.1 f s args m t hs ht);exact⟨x.1,p',x.2,h1,λhq=>(by cases hq),h2⟩
   .exact h.elim
  split at h
  .rename_i s hs
   split at h
   .rename_i t ht
    obtain⟨x,p',h1,h2⟩:=EY t p h (hS.2.2.2.2 f s args t hs ht);obtain⟨v',m',h3,h4⟩:=Vu h1;exact⟨v',p',m',h3,λhq=>(by cases hq),h2 m v' m' (by rw[h4];exact rfl)⟩
   .exact h.elim
  split at h
  .obtain⟨v0,mc,p',h1,h2⟩:=WU hE kH h
   obtain⟨v',m',h3,h4⟩:=Vu h1;exact⟨v',p',m',h3,λhq=>(by cases hq),h2 m v' m' rfl (by rw[h4];exact rfl)⟩
  split at h
  .rename_i fn jG
   have hf:=hE.fn f fn jG
   split at h
   .rename_i body hb
    split at h
    .rename_i hn
     split at h
     .rename_i hd
      rw[aH]at hd;have hd:=hd.1;obtain⟨fr,h1,h2,h3,h4⟩:=qz h;obtain⟨out,h5,h6⟩:=kH _ _ _ _ _ _ h1
      cases out with
      |stop it aD m'=>cases h5
      |cE v aD m'=>cases h5
      |ret p' aD mc=>
       dsimp only at h5;obtain⟨v,h7,h8⟩:=qE hE h5;obtain⟨v',m',h9,lw⟩:=N3 h7;refine⟨v',p',m',h9,λhq=>(by cases hq),λw0 R0 I w vs hm bR=>?_⟩;rw[nS hf hb hn];obtain⟨o1,o2⟩:=xh hm I;have cn:=pV h2 h3 h4 (j8.data (R':=RO w (RS w0 R0 I w m) I w ⟨0,.e⟩) (I':=I) (n':=0) o2 args vs hd bR)
       refine Calls.mono (ve hf hb h6 h8 o1 cn) λe w' ⟨u,he,I',g1,g2,g3⟩=>⟨u,he,?_⟩
       exact lw w0 R0 I w I' w' u hm g1 g3
     .obtain⟨fr,h1,h2,h3,h4⟩:=qz h
      obtain⟨out,h5,h6⟩:=kH _ _ _ _ _ _ h1
      cases out with
      |stop it aD m'=>cases h5
      |cE v aD m'=>cases h5
      |ret p' aD mc=>
       dsimp only at h5;obtain⟨v,h7,h8⟩:=qE hE h5;refine⟨v,p',mc,h7,λhq=>(by cases hq),λw0 R0 I w vs hm bR=>?_⟩;rw[nS hf hb hn];exact ve hf hb h6 h8 hm (pV h2 h3 h4 bR)
    .exact h.elim
   .exact h.elim
  .exact h.elim
def Je(hE:dF P E)(hS:uX P E){ih:mV α}(kH:AR P ih):jL P true (dH E ih):=by
 intro f args p m V L h;unfold dH at h
 split at h
 .rename_i s hs
  split at h
  .rename_i t ht
   obtain⟨v,p',h1,h2⟩:=EX t p h (hS.1 f s args t hs ht);exact⟨v,p',m,h1,λ_=>⟨rfl,h2⟩,h2 m⟩
  .exact h.elim
 .split at h
  .rename_i fn jG
   have hf:=hE.fn f fn jG
   split at h
   .rename_i body hb
    split at h
    .rename_i hn
     split at h
     .rename_i hd
      obtain⟨fr,h1,h2,h3,h4⟩:=qz h;obtain⟨out,h5,h6⟩:=kH _ _ _ _ _ _ h1
      cases out with
      |stop it aD m'=>cases h5
      |cE v aD m'=>cases h5
      |ret p' aD mc=>
       dsimp only at h5;obtain⟨v,h7,h8⟩:=qE hE h5
       split at h7
       .rename_i sY
        suffices key:∀m,je P m v m f args from⟨v,p',m,h7,λ_=>⟨rfl,key⟩,key m⟩
        intro m w0 R0 I w vs hm bR;rw[nS hf hb hn];obtain⟨o1,o2⟩:=xh hm I;have cn:=pV h2 h3 h4 (j8.data (R':=RO w (RS w0 R0 I w m) I w ⟨0,.e⟩) (I':=I) (n':=0) o2 args vs hd bR)
        refine Calls.mono (ve hf hb h6 h8 o1 cn) λe w' ⟨u,he,I',g1,g2,g3⟩=>⟨u,he,?_⟩
        have cR:=Hand.start hm g1;obtain⟨k1,k2⟩:=cR.finish hm g1;exact⟨I,k1,k2,aJ.data (λb hb=>cR.ro b (.inr hb)) v u sY g3⟩
       .exact h7.elim
     .exact h.elim
    .exact h.elim
   .exact h.elim
  .exact h.elim
def VY(fr:Fr)(m:Mem):Prop:=m.get m.next=none/\(∀id B,m.get id=some B->id<m.next/\∀k,m.next<=k->vm k (some B)=false)/\∀t k,m.next<=k->gH k (fr.get t)=false
def dG.start{ds:List Deferred}{a:Act}(h:dG ds w0 R0 I w fr m a):VY fr m:=by
 obtain⟨hm,cn,_⟩:=h;refine⟨hm.fresh,λid B hB=>⟨hm.lt id B hB,λk hk=>?_⟩,λt k hk=>?_⟩
 .cases B with
  |rows t l=>rfl
  |iter s p=>rfl
  |obj t cs=>
   obtain⟨arr,_,h3⟩:=hm.box id _ hB;rcases pE (iT k cs)with h|h
   .have:=j8.wg cs _ h3 h;omega
   .exact h
  |cells cs=>
   obtain⟨arr,e,fr,_,_,h3⟩:=hm.box id _ hB;rcases pE (iT k cs)with h|h
   .have:=j8.wg cs _ h3 h;omega
   .exact h
 .rcases pE (gH k (fr.get t))with h|h
  .have:=aJ.wg _ _ (cn.2 t) h;omega
  .exact h
def aQ.bump{m2:Mem}(h:aQ w0 R0 I w m)(hg:∀id,m2.get id=m.get id)(hn:m.next<=m2.next):aQ w0 R0 I w m2/\m8 w0 R0 I w m I w m2:=by
 have e:m8 w0 R0 I w m I w m2:=⟨hn,λ_ _=>rfl,λb hb=>⟨by rw[RO.congr hg];exact hb,rfl⟩⟩;refine⟨⟨h.below,λid B hB=>?_,λid B hB=>h.lo id B (by rw[<-hg];exact hB),λid B hB=>h.hi id B (by rw[<-hg];exact hB),λid bY B B' hB rN=>h.inj id bY B B' (by rw[<-hg];exact hB) (by rw[<-hg];exact rN),λid B hB=>?_,h.aI.1,λid B hB=>h.aI.2 id B (by rw[<-hg];exact hB)⟩,e⟩;.have:=h.lt id B (by rw[<-hg];exact hB);omega
 .exact fN.mono e B (λ_=>rfl) (h.box id B (by rw[<-hg];exact hB))
theorem qU0:∀{refs:List (Nat×Nat)} {c k:Nat},DO refs c=some k->(c,k)∈refs
 |x::l,c,k,h=>by
  unfold DO at h
  split at h
  .rename_i hx
   cases h;rw[<-gQ hx];exact mO
  .exact rX _ (qU0 h)
theorem Qn:∀ (l:List Oper) (i k:Nat) {c j:Nat},(c,j)∈C2 l i k->k<=j/\j<k+(C2 l i k).length
 |[],i,k,c,j,h=>by cases h
 |o::l,i,k,c,j,h=>by
  have e:C2 (o::l) i k=match od o.op with
   |true=>(i,k)::C2 l (i+1) (k+1)
   |false=>C2 l (i+1) k:=rfl
  rw[e]at h ⊢
  cases ha:od o.op with
  |true=>
   rw[ha]at h;dsimp only at h ⊢;rcases qT.1 h with h|h
   .injection h with h1 h2;simp;omega
   .have:=Qn l (i+1) (k+1) h;simp;omega
  |false=>rw[ha]at h;exact Qn l (i+1) k h
def awj(hE:dF P E)(hS:uX P E){call:eS α}(ga:jL P false call){lQ:SV->Fr->Mem->ak α}{all:List Oper}{o:Oper}{ih:gR α}{L:α->Prop}(h:(J2 E call lQ all o ih p fr m).holds L):
  (∃p' v aW m1,(ih p' aW m1).holds L/\gE P all o fr m v m1/\gf fr o.dst v aW)\/∃v m',(lQ v fr m').holds L/\o.guard=none/\E4 P m v m' o (t4 fr):=by
 have old:(mh E (λ_=>true) call all o ih p fr m).holds L->∃p' v aW m1,(ih p' aW m1).holds L/\gE P all o fr m v m1/\gf fr o.dst v aW:=λh=>by
  obtain⟨p',v,aW,m1,h1,h2,h3,_⟩:=FF hE ga h;exact⟨p',v,aW,m1,h1,h2,h3⟩
 unfold J2 at h
 split at h;.exact .inl (old h)
 .rename_i hg
  split at h
  .rename_i x fR
   split at h
   .rename_i v0 hx
    split at h
    .rename_i t v1
     refine .inr ⟨_,m,h,hg,λw0 R0 I w eb hm bJ=>?_⟩;have h1:=bJ x (by rw[fR];simp[Op.operands]);rw[hx]at h1;have h1:eb x=.iface t v1:=h1;obtain⟨dst,op,ty,pos,after,guard⟩:=o;dsimp only at fR;subst fR;simp only[Go.execOp,h1,Instr.panic];exact⟨I,hm,Ext.refl _ _ _ _,rfl⟩
    .exact h.elim
   .exact h.elim
  .rename_i c fR
   split at h
   .rename_i g hc
    split at h
    .rename_i f first cap ph
     split at h
     .rename_i s hs
      split at h
      .rename_i t ht
       have run:∀{w0:World} {R0:eo} {I:bu} {w:World} {eb:Operand->Value},(∀x∈o.op.operands,aJ (RO w0 R0 I w m) I m.next w (t4 fr x) (eb x))->∃vs:List Value,j8 (RO w0 R0 I w m) I m.next w (first++(c.args.toList.map (t4 fr)++cap)) vs/\(Go.execOp eb o).run P w=(Go.callFunc f vs.toArray).run P w:=by
        intro w0 R0 I w eb bJ;have lj:=bJ g (by rw[fR];simp[Op.operands,Call.operands,hc]);rw[ph]at lj;obtain⟨vs,us,h4,h5,h6⟩:=lj
        have r1:j8 (RO w0 R0 I w m) I m.next w (c.args.toList.map (t4 fr)) (c.args.toList.map eb):=j8.map _ _ _ λx hx=>bJ x (by rw[fR];simp[Op.operands,Call.operands]at hx ⊢;simp[hx])
        refine⟨vs++(c.args.toList.map eb++us),h5.append (r1.append h6),?_⟩;obtain⟨dst,op,ty,pos,after,guard⟩:=o;dsimp only at fR;subst fR;simp only[Go.execOp,resolve,hc,h4,Deferred.ofValue,pure_bind,invoke]
        have e:(vs++(c.args.toList.map eb++us)).toArray=vs.toArray++c.args.map eb++us.toArray:=by apply oy;simp
        rw[e]
       rcases HY t p h (hS.2.2.1 f s _ m t hs ht)with⟨v,m1,p',h1,h2⟩|⟨v,m1,h1,h2⟩
       .obtain⟨aW,h3,h4⟩:=vt h1
        refine .inl ⟨p',v,aW,m1,h4,.inl ⟨by simp[fV,hg],λw0 R0 I w eb hm bJ=>?_⟩,h3⟩;obtain⟨vs,r1,r2⟩:=run bJ;rw[r2];exact h2 w0 R0 I w _ hm r1
       .refine .inr ⟨v,m1,h1,hg,λw0 R0 I w eb hm bJ=>?_⟩
        obtain⟨vs,r1,r2⟩:=run bJ;rw[r2];exact h2 w0 R0 I w _ hm r1
      .exact h.elim
     .exact .inl (old h)
    .exact .inl (old h)
   .exact .inl (old h)
  .exact .inl (old h)
theorem Uq(hE:dF P E)(hS:uX P E){call:eS α}(ga:jL P false call){lQ:SV->Fr->Mem->ak α}{all:List Oper}{k:gR α}{L:α->Prop}:∀ (ops:List Oper) (p:ax) (fr:Fr) (m:Mem),(z21 E call lQ all ops k p fr m).holds L->
  (∃p' aD m',(k p' aD m').holds L/\Ik P all ops fr m aD m')\/∃v aD m',(lQ v aD m').holds L/\Ij P all ops fr m v aD m'
 |[],p,fr,m,h=>.inl ⟨p,fr,m,h,.nil fr m⟩
 |o::rest,p,fr,m,h=>by
  change (J2 E call lQ all o (z21 E call lQ all rest k) p fr m).holds L at h
  rcases awj hE hS ga h with⟨p1,v,aW,m1,h1,h2,h3⟩|⟨v,m',h1,h2,h3⟩
  .rcases Uq hE hS ga rest p1 aW m1 h1 with⟨p',aD,m',h5,h6⟩|⟨v',aD,m',h5,h6⟩
   .exact .inl ⟨p',aD,m',h5,.cons h2 h3 h6⟩
   .exact .inr ⟨v',aD,m',h5,.next h2 h3 h6⟩
  .exact .inr ⟨v,fr,m',h1,.here h2 h3⟩
def xb2{o:Op}{t:ak Ex}(h:QE E fr m o=some t):∃f c,o=.call c/\c.callee=.value (.func f)/\∃s,E.pn f=some s/\s (c.args.toList.map (t4 fr)) m=some t:=by
 unfold QE at h
 split at h
 .rename_i c
  split at h
  .rename_i g hc
   split at h
   .rename_i f
    split at h
    .rename_i s hs
     exact⟨f,c,rfl,hc,s,hs,h⟩
    .cases h
   .cases h
  .cases h
 .cases h
def x90{m1:Mem}{o:Oper}{c:Call}(fR:o.op=.call c)(hc:c.callee=.value (.func f))(h:AP P f (c.args.toList.map (t4 fr)) m (.cE v m1)):E4 P m v m1 o (t4 fr):=by
 intro w0 R0 I w eb hm bJ
 have r1:j8 (RO w0 R0 I w m) I m.next w (c.args.toList.map (t4 fr)) (c.args.toList.map eb):=j8.map _ _ _ λx hx=>bJ x (by rw[fR];simp[Op.operands,Call.operands]at hx ⊢;simp[hx])
 have hf:eb (.func f)=.func (.func f) #[] #[] :=by
  obtain⟨vs,us,h4,h5,h6⟩:=bJ (.func f) (by rw[fR];simp[Op.operands,Call.operands,hc]);have h5:vs=[] :=h5;have h6:us=[] :=h6;subst h5 h6;exact h4
 have e1:(Go.execOp eb o).run P w=(Go.callFunc f (c.args.toList.map eb).toArray).run P w:=by
  obtain⟨dst,op,ty,pos,after,guard⟩:=o;dsimp only at fR;subst fR;simp only[Go.execOp,resolve,hc,hf,Deferred.ofValue,pure_bind,invoke]
  have e:(c.args.toList.map eb).toArray=(#[] :Array Value)++c.args.map eb++#[] :=by apply oy;simp
  rw[e]
 rw[e1];exact h w0 R0 I w _ hm r1
def aup(hE:dF P E)(hS:uX P E)(ol:P.follows .mixedOrders=true){ih:mV α}(kH:AR P ih){id:Nat}{ops:Array Oper}{draw:Bool}{k:List Item}{V:Out->ak α}{L:α->Prop}(h:(Cz E ih (.region id ops draw) k p fr m V).holds L):
  (∃p' aD m',(ih k p' aD m' V).holds L/\dS P (.code (.region id ops draw)::k) fr m (.stop k aD m'))\/∃out,(V out).holds L/\dS P (.code (.region id ops draw)::k) fr m out:=by
 have fin:∀ (aD:Fr) (m':Mem),(∀ (ds:List Deferred) w0 R0 I w a,dG ds w0 R0 I w fr m a->(Code.region id ops draw).wp P (λe a' w'=>e=.normal/\∃I',dG ds w0 R0 I' w' aD m' a'/\m8 w0 R0 I w m I' w' m') a w)->dS P (.code (.region id ops draw)::k) fr m (.stop k aD m'):=by
  intro aD m' hw ds w0 R0 I w a hs b cs;obtain⟨e,a',w',⟨rfl,I',g1,g2⟩,rK⟩:=hw ds w0 R0 I w a hs b k cs;exact⟨I',w',a',g1,g2,rK⟩
 dsimp only[Cz]at h
 split at h;.exact .inr ⟨_,h,dS.refl _ _ _⟩
 cases draw with
 |false=>
  rcases Uq hE hS (Fi hE hS kH) _ _ _ _ h with⟨p',aD,m',h1,h2⟩|⟨v,aD,m',h1,h2⟩
  .refine .inl ⟨p',aD,m',h1,fin aD m' λds w0 R0 I w a hs=>wp_region ?_⟩
   have:=WG (Q:=λe a' w'=>e=.normal/\∃I',dG ds w0 R0 I' w' aD m' a'/\m8 w0 R0 I w m I' w' m') h2 0 rfl I w a hs (λI' w' a' g1 g2=>⟨rfl,I',g1,g2⟩);rw[<-aig]at this
   simpa using this
  .refine .inr ⟨_,h1,λds w0 R0 I w a hs b cs=>?_⟩
   have:=WI (Q:=λe a' w'=>∃u I',e=.panic [{v:=u,recovered:=false}] /\dG ds w0 R0 I' w' aD m' a'/\m8 w0 R0 I w m I' w' m'/\aJ (RO w0 R0 I' w' m') I' m'.next w' v u) h2 0 rfl I w a hs (λI' w' a' u g1 g2 g3=>⟨u,I',rfl,g1,g2,g3⟩);rw[<-aig]at this;have hw:(Code.region id ops false).wp P (λe a' w'=>∃u I',e=.panic [{v:=u,recovered:=false}] /\dG ds w0 R0 I' w' aD m' a'/\m8 w0 R0 I w m I' w' m'/\aJ (RO w0 R0 I' w' m') I' m'.next w' v u) a w:=wp_region (by simpa using this);obtain⟨e,a',w',⟨u,I',rfl,g1,g2,g3⟩,todo,rK⟩:=hw b k cs;exact⟨I',w',a',todo,u,g1,g2,g3,rK⟩
 |true=>
  dsimp only at h
  split at h
  .rename_i azC
   have TL:Region.lexB .any ops.toList.toArray=true:=by simpa using azC
   have M5:Region.noSelect ops.toList.toArray=true:=by
    have:=TL;simp only[Region.lexB,aH]at this;exact this.1
   have fQ:∀k,k<ops.toList.length->(Array.replicate ops.toList.length false).getD k true=false:=λk h=>by
    rw[jx,aiB,ay h];rfl
   have ord:∀ (aD:Fr) (m':Mem) (aS:Nat->Fr) (aO:Nat->SV) (M:(Nat->Bool)->Mem),UF ops.toList fr aD aS aO->(∀S S',(∀k,k<ops.toList.length->S k=S' k)->M S=M S')->((∀id,(M λ_=>true).get id=m'.get id)/\(M λ_=>true).next=m'.next)->
     ((∀id,(M λk=>(Array.replicate ops.toList.length false).getD k true).get id=m.get id)/\m.next<=(M λk=>(Array.replicate ops.toList.length false).getD k true).next)->
     (VY fr m->∀ (S:Nat->Bool) i o,ops.toList[i]? =some o->S i=false->(∀j oj,ops.toList[j]? =some oj->S j=true->∀e∈oj.after,Region.binds .any e=true->S e.on=true)->(∀e∈o.after,Region.binds .any e=true->S e.on=true)->gE P ops.toList o (aS i) (M S) (aO i) (M λk=>if k=i then true else S k)\/Of P o m.next (aO i) (cz ops.toList fr aO S ops.toList.length) (M S) (M λk=>if k=i then true else S k))->
     dS P (.code (.region id ops true)::k) fr m (.stop k aD m'):=by
    intro aD m' aS aO M ayO Ni EE ahV cR
    refine fin aD m' λds w0 R0 I w a hs=>wp_region_any ol ?_
    have ay4:=hs.start;obtain⟨hm,cn,hd⟩:=hs;obtain⟨vT,pu⟩:=hm.drew;obtain⟨M6,Na⟩:=vT.bump ahV.1 ahV.2;have Na:=pu.trans Na;have ahA:=cn.mono Na
    have T0:∀ (n:Nat) t,cz ops.toList fr aO (λi=>(Array.replicate ops.toList.length false).getD i true) n t=fr.get t\/n>ops.toList.length:=by
     intro n
     induction n with
     |zero=>intro t;exact .inl rfl
     |succ n BE=>
      intro t;rcases jv ops.toList.length (n+1)with TV|mK
      .exact .inr TV
      .left
       simp only[cz];rw[au (λhc=>by have:=hc.1;rw[fQ n (by omega)]at this;cases this)];exact(BE t).resolve_right (by omega)
    have key:=zo5 (w0:=w0) (R0:=R0) (M:=M) m.next ayO (qV8 TL) Ni (cR ay4) M5 (Q:=λe a' w'=>e=.normal/\∃I',dG ds w0 R0 I' w' aD m' a'/\m8 w0 R0 I w m I' w' m') (Ψ:=λI' w' mm=>m8 w0 R0 I w m I' w' mm)
     (λρ1 w1 m1 k r w2 m2 hk h1 hn pg=>⟨by rw[hn];exact h1.le,λid aI=>by rw[r8 _ _ (by omega)];exact h1.same id aI,λb hb=>by
       obtain⟨g1,g2⟩:=h1.keep b hb;obtain⟨g3,g4⟩:=pg b g1
       exact⟨g3,g4.trans g2⟩⟩)
     (λ_ _ _ _ _ _ h1 h2=>h1.trans h2) (λI' w' a' g1 g2=>by
       obtain⟨q1,q2,q3⟩:=g1;refine⟨rfl,I',⟨q1.congr (λid=>(EE.1 id).symm) EE.2.symm,?_,q3⟩,?_⟩;.rw[<-RO.congr EE.1,<-EE.2];exact q2
       .unfold m8
        rw[<-RO.congr EE.1,<-EE.2];exact g2) ops.toList.length (Array.replicate ops.toList.length false) I w.drew a (by simp)
     (by
       have:∀n,n<=ops.toList.length->nD (Array.replicate ops.toList.length false) n=n:=by
        intro n
        induction n with
        |zero=>intro _;rfl
        |succ n BE=>
         intro hn;simp only[nD,BE (by omega),fQ n (by omega)];simp
       exact this _ (bA _))
     (λj oj hj hl=>by
       have gu:=(iZ.1 hj).1;rw[jx,aiB,ay (by omega)]at hl
       cases hl)
     M6 ahA.1 hd (λt=>by rw[(T0 _ t).resolve_right (by omega)];exact ahA.2 t) Na
    simpa using key
   have abV:∀p,(My E ih ops.toList (λp fr m=>ih k p fr m V) p fr m).holds L->∃p' aD m',(ih k p' aD m' V).holds L/\dS P (.code (.region id ops true)::k) fr m (.stop k aD m'):=by
    intro p h;unfold My at h;obtain⟨p',aD,m',h1,h2⟩:=z23 hE (Fi hE hS kH) (Je hE hS kH) (zD3 hE hS kH) _ _ _ _ _ _ h;obtain⟨aS,aO,ms,rs,hw⟩:=h2.toWalk
    have get:∀j,j<ops.toList.length->∃o,ops.toList[j]? =some o:=λj hj=>⟨_,cc hj⟩
    have pg:∀id j,j<ops.toList.length->id∉ (rs j).wt->(ms (j+1)).get id=(ms j).get id:=λid j hj aI=>by
     obtain⟨o,ho⟩:=get j hj;exact(hw.step j o ho).keep id aI
    have Hi:∀j,j<ops.toList.length->(rs j).g=false->(ms (j+1)).next=(ms j).next:=λj hj=>by
     obtain⟨o,ho⟩:=get j hj;exact(hw.step j o ho).same
    refine⟨p',aD,m',h1,ord aD m' aS aO (xa ops.toList ms rs) ⟨hw.first,hw.last,hw.next⟩ (λS S' hS=>?_) ⟨λid=>?_,?_⟩ ⟨λid=>?_,?_⟩ (λcR S i o bT jY eT Eu=>?_)⟩
    .unfold xa
     rw[show jj ms rs S ops.toList.length=jj ms rs S' ops.toList.length from funext λid=>R4 _ λj hj _=>hS j hj,Pa _ λj hj _=>hS j hj]
    .rw[wZ,R5 _ (λj hj=>pg id j hj) (λ_ _ _=>rfl),hw.D6]
    .rw[zj,Pb _ Hi (λ_ _ _=>rfl),hw.D6]
    .rw[wZ,LJ (i:=0) _ (rW _) (λj _ h2 _=>fQ j h2)]
     show(ms 0).get id=_;rw[hw.mfirst];rfl
    .rw[zj,JD (i:=0) _ (rW _) (λj _ h2 _=>fQ j h2)]
     show _<=(ms 0).next;rw[hw.mfirst];exact aid _ _
    .refine ju2 hw m.next (λc k hk=>?_) (λid B hB=>cR.2.1 id B hB) (λt k hk=>cR.2.2 t k hk) S i o bT jY eT Eu
     have h3:=qU0 hk;obtain⟨h4,h5⟩:=Qn _ _ _ h3;exact⟨h3,h4,h5⟩
   split at h
   . -- a call at the end
     split at h
     .rename_i Hv
      left
      have cw:ops.toList≠[] :=by
       intro hc;rename_i ahJ _;rw[hc]at ahJ;simp at ahJ
      have Ho:0<ops.toList.length:=UT.2 cw;obtain⟨p',aD,m',h1,h2⟩:=z20 hE (Je hE hS kH) (Fi hE hS kH) _ _ _ _ cw h;obtain⟨aS,aO,q1,q2,q3,q4,q5⟩:=h2.index
      exact⟨p',aD,m',h1,ord aD m' aS aO (λS=>if S (ops.toList.length-1)=true then m' else m) ⟨q1,q2,q3⟩ (λS S' hS=>by rw[hS (ops.toList.length-1) (by omega)])
       (by rw[ay rfl];exact⟨λ_=>rfl,rfl⟩) (by
         rw[au (λh=>by
          have h2:(Array.replicate ops.toList.length false).getD (ops.toList.length-1) true=true:=h
          rw[fQ _ (by omega)]at h2;cases h2)]
         exact⟨λ_=>rfl,bA _⟩)
       (λ_ S i o bT jY eT Eu=>.inl (q49 Hv q4 q5 S i o bT jY eT))⟩
     .exact h.elim
   .split at h
    . -- a call C9 fk panic
      rename_i c hpn
      split at h
      .rename_i oc M4
       rw[tH]at M4
       split at h
       .rename_i HE
        obtain⟨p1,aW,h1,aS,aO,q1,q2,q3⟩:=z26 hE (Je hE hS kH) _ _ _ _ _ h
        split at h1
        .rename_i t ht
         obtain⟨f,cl,fR,aAb,s,hs,ht⟩:=xb2 ht;rcases HY t p1 h1 (hS.2.2.1 f s _ m t hs ht)with⟨v,m1,p',h2,h3⟩|⟨v,m1,h2,h3⟩
         .exact .inl (abV p' h2)
         .right
          obtain⟨cH,g1,g2,g3⟩:=SD _ _ _ h2;refine⟨_,g1,λds w0 R0 I w a hs b cs=>?_⟩;have eT:=(iZ.1 M4).1;obtain⟨s1,s2,s3,s4,s5⟩:=Td (c:=c) ops.toList 0 [];have hi:=qV8 TL
          have TF:E4 P m v m1 oc (t4 (aS ops.toList.length)):=by
           rw[q2];exact x90 fR aAb h3
          obtain⟨hm,cn,hd⟩:=hs;obtain⟨vT,pu⟩:=hm.drew;have ahB:=cn.mono pu
          have key:=zo6 (ds:=ds) (D:=λj=>!gJ (qK c ops.toList 0 []) j) (w0:=w0) (R0:=R0) (v:=v) (m':=m1) (aS:=aS) (aO:=aO) (fr:=fr) (c:=c)
           ⟨q1,λi o ho=>by
            have:=q3 i o ho;rw[gY]at this
            exact⟨λhD=>(this.1 (by simpa using hD)).1,λhD=>this.2 (by simpa using hD)⟩⟩ hi
           (λi o ho hD=>by
             have:=q3 i o ho;rw[gY]at this
             exact(this.1 (by simpa using hD)).2) M4 HE (by
             have:=s3 c oc M4 (gY c);rw[gY]at this
             simp[this]) TF
           (λi o ho hD BP=>by
             have:=s4 i o ho (by rw[gY];simpa using hD);rw[gY]at this;rcases this with h|h|⟨e,e1,e2,e3⟩
             .cases h
             .exact absurd h BP
             .exact⟨e,e1,e2,by simp[e3]⟩)
           (λj oj hj hD e e1 e2=>by
             cases h4:gJ (qK c ops.toList 0 []) e.on with
             |false=>simp
             |true=>
              have:=s5 j oj hj ⟨e,e1,e2,h4,by rw[gY];exact hi.back j oj hj e e1 e2⟩;rw[gY]at this
              simp[this]at hD)
           (Q:=λe a' w'=>∃u I',e=.panic [{v:=u,recovered:=false}] /\dG ds w0 R0 I' w' cH m1 a'/\m8 w0 R0 I w m I' w' m1/\aJ (RO w0 R0 I' w' m1) I' m1.next w' v u) (ρ0:=I) (wa:=w)
           (λI' w' a' u k1 k2 k3 k4 k5 k6=>⟨u,I',rfl,⟨k1,⟨g2.trans k2,λt=>by
             rcases g3 t with h|⟨h,h'⟩
             .rw[h];trivial
             .rw[h];exact k4 t h'⟩,k3⟩,k5,k6⟩) ops.toList.length (Array.replicate ops.toList.length false) I w.drew a (by simp)
           (by
             have:∀n,n<=ops.toList.length->nD (Array.replicate ops.toList.length false) n=n:=by
              intro n
              induction n with
              |zero=>intro _;rfl
              |succ n BE=>
               intro hn;simp only[nD,BE (by omega),fQ n (by omega)];simp
             exact this _ (bA _))
           (λj oj hj hl=>by
             rw[fQ j (iZ.1 hj).1]at hl;cases hl)
           (λk hk hl=>by rw[fQ k hk]at hl;cases hl) vT ahB.1 hd (λt=>by
             have T0:∀ (n:Nat),n<=ops.toList.length->cz ops.toList fr aO (λi=>(Array.replicate ops.toList.length false).getD i true) n t=fr.get t:=by
              intro n
              induction n with
              |zero=>intro _;rfl
              |succ n BE=>
               intro hn;simp only[cz];rw[au (λhc=>by have:=hc.1;rw[fQ n (by omega)]at this;cases this)];exact BE (by omega)
             rw[T0 _ (bA _)];exact ahB.2 t) pu
          have hw:(Code.region id ops true).wp P (λe a' w'=>∃u I',e=.panic [{v:=u,recovered:=false}] /\dG ds w0 R0 I' w' cH m1 a'/\m8 w0 R0 I w m I' w' m1/\aJ (RO w0 R0 I' w' m1) I' m1.next w' v u) a w:=wp_region_any ol (by simpa using key);obtain⟨e,a',w',⟨u,I',rfl,k1,k2,k3⟩,todo,rK⟩:=hw b k cs;exact⟨I',w',a',todo,u,k1,k2,k3,rK⟩
        .exact h1.elim
       .exact h.elim
      .exact h.elim
    left
    split at h
    .split at h
     .rename_i Nf
      obtain⟨p',aD,m',h1,h2⟩:=Xf hE (Fi hE hS kH) _ _ _ _ h;obtain⟨aS,aO,ms,hw⟩:=h2.toWalk
      have eA:mW E ops.toList ms (λ_=>true) ops.toList.length=m':=by rw[I1 (qF9 hw) _ (bA _) (λ_ _ _=>rfl),hw.D6]
      have eN:mW E ops.toList ms (λk=>(Array.replicate ops.toList.length false).getD k true) ops.toList.length=m:=by rw[IZ (i:=0) _ (rW _) (λk _ h2 _=>fQ k h2)];exact hw.mfirst
      exact⟨p',aD,m',h1,ord aD m' aS aO (λS=>mW E ops.toList ms S ops.toList.length) ⟨hw.first,hw.last,hw.next⟩ (λS S' hS=>Oz _ λk hk _=>hS k hk)
       (by rw[eA];exact⟨λ_=>rfl,rfl⟩) (by rw[eN];exact⟨λ_=>rfl,bA _⟩)
       (λ_ S i o bT jY eT Eu=>.inl (qG0 hw Nf S i o bT jY eT Eu))⟩
     .exact h.elim
    .split at h
     .rename_i Tn
      have Tn:=(aH _ _▸Tn).1;obtain⟨p',aD,m',h1,h2⟩:=z24 hE (Je hE hS kH) _ _ _ _ h;obtain⟨aS,aO,ms,hw⟩:=h2.toWalk;obtain⟨al,af,jE⟩:=jF9 Tn
      have aze:∀i o,ops.toList[i]? =some o->ey o.op=false->ms (i+1)=ms i:=λi o ho fW=>jG5 hw jE i o ho fW
      have eA:lB ops.toList ms (λ_=>true) ops.toList.length=m':=by rw[IY aze _ (bA _) (λ_ _ _=>rfl),hw.D6]
      have eN:lB ops.toList ms (λk=>(Array.replicate ops.toList.length false).getD k true) ops.toList.length=m:=by rw[IX (i:=0) _ (rW _) (λk _ h2 _=>fQ k h2)];exact hw.mfirst
      exact⟨p',aD,m',h1,ord aD m' aS aO (λS=>lB ops.toList ms S ops.toList.length) ⟨hw.first,hw.last,hw.next⟩ (λS S' hS=>Oy _ λk hk _=>hS k hk)
       (by rw[eA];exact⟨λ_=>rfl,rfl⟩) (by rw[eN];exact⟨λ_=>rfl,bA _⟩)
       (λcR S i o bT jY eT Eu=>.inl (jG6 hw jE cR.1 S i o bT jY eT Eu))⟩
     .exact abV _ h
  .exact h.elim
theorem su(hE:dF P E)(hS:uX P E)(ol:P.follows .mixedOrders=true):∀n:Nat,AR P (exec (α:=α) E n)
 |0=>λitems p fr m V L h=>h.elim
 |n+1=>by
  have Tg:=su hE hS ol n;intro items p fr m V L h
  change (S0 E (exec E n) items p fr m V).holds L at h
  -- on from where one step leads
  have og:∀ (gV:List Item) (p:ax) (aD:Fr) (m':Mem),(exec E n gV p aD m' V).holds L->dS P items fr m (.stop gV aD m')->∃out,(V out).holds L/\dS P items fr m out:=by
   intro gV p aD m' h1 h2;obtain⟨out,h3,h4⟩:=Tg _ _ _ _ _ _ h1;exact⟨out,h3,h2.trans h4⟩
  unfold S0 at h
  split at h;.exact⟨_,h,λds w0 R0 I w a hs b cs=>⟨I,w,a,[],hs,Ext.refl _ _ _ _,.one step_end⟩⟩
  .rename_i id k
   exact og _ _ _ _ h (dS.step λb a cs w _=>step_inBlock)
  .rename_i bd k
   exact og _ _ _ _ h (dS.step λb a cs w _=>jg7)
  .rename_i bd k
   split at h;.exact og _ _ _ _ h (dS.step λb a cs w _=>step_inLoop)
   .exact og _ _ _ _ h (dS.step λb a cs w _=>step_inLoop)
   .exact⟨_,h,dS.refl _ _ _⟩
  .rename_i c k
   cases c with
   |skip=>exact og _ _ _ _ h (dS.step λb a cs w _=>step_skip)
   |label l=>exact og _ _ _ _ h (dS.step λb a cs w _=>step_label)
   |region id ops draw=>
    rcases aup hE hS ol Tg h with⟨p',aD,m',h1,h2⟩|h
    .exact og _ _ _ _ h1 h2
    .exact h
   |seq x y=>exact og _ _ _ _ h (dS.step λb a cs w _=>step_seq)
   |cond c x y=>
    dsimp only[Cz]at h
    split at h
    .rename_i bb hc
     obtain⟨p',h⟩:=qy h
     have st:∀ (a:Act) (w:World),(∀x,∃R I n,aJ R I n w (t4 fr x) (a.eval x))->a.eval c=.bool bb:=λa w hx=>by
      obtain⟨R,I,n,h1⟩:=hx c;rw[hc]at h1;exact h1
     cases bb with
     |true=>exact og _ _ _ _ h (dS.step λb a cs w hx=>by have:=step_cond (P:=P) (b:=b) (a:=a) (k:=k) (cs:=cs) (w:=w) (x:=x) (y:=y) (st a w hx);simpa using this)
     |false=>exact og _ _ _ _ h (dS.step λb a cs w hx=>by have:=step_cond (P:=P) (b:=b) (a:=a) (k:=k) (cs:=cs) (w:=w) (x:=x) (y:=y) (st a w hx);simpa using this)
    .exact h.elim
   |block id bd=>exact og _ _ _ _ h (dS.step λb a cs w _=>step_block)
   |loop bd=>
    dsimp only[Cz]at h
    split at h;.exact og _ _ _ _ h (dS.step λb a cs w _=>step_loop)
    .exact og _ _ _ _ h (dS.step λb a cs w _=>step_loop)
    .exact⟨_,h,dS.refl _ _ _⟩
   |rangeFunc f ps H6 bd=>cases h
   |exit id=>
    dsimp only[Cz]at h
    split at h
    .rename_i k' hk
     exact og _ _ _ _ h (dS.step λb a cs w _=>step_exit hk)
    .exact h.elim
   |scope bd=>exact og _ _ _ _ h (dS.step λb a cs w _=>jh0)
   |goto l=>cases h
   |ret=>exact⟨_,h,λds w0 R0 I w a hs b cs=>⟨I,w,a,_,hs,Ext.refl _ _ _ _,.one step_ret⟩⟩
   |refuse why=>cases h
  .rename_i ops l k
   split at h;.exact og _ _ _ _ h (dS.step λb a cs w _=>step_region_end)
   .rename_i i rest
    split at h
    .rename_i hl
     have hl:=bG hl
     have bD:(ops.toList.drop i).length=ops.size-i:=by simp
     rcases Uq hE hS (Fi hE hS Tg) _ _ _ _ h with⟨p',aD,m',h1,h2⟩|⟨v,aD,m',h1,h2⟩
     .refine og _ _ _ _ h1 λds w0 R0 I w a hs b cs=>?_
      have:=WG (Q:=λe a' w'=>e=.normal/\∃I',dG ds w0 R0 I' w' aD m' a'/\m8 w0 R0 I w m I' w' m') h2 i rfl I w a hs (λI' w' a' g1 g2=>⟨rfl,I',g1,g2⟩);rw[bD,<-hl]at this
      have hq:wpOps P ops (λe a' w'=>e=.normal/\∃I',dG ds w0 R0 I' w' aD m' a'/\m8 w0 R0 I w m I' w' m') (i::rest) a w:=by simpa using this
      obtain⟨e,a',w',⟨rfl,I',g1,g2⟩,rK⟩:=wp_ops _ a w hq b k cs;exact⟨I',w',a',g1,g2,rK⟩
     .refine⟨_,h1,λds w0 R0 I w a hs b cs=>?_⟩
      have:=WI (Q:=λe a' w'=>∃u I',e=.panic [{v:=u,recovered:=false}] /\dG ds w0 R0 I' w' aD m' a'/\m8 w0 R0 I w m I' w' m'/\aJ (RO w0 R0 I' w' m') I' m'.next w' v u) h2 i rfl I w a hs (λI' w' a' u g1 g2 g3=>⟨u,I',rfl,g1,g2,g3⟩);rw[bD,<-hl]at this
      have hq:wpOps P ops (λe a' w'=>∃u I',e=.panic [{v:=u,recovered:=false}] /\dG ds w0 R0 I' w' aD m' a'/\m8 w0 R0 I w m I' w' m'/\aJ (RO w0 R0 I' w' m') I' m'.next w' v u) (i::rest) a w:=by simpa using this
      obtain⟨e,a',w',⟨u,I',rfl,g1,g2,g3⟩,todo,rK⟩:=wp_ops _ a w hq b k cs;exact⟨I',w',a',todo,u,g1,g2,g3,rK⟩
    .exact h.elim
  .exact h.elim
structure cV (P:Program) (E:Env):Prop where
 e:dF P E
 s:uX P E
 aL:P.follows .mixedOrders=true
def x84(hK:cV P E){n:Nat}(hd:f7 args=true)(sY:v.data=true)(h:(lY E n f args p).holds λx=>x.1=v):SCall P f args v:=by
 intro m w0 R0 I w vs hm bR;unfold lY at h
 split at h
 .rename_i fn jG
  have hf:=hK.e.fn f fn jG
  split at h
  .rename_i body hb
   split at h
   .rename_i hn
    obtain⟨fr,h1,h2,h3,h4⟩:=qz h;obtain⟨out,h5,h6⟩:=su hK.e hK.s hK.aL n _ _ _ _ _ _ h1
    cases out with
    |stop it aD m'=>cases h5
    |cE v aD m'=>cases h5
    |ret p' aD mc=>
     dsimp only at h5;obtain⟨v',h7,h8⟩:=qE hK.e h5;obtain rfl:v'=v:=h7;rw[nS hf hb hn];obtain⟨o1,o2⟩:=xh hm I;have cn:=pV h2 h3 h4 (j8.data (R':=RO w (RS w0 R0 I w m) I w ⟨0,.e⟩) (I':=I) (n':=0) o2 args vs hd bR)
     refine Calls.mono (ve hf hb h6 h8 o1 cn) λe w' ⟨u,he,I',g1,g2,g3⟩=>⟨u,he,?_⟩
     have cR:=Hand.start hm g1;obtain⟨k1,k2⟩:=cR.finish hm g1;exact⟨I,k1,k2,aJ.data (λb hb=>cR.ro b (.inr hb)) v' u sY g3⟩
   .exact h.elim
  .exact h.elim
 .exact h.elim
end
variable{w:World}
theorem Ot{R:Nat->Prop}:∀ (u:Ty) (vs rest:List Value),uZ u vs=some rest->∃v1,vs=v1++rest/\p7 R w u u.iH v1
 |.unit,vs,rest,h=>by simp only[uZ,uK]at h;exact⟨[],h,rfl⟩
 |.int k,vs,rest,h=>by
  unfold uZ at h
  split at h
  .split at h
   .rename_i hk
    injection h with h;subst h hk;exact⟨[_],rfl,rfl⟩
   .cases h
  .cases h
 |.bool,vs,rest,h=>by
  unfold uZ at h
  split at h
  .cases h
   exact⟨[_],rfl,rfl⟩
  .cases h
 |.str,vs,rest,h=>by
  unfold uZ at h
  split at h
  .cases h
   exact⟨[_],rfl,rfl⟩
  .cases h
 |.list t,vs,rest,h=>by
  unfold uZ at h
  split at h
  .cases h
   exact⟨[_],rfl,none,0,rfl,bA _,λh0=>absurd h0 (gZ _)⟩
  .cases h
 |.pair a b,vs,rest,h=>by
  unfold uZ at h
  split at h
  .rename_i vs1 h1
   obtain⟨v1,e1,r1⟩:=Ot a vs vs1 h1;obtain⟨v2,e2,r2⟩:=Ot b vs1 rest h;exact⟨v1++v2,by rw[e1,e2];simp,v1,v2,rfl,r1,r2⟩
  .cases h
variable{P:Program}
def Qc[wC P]{t:TypeId}{r:Row}(h:xk P t=some r):rV P t r:=by
 have T8:=h;unfold xk at h
 split at h
 .rename_i d i hd hi
  split at h
  .rename_i z hz
   injection h with h;have pq:∀hk:(r.ty=some (.int .u8)\/r.desc=.int .u8),r.size=1->EU t:=xv2 T8;subst h;refine⟨hd,⟨i,z,hi,rfl,rfl,hz,λR I n w=>PF R I n w _,λu hu R w=>?_⟩,rfl,rfl,pq⟩;dsimp only at hu;unfold Mk at hu
   split at hu
   .rename_i u' hu'
    split at hu
    .rename_i hc
     injection hu with hu;subst hu;obtain⟨v1,e1,r1⟩:=Ot (R:=R) (w:=w) u' _ _ hc;rw[wA]at e1;rw[e1];exact r1
    .cases hu
   .cases hu
  .cases h
 .cases h
def Se[wC P]{sum:FuncId->Option (List SV->Option (ak SV))}(ol:P.follows .mixedOrders=true)(ay2:uX P (Env.of P sum)):cV P (Env.of P sum):=
 ⟨⟨λt r h=>Qc h,λf fn h=>h,λt z h=>(by cases h)⟩,ay2,ol⟩
structure aB where
 f:FuncId
 s:List SV->Option (ak SV)
def j9(l:List aB)(f:FuncId):Option (List SV->Option (ak SV)):=
 List.rec (motive:=λ_=>Option (List SV->Option (ak SV))) none (λx _ ih=>match Nat.beq x.f f with
  |true=>some x.s
  |false=>ih) l
def aB.ok(P:Program)(x:aB):Prop:=∀args t,x.s args=some t->t.bw (SCall P x.f args)
theorem MB:∀ (l:List aB),(∀x∈l,x.ok P)->∀f s args t,j9 l f=some s->s args=some t->t.bw (SCall P f args)
 |[],_=>λf s args t h=>by cases h
 |x::l,h=>λf s args t hs ht=>by
  change (match Nat.beq x.f f with
   |true=>some x.s
   |false=>j9 l f)=some s at hs
  split at hs
  .rename_i hf
   cases hs;have:x.f=f:=gQ hf;subst this;exact h x mO args t ht
  .exact MB l (λy hy=>h y (rX _ hy)) f s args t hs ht
def SS(l:List aB)(h:∀x∈l,x.ok P):uX P (Env.of P (j9 l)):=⟨MB l h,λf s args m t h=>(by cases h),λf s args m t h=>(by cases h),λf s args B t h=>(by cases h),λf s args t h=>(by cases h)⟩
structure iY where
 f:FuncId
 s:List SV->Mem->Option (ak (SV×Mem))
def d9(l:List iY)(f:FuncId):Option (List SV->Mem->Option (ak (SV×Mem))):=
 List.rec (motive:=λ_=>Option (List SV->Mem->Option (ak (SV×Mem)))) none (λx _ ih=>match Nat.beq x.f f with
  |true=>some x.s
  |false=>ih) l
def iY.ok(P:Program)(x:iY):Prop:=∀args m t,x.s args m=some t->t.bw (Cq P x.f args m)
theorem S9:∀ (l:List iY),(∀x∈l,x.ok P)->∀f s args m t,d9 l f=some s->s args m=some t->t.bw (Cq P f args m)
 |[],_=>λf s args m t h=>by cases h
 |x::l,h=>λf s args m t hs ht=>by
  change (match Nat.beq x.f f with
   |true=>some x.s
   |false=>d9 l f)=some s at hs
  split at hs
  .rename_i hf
   cases hs;have:x.f=f:=gQ hf;subst this;exact h x mO args m t ht
  .exact S9 l (λy hy=>h y (rX _ hy)) f s args m t hs ht
def q38[wC P](ol:P.follows .mixedOrders=true){l:List aB}{k:List iY}(hl:∀x∈l,x.ok P)(hk:∀x∈k,x.ok P):cV P (Env.Sn P (j9 l) (d9 k)):=
 ⟨⟨λt r h=>Qc h,λf fn h=>h,λt z h=>(by cases h)⟩,⟨MB l hl,S9 k hk,λf s args m t h=>(by cases h),λf s args B t h=>(by cases h),λf s args t h=>(by cases h)⟩,ol⟩
def j6(l:List Nat)(f:FuncId):Bool:=l.any λx=>Nat.beq x f
structure kq where
 f:FuncId
 s:List SV->Mem->Option (ak Ex)
def f0(l:List kq)(f:FuncId):Option (List SV->Mem->Option (ak Ex)):=
 List.rec (motive:=λ_=>Option (List SV->Mem->Option (ak Ex))) none (λx _ ih=>match Nat.beq x.f f with
  |true=>some x.s
  |false=>ih) l
def kq.ok(P:Program)(x:kq):Prop:=∀args m t,x.s args m=some t->t.bw (AP P x.f args m)
theorem xb0:∀ (l:List kq),(∀x∈l,x.ok P)->∀f s args m t,f0 l f=some s->s args m=some t->t.bw (AP P f args m)
 |[],_=>λf s args m t h=>by cases h
 |x::l,h=>λf s args m t hs ht=>by
  change (match Nat.beq x.f f with
   |true=>some x.s
   |false=>f0 l f)=some s at hs
  split at hs
  .rename_i hf
   cases hs;have:x.f=f:=gQ hf;subst this;exact h x mO args m t ht
  .exact xb0 l (λy hy=>h y (rX _ hy)) f s args m t hs ht
structure bF where
 f:FuncId
 s:List SV->aR->Option (ak (Bool×SV×aR))
def b9(l:List bF)(f:FuncId):Option (List SV->aR->Option (ak (Bool×SV×aR))):=
 List.rec (motive:=λ_=>Option (List SV->aR->Option (ak (Bool×SV×aR)))) none (λx _ ih=>match Nat.beq x.f f with
  |true=>some x.s
  |false=>ih) l
def bF.ok(P:Program)(x:bF):Prop:=∀args B t,x.s args B=some t->t.bw (lW P x.f args B)
theorem W2:∀ (l:List bF),(∀x∈l,x.ok P)->∀f s args B t,b9 l f=some s->s args B=some t->t.bw (lW P f args B)
 |[],_=>λf s args m t h=>by cases h
 |x::l,h=>λf s args m t hs ht=>by
  change (match Nat.beq x.f f with
   |true=>some x.s
   |false=>b9 l f)=some s at hs
  split at hs
  .rename_i hf
   cases hs;have:x.f=f:=gQ hf;subst this;exact h x mO args m t ht
  .exact W2 l (λy hy=>h y (rX _ hy)) f s args m t hs ht
def Fj(m:Mem)(id:Nat):ak (Bool×SV×aR)->ak Ex
 |.ai x=>m.set id (some x.2.2) λm'=>.ai (match x.1 with
  |true=>.cE x.2.1 m'
  |false=>.ok x.2.1 m')
 |.ag b t f=>.ag b (Fj m id t) (Fj m id f)
 |.aj b t=>.aj b (Fj m id t)
 |.aA n=>.aA n
def OJ(s:List SV->aR->Option (ak (Bool×SV×aR)))(args:List SV)(m:Mem):Option (ak Ex):=
 match args with
 |x::rest=>match x with
  |.ptr id off=>match Nat.beq off 0 with
   |true=>match m.get id with
    |some B=>match s rest B with
     |some t=>some (Fj m id t)
     |none=>none
    |none=>none
   |false=>none
  |_=>none
 |_=>none
def bF.toP(x:bF):kq:=⟨x.f,OJ x.s⟩
theorem F3{β O:Type}{Φ:O->Prop}:∀ (d:Nat) (t:Tb β) (i:Nat) (v:Option β) (k:Tb β->ak O),(∀t',AQ t i v t'->(k t').bw Φ)->(e9 d t i v k).bw Φ
 |0,_,_,_,_,_=>trivial
 |d+1,.e,0,v,k,h=>h _ λj=>by cases j with
   |zero=>simp[Tb.tg]
   |succ j=>rw[Tb.iF];by_cases hj:j % 2=0<;>simp[Tb.fG,Tb.fF,hj,Tb.jH]
 |d+1,.n l u r,0,v,k,h=>h _ λj=>by cases j with
   |zero=>simp[Tb.tg]
   |succ j=>simp[Tb.iF]
 |d+1,.e,i+1,v,k,h=>by
  change ak.bw Φ (Tb.pick i (λi=>e9 d .e i v λl=>k (.n l none .e)) (λi=>e9 d .e i v λr=>k (.n .e none r)))
  by_cases hi:i % 2=0
  .rw[Tb.fG hi]
   refine F3 d _ _ _ _ λt' h1=>h _ λj=>?_
   cases j with
   |zero=>simp[Tb.tg,Tb.jH]
   |succ j=>
    rw[Tb.iF]
    by_cases hj:j % 2=0
    .rw[Tb.fG hj,h1 (j / 2),Tb.jH,Tb.jH]
     have:j / 2=i / 2↔j+1=i+1:=by omega
     simp[this]
    .rw[Tb.fF hj,Tb.jH,Tb.jH,au (by omega)]
  .rw[Tb.fF hi]
   refine F3 d _ _ _ _ λt' h1=>h _ λj=>?_
   cases j with
   |zero=>simp[Tb.tg,Tb.jH]
   |succ j=>
    rw[Tb.iF]
    by_cases hj:j % 2=0
    .rw[Tb.fG hj,Tb.jH,Tb.jH,au (by omega)]
    .rw[Tb.fF hj,h1 (j / 2),Tb.jH,Tb.jH]
     have:j / 2=i / 2↔j+1=i+1:=by omega
     simp[this]
 |d+1,.n l u r,i+1,v,k,h=>by
  change ak.bw Φ (Tb.pick i (λi=>e9 d l i v λl=>k (.n l u r)) (λi=>e9 d r i v λr=>k (.n l u r)))
  by_cases hi:i % 2=0
  .rw[Tb.fG hi]
   refine F3 d _ _ _ _ λt' h1=>h _ λj=>?_
   cases j with
   |zero=>simp[Tb.tg]
   |succ j=>
    rw[Tb.iF,Tb.iF]
    by_cases hj:j % 2=0
    .rw[Tb.fG hj,Tb.fG hj,h1 (j / 2)]
     have:j / 2=i / 2↔j+1=i+1:=by omega
     simp[this]
    .rw[Tb.fF hj,Tb.fF hj,au (by omega)]
  .rw[Tb.fF hi]
   refine F3 d _ _ _ _ λt' h1=>h _ λj=>?_
   cases j with
   |zero=>simp[Tb.tg]
   |succ j=>
    rw[Tb.iF,Tb.iF]
    by_cases hj:j % 2=0
    .rw[Tb.fG hj,Tb.fG hj,au (by omega)]
    .rw[Tb.fF hj,Tb.fF hj,h1 (j / 2)]
     have:j / 2=i / 2↔j+1=i+1:=by omega
     simp[this]
variable{m:Mem}{id:Nat}
def QS{O:Type}{Φ:O->Prop}{b:Option aR}{k:Mem->ak O}(h:∀m',mT m id b m'->(k m').bw Φ):(m.set id b k).bw Φ:=
 F3 40 _ _ _ _ λt' ht=>h ⟨m.next,t'⟩ ⟨ht,rfl⟩
variable{f:FuncId}{args:List SV}
theorem Jg{B:aR}(hB:m.get id=some B):∀ (t:ak (Bool×SV×aR)),t.bw (lW P f args B)->(Fj m id t).bw (AP P f (.ptr id 0::args) m)
 |.ai x,h=>QS λm' hm=>h m m' id hB hm
 |.ag _ t f',h=>⟨λhb=>Jg hB t (h.1 hb),λhb=>Jg hB f' (h.2 hb)⟩
 |.aj _ t,h=>λhb=>Jg hB t (h hb)
 |.aA _,_=>trivial
def bF.toP_ok{x:bF}(h:x.ok P):x.toP.ok P:=by
 intro args m t ht
 change OJ x.s args m=some t at ht
 unfold OJ at ht
 split at ht
 .split at ht
  .split at ht
   .rename_i off h0
    split at ht
    .rename_i B hB
     split at ht
     .rename_i t' rH
      cases ht;rw[gQ h0];exact Jg hB t' (h _ B t' rH)
     .cases ht
    .cases ht
   .cases ht
  .cases ht
 .cases ht
def q36[wC P](ol:P.follows .mixedOrders=true){l:List aB}{k:List iY}{j:List kq}{i:List bF}(hl:∀x∈l,x.ok P)(hk:∀x∈k,x.ok P)(hj:∀x∈j,x.ok P)(hi:∀x∈i,x.ok P)(C7:TypeId->Bool)(fD rd:FuncId->Bool)(cut:Nat->Bool):cV P (Env.cq P (j9 l) (d9 k) (f0 j) (b9 i) C7 fD rd cut):=
 ⟨⟨λt r h=>Qc h,λf fn h=>h,λt z h=>by
   change (P.info? t).bind (λi=>i.zero)=some z at h
   cases hi:P.info? t with
   |none=>rw[hi]at h;cases h
   |some i=>rw[hi]at h;exact⟨i,rfl,h⟩⟩,⟨MB l hl,S9 k hk,xb0 j hj,W2 i hi,λf s args t h=>(by cases h)⟩,ol⟩
structure Az where
 f:FuncId
 s:List SV->Option (ak (SV×Mem))
def CY(l:List Az)(f:FuncId):Option (List SV->Option (ak (SV×Mem))):=
 List.rec (motive:=λ_=>Option (List SV->Option (ak (SV×Mem)))) none (λx _ ih=>match Nat.beq x.f f with
  |true=>some x.s
  |false=>ih) l
def Az.ok(P:Program)(x:Az):Prop:=∀args t,x.s args=some t->t.bw (yQ P x.f args)
theorem Zk:∀ (l:List Az),(∀x∈l,x.ok P)->∀f s args t,CY l f=some s->s args=some t->t.bw (yQ P f args)
 |[],_=>λf s args t h=>by cases h
 |x::l,h=>λf s args t hs ht=>by
  change (match Nat.beq x.f f with
   |true=>some x.s
   |false=>CY l f)=some s at hs
  split at hs
  .rename_i hf
   cases hs;have:x.f=f:=gQ hf;subst this;exact h x mO args t ht
  .exact Zk l (λy hy=>h y (rX _ hy)) f s args t hs ht
variable{E:Env}
def q37(h:cV P E){l:List Az}(hl:∀x∈l,x.ok P):cV P (Env.L7 E (CY l)):=
 ⟨⟨h.e.row,h.e.fn,h.e.zv⟩,⟨h.s.1,h.s.2.1,h.s.2.2.1,h.s.2.2.2.1,Zk l hl⟩,h.aL⟩
variable{v:SV}
def x83[wC P](ol:P.follows .mixedOrders=true)(l:List aB)(hl:∀x∈l,x.ok P)(n:Nat)(p:ax){t:ak (SV×Mem)}(ht:lY (Env.of P (j9 l)) n f args p=t)(h:t.holds λx=>x.1=v)(hd:f7 args=true)(hv:v.data=true):SCall P f args v:=
 x84 (Se ol (SS l hl)) hd hv (by rw[ht];exact h)
open Go.RowKit Go.WideShapes
def Ty.fits:(t:Ty)->t.T->Prop
 |.unit,_=>True
 |.int k,n=>(Lit.int k n).wf=true
 |.bool,_=>True
 |.str,s=>List.length s<=maxLen
 |.list t,l=>List.length l<=maxLen/\∀x∈(show List t.T from l),t.fits x
 |.pair a b,x=>a.fits x.1/\b.fits x.2
def ak.aO:ak (SV×Mem)->ak SV
 |.ai x=>.ai x.1
 |.ag b t f=>.ag b t.aO f.aO
 |.aj b t=>.aj b t.aO
 |.aA n=>.aA n
theorem ak.F7{L:SV->Prop}:∀t:ak (SV×Mem),t.aO.holds L->t.holds λx=>L x.1
 |.ai _,h=>h
 |.ag _ t f,h=>⟨λhb=>t.F7 (h.1 hb),λhb=>f.F7 (h.2 hb)⟩
 |.aj _ t,h=>⟨h.1,t.F7 h.2⟩
 |.aA _,h=>h
def mR(P:Program):List aB->Prop
 |[] =>True
 |x::l=>x.ok P/\mR P l
theorem mR.all:∀{l:List aB},mR P l->∀x∈l,x.ok P
 |_::_,h,_,.head _=>h.1
 |_::_,h,_,.tail _ hx=>h.2.all _ hx
def v9[wC P](ol:P.follows .mixedOrders=true)(l:List aB)(hl:mR P l)(n:Nat)(p:ax){t:ak SV}
  (ht:(lY (Env.of P (j9 l)) n f args p).aO=t) (h:t.holds λx=>x=v) (hd:f7 args=true) (hv:v.data=true):SCall P f args v:=
 x83 ol l hl.all n p rfl (ak.F7 _ (by rw[ht];exact h)) hd hv
def aY[wC P](ol:P.follows .mixedOrders=true)(l:List aB)(hl:mR P l)(n:Nat)(p:ax){t:ak SV}
  (ht:(lY (Env.of P (j9 l)) n f args p).aO=t) (h:t.holds λx=>x=v) (hk:(f7 args&&v.data)=true):SCall P f args v:=by
 rw[aH]at hk;exact v9 ol l hl n p ht h hk.1 hk.2
def MT{x:Int}(h: -9223372036854775808<=x)(k:x<=9223372036854775807):IntKind.wrap .i64 x=x:=by
 have h2:IntKind.wrap .i64 x=if true&&x % 18446744073709551616>=9223372036854775808 then x % 18446744073709551616-18446744073709551616 else x % 18446744073709551616:=rfl
 rw[h2];simp only[tA,aV]
 split<;>omega
def oZ(fr:Fr):List Bool->Nat->List SV
 |[],_=>[]
 |true::ks,t=>fr.get t::oZ fr ks (t+1)
 |false::ks,t=>.di::oZ fr ks (t+1)
theorem MZ(fr:Fr):∀ (ks:List Bool) (t i:Nat) (x:SV),(oZ fr ks t)[i]? =some x->x=.di\/x=fr.get (t+i)
 |[],_,_,_,h=>by simp[oZ]at h
 |true::ks,t,0,x,h=>by simp[oZ]at h;exact .inr h.symm
 |false::ks,t,0,x,h=>by simp[oZ]at h;exact .inl h.symm
 |true::ks,t,i+1,x,h=>by
  have:=MZ fr ks (t+1) i x (by simpa[oZ]using h)
  rwa [show t+(i+1)=t+1+i by omega]
 |false::ks,t,i+1,x,h=>by
  have:=MZ fr ks (t+1) i x (by simpa[oZ]using h)
  rwa [show t+(i+1)=t+1+i by omega]
structure lS (slots:List SV) (boxes:List (Option aR)) (fr:Fr) (m:Mem):Prop where
 size:fr.size=slots.length
 get:∀t,fr.get t=slots.getD t .undef
 next:m.next=boxes.length
 box:∀id,m.get id=(boxes[id]?).join
inductive Stop where
 |done (v:SV)
 |at(items:List Item) (size:Nat) (slots:List SV) (boxes:List (Option aR))
def CP{α:Type}:List (Option aR)->Mem->(Mem->ak α)->ak α
 |[],m,k=>k m
 |some B::l,m,k=>m.push B λm _=>CP l m k
 |none::l,m,k=>CP l ⟨m.next+1,m.tb⟩ k
theorem JQ{α:Type}{L:α->Prop}:∀ (l:List (Option aR)) (m:Mem) (k:Mem->ak α),(CP l m k).holds L->(∀id,m.next<=id->m.get id=none)->
  ∃m',(k m').holds L/\m'.next=m.next+l.length/\(∀id,id<m.next->m'.get id=m.get id)/\∀id,m'.get (m.next+id)=(l[id]?).join
 |[],m,k,h,hf=>⟨m,h,rfl,λ_ _=>rfl,λid=>by simpa using hf (m.next+id) (by omega)⟩
 |none::l,m,k,h,hf=>by
  obtain⟨m',h1,h2,h3,h4⟩:=JQ l ⟨m.next+1,m.tb⟩ k h λid aI=>hf id (by dsimp only at aI;omega)
  refine⟨m',h1,by rw[h2];simp;omega,λid aI=>h3 id (by dsimp only;omega),λid=>?_⟩
  cases id with
  |zero=>
   rw[h3 (m.next+0) (by dsimp only;omega)]
   simpa[Mem.get]using hf m.next (bA _)
  |succ id=>
   have:=h4 id;dsimp only at this;rw[show m.next+(id+1)=m.next+1+id by omega,this];simp
 |some B::l,m,k,h,hf=>by
  obtain⟨m1,hp,h0⟩:=Mem.nB (k:=λm _=>CP l m k) h
  obtain⟨m',h1,h2,h3,h4⟩:=JQ l m1 k h0 λid aI=>by
   rw[hp.2]at aI;rw[hp.1 id,au (by omega)];exact hf id (by omega)
  rw[hp.2]at h2 h3 h4;refine⟨m',h1,by rw[h2];simp;omega,λid aI=>?_,λid=>?_⟩;.rw[h3 id (by omega),hp.1 id,au (by omega)]
  .cases id with
   |zero=>
    rw[h3 (m.next+0) (by omega),hp.1];simp
   |succ id=>
    rw[show m.next+(id+1)=m.next+1+id by omega,h4 id];simp
def enter:List Item->List Item
 |.code (.loop b)::k=>.code b::.inLoop b::k
 |.inLoop b::k=>.code b::.inLoop b::k
 |x=>x
def zQ:Code->List Item->List (List Item)
 |.seq a b,k=>zQ a (.code b::k)++zQ b k
 |.cond _ x y,k=>zQ x k++zQ y k
 |.block id b,k=>zQ b (.inBlock id::k)
 |.scope b,k=>zQ b (.inScope b::k)
 |.loop b,k=>(.code b::.inLoop b::k)::zQ b (.inLoop b::k)
 |_,_=>[]
def x9(P:Program)(f:FuncId):Func:=match P.funcs[f]? with
 |some fn=>fn
 |none=>default
def A0(P:Program)(f:FuncId):Code:=match(x9 P f).body with
 |some b=>b
 |none=>.skip
def x8(P:Program)(f:FuncId)(i:Nat):List Item:=((zQ (A0 P f) [])[i]?).getD []
def jl8{β:Type}:∀ (i:Nat) (t:Tb β) (v:Option β),∃t',AQ t i v t':=by
 intro i
 induction i using Nat.strongRecOn with
 |ind i ih=>
  intro t v
  obtain⟨l,x,r,hg⟩:∃l x r,∀k,t.get k=(Tb.n l x r).get k:=by
   cases t with
   |n l x r=>exact⟨l,x,r,λ_=>rfl⟩
   |e=>
    refine⟨.e,none,.e,λk=>?_⟩
    cases k with
    |zero=>rfl
    |succ j=>
     rw[Tb.iF]
     by_cases h:j % 2=0
     .rw[Tb.fG h];rfl
     .rw[Tb.fF h];rfl
  cases i with
  |zero=>
   refine⟨.n l v r,λk=>?_⟩
   cases k with
   |zero=>rfl
   |succ j=>rw[au (by omega),hg];rfl
  |succ i=>
   by_cases hi:i % 2=0
   .obtain⟨l',hl⟩:=ih (i / 2) (by omega) l v
    refine⟨.n l' x r,λk=>?_⟩
    cases k with
    |zero=>rw[au (by omega),hg];rfl
    |succ j=>
     rw[hg,Tb.iF,Tb.iF]
     by_cases h:j % 2=0
     .rw[Tb.fG h,Tb.fG h,hl]
      by_cases e:j=i
      .subst e;simp
      .rw[au (by omega),au (by omega)]
     .rw[Tb.fF h,Tb.fF h,au (by omega)]
   .obtain⟨r',hr⟩:=ih (i / 2) (by omega) r v
    refine⟨.n l x r',λk=>?_⟩
    cases k with
    |zero=>rw[au (by omega),hg];rfl
    |succ j=>
     rw[hg,Tb.iF,Tb.iF]
     by_cases h:j % 2=0
     .rw[Tb.fG h,Tb.fG h,au (by omega)]
     .rw[Tb.fF h,Tb.fF h,hr]
      by_cases e:j=i
      .subst e;simp
      .rw[au (by omega),au (by omega)]
theorem ak.BL{α:Type}{L L':α->Prop}(h:∀x,L x->L' x):∀t:ak α,t.holds L->t.holds L'
 |.ai _,k=>h _ k
 |.ag _ t f,k=>⟨λhb=>t.BL h (k.1 hb),λhb=>f.BL h (k.2 hb)⟩
 |.aj _ t,k=>⟨k.1,t.BL h k.2⟩
 |.aA _,k=>k
variable{slots:List SV}
def lS.of{boxes:List (Option aR)}:∃fr m,lS slots boxes fr m:=by
 have hS:∀ (l:List SV) (t:Tb SV) (i:Nat),∃t':Tb SV,∀k,t'.get k=if i<=k/\k<i+l.length then l[k-i]? else t.get k:=by
  intro l
  induction l with
  |nil=>exact λt i=>⟨t,λk=>by rw[au (by simp)]⟩
  |cons x l ih=>
   intro t i;obtain⟨t1,h1⟩:=ih t (i+1);have:∃t',AQ t1 i (some x) t':=jl8 i t1 (some x);obtain⟨t',rH⟩:=this;refine⟨t',λk=>?_⟩;rw[rH k]
   by_cases hk:k=i
   .subst hk;simp
   .rw[au hk,h1 k]
    by_cases h2:i+1<=k/\k<i+1+l.length
    .rw[ay h2,ay (by simp;omega)]
     rw[show k-i=(k-(i+1))+1 by omega];simp
    .rw[au h2,au (by simp;omega)]
 have hB:∀ (l:List (Option aR)) (t:Tb aR) (i:Nat),∃t':Tb aR,∀k,t'.get k=if i<=k/\k<i+l.length then(l[k-i]?).join else t.get k:=by
  intro l
  induction l with
  |nil=>exact λt i=>⟨t,λk=>by rw[au (by simp)]⟩
  |cons x l ih=>
   intro t i;obtain⟨t1,h1⟩:=ih t (i+1);obtain⟨t',rH⟩:=jl8 i t1 x;refine⟨t',λk=>?_⟩;rw[rH k]
   by_cases hk:k=i
   .subst hk;simp
   .rw[au hk,h1 k]
    by_cases h2:i+1<=k/\k<i+1+l.length
    .rw[ay h2,ay (by simp;omega)]
     rw[show k-i=(k-(i+1))+1 by omega];simp
    .rw[au h2,au (by simp;omega)]
 obtain⟨t,ht⟩:=hS slots .e 0;obtain⟨u,hu⟩:=hB boxes .e 0;refine⟨⟨slots.length,t⟩,⟨boxes.length,u⟩,⟨rfl,λk=>?_,rfl,λk=>?_⟩⟩
 .unfold Fr.get
  rw[ht k,cK]
  by_cases h:k<slots.length
  .rw[ay (by omega)];simp[h]
  .rw[au (by omega)]
   rw[Tb.jH,qU (by omega)];rfl
 .unfold Mem.get
  rw[hu k]
  by_cases h:k<boxes.length
  .rw[ay (by omega)];simp
  .rw[au (by omega)]
   rw[Tb.jH,qU (by omega)];rfl
variable{ds:List Deferred}{w0:World}{R0:eo}{I:bu}{a:Act}
def lS.swap{boxes:List (Option aR)}{fr aD:Fr}{m':Mem}(h:lS slots boxes fr m)(h':lS slots boxes aD m')(hs:dG ds w0 R0 I w fr m a):
  dG ds w0 R0 I w aD m' a/\(∀b,RO w0 R0 I w m b↔RO w0 R0 I w m' b):=by
 have hg:∀id,m'.get id=m.get id:=λid=>by rw[h.box,h'.box]
 have hn:m'.next=m.next:=by rw[h.next,h'.next]
 have dZ:RO w0 R0 I w m'=RO w0 R0 I w m:=by
  funext b
  unfold RO;simp only[hg]
 obtain⟨h1,h2,h3⟩:=hs;refine⟨⟨⟨h1.below,λid B hB=>?_,λid B hB=>h1.lo id B (by rw[<-hg];exact hB),λid B hB=>h1.hi id B (by rw[<-hg];exact hB),λid bY B B' hB rN=>h1.inj id bY B B' (by rw[<-hg];exact hB) (by rw[<-hg];exact rN),λid B hB=>?_,h1.aI.1,λid B hB=>h1.aI.2 id B (by rw[<-hg];exact hB)⟩,⟨?_,λt=>?_⟩,h3⟩,λb=>by rw[dZ]⟩;.rw[hn];exact h1.lt id B (by rw[<-hg];exact hB)
 .rw[dZ,hn];exact h1.box id B (by rw[<-hg];exact hB)
 .rw[h'.size,<-h.size];exact h2.1
 .rw[dZ,hn,h'.get,<-h.get];exact h2.2 t
def Zb(l:List SV)(k t:Nat):(l++List.replicate k SV.undef).getD t .undef=l.getD t .undef:=by
 simp only[cK]
 by_cases h:t<l.length
 .rw[yE h]
 .rw[uN (by omega),qU (l:=l) (by omega)]
  cases hx:(List.replicate k SV.undef)[t-l.length]? with
  |none=>rfl
  |some x=>
   have:=List.eq_of_mem_replicate (If hx);subst this;rfl
theorem qU9:∀{l:List Nat} {k j:Nat},idx l k=some j->l[j]? =some k
 |x::l,k,j,h=>by
  unfold idx at h
  split at h
  .rename_i hx
   cases h;simp[gQ hx]
  .split at h
   .rename_i j' hj
    cases h
    simpa using qU9 hj
   .cases h
mutual
/-- A value with its boxes named anew. -/
def lI(ids:List Nat):SV->SV
 |.row id=>match idx ids id with|some k=>.row k|none=>.di
 |.arr id o n=>match idx ids id with|some k=>.arr k o n|none=>.di
 |.ptr id o=>match idx ids id with|some k=>.ptr k o|none=>.di
 |.iy id z i o=>match idx ids id with|some k=>.iy k z i o|none=>.di
 |.agg cs=>.agg (kX ids cs)
 |.tuple cs=>.tuple (kX ids cs)
 |.fn f a b=>.fn f (kX ids a) (kX ids b)
 |v=>v
def kX(ids:List Nat):List SV->List SV
 |[] =>[]
 |x::xs=>lI ids x::kX ids xs
end
def zr(ids:List Nat):aR->aR
 |.cells cs=>.cells (kX ids cs)
 |.rows t l=>.rows t l
 |.iter s p=>.iter s p
 |.obj t cs=>.obj t (kX ids cs)
def Gq(m:Mem):List Nat->List Nat->List Nat
 |[],l=>l
 |id::r,l=>Gq m r (match m.get id with
  |some (.cells cs)=>rz cs l
  |some (.obj _ cs)=>rz cs l
  |_=>l)
def live(m:Mem)(slots:List SV):List Nat:=
 let l:=rz slots []
 let l:=Gq m l l
 Gq m l l
def Fv:List Nat->Bool
 |[] =>true
 |x::l=>(match idx l x with|some _=>false|none=>true)&&Fv l
theorem qV1:∀{l:List Nat} {k:Nat},idx l k=none->k∉l
 |[],_,_=>aih
 |x::l,k,h=>by
  unfold idx at h
  split at h;.cases h
  .rename_i hx
   split at h;.cases h
   .rename_i hj
    intro hm
    cases hm with
    |head=>simp at hx
    |tail _ hm=>exact qV1 hj hm
theorem O8:∀{l:List Nat},Fv l=true->l.Nodup
 |[],_=>List.nodup_nil
 |x::l,h=>by
  simp only[Fv,aH]at h;refine aii.2 ⟨?_,O8 h.2⟩;have h1:=h.1
  split at h1;.cases h1
  .rename_i hx;exact qV1 hx
section
variable {R R':Nat->Prop} {I I':bu} {n n':Nat} {w:World} {ids:List Nat}
mutual
theorem aJ.lI(hR:∀b,R b->R' b)(hρ:∀id k,idx ids id=some k->k<n'/\I' k=I id):∀ (x:SV) (v:Value),aJ R I n w x v->aJ R' I' n' w (Go.Sx.lI ids x) v
 |.undef,_,h=>h
 |.di,_,h=>trivial
 |.int _ _,_,h=>h
 |.bool _,_,h=>h
 |.str _,_,h=>h
 |.cm,_,h=>h
 |.list t l,v,h=>p7.mono (λb hb=>⟨hR b hb,rfl⟩) (.list t) l [v] h
 |.row id,v,h=>by
  unfold Go.Sx.lI
  split
  .rename_i k hk
   obtain⟨h1,h2⟩:=hρ id k hk;obtain⟨_,h⟩:=h;exact⟨h1,by rw[h2];exact h⟩
  .trivial
 |.arr id _ _,v,h=>by
  unfold Go.Sx.lI
  split
  .rename_i k hk
   obtain⟨h1,h2⟩:=hρ id k hk;exact⟨h1,by rw[h2];exact h.2⟩
  .trivial
 |.ptr id _,v,h=>by
  unfold Go.Sx.lI
  split
  .rename_i k hk
   obtain⟨h1,h2⟩:=hρ id k hk;exact⟨h1,by rw[h2];exact h.2⟩
  .trivial
 |.pY,_,h=>h
 |.jt t l i off,v,h=>by
  obtain⟨b,o,h1,h2,h3⟩:=h;exact⟨b,o,h1,h2,h3.mono λb hb=>⟨hR b hb,rfl⟩⟩
 |.iy id _ _ _,v,h=>by
  unfold Go.Sx.lI
  split
  .rename_i k hk
   obtain⟨h1,h2⟩:=hρ id k hk;exact⟨h1,by rw[h2];exact h.2⟩
  .trivial
 |.agg cs,v,h=>by
  obtain⟨vs,h1,h2⟩:=h;exact⟨vs,h1,j8.lI hR hρ cs vs h2⟩
 |.tuple cs,v,h=>by
  obtain⟨vs,h1,h2⟩:=h;exact⟨vs,h1,j8.lI hR hρ cs vs h2⟩
 |.fn f first cap,v,h=>by
  obtain⟨vs,us,h1,h2,h3⟩:=h;exact⟨vs,us,h1,j8.lI hR hρ first vs h2,j8.lI hR hρ cap us h3⟩
 |.dO _,_,h=>h
theorem j8.lI(hR:∀b,R b->R' b)(hρ:∀id k,idx ids id=some k->k<n'/\I' k=I id):∀ (xs:List SV) (vs:List Value),j8 R I n w xs vs->j8 R' I' n' w (Go.Sx.kX ids xs) vs
 |[],_,h=>h
 |x::xs,vs,h=>by
  obtain⟨v,us,h1,h2,h3⟩:=h;exact⟨v,us,h1,aJ.lI hR hρ x v h2,j8.lI hR hρ xs us h3⟩
end
theorem fN.lI(hR:∀b,R b->R' b)(hρ:∀id k,idx ids id=some k->k<n'/\I' k=I id){r:Nat×Nat×Nat}:∀ (B:aR),fN R I n w r B->fN R' I' n' w r (zr ids B)
 |.cells cs,h=>by
  obtain⟨arr,e,fr,h1,h2,h3⟩:=h;exact⟨arr,e,fr,h1,h2,j8.lI hR hρ _ _ h3⟩
 |.rows t l,h=>by
  obtain⟨h1,h2,h3⟩:=h;refine⟨h1,h2,λh0=>?_⟩;obtain⟨arr,e,fr,k1,k2,k3,k4⟩:=h3 h0;refine⟨arr,e,fr,k1,k2,k3,λi hi=>?_⟩;obtain⟨cs,c1,c2,c3⟩:=k4 i hi;exact⟨cs,c1,c2,p7.mono (λb hb=>⟨hR b hb,rfl⟩) _ _ _ c3⟩
 |.iter s pos,h=>h
 |.obj t cs,h=>by
  obtain⟨arr,h1,h3⟩:=h;exact⟨arr,h1,j8.lI hR hρ _ _ h3⟩
end
def Em{r:Nat×Nat×Nat}{ids:List Nat}:∀ (B:aR),fJ r (zr ids B)↔fJ r B
 |.cells _=>Iff.rfl
 |.rows _ _=>Iff.rfl
 |.iter _ _=>Iff.rfl
 |.obj _ _=>Iff.rfl
theorem qH9(ids:List Nat):∀ (l:List SV) (t:Nat),(kX ids l).getD t .undef=lI ids (l.getD t .undef)
 |[],t=>by cases t<;>rfl
 |x::l,0=>rfl
 |x::l,t+1=>by
  have:=qH9 ids l t
  simpa[kX]using this
theorem XJ:∀{l:List Nat},l.Nodup->∀ (i j:Nat) (x:Nat),l[i]? =some x->l[j]? =some x->i=j
 |[],_,i,j,x,h,_=>by simp at h
 |y::l,hn,i,j,x,hi,hj=>by
  rw[aii]at hn
  cases i with
  |zero=>
   cases j with
   |zero=>rfl
   |succ j=>
    simp at hi hj;subst hi;exact absurd (If hj) hn.1
  |succ i=>
   cases j with
   |zero=>
    simp at hi hj;subst hj;exact absurd (If hi) hn.1
   |succ j=>rw[XJ hn.2 i j x (by simpa using hi) (by simpa using hj)]
def dG.rename{fr cH:Fr}{m2:Mem}{ids:List Nat}(h:dG ds w0 R0 I w fr m a)(hn:ids.Nodup)
  (hc:lS (kX ids slots) (ids.map λid=>(m.get id).map (zr ids)) cH m2) (bD:slots.length=fr.size) (hs:∀ (i:Nat) (x:SV),slots[i]? =some x->x=.di\/x=fr.get i):
  dG ds w0 R0 (λk=>I (ids.getD k 0)) w cH m2 a/\∀b,RO w0 R0 I w m b->RO w0 R0 (λk=>I (ids.getD k 0)) w m2 b:=by
 obtain⟨h1,h2,h3⟩:=h
 have hg:∀k B,m2.get k=some B->∃id B0,ids[k]? =some id/\m.get id=some B0/\B=zr ids B0:=λk B hB=>by
  rw[hc.box k]at hB;simp only[AB]at hB
  cases hx:ids[k]? with
  |none=>rw[hx]at hB;cases hB
  |some id=>
   rw[hx]at hB
   cases hy:m.get id with
   |none=>simp[hy]at hB
   |some B0=>simp[hy]at hB;exact⟨id,B0,rfl,hy,hB.symm⟩
 have Ah:∀k id,ids[k]? =some id->I (ids.getD k 0)=I id:=λk id hk=>by rw[cK,hk];rfl
 have hρ:∀id k,idx ids id=some k->k<m2.next/\(λk=>I (ids.getD k 0)) k=I id:=λid k hk=>by
  have:=qU9 hk;refine⟨?_,Ah k id this⟩;rw[hc.next]
  simpa using (iZ.1 this).1
 have dZ:∀b,RO w0 R0 I w m b->RO w0 R0 (λk=>I (ids.getD k 0)) w m2 b:=λb hb=>by
  rcases hb with hb|⟨k1,k2,k3,k4⟩
  .exact .inl hb
  .refine .inr ⟨k1,k2,λk B hB bC=>?_,k4⟩
   obtain⟨id,B0,g1,g2,rfl⟩:=hg k B hB;dsimp only at bC ⊢;rw[Ah k id g1]at bC ⊢;exact k3 id B0 g2 ((Em B0).1 bC)
 refine⟨⟨⟨h1.below,λk B hB=>?_,λk B hB bC=>?_,λk B hB bC=>?_,λk k' B B' hB rN bC ahk dD=>?_,λk B hB=>?_,h1.aI.1,λk B hB bC=>?_⟩,⟨?_,λt=>?_⟩,h3⟩,dZ⟩
 .obtain⟨id,B0,g1,g2,rfl⟩:=hg k B hB
  rw[hc.next]
  simpa using (iZ.1 g1).1
 .obtain⟨id,B0,g1,g2,rfl⟩:=hg k B hB
  rw[Ah k id g1]at bC ⊢;exact h1.lo id B0 g2 ((Em B0).1 bC)
 .obtain⟨id,B0,g1,g2,rfl⟩:=hg k B hB
  rw[Ah k id g1]at bC ⊢;exact h1.hi id B0 g2 ((Em B0).1 bC)
 .obtain⟨id,B0,g1,g2,rfl⟩:=hg k B hB
  obtain⟨bY,B0',Nq,Ug,rfl⟩:=hg k' B' rN;rw[Ah k id g1]at bC dD;rw[Ah k' bY Nq]at ahk dD;have:=h1.inj id bY B0 B0' g2 Ug ((Em B0).1 bC) ((Em B0').1 ahk) dD;subst this;exact XJ hn k k' id g1 Nq
 .obtain⟨id,B0,g1,g2,rfl⟩:=hg k B hB
  rw[Ah k id g1];exact fN.lI dZ hρ B0 (h1.box id B0 g2)
 .obtain⟨id,B0,g1,g2,rfl⟩:=hg k B hB
  rw[Ah k id g1]at bC ⊢;exact h1.aI.2 id B0 g2 ((Em B0).1 bC)
 .rw[hc.size,show(kX ids slots).length=slots.length from ?_,bD]
  .exact h2.1
  .clear hc bD hs
   induction slots with
   |nil=>rfl
   |cons x l ih=>simp[kX,ih]
 .rw[hc.get t,qH9]
  rw[cK]
  cases hx:slots[t]? with
  |none=>
   have ht:slots.length<=t:=by simpa using hx
   have:a.tmps.getD t Go.undef=Go.undef:=by
    rw[jx,aiC (by rw[<-h2.1,<-bD];exact ht)];rfl
   rw[this];exact rfl
  |some x=>
   rcases hs t x hx with rfl|rfl
   .exact trivial
   .exact aJ.lI dZ hρ _ _ (h2.2 t)
def o8(E:Env)(n:Nat)(fn:Func)(hint:Ty)(keep:List Item->List Bool)(items:List Item)(p:ax)(slots:List SV)(boxes:List (Option aR)):ak Stop:=
 Fr.make slots.length slots λfr=>CP boxes ⟨0,.e⟩ λm=>exec E n items p fr m λo=>match o with
  |.ret _ fr m=>results E fn m fr λv=>.ai (.done (ud hint m v))
  |.stop items fr m=>match live m (oZ fr (keep items) 0)with
   |ids=>match Fv ids with
    |true=>.ai (.at (enter items) fr.size (kX ids (oZ fr (keep items) 0)) (ids.map λid=>(m.get id).map (zr ids)))
    |false=>.aA 170
  |.cE .. =>.aA 175
def t9(P:Program)(fn:Func)(v:SV)(items:List Item)(slots:List SV)(boxes:List (Option aR)):Prop:=
 ∀fr m,lS slots boxes fr m->∀w0 R0 I w a,zd5 w0 R0 I w fr m a->∀ (b:Frame) (cs:List Frame),∃I' w' a' todo u,aQ w0 R0 I' w' ⟨0,.e⟩/\a'.defers=[] /\(∀b,RO w0 R0 I w m b->RO w0 R0 I' w' ⟨0,.e⟩ b/\w'.heap[b]? =w.heap[b]?)/\
  Steps P (lone (b.at a items) cs w) (lone {b.at a' todo with mode:=.returning} cs w')/\(Go.results fn a'.tmps).run P w'=.ok u w'/\aJ (RO w0 R0 I' w' ⟨0,.e⟩) I' 0 w' v u
variable{n:Nat}{fn:Func}{p:ax}
def o6(hK:cV P E){hint:Ty}{keep:List Item->List Bool}{items:List Item}{boxes:List (Option aR)}(sY:v.data=true)
  (h:(o8 E n fn hint keep items p slots boxes).holds λo=>match o with
    |.done v'=>v'=v
    |.at gV size iw kf=>iw.length=size/\t9 P fn v gV iw kf):t9 P fn v items slots boxes:=by
 intro fr0 m0 qM w0 R0 I w a hs b cs;unfold o8 at h;obtain⟨fr,h1,h2,h3,h4⟩:=qz h
 obtain⟨m,h5,h6,h7,h8⟩:=JQ boxes ⟨0,.e⟩ _ h1 λid _=>rfl
 have hc:lS slots boxes fr m:=⟨h2,h4,by rw[h6];simp,λid=>by simpa using h8 id⟩;obtain⟨fZ,xZ⟩:=qM.swap hc hs;obtain⟨out,h9,lw⟩:=su hK.e hK.s hK.aL n _ _ _ _ _ _ h5
 cases out with
 |cE v1 aD m'=>cases h9
 |ret p' aD m'=>
  dsimp only at h9;obtain⟨v',k1,k2⟩:=qE hK.e h9;obtain rfl:ud hint m' v'=v:=k1;obtain⟨ρ1,w1,a1,todo,g1,g2,g3⟩:=lw w0 R0 I w a fZ b cs;obtain⟨u,r1,r2⟩:=k2 w0 R0 ρ1 w1 a1 g1;obtain⟨e1,e2⟩:=g1.1.bare;exact⟨ρ1,w1,a1,todo,u,e1,g1.2.2,λb hb=>⟨e2 b (g2.keep b ((xZ b).1 hb)).1,(g2.keep b ((xZ b).1 hb)).2⟩,g3,r1,qJ4 g1.1 r2 sY⟩
 |stop gV aD m'=>
  dsimp only at h9
  split at h9
  .rename_i hnd
   have lw:dS P items fr m (.stop (enter gV) aD m'):=by
    refine lw.trans ?_;unfold enter
    split;.exact dS.step λb a cs w _=>step_loop
    .exact dS.step λb a cs w _=>step_inLoop
    .exact dS.refl _ _ _
   generalize azR:live m' (oZ aD (keep gV) 0)=ids at h9 hnd;obtain⟨k1,k5⟩:=h9;obtain⟨ρ1,w1,a1,g1,g2,g3⟩:=lw w0 R0 I w a fZ b cs;obtain⟨cH,m2,uC⟩:=lS.of (slots:=kX ids (oZ aD (keep gV) 0)) (boxes:=ids.map λid=>(m'.get id).map (zr ids))
   have hlr:∀l:List SV,(kX ids l).length=l.length:=λl=>by
    induction l with
    |nil=>rfl
    |cons x l ih=>simp[kX,ih]
   obtain⟨e1,e2⟩:=g1.rename (O8 hnd) uC (by rw[<-k1,hlr]) (λi x hx=>by simpa using MZ aD _ 0 i x hx);obtain⟨ρ3,w3,a3,todo,u,q1,q2,q3,q4,q5,q6⟩:=k5 cH m2 uC w0 R0 _ w1 a1 e1 b cs
   exact⟨ρ3,w3,a3,todo,u,q1,q2,λb hb=>by
    have s1:=g2.keep b ((xZ b).1 hb);have s2:=q3 b (e2 b s1.1)
    exact⟨s2.1,s2.2.trans s1.2⟩,g3.trans q4,q5,q6⟩
  .exact h9.elim
def Qa(hK:cV P E){hint:Ty}(sY:v.data=true){σ:Type}(inv:σ->Prop)(μ:σ->Nat)(keep:List Item->List Bool)(it:σ->List Item)(sl:σ->List SV)(bx:σ->List (Option aR))(pl:σ->ax)
  (h:∀s,inv s->(o8 E n fn hint keep (it s) (pl s) (sl s) (bx s)).holds λo=>match o with
    |.done v'=>v'=v
    |.at gV size iw kf=>iw.length=size/\((∃s',inv s'/\μ s'<μ s/\gV=it s'/\iw=sl s'/\kf=bx s')\/t9 P fn v gV iw kf)):
  ∀s,inv s->t9 P fn v (it s) (sl s) (bx s):=by
 have:∀k s,μ s<k->inv s->t9 P fn v (it s) (sl s) (bx s):=by
  intro k
  induction k with
  |zero=>exact λs hk=>absurd hk (tu _)
  |succ k ih=>
   intro s hk hs;refine o6 hK sY (E:=E) (n:=n) (hint:=hint) (keep:=keep) (p:=pl s) (ak.BL (λo ho=>?_) _ (h s hs))
   cases o with
   |done v'=>exact ho
   |«at» gV size iw kf=>
    obtain⟨a6,ho⟩:=ho;rcases ho with⟨s',a1,a2,rfl,rfl,rfl⟩|ho
    .exact⟨a6,ih s' (by omega) a1⟩
    .exact⟨a6,ho⟩
 exact λs hs=>this _ s (aia _) hs
def s8(hd:f7 args=true)(sY:v.data=true)
  (hf:(match P.funcs[f]? with
    | some fn => fn.body.isSome && !(fn.name == "runtime.NumGoroutine") && Nat.ble args.length fn.ntmps
    |none=>false)=true)
  (h:t9 P (x9 P f) v [.code (A0 P f)] (args++List.replicate ((x9 P f).ntmps-args.length) .undef) []):SCall P f args v:=by
 unfold x9 A0 at h;unfold x9 at h
 cases hx:P.funcs[f]? with
 |none=>rw[hx]at hf;cases hf
 |some fn=>
  rw[hx]at hf h;dsimp only at hf h;simp only[aH,iJ]at hf;obtain⟨⟨h1,hn⟩,h3⟩:=hf;obtain⟨body,hb⟩:=Option.isSome_iff_exists.mp h1;rw[hb]at h;have hl:=UN h3;intro m w0 R0 I w vs hm bR;obtain⟨fr,cT,hc⟩:=lS.of (slots:=args++List.replicate (fn.ntmps-args.length) .undef) (boxes:=[]);have tf:lS (args++List.replicate (fn.ntmps-args.length) .undef) [] fr ⟨0,.e⟩:=⟨hc.size,hc.get,rfl,λid=>rfl⟩;rw[nS hx hb hn];obtain⟨o1,o2⟩:=xh hm I;have cn:=pV (size:=fn.ntmps) (by rw[hc.size];simp;omega) (.inr hl) (λt=>by rw[hc.get,Zb]) (j8.data (R':=RO w (RS w0 R0 I w m) I w ⟨0,.e⟩) (I':=I) (n':=0) o2 args vs hd bR);intro cs
  let b:Frame:={ (default:Frame)with fn:=f,kind:=.normal}
  have tc:Frame.enter P f vs.toArray .normal=b.at {tmps:=vs.toArray++Array.replicate (fn.ntmps-vs.toArray.size) Go.undef,defers:=[]} [.code body] :=by
   simp[Frame.enter,Frame.at,hx,hb,b]
  obtain⟨I',w',a',todo,u,q1,q2,q3,q4,q5,q6⟩:=h fr ⟨0,.e⟩ tf w (RS w0 R0 I w m) I w {tmps:=vs.toArray++Array.replicate (fn.ntmps-vs.toArray.size) Go.undef,defers:=[]} ⟨o1,cn,rfl⟩ b cs;have cR:=Hand.start hm q1;obtain⟨k1,k2⟩:=cR.finish hm q1;exact⟨.returned u,w',_,⟨u,rfl,I,k1,k2,aJ.data (λb hb=>cR.ro b (.inr hb)) v u sY q6⟩,by rw[tc];exact q4,rfl,rfl,q2,rfl,fn,hx,q5⟩
def Jt(E:Env)(n:Nat)(f:FuncId)(args:List SV)(p:ax)(m:Mem):ak (SV×Mem):=
 match E.fn f with
 |some fn=>match fn.body with
  | some body => match fn.name == "runtime.NumGoroutine" with
    |false=>Fr.make fn.ntmps args λfr=>exec E n [.code body] p fr m λo=>match o with
     |.ret _ fr m=>results E fn m fr λv=>.ai (v,m)
     |_=>.aA 142
    |true=>.aA 143
  |none=>.aA 144
 |none=>.aA 145
def x77(hK:cV P E)(h:∀m,(Jt E n f args p m).holds λx=>x=(v,m)):SCall P f args v:=by
 intro m w0 R0 I w vs hm bR;have h:=h m;unfold Jt at h
 split at h
 .rename_i fn jG
  have hf:=hK.e.fn f fn jG
  split at h
  .rename_i body hb
   split at h
   .rename_i hn
    obtain⟨fr,h1,h2,h3,h4⟩:=qz h;obtain⟨out,h5,h6⟩:=su hK.e hK.s hK.aL n _ _ _ _ _ _ h1
    cases out with
    |stop it aD m'=>cases h5
    |cE v1 aD m'=>cases h5
    |ret p' aD mc=>
     dsimp only at h5;obtain⟨v',h7,h8⟩:=qE hK.e h5;have h7:(v',mc)=(v,m):=h7;injection h7 with e1 e2;subst e1 e2;rw[nS hf hb hn];exact ve hf hb h6 h8 hm (pV h2 h3 h4 bR)
   .exact h.elim
  .exact h.elim
 .exact h.elim
def J(n:Int):SV:=.int .i64 n
def Rb(f:FuncId)(t:ak SV):aB:=⟨f,λargs=>match args with
 |[] =>some t
 |_=>none⟩
def qp6{t:ak SV}(k:t.bw (SCall P f [])):(Rb f t).ok P:=λargs t' ht=>by
 simp only[Rb]at ht
 split at ht<;>cases ht;exact k
def tU(f:FuncId)(h:Int->ak SV):aB:=⟨f,λargs=>match args with
 |[.int .i64 a] =>some (h a)
 |_=>none⟩
def rq{h:Int->ak SV}(k:∀a,(h a).bw (SCall P f [J a])):(tU f h).ok P:=λargs t ht=>by
 simp only[tU]at ht
 split at ht<;>cases ht;exact k _
def zD(f:FuncId)(h:Int->Int->ak SV):aB:=⟨f,λargs=>match args with
 |[.int .i64 a,.int .i64 b] =>some (h a b)
 |_=>none⟩
def Dm{h:Int->Int->ak SV}(k:∀a b,(h a b).bw (SCall P f [J a,J b])):(zD f h).ok P:=λargs t ht=>by
 simp only[zD]at ht
 split at ht<;>cases ht;exact k _ _
def zC(f:FuncId)(h:Int->Int->Int->ak SV):aB:=⟨f,λargs=>match args with
 |[.int .i64 a,.int .i64 b,.int .i64 c] =>some (h a b c)
 |_=>none⟩
def Dp{h:Int->Int->Int->ak SV}(k:∀a b c,(h a b c).bw (SCall P f [J a,J b,J c])):(zC f h).ok P:=λargs t ht=>by
 simp only[zC]at ht
 split at ht<;>cases ht;exact k _ _ _
def Gi(f:FuncId)(h:List UInt8->ak SV):aB:=⟨f,λargs=>match args with
 |[.str a] =>some (h a)
 |_=>none⟩
def KK{h:List UInt8->ak SV}(k:∀a,(h a).bw (SCall P f [.str a])):(Gi f h).ok P:=λargs t ht=>by
 simp only[Gi]at ht
 split at ht<;>cases ht;exact k _
def x6(n:Nat)(ks:List Nat):List Item->List Bool:=λ_=>(List.range n).map λi=>ks.any λj=>Nat.beq i j
def x7(n:Nat)(ks:List (Nat×SV)):List SV:=(List.range n).map λi=>(ks.lookup i).getD .di
def o5(n:Nat)(ks:List (Nat×SV)):(x7 n ks).length=n:=by simp[x7]
def xm4(ids:List Nat)(l:List SV):(kX ids l).length=l.length:=by
 induction l with
 |nil=>rfl
 |cons x l ih=>simp[kX,ih]
def v6(P:Program)(f:Nat)(args:List SV):List SV:=args++List.replicate ((x9 P f).ntmps-args.length) .undef
def v7(P:Program)(f:Nat):List Item:=[.code (A0 P f)]
inductive Fin where
 |ret (v:SV) (bs:List (Option aR))
 |cE (v:SV) (bs:List (Option aR))
def Fin.boxes:Fin->List (Option aR)
 |.ret _ bs=>bs
 |.cE _ bs=>bs
def Fin.val:Fin->SV
 |.ret v _=>v
 |.cE v _=>v
inductive eW where
 |fin (r:Fin)
 |at(items:List Item) (size:Nat) (slots:List SV) (boxes:List (Option aR))
def Fb:aR->Bool
 |.cells cs=>f7 cs
 |.obj _ cs=>f7 cs
 |_=>true
def yZ:List (Option aR)->Bool
 |[] =>true
 |some B::l=>Fb B&&yZ l
 |none::l=>yZ l
def BU(np:Nat)(m:Mem)(v:SV):SV:=match v with
 |.row id=>match m.get id with
  |some (.rows t l)=>match Nat.ble np id with
   |true=>.list t l
   |false=>.row id
  |_=>.row id
 |v=>v
def EA(np:Nat)(m:Mem):List SV->List SV
 |[] =>[]
 |x::xs=>BU np m x::EA np m xs
def BV(np:Nat)(m:Mem)(v:SV):SV:=match v with
 |.agg cs=>.agg (EA np m cs)
 |v=>BU np m v
def HM(np:Nat)(m:Mem):List SV->List SV
 |[] =>[]
 |x::xs=>BV np m x::HM np m xs
def Av(np:Nat)(m:Mem)(v:SV):SV:=match v with
 |.tuple cs=>.tuple (HM np m cs)
 |v=>BV np m v
def Nl(np:Nat)(m:Mem):aR->aR
 |.cells cs=>.cells (EA np m cs)
 |B=>B
def sJ(m:Mem)(np:Nat):List (Option aR):=(List.range np).map λk=>(m.get k).map (Nl np m)
def q82(np:Nat)(m:Mem)(slots:List SV):List Nat:=
 let l:=rz slots (List.range np)
 let l:=Gq m l l
 Gq m l l
def fU(E:Env)(n:Nat)(fn:Func)(np:Nat)(keep:List Item->List Bool)(items:List Item)(p:ax)(slots:List SV)(boxes:List (Option aR)):ak eW:=
 Fr.make slots.length slots λfr=>CP boxes ⟨0,.e⟩ λm=>exec E n items p fr m λo=>match o with
  |.ret _ fr m=>results E fn m fr λv=>match yZ (sJ m np)&& (Av np m v).data with
   |true=>.ai (.fin (.ret (Av np m v) (sJ m np)))
   |false=>.aA 180
  |.cE v fr m=>match yZ (sJ m np)&&v.data with
   |true=>.ai (.fin (.cE v (sJ m np)))
   |false=>.aA 181
  |.stop items fr m=>match q82 np m (oZ fr (keep items) 0)with
   |ids=>match Fv ids&&ids.take np=List.range np with
    |true=>.ai (.at (enter items) fr.size (kX ids (oZ fr (keep items) 0)) (ids.map λid=>(m.get id).map (zr ids)))
    |false=>.aA 170
def qw(P:Program)(fn:Func)(ds:List Deferred)(np:Nat)(r:Fin)(items:List Item)(slots:List SV)(boxes:List (Option aR)):Prop:=
 ∀fr m,lS slots boxes fr m->∀w0 R0 I w a,dG ds w0 R0 I w fr m a->∀ (b:Frame) (cs:List Frame),∃I' w' a' todo u mF,mF.next=np/\(∀k,mF.get k=(r.boxes[k]?).join)/\aQ w0 R0 I' w' mF/\(∀k,k<np->I' k=I k)/\a'.defers=ds/\
  (∀b,RO w0 R0 I w m b->RO w0 R0 I' w' mF b/\w'.heap[b]? =w.heap[b]?)/\aJ (RO w0 R0 I' w' mF) I' np w' r.val u/\
  match r with
  |.ret _ _=>Steps P (lone (b.at a items) cs w) (lone {b.at a' todo with mode:=.returning} cs w')/\(Go.results fn a'.tmps).run P w'=.ok u w'
  |.cE _ _=>Steps P (lone (b.at a items) cs w) (lone {b.at a' todo with mode:=.panicking [{v:=u,recovered:=false}]} cs w')
theorem Ov:∀{l:List (Option aR)} {k:Nat} {B:aR},yZ l=true->(l[k]?).join=some B->Fb B=true
 |[],k,B,_,h=>by simp at h
 |none::l,0,B,_,h=>by simp at h
 |none::l,k+1,B,hd,h=>Ov (l:=l) (k:=k) hd (by simpa using h)
 |some C::l,0,B,hd,h=>by
  have hd:(Fb C&&yZ l)=true:=hd;rw[aH]at hd
  have:C=B:=by simpa using h
  rw[<-this];exact hd.1
 |some C::l,k+1,B,hd,h=>by
  have hd:(Fb C&&yZ l)=true:=hd;rw[aH]at hd;exact Ov (l:=l) (k:=k) hd.2 (by simpa using h)
variable{np:Nat}
def qC3{k:Nat}:((sJ m np)[k]?).join=if k<np then(m.get k).map (Nl np m)else none:=by
 unfold sJ;rw[AB]
 by_cases h:k<np
 .rw[EP h,ay h];rfl
 .rw[qU (by simpa using h),au h];rfl
def qM2{r:Nat×Nat×Nat}:∀ (B:aR),fJ r (Nl np m B)↔fJ r B
 |.cells _=>Iff.rfl
 |.rows _ _=>Iff.rfl
 |.iter _ _=>Iff.rfl
 |.obj _ _=>Iff.rfl
def aQ.first{mF:Mem}(h:aQ w0 R0 I w m)(hd:yZ (sJ m np)=true)(hn:mF.next=np)(hg:∀k,mF.get k=((sJ m np)[k]?).join):
  aQ w0 R0 I w mF/\(∀b,RO w0 R0 I w m b->RO w0 R0 I w mF b)/\∀v u,(Av np m v).data=true->aJ (RO w0 R0 I w m) I m.next w v u->aJ (RO w0 R0 I w mF) I mF.next w (Av np m v) u:=by
 have Hg:∀k B,mF.get k=some B->k<np/\Fb B=true/\∃C,m.get k=some C/\B=Nl np m C:=λk B hB=>by
  rw[hg k]at hB;have Nb:=Ov hd hB;rw[qC3]at hB
  split at hB
  .rename_i hk
   cases hC:m.get k with
   |none=>rw[hC]at hB;cases hB
   |some C=>rw[hC]at hB;injection hB with hB;exact⟨hk,Nb,C,rfl,hB.symm⟩
  .cases hB
 have bC:∀k B,mF.get k=some B->fJ (I k) B->∃C,m.get k=some C/\fJ (I k) C:=λk B hB hs=>by
  obtain⟨_,_,C,hC,e⟩:=Hg k B hB;exact⟨C,hC,by rw[e]at hs;exact(qM2 C).1 hs⟩
 have dZ:∀b,RO w0 R0 I w m b->RO w0 R0 I w mF b:=λb hb=>by
  rcases hb with hb|⟨k1,k2,k3,k4⟩
  .exact .inl hb
  .exact .inr ⟨k1,k2,(λid B hB hs=>by
    obtain⟨C,hC,bj⟩:=bC id B hB hs
    exact k3 id C hC bj),k4⟩
 have hv:∀ (x:SV) (u:Value),(BU np m x).data=true->aJ (RO w0 R0 I w m) I m.next w x u->aJ (RO w0 R0 I w mF) I mF.next w (BU np m x) u:=λx u gv hr=>by
  unfold BU at gv ⊢
  split at gv
  .rename_i id
   split at gv
   .rename_i t l uA
    split at gv
    .rename_i mK
     have mK:=UN mK;obtain⟨_,a,hu,ha⟩:=hr;obtain⟨b1,b2,hp⟩:=h.box id _ uA;refine⟨a,(I id).2.2,by rw[hu,b1],b2,λh0=>?_⟩;have h0:0< (I id).2.2:=qS h0 b2;obtain⟨arr,e,fr,k1,k2,k3,k4⟩:=hp h0;refine⟨(I id).1,0,ha h0,.inr ⟨h.lo id _ uA h0,h.hi id _ uA h0,λk B hB hs he=>?_,h.aI.2 id _ uA h0⟩,λi hi=>?_⟩
     .obtain⟨C,hC,bj⟩:=bC k B hB hs
      have:=h.inj k id C _ hC uA bj h0 he;have:=(Hg k B hB).1;omega
     .obtain⟨cs,c1,c2,c3⟩:=k4 i hi
      refine⟨cs,c1,λj hj=>?_,p7.mono (λb hb=>⟨dZ b hb,rfl⟩) _ _ _ c3⟩;rw[rR w _ _ arr e fr k1,gY];exact c2 j hj
    .cases gv
   .cases gv
  .exact aJ.data dZ x u gv hr
 have Aj:∀ (xs:List SV) (us:List Value),f7 (EA np m xs)=true->j8 (RO w0 R0 I w m) I m.next w xs us->j8 (RO w0 R0 I w mF) I mF.next w (EA np m xs) us:=by
  intro xs
  induction xs with
  |nil=>exact λus _ hr=>hr
  |cons x xs ih=>
   intro us gv hr;obtain⟨u,iM,rfl,r1,r2⟩:=hr;have gv:f7 (BU np m x::EA np m xs)=true:=gv;rw[wP]at gv
   cases hx:(BU np m x).data with
   |false=>rw[hx]at gv;cases gv
   |true=>rw[hx]at gv;exact⟨u,iM,rfl,hv x u hx r1,ih iM gv r2⟩
 have hva:∀ (x:SV) (u:Value),(BV np m x).data=true->aJ (RO w0 R0 I w m) I m.next w x u->aJ (RO w0 R0 I w mF) I mF.next w (BV np m x) u:=λx u gv hr=>by
  unfold BV at gv ⊢
  split at gv
  .obtain⟨vs,h1,h2⟩:=hr
   exact⟨vs,h1,Aj _ vs (by rw[<-AV];exact gv) h2⟩
  .exact hv x u gv hr
 have hvm:∀ (xs:List SV) (us:List Value),f7 (HM np m xs)=true->j8 (RO w0 R0 I w m) I m.next w xs us->j8 (RO w0 R0 I w mF) I mF.next w (HM np m xs) us:=by
  intro xs
  induction xs with
  |nil=>exact λus _ hr=>hr
  |cons x xs ih=>
   intro us gv hr;obtain⟨u,iM,rfl,r1,r2⟩:=hr;have gv:f7 (BV np m x::HM np m xs)=true:=gv;rw[wP]at gv
   cases hx:(BV np m x).data with
   |false=>rw[hx]at gv;cases gv
   |true=>rw[hx]at gv;exact⟨u,iM,rfl,hva x u hx r1,ih iM gv r2⟩
 have hvw:∀ (x:SV) (u:Value),(Av np m x).data=true->aJ (RO w0 R0 I w m) I m.next w x u->aJ (RO w0 R0 I w mF) I mF.next w (Av np m x) u:=λx u gv hr=>by
  unfold Av at gv ⊢
  split at gv
  .obtain⟨vs,h1,h2⟩:=hr
   exact⟨vs,h1,hvm _ vs (by rw[<-IV];exact gv) h2⟩
  .exact hva x u gv hr
 refine⟨⟨h.below,λid B hB=>by rw[hn];exact(Hg id B hB).1,λid B hB hs=>by obtain⟨C,hC,bj⟩:=bC id B hB hs;exact h.lo id C hC bj,λid B hB hs=>by obtain⟨C,hC,bj⟩:=bC id B hB hs;exact h.hi id C hC bj,λid bY B B' hB rN hs bj he=>?_,λid B hB=>?_,h.aI.1,λid B hB hs=>by obtain⟨C,hC,bj⟩:=bC id B hB hs;exact h.aI.2 id C hC bj⟩,dZ,hvw⟩
 .obtain⟨C,hC,g1⟩:=bC id B hB hs
  obtain⟨C',T5,g2⟩:=bC bY B' rN bj;exact h.inj id bY C C' hC T5 g1 g2 he
 .obtain⟨_,Nb,C,hC,rfl⟩:=Hg id B hB
  have h4:=h.box id C hC
  cases C with
  |cells cs=>
   obtain⟨arr,e,fr,k1,k2,k3⟩:=h4;exact⟨arr,e,fr,k1,k2,Aj cs _ Nb k3⟩
  |rows t l=>
   obtain⟨k1,k2,k3⟩:=h4;refine⟨k1,k2,λh0=>?_⟩;obtain⟨arr,e,fr,q1,q2,q3,q4⟩:=k3 h0;refine⟨arr,e,fr,q1,q2,q3,λi hi=>?_⟩;obtain⟨cs,c1,c2,c3⟩:=q4 i hi;exact⟨cs,c1,c2,p7.mono (λb hb=>⟨dZ b hb,rfl⟩) _ _ _ c3⟩
  |iter s pos=>exact h4
  |obj t cs=>
   obtain⟨arr,k1,k3⟩:=h4;exact⟨arr,k1,j8.data dZ _ _ Nb k3⟩
def JP(np:Nat)(bs:List (Option aR)):∃mF:Mem,mF.next=np/\∀k,mF.get k=(bs[k]?).join:=by
 obtain⟨fr,m,hc⟩:=lS.of (slots:=[]) (boxes:=bs);exact⟨⟨np,m.tb⟩,rfl,hc.box⟩
variable{r:Fin}
def nV(hK:cV P E){keep:List Item->List Bool}{items:List Item}{boxes:List (Option aR)}(hnp:np<=boxes.length)
  (h:(fU E n fn np keep items p slots boxes).holds λo=>match o with
    |.fin r'=>r'=r
    |.at gV size iw kf=>iw.length=size/\qw P fn ds np r gV iw kf):qw P fn ds np r items slots boxes:=by
 intro fr0 m0 qM w0 R0 I w a hs b cs;unfold fU at h;obtain⟨fr,h1,h2,h3,h4⟩:=qz h
 obtain⟨m,h5,h6,h7,h8⟩:=JQ boxes ⟨0,.e⟩ _ h1 λid _=>rfl
 have hc:lS slots boxes fr m:=⟨h2,h4,by rw[h6];simp,λid=>by simpa using h8 id⟩
 have hnm:np<=m.next:=by rw[hc.next];exact hnp
 obtain⟨fZ,xZ⟩:=qM.swap hc hs;obtain⟨out,h9,lw⟩:=su hK.e hK.s hK.aL n _ _ _ _ _ _ h5
 cases out with
 |ret p' aD m'=>
  dsimp only at h9;obtain⟨v',k1,k2⟩:=qE hK.e h9
  split at k1
  .rename_i hd
   rw[aH]at hd;have k1:Fin.ret (Av np m' v') (sJ m' np)=r:=k1;subst k1;obtain⟨ρ1,w1,a1,todo,g1,g2,g3⟩:=lw w0 R0 I w a fZ b cs;obtain⟨u,r1,r2⟩:=k2 w0 R0 ρ1 w1 a1 g1;obtain⟨mF,hn,hg⟩:=JP np (sJ m' np);obtain⟨e1,e2,e3⟩:=g1.1.first hd.1 hn hg;exact⟨ρ1,w1,a1,todo,u,mF,hn,hg,e1,λk hk=>g2.same k (by omega),g1.2.2,λb hb=>⟨e2 b (g2.keep b ((xZ b).1 hb)).1,(g2.keep b ((xZ b).1 hb)).2⟩,by have:=e3 v' u hd.2 r2;rw[hn]at this;exact this,g3,r1⟩
  .exact k1.elim
 |cE v' aD m'=>
  dsimp only at h9
  split at h9
  .rename_i hd
   rw[aH]at hd;have h9:Fin.cE v' (sJ m' np)=r:=h9;subst h9;obtain⟨ρ1,w1,a1,todo,u,g1,g2,g3,g4⟩:=lw w0 R0 I w a fZ b cs;obtain⟨mF,hn,hg⟩:=JP np (sJ m' np);obtain⟨e1,e2,_⟩:=g1.1.first hd.1 hn hg;exact⟨ρ1,w1,a1,todo,u,mF,hn,hg,e1,λk hk=>g2.same k (by omega),g1.2.2,λb hb=>⟨e2 b (g2.keep b ((xZ b).1 hb)).1,(g2.keep b ((xZ b).1 hb)).2⟩,aJ.data e2 v' u hd.2 g3,g4⟩
  .exact h9.elim
 |stop gV aD m'=>
  dsimp only at h9
  split at h9
  .rename_i hnd
   rw[aH,aV]at hnd
   have lw:dS P items fr m (.stop (enter gV) aD m'):=by
    refine lw.trans ?_;unfold enter
    split;.exact dS.step λb a cs w _=>step_loop
    .exact dS.step λb a cs w _=>step_inLoop
    .exact dS.refl _ _ _
   generalize azR:q82 np m' (oZ aD (keep gV) 0)=ids at h9 hnd;obtain⟨k1,k5⟩:=h9;obtain⟨ρ1,w1,a1,g1,g2,g3⟩:=lw w0 R0 I w a fZ b cs;obtain⟨cH,m2,uC⟩:=lS.of (slots:=kX ids (oZ aD (keep gV) 0)) (boxes:=ids.map λid=>(m'.get id).map (zr ids));obtain⟨e1,e2⟩:=g1.rename (O8 hnd.1) uC (by rw[<-k1,xm4]) (λi x hx=>by simpa using MZ aD _ 0 i x hx);obtain⟨ρ3,w3,a3,todo,u,mF,q1,q2,q3,q4,q5,q6,q7,q8⟩:=k5 cH m2 uC w0 R0 _ w1 a1 e1 b cs
   refine⟨ρ3,w3,a3,todo,u,mF,q1,q2,q3,λk hk=>?_,q5,λb hb=>by
    have s1:=g2.keep b ((xZ b).1 hb);have s2:=q6 b (e2 b s1.1)
    exact⟨s2.1,s2.2.trans s1.2⟩,q7,?_⟩
   .rw[q4 k hk]
    have:ids.getD k 0=k:=by
     have h1:(ids.take np)[k]? =(List.range np)[k]? :=by rw[hnd.2]
     rw[List.getElem?_take_of_lt hk,EP hk]at h1;rw[cK,h1];rfl
    rw[this];exact g2.same k (by omega)
   .cases r with
    |ret v bs=>exact⟨g3.trans q8.1,q8.2⟩
    |cE v bs=>exact g3.trans q8
  .exact h9.elim
def Bo(P:Program)(f:FuncId)(args:List SV):Bool:=match P.funcs[f]? with
 | some fn => fn.body.isSome && !(fn.name == "runtime.NumGoroutine") && Nat.ble args.length fn.ntmps
 |none=>false
def qE3 (h : Bo P f args = true) : P.funcs[f]? = some (x9 P f) ∧ (x9 P f).body = some (A0 P f) ∧ ((x9 P f).name == "runtime.NumGoroutine") = false ∧ args.length ≤ (x9 P f).ntmps := by
 unfold Bo at h;unfold A0 x9
 cases hx:P.funcs[f]? with
 |none=>rw[hx]at h;cases h
 |some fn=>
  rw[hx]at h;dsimp only at h ⊢;simp only[aH,iJ]at h;obtain⟨⟨h1,h2⟩,h3⟩:=h;obtain⟨body,hb⟩:=aBF.1 h1;rw[hb];exact⟨rfl,rfl,h2,UN h3⟩
def Fin.ex:Fin->Mem->Ex
 |.ret v _,m=>.ok v m
 |.cE v _,m=>.cE v m
def Fin.post(P:Program)(Φ:Value->World->Prop):Fin->Result Next->Prop
 |.ret _ _=>kN P Φ
 |.cE _ _=>IE P Φ
def jK0{boxes:List (Option aR)}(hf:Bo P f args=true)(h:qw P (x9 P f) [] np r (v7 P f) (v6 P f args) boxes)
  {w0 Bf:World} {R0 B9:eo} {I ρc:bu} {w:World} {m mc m':Mem} {vs:List Value} (hcn:mc.next=boxes.length) (HE:∀k,mc.get k=(boxes[k]?).join) (TJ:aQ Bf B9 ρc w mc) (bR:j8 (RO Bf B9 ρc w mc) ρc mc.next w args vs)
  (aho:∀I' w' u mF,mF.next=np->(∀k,mF.get k=(r.boxes[k]?).join)->aQ Bf B9 I' w' mF->(∀k,k<np->I' k=ρc k)->(∀b,RO Bf B9 ρc w mc b->RO Bf B9 I' w' mF b/\w'.heap[b]? =w.heap[b]?)->aJ (RO Bf B9 I' w' mF) I' np w' r.val u->n9 w0 R0 I w m r.val m' u w'):
  r.post P (n9 w0 R0 I w m r.val m') ((Go.callFunc f vs.toArray).run P w):=by
 obtain⟨jG,hb,hn,hl⟩:=qE3 hf;obtain⟨fr,mx,hcx⟩:=lS.of (slots:=v6 P f args) (boxes:=boxes);have hc:lS (v6 P f args) boxes fr mc:=⟨hcx.size,hcx.get,hcn,HE⟩;have cn:=pV (fr:=fr) (size:=(x9 P f).ntmps) (by rw[hc.size];simp[v6];omega) (.inr hl) (λt=>by rw[hc.get];exact Zb ..) bR
 let b:Frame:={ (default:Frame)with fn:=f,kind:=.normal}
 have tc:Frame.enter P f vs.toArray .normal=b.at {tmps:=vs.toArray++Array.replicate ((x9 P f).ntmps-vs.toArray.size) Go.undef,defers:=[]} [.code (A0 P f)] :=by
  simp[Frame.enter,Frame.at,jG,hb,b]
 have key:=λcs=>h fr mc hc Bf B9 ρc w {tmps:=vs.toArray++Array.replicate ((x9 P f).ntmps-vs.toArray.size) Go.undef,defers:=[]} ⟨TJ,cn,rfl⟩ b cs
 rw[nS jG hb hn]
 cases r with
 |ret v bs=>
  intro cs;obtain⟨I',w',a',todo,u,mF,q1,q2,q3,q4,q5,q6,q7,q8,q9⟩:=key cs;exact⟨.returned u,w',_,⟨u,rfl,aho I' w' u mF q1 q2 q3 q4 q6 q7⟩,by rw[tc];exact q8,rfl,rfl,q5,rfl,_,jG,q9⟩
 |cE v bs=>
  intro cs;obtain⟨I',w',a',todo,u,mF,q1,q2,q3,q4,q5,q6,q7,q8⟩:=key cs;exact⟨.panicked [{v:=u,recovered:=false}],w',_,⟨u,rfl,aho I' w' u mF q1 q2 q3 q4 q6 q7⟩,by rw[tc];exact q8,rfl,rfl,q5,_,jG⟩
def Cr(R0:eo)(I:bu)(w:World)(m:Mem)(id:Nat):eo:=⟨λb=>R0 b\/∃k B,k≠id/\m.get k=some B/\fJ (I k) B/\(I k).1=b,λb=>w.heap[b]?⟩
def jK1{Uz:List SV}{vZ qo:List SV}(hf:Bo P f Uz=true)(h:qw P (x9 P f) [] 1 r (v7 P f) (v6 P f Uz) [some (.cells vZ)])(hr:r.boxes=[some (.cells qo)])
  {m m':Mem} {id:Nat} (hB:m.get id=some (.cells vZ)) (Ul:f7 vZ=true) (Uk:f7 qo=true) (Uj:r.val.data=true) (gW:m'.next=m.next) (lk:∀k,m'.get k=if k=id then some (.cells qo)else m.get k)
  (aAh:∀R R' I n w (vs:List Value),(∀b,R b->R' b)->j8 R I n w args vs->j8 R' (λ_=>I id) 1 w Uz vs):AP P f args m (r.ex m'):=by
 have key:∀w0 R0 I w (vs:List Value),aQ w0 R0 I w m->j8 (RO w0 R0 I w m) I m.next w args vs->r.post P (n9 w0 R0 I w m r.val m') ((Go.callFunc f vs.toArray).run P w):=λw0 R0 I w vs hm bR=>by
  obtain⟨mc,hn,hg⟩:=JP 1 [some (.cells vZ)]
  have hgc:∀k,mc.get k=if k=0 then some (.cells vZ)else none:=λk=>by
   rw[hg k]
   cases k with
   |zero=>rfl
   |succ k=>simp
  have only:∀k B,mc.get k=some B->k=0/\B=.cells vZ:=λk B hk=>by
   rw[hgc k]at hk
   split at hk;.rename_i h0;injection hk with hk;exact⟨h0,hk.symm⟩
   .cases hk
  have azl:¬Cr R0 I w m id (I id).1:=λhh=>by
   rcases hh with hh|⟨k,B,h1,h2,h3,h4⟩
   .exact hm.aI.2 id _ hB trivial hh
   .exact h1 (hm.inj k id _ _ h2 hB h3 trivial h4)
  have Tz:∀b,RO w0 R0 I w m b->RO w0 (Cr R0 I w m id) (λ_=>I id) w mc b:=λb hb=>by
   rcases hb with⟨h1,h2⟩|⟨k1,k2,k3,k4⟩
   .exact .inl ⟨.inl h1,h2⟩
   .refine .inr ⟨k1,k2,λk B hk hs=>by obtain⟨_,rfl⟩:=only k B hk;exact k3 id _ hB trivial,λhh=>?_⟩
    rcases hh with hh|⟨k,B,h1,h2,h3,h4⟩
    .exact k4 hh
    .exact k3 k B h2 h3 h4
  have TJ:aQ w0 (Cr R0 I w m id) (λ_=>I id) w mc:=by
   refine⟨hm.below,λk B hk=>by rw[hn,(only k B hk).1];exact UI,λk B hk hs=>?_,λk B hk hs=>?_,λk k' B B' hk gP _ _ _=>by rw[(only k B hk).1,(only k' B' gP).1],λk B hk=>?_,λb hb=>⟨?_,rfl⟩,λk B hk hs=>?_⟩;.obtain⟨_,rfl⟩:=only k B hk;exact hm.lo id _ hB trivial
   .obtain⟨_,rfl⟩:=only k B hk;exact hm.hi id _ hB trivial
   .obtain⟨_,rfl⟩:=only k B hk
    obtain⟨arr,e,fr,k1,k2,k3⟩:=hm.box id _ hB;exact⟨arr,e,fr,k1,k2,j8.data Tz _ _ Ul k3⟩
   .rcases hb with hb|⟨k,B,h1,h2,h3,rfl⟩
    .exact(hm.aI.1 b hb).1
    .exact hm.hi k B h2 h3
   .obtain⟨_,rfl⟩:=only k B hk;exact azl
  refine jK0 (m:=m) (m':=m') hf h (by rw[hn];rfl) hg TJ (by rw[hn];exact aAh _ _ I _ w vs Tz bR) λI' w' u mF e1 e2 e3 e4 e5 e6=>?_
  have eρ:I' 0=I id:=e4 0 UI
  have hF:mF.get 0=some (.cells qo):=by rw[e2,hr];rfl
  have onlyF:∀k B,mF.get k=some B->k=0:=λk B hk=>by
   rw[e2,hr]at hk
   cases k with
   |zero=>rfl
   |succ k=>simp at hk
  -- the caller's other boxes stand in blocks C9 the callee has left alone
  have ya:∀k B,k≠id->m.get k=some B->fJ (I k) B->Cr R0 I w m id (I k).1:=λk B hk hkB hs=>.inr ⟨k,B,hk,hkB,hs,rfl⟩
  have Hi:∀b,Cr R0 I w m id b->b<w'.heap.size/\w'.heap[b]? =w.heap[b]? :=λb hb=>e3.aI.1 b hb
  have hbid:∀k B,m'.get k=some B->fJ (I k) B->(I k).1=(I id).1->k=id:=λk B hk hs dD=>by
   rw[lk k]at hk
   split at hk
   .assumption
   .exact hm.inj k id _ _ hk hB hs trivial dD
  have TA:∀b,RO w0 (Cr R0 I w m id) I' w' mF b->RO w0 R0 I w' m' b:=λb hb=>by
   rcases hb with⟨h1,h2⟩|⟨k1,k2,k3,k4⟩
   .rcases h1 with h1|⟨k,B,_,g2,g3,g4⟩
    .exact .inl ⟨h1,h2⟩
    .have:=hm.lo k B g2 g3;omega
   .refine .inr ⟨k1,k2,λk B hk hs=>?_,λhr0=>k4 (.inl hr0)⟩
    rw[lk k]at hk
    split at hk
    .rename_i om
     subst om;rw[<-eρ];exact k3 0 _ hF trivial
    .rename_i om
     exact λdD=>k4 (.inr ⟨k,B,om,hk,hs,dD⟩)
  have dZ:∀b,RO w0 R0 I w m b->RO w0 R0 I w' m' b/\w'.heap[b]? =w.heap[b]? :=λb hb=>by
   obtain⟨k1,k2⟩:=e5 b (Tz b hb);exact⟨TA b k1,k2⟩
  have BQ:m8 w0 R0 I w m I w' m':=⟨by rw[gW];exact bA _,λ_ _=>rfl,dZ⟩;refine⟨I,⟨e3.below,λk B hk=>?_,λk B hk hs=>?_,λk B hk hs=>?_,λk k' B B' hk gP hs bj dD=>?_,λk B hk=>?_,λb hb=>?_,λk B hk hs=>?_⟩,BQ,aJ.data TA _ _ Uj e6⟩
  .rw[lk k]at hk
   rw[gW]
   split at hk;.rename_i om;subst om;exact hm.lt k _ hB
   .exact hm.lt k B hk
  .rw[lk k]at hk
   split at hk;.rename_i om;subst om;exact hm.lo k _ hB trivial
   .exact hm.lo k B hk hs
  .rw[lk k]at hk
   split at hk
   .rename_i om;subst om
    rw[<-eρ];exact e3.hi 0 _ hF trivial
   .rename_i om
    exact(Hi _ (ya k B om hk hs)).1
  .rw[lk k]at hk
   rw[lk k']at gP
   split at hk
   .rename_i h1
    split at gP;.rename_i h2;rw[h1,h2]
    .rename_i h2
     subst h1;exact hm.inj k k' _ _ hB gP trivial bj dD
   .rename_i h1
    split at gP
    .rename_i h2
     subst h2;exact hm.inj k k' _ _ hk hB hs trivial dD
    .exact hm.inj k k' _ _ hk gP hs bj dD
  .rw[lk k]at hk
   split at hk
   .rename_i om
    subst om;cases hk;obtain⟨arr,e,fr,k1,k2,k3⟩:=e3.box 0 _ hF;rw[eρ]at k1;exact⟨arr,e,fr,k1,k2,j8.data TA _ _ Uk k3⟩
   .rename_i om
    exact fN.mono BQ B (λhs=>(Hi _ (ya k B om hk hs)).2) (hm.box k B hk)
  .obtain⟨g1,g2⟩:=Hi b (.inl hb)
   exact⟨g1,g2.trans (hm.aI.1 b hb).2⟩
  .rw[lk k]at hk
   split at hk;.rename_i om;subst om;exact hm.aI.2 k _ hB trivial
   .exact hm.aI.2 k B hk hs
 cases r with
 |ret v bs=>exact key
 |cE v bs=>exact key
def Fin.ayC:Fin->Bool
 |.ret _ _=>false
 |.cE _ _=>true
def AK{rest:List SV}{vZ qo:List SV}(hf:Bo P f (.ptr 0 0::rest)=true)(h:qw P (x9 P f) [] 1 r (v7 P f) (v6 P f (.ptr 0 0::rest)) [some (.cells vZ)])(hr:r.boxes=[some (.cells qo)])
  (hd:f7 rest=true) (Ul:f7 vZ=true) (Uk:f7 qo=true) (Uj:r.val.data=true):lW P f rest (.cells vZ) (r.ayC,r.val,.cells qo):=by
 intro m m' id hB ec
 have key:=jK1 (args:=.ptr id 0::rest) hf h hr hB Ul Uk Uj ec.2 ec.1 λR R' I n w vs hR bR=>by
  obtain⟨u,us,rfl,⟨h1,h2⟩,h3⟩:=bR;exact⟨u,us,rfl,⟨UI,h2⟩,j8.data hR rest us hd h3⟩
 cases r with
 |ret v bs=>exact key
 |cE v bs=>exact key
def Ek:ak eW->List Item
 |.ai x=>match x with
  |.at items _ _ _=>items
  |_=>[]
 |.ag _ t f=>match Ek t with
  |[] =>Ek f
  |l=>l
 |.aj _ t=>Ek t
 |.aA _=>[]
def zQ9{ops:Array Oper}{o1 o2:Oper}{g:FuncId}{cap:Array Operand}{d:Tmp}{c:Call}(h:ops.toList=[o1,o2])(g1:o1.op=.makeFunc (.func g) #[] cap)(Uh:o1.guard=none)(Ui:o1.dst=some d)
  (g2:o2.op=.defer c) (Ue:c.callee=.value (.tmp d)) (Uf:c.args=#[]) (Uc:o2.guard=none) (Ud:o2.dst=none) (a:Act) (w:World) (hd:d<a.tmps.size):
  (Code.region id ops false).wp P (λe a' w'=>e=.normal/\w'=w/\a'={tmps:=a.tmps.setIfInBounds d (.func (.func g) #[] (cap.map a.eval)),defers:={target:=.fn (.func g) (cap.map a.eval),args:=#[]}::a.defers}) a w:=by
 refine wp_region ?_
 have vR:ops=#[o1,o2] :=by apply oy;exact h
 subst vR;show wpOps P #[o1,o2] _ [0,1] a w;unfold wpOps;rw[show(#[o1,o2] :Array Oper)[0]? =some o1 from rfl];dsimp only;rw[ay (by simp[Region.wanted,Uh])];refine .inl ?_;unfold Oper.wp
 have e1:(Go.execOp a.eval o1).run P w=.ok (.value (.func (.func g) #[] (cap.map a.eval))) w:=by
  obtain⟨dst,op,ty,pos,after,guard⟩:=o1;dsimp only at g1;subst g1;simp[Go.execOp,Instr.makeFunc]
 rw[e1,Oper.upon_value,Ui];unfold wpOps;rw[show(#[o1,o2] :Array Oper)[1]? =some o2 from rfl];dsimp only;rw[ay (by simp[Region.wanted,Uc])];refine .inl ?_;unfold Oper.wp
 have ev:(a.put (some d) (.func (.func g) #[] (cap.map a.eval))).eval (.tmp d)=.func (.func g) #[] (cap.map a.eval):=by
  simp[Act.eval,Act.put,uR,hd]
 have e2:(Go.execOp (a.put (some d) (.func (.func g) #[] (cap.map a.eval))).eval o2).run P w=.ok (.defer {target:=.fn (.func g) (cap.map a.eval),args:=#[]}) w:=by
  obtain⟨dst,op,ty,pos,after,guard⟩:=o2;dsimp only at g2;subst g2;simp[Go.execOp,resolve,Ue,Uf,ev,Deferred.ofValue]
 rw[e2,Oper.upon_defer,Ud];unfold wpOps;exact⟨rfl,rfl,rfl⟩
def xl6{b:Frame}{k:List Item}{cs cs':List Frame}{ops:Array Oper}{i:Nat}{rest:List Nat}{o:Oper}{v:Value}(hb:b.kind=.deferred)(ho:ops[i]? =some o)(lj:o.guard=none)
  (hr:(Go.execOp a.eval o).run P w=.ok .recover w) (hv:(recoverD cs=some (v,cs'))\/(recoverD cs=none/\v=.nilIface/\cs'=cs)):
  step P (lone (b.at a (.inRegion ops (i::rest)::k)) cs w)=.next (lone (b.at (a.put o.dst v) (.inRegion ops rest::k)) cs' w):=by
 have hw:Region.wanted o (yielded ops a.tmps)=true:=by simp[Region.wanted,lj]
 have hg:=stepG_op (P:=P) (b:=b) (k:=k) (cs:=cs) (w:=w) (rest:=rest) ho hw
 have azZ:∀v,(b.at a (.inRegion ops (i::rest)::k)).finish v=b.at (a.put o.dst v) (.inRegion ops rest::k):=by
  intro v;rw[Frame.finish_at,ho];rfl
 have hk:(b.at a (.inRegion ops (i::rest)::k)).kind=.deferred:=hb;have Ts:=tryRecover_deferred hk cs;refine step_lone_go ?_;rw[hg,<-azZ];simp only[Frame.at]at Ts ⊢;rcases hv with Hj|⟨Hj,rfl,rfl⟩
 .simp[stepG.apply,hr,Ts,Hj]
 .simp[stepG.apply,hr,Ts,Hj]
def Fin.hand:Fin->SV
 |.ret _ _=>.dO .nilIface
 |.cE v _=>v
def Fin.mode(u:Value):Fin->FrameMode
 |.ret _ _=>.returning
 |.cE _ _=>.panicking [{v:=u,recovered:=false}]
def Fin.Mb(u:Value):Fin->FrameMode
 |.ret _ _=>.returning
 |.cE _ _=>.panicking [{v:=u,recovered:=true}]
def Fin.Nn(u:Value):Fin->Value
 |.ret _ _=>.nilIface
 |.cE _ _=>u
def dl{β:Type 2}(p:β->Prop):List β->Prop
 |[] =>True
 |x::l=>p x/\dl p l
def ic(hK:cV P E)(n:Nat)(p:ax){t:ak SV}
  (ht:(lY E n f args p).aO=t) (h:t.holds λx=>x=v) (hd:f7 args=true) (hv:v.data=true):SCall P f args v:=
 x84 (n:=n) (p:=p) hK hd hv (ak.F7 _ (by rw[ht];exact h))
def aQ.ahP{m1:Mem}(h:aQ w0 R0 I w m)(hn:m1.next=m.next)(hs:∀k B,m1.get k=some B->m.get k=some B):aQ w0 R0 I w m1/\m8 w0 R0 I w m I w m1:=by
 have dZ:∀b,RO w0 R0 I w m b->RO w0 R0 I w m1 b:=λb hb=>by
  rcases hb with hb|⟨k1,k2,k3,k4⟩
  .exact .inl hb
  .exact .inr ⟨k1,k2,λid B hB bj=>k3 id B (hs _ _ hB) bj,k4⟩
 have e:m8 w0 R0 I w m I w m1:=⟨by omega,λid aI=>rfl,λb hb=>⟨dZ b hb,rfl⟩⟩;refine⟨⟨h.below,λid B hB=>hn▸h.lt id B (hs _ _ hB),λid B hB=>h.lo id B (hs _ _ hB),λid B hB=>h.hi id B (hs _ _ hB),λid bY B B' hB rN=>h.inj id bY B B' (hs _ _ hB) (hs _ _ rN),λid B hB=>fN.mono e _ (λ_=>rfl) (h.box id _ (hs _ _ hB)),h.aI.1,λid B hB=>h.aI.2 id B (hs _ _ hB)⟩,e⟩
theorem Vo{m1:Mem}(h:aQ w0 R0 I w m)(hn:m1.next=m.next)(hs:∀k B,m1.get k=some B->m.get k=some B):∀{xs:List SV} {vs:List Value},(∀k,SV.row k∈xs->m1.get k=none)->j8 (RO w0 R0 I w m) I m.next w xs vs->j8 (RO w0 R0 I w m1) I m1.next w (xs.map (gd m)) vs
 |[],vs,_,hv=>hv
 |x::xs,vs,ho,hv=>by
  obtain⟨u,us,rfl,r1,r2⟩:=hv;have e:=(h.ahP hn hs).2;refine⟨u,us,rfl,?_,Vo h hn hs (λk hk=>ho k (.tail _ hk)) r2⟩
  have plain:gd m x=x->aJ (RO w0 R0 I w m1) I m1.next w (gd m x) u:=λe'=>by
   rw[e'];exact aJ.mono e _ _ r1
  cases x with
  |row id=>
   cases hg:m.get id with
   |none=>exact plain (by simp only[gd,hg])
   |some B=>
    cases B with
    |cells cs=>exact plain (by simp only[gd,hg])
    |iter s p=>exact plain (by simp only[gd,hg])
    |obj _ _=>exact plain (by simp only[gd,hg])
    |rows t l=>
     have e':gd m (.row id)=.list t l:=by simp only[gd,hg]
     rw[e'];obtain⟨_,a,hu,ha⟩:=r1;obtain⟨b1,b2,hp⟩:=h.box id _ hg;refine⟨a,(I id).2.2,by rw[hu,b1],b2,λh0=>?_⟩;have h0:0< (I id).2.2:=qS h0 b2;obtain⟨arr,el,fr,k1,k2,k3,k4⟩:=hp h0;refine⟨(I id).1,0,ha h0,.inr ⟨h.lo id _ hg h0,h.hi id _ hg h0,λbY B' hB bj dD=>?_,h.aI.2 id _ hg h0⟩,λi hi=>?_⟩
     .have:=h.inj bY id B' _ (hs _ _ hB) hg bj h0 dD
      subst this;rw[ho bY (.head _)]at hB;cases hB
     .obtain⟨cs,c1,c2,c3⟩:=k4 i hi
      refine⟨cs,c1,λj hj=>?_,p7.mono e.keep _ _ _ c3⟩;rw[rR w _ _ arr el fr k1,gY];exact c2 j hj
  |_=>exact plain rfl
def Cw{β:Type}:List SV->Mem->(Mem->ak β)->ak β
 |[],m,k=>k m
 |x::xs,m,k=>match x with
  |.row id=>m.set id none λm=>Cw xs m k
  |_=>Cw xs m k
def CW(m:Mem):ak SV->ak (SV×Mem)
 |.ai v=>.ai (v,m)
 |.ag b t f=>.ag b (CW m t) (CW m f)
 |.aj b t=>.aj b (CW m t)
 |.aA n=>.aA n
theorem Kb{Φ:SV->Prop}{Ψ:SV×Mem->Prop}(h:∀v,Φ v->Ψ (v,m)):∀t:ak SV,t.bw Φ->(CW m t).bw Ψ
 |.ai _,ht=>h _ ht
 |.ag _ t f,ht=>⟨λhb=>Kb h t (ht.1 hb),λhb=>Kb h f (ht.2 hb)⟩
 |.aj _ t,ht=>λhb=>Kb h t (ht hb)
 |.aA _,_=>trivial
theorem Oj{β:Type}{Φ:β->Prop}:∀ (xs:List SV) (m:Mem) (k:Mem->ak β),(∀m1:Mem,m1.next=m.next->(∀k B,m1.get k=some B->m.get k=some B)->(∀k,SV.row k∈xs->m1.get k=none)->(k m1).bw Φ)->(Cw xs m k).bw Φ
 |[],m,k,h=>h m rfl (λ_ _ h=>h) (λ_ h=>by cases h)
 |x::xs,m,k,h=>by
  have go:(∀k,SV.row k≠x)->(Cw xs m k).bw Φ:=λhx=>Oj xs m k λm1 h1 h2 h3=>h m1 h1 h2 λk hk=>by
   cases hk with
   |head=>exact absurd rfl (hx k)
   |tail _ hk=>exact h3 k hk
  cases x with
  |row id=>
   refine QS λm2 kZ=>Oj xs m2 k λm1 h1 h2 h3=>h m1 (h1.trans kZ.2) (λk B hB=>?_) λk hk=>?_
   .have:=h2 k B hB
    rw[kZ.1]at this
    split at this;.cases this
    .exact this
   .cases hk with
    |head=>
     cases hx:m1.get id with
     |none=>rfl
     |some B=>
      have:=h2 id B hx;rw[kZ.1,ay rfl]at this;cases this
    |tail _ hk=>exact h3 k hk
  |_=>exact go λk hk=>by cases hk
def aB.qn(x:aB):iY:=⟨x.f,λargs m=>match x.s (args.map (gd m))with
 |some t=>some (Cw args m λm1=>CW m1 t)
 |none=>none⟩
def aB.aAS{x:aB}(h:x.ok P):x.qn.ok P:=by
 intro args m t ht
 change (match x.s (args.map (gd m))with
  |some t=>some (Cw args m λm1=>CW m1 t)
  |none=>none)=some t at ht
 split at ht
 .rename_i t' rH
  cases ht
  refine Oj args m _ λm1 h1 h2 h3=>Kb (λv hv=>?_) _ (h _ _ rH)
  intro w0 R0 I w vs hm bR;obtain⟨d1,d2⟩:=hm.ahP h1 h2;refine kN.mono (λu w' hu=>?_) (hv m1 w0 R0 I w vs d1 (Vo hm h1 h2 h3 bR));obtain⟨I',g1,g2,g3⟩:=hu;exact⟨I',g1,d2.trans g2,g3⟩
 .cases ht
end
end Go.Sx
namespace Go.Proofs.YtnkaepnblikcdaaGreat
open Go.Sx
noncomputable abbrev pP:Program:=Tryz.prog
def aL:pP.follows .mixedOrders=true:=by kernel_rfl
def hB{l:List aB}{k:List iY}{j:List kq}{i:List bF}(ty ls rd cu:List Nat)(hl:mR pP l)(hk:∀x∈k,x.ok pP)(hj:∀x∈j,x.ok pP)(hi:∀x∈i,x.ok pP):cV pP (Env.cq pP (j9 l) (d9 k) (f0 j) (b9 i) (j6 ty) (j6 ls) (j6 rd) (j6 cu)):=q36 aL hl.all hk hj hi _ _ _ _
def v8{β:Type}{p:β->Prop}:∀x∈([] :List β),p x:=λ_ h=>by cases h
structure Ax where
 num:Int
 den:Int
 bP:Int
 bV:Int
 bB:Int
 min:Int
 max:Int
def Ax.cells(a:Ax):List SV:=[J a.num,J a.den,J a.bP,J a.bV,J a.bB,J a.min,J a.max]
structure Ma where
 x:Ax
 y:Ax
 z:Ax
 e:Ax
 xy:Bool
 aU:Int
def Ma.cells(m:Ma):List SV:=[J m.x.num,J m.x.den,J m.x.bP,J m.x.bV,J m.x.bB,J m.x.min,J m.x.max,
 J m.y.num,J m.y.den,J m.y.bP,J m.y.bV,J m.y.bB,J m.y.min,J m.y.max,
 J m.z.num,J m.z.den,J m.z.bP,J m.z.bV,J m.z.bB,J m.z.min,J m.z.max,
 J m.e.num,J m.e.den,J m.e.bP,J m.e.bV,J m.e.bB,J m.e.min,J m.e.max,.bool m.xy,J m.aU]
def Ma.sv(m:Ma):SV:=.agg m.cells
structure Co where
 target:Int
 kp:Int
 ki:Int
 scale:Int
 sum:Int
 dA:Int
def Co.cells(c:Co):List SV:=[J c.target,J c.kp,J c.ki,J c.scale,J c.sum,J c.dA]
def Co.sv(c:Co):SV:=.agg c.cells
structure Gu where
 low:Int
 bQ:Int
 watch:Int
 cG:Int
 bN:Int
 base:Int
 count:Int
 idle:Int
 quiet:Int
 fault:Int
 dc:Bool
def Gu.cells(g:Gu):List SV:=[J g.low,J g.bQ,J g.watch,J g.cG,J g.bN,J g.base,J g.count,J g.idle,J g.quiet,J g.fault,.bool g.dc]
def Gu.sv(g:Gu):SV:=.agg g.cells
def az(n lo hi:Int):Bool:=lo<=n&&n<=hi
variable{n:Int}
def v5{lo hi:Int}:az n lo hi=true↔lo<=n/\n<=hi:=by simp[az]
def Ax.ok(a:Ax):Bool:=az a.num 1 65536&&az a.den 1 a.num&&az a.bP 1 1048576&&az a.bV 1 16777216&&az a.bB 1 1048576&&a.min<=a.max&&-1048576<=a.min&&a.max<=1048576
def Ax.bz(a:Ax):a.ok=true↔(1<=a.num/\a.num<=65536)/\(1<=a.den/\a.den<=a.num)/\(1<=a.bP/\a.bP<=1048576)/\(1<=a.bV/\a.bV<=16777216)/\(1<=a.bB/\a.bB<=1048576)/\a.min<=a.max/\-1048576<=a.min/\a.max<=1048576:=by
 simp only[Ax.ok,aH,v5,aV,H7]
def Ma.ok(m:Ma):Bool:=m.x.ok&& (m.y.ok&& (m.z.ok&& (m.e.ok&&az m.aU 1 1048576)))
def Co.ok(c:Co):Bool:=az c.target 0 400000&&az c.kp 0 1048576&&az c.ki 0 1048576&&az c.scale 1 1073741824&&az c.dA 0 1099511627776&&az c.sum 0 c.dA
def Co.bz(c:Co):c.ok=true↔(0<=c.target/\c.target<=400000)/\(0<=c.kp/\c.kp<=1048576)/\(0<=c.ki/\c.ki<=1048576)/\(1<=c.scale/\c.scale<=1073741824)/\(0<=c.dA/\c.dA<=1099511627776)/\0<=c.sum/\c.sum<=c.dA:=by
 simp only[Co.ok,aH,v5,aV,H7]
def Gu.ok(g:Gu):Bool:=g.low<=g.bQ&&az g.low (-1073741824) 1073741824&&az g.bQ (-1073741824) 1073741824&&az g.base (-1073741824) 1073741824 &&
 az g.watch 1 1048576&&az g.idle 1 1048576&&az g.cG 1 400000&&az g.bN 0 400000&&az g.count 0 g.watch&&az g.quiet 0 g.idle&&az g.fault 0 4
def Gu.bz(g:Gu):g.ok=true↔g.low<=g.bQ/\(-1073741824<=g.low/\g.low<=1073741824)/\(-1073741824<=g.bQ/\g.bQ<=1073741824)/\(-1073741824<=g.base/\g.base<=1073741824)/\
  (1<=g.watch/\g.watch<=1048576)/\(1<=g.idle/\g.idle<=1048576)/\(1<=g.cG/\g.cG<=400000)/\(0<=g.bN/\g.bN<=400000)/\(0<=g.count/\g.count<=g.watch)/\(0<=g.quiet/\g.quiet<=g.idle)/\0<=g.fault/\g.fault<=4:=by
 simp only[Gu.ok,aH,v5,aV,H7]
def Ma.bz(m:Ma):m.ok=true↔m.x.ok=true/\m.y.ok=true/\m.z.ok=true/\m.e.ok=true/\1<=m.aU/\m.aU<=1048576:=by
 simp only[Ma.ok,aH,v5]
abbrev V4:=Int×Int×Int×Int
def V4.cells(c:V4):List SV:=[J c.1,J c.2.1,J c.2.2.1,J c.2.2.2]
def V4.sv(c:V4):SV:=.agg [J c.1,J c.2.1,J c.2.2.1,J c.2.2.2]
def z4:V4:=(0,0,0,0)
def f5(a b:V4):V4:=(a.1+b.1,a.2.1+b.2.1,a.2.2.1+b.2.2.1,a.2.2.2+b.2.2.2)
def iC(a b:V4):V4:=(a.1-b.1,a.2.1-b.2.1,a.2.2.1-b.2.2.1,a.2.2.2-b.2.2.2)
def G7(k:Int)(c:V4):Bool:=az c.1 (-k) k&& (az c.2.1 (-k) k&& (az c.2.2.1 (-k) k&&az c.2.2.2 (-k) k))
variable{k:Int}{c:V4}
def DM:G7 k c=true↔(-k<=c.1/\c.1<=k)/\(-k<=c.2.1/\c.2.1<=k)/\(-k<=c.2.2.1/\c.2.2.1<=k)/\-k<=c.2.2.2/\c.2.2.2<=k:=by
 simp only[G7,aH,v5]
def u7(c:V4):Bool:=G7 16777216 c
def fO{c:V4}:u7 c=true↔(-16777216<=c.1/\c.1<=16777216)/\(-16777216<=c.2.1/\c.2.1<=16777216)/\(-16777216<=c.2.2.1/\c.2.2.1<=16777216)/\-16777216<=c.2.2.2/\c.2.2.2<=16777216:=DM
def bO(c:V4):Bool:=!(c.1==0&& (c.2.1==0&& (c.2.2.1==0&&c.2.2.2==0)))
def O6:bO c=true↔¬(c.1=0/\c.2.1=0/\c.2.2.1=0/\c.2.2.2=0):=by
 simp only[bO,iJ,aiw,dM,dz];omega
def bM(c:V4):Bool:=u7 c&&bO c
def nU:bM c=true↔((-16777216<=c.1/\c.1<=16777216)/\(-16777216<=c.2.1/\c.2.1<=16777216)/\(-16777216<=c.2.2.1/\c.2.2.1<=16777216)/\-16777216<=c.2.2.2/\c.2.2.2<=16777216)/\¬(c.1=0/\c.2.1=0/\c.2.2.1=0/\c.2.2.2=0):=by
 simp only[bM,aH,fO,O6]
def sz(n:Int):Int:=if n<0 then -n else n
def Ei(n:Int):0<=sz n:=by unfold sz;split<;>omega
def mx(a b:Int):Int:=if b>a then b else a
def cQ(c:V4):Int:=mx (mx (mx (mx 0 (sz c.1)) (sz c.2.1)) (sz c.2.2.1)) (sz c.2.2.2)
def aF(c:V4):Int:=match bM c with
 |true=>cQ c
 |false=>0
def vk(h:bM c=true):1<=cQ c/\cQ c<=16777216/\sz c.1<=cQ c/\sz c.2.1<=cQ c/\sz c.2.2.1<=cQ c/\sz c.2.2.2<=cQ c:=by
 rw[nU]at h;unfold cQ mx sz;omega
def AU(h:bM c=true):aF c=cQ c:=by unfold aF;rw[h]
def IT(h:bM c=false):aF c=0:=by unfold aF;rw[h]
def nQ(c:V4):0<=aF c/\aF c<=16777216:=by
 cases h:bM c with
 |true=>rw[AU h];have:=vk h;omega
 |false=>rw[IT h];omega
def Wd(h:bM c=true):1<=aF c:=by rw[AU h];exact(vk h).1
def jD(n i k:Int):Int:=if k<0 then -((2*i*sz k+n) / (2*n))else(2*i*sz k+n) / (2*n)
def mM(n i:Int):Int:=if i<0 then 0 else if n<i then n else i
def fK(c:V4)(i:Int):V4:=match bM c with
 |true=>(jD (cQ c) (mM (cQ c) i) c.1,jD (cQ c) (mM (cQ c) i) c.2.1,jD (cQ c) (mM (cQ c) i) c.2.2.1,jD (cQ c) (mM (cQ c) i) c.2.2.2)
 |false=>z4
def nC(c:V4)(i:Int):V4:=match az i 1 (aF c)with
 |true=>iC (fK c i) (fK c (i-1))
 |false=>z4
abbrev Bk:=V4×Int×Int×Int×Int
def Bk.sv(b:Bk):SV:=.agg [J b.1.1,J b.1.2.1,J b.1.2.2.1,J b.1.2.2.2,J b.2.1,J b.2.2.1,J b.2.2.2.1,J b.2.2.2.2]
def n7(b:Bk):Bool:=bM b.1&& (az b.2.1 1 16777216&&az b.2.2.2.1 1 1099511627776)
def Ac{b:Bk}:n7 b=true↔bM b.1=true/\(1<=b.2.1/\b.2.1<=16777216)/\1<=b.2.2.2.1/\b.2.2.2.1<=1099511627776:=by
 simp only[n7,aH,v5]
def f6(b:Bk):Bool:=n7 b&& (az b.2.2.1 0 b.2.2.2.1&&az b.2.2.2.2 0 b.2.2.2.1)
def sV{b:Bk}:f6 b=true↔(bM b.1=true/\(1<=b.2.1/\b.2.1<=16777216)/\1<=b.2.2.2.1/\b.2.2.2.1<=1099511627776)/\(0<=b.2.2.1/\b.2.2.1<=b.2.2.2.1)/\0<=b.2.2.2.2/\b.2.2.2.2<=b.2.2.2.1:=by
 simp only[f6,aH,v5,Ac]
def iV(b:Bk):Int:=2*b.2.1*aF b.1
def jh{b c:Bool}(h:b=true↔c=true):SV.bool b=SV.bool c:=rQ SV.bool (uQ.2 h)
def KU(f:FuncId)(h:Ma->SV):aB:=⟨f,λargs=>match args with
 |[.agg [.int .i64 a0,.int .i64 a1,.int .i64 a2,.int .i64 a3,.int .i64 a4,.int .i64 a5,.int .i64 a6,.int .i64 b0,.int .i64 b1,.int .i64 b2,.int .i64 b3,.int .i64 b4,.int .i64 b5,.int .i64 b6,
   .int .i64 c0,.int .i64 c1,.int .i64 c2,.int .i64 c3,.int .i64 c4,.int .i64 c5,.int .i64 c6,.int .i64 d0,.int .i64 d1,.int .i64 d2,.int .i64 d3,.int .i64 d4,.int .i64 d5,.int .i64 d6,.bool xy,.int .i64 t]] =>
  some (.ai (h ⟨⟨a0,a1,a2,a3,a4,a5,a6⟩,⟨b0,b1,b2,b3,b4,b5,b6⟩,⟨c0,c1,c2,c3,c4,c5,c6⟩,⟨d0,d1,d2,d3,d4,d5,d6⟩,xy,t⟩))
 |_=>none⟩
variable{P:Program}{f:FuncId}
def qv7{h:Ma->SV}(k:∀m:Ma,SCall P f [m.sv] (h m)):(KU f h).ok P:=λargs t ht=>by
 simp only[KU]at ht
 split at ht<;>cases ht;exact k ⟨⟨_,_,_,_,_,_,_⟩,⟨_,_,_,_,_,_,_⟩,⟨_,_,_,_,_,_,_⟩,⟨_,_,_,_,_,_,_⟩,_,_⟩
def K3(f:FuncId)(h:Co->SV):aB:=⟨f,λargs=>match args with
 |[.agg [.int .i64 a0,.int .i64 a1,.int .i64 a2,.int .i64 a3,.int .i64 a4,.int .i64 a5]] =>some (.ai (h ⟨a0,a1,a2,a3,a4,a5⟩))
 |_=>none⟩
def qq6{h:Co->SV}(k:∀m:Co,SCall P f [m.sv] (h m)):(K3 f h).ok P:=λargs t ht=>by
 simp only[K3]at ht
 split at ht<;>cases ht;exact k ⟨_,_,_,_,_,_⟩
def KZ(f:FuncId)(h:Gu->SV):aB:=⟨f,λargs=>match args with
 |[.agg [.int .i64 a0,.int .i64 a1,.int .i64 a2,.int .i64 a3,.int .i64 a4,.int .i64 a5,.int .i64 a6,.int .i64 a7,.int .i64 a8,.int .i64 a9,.bool b]] =>some (.ai (h ⟨a0,a1,a2,a3,a4,a5,a6,a7,a8,a9,b⟩))
 |_=>none⟩
def qt2{h:Gu->SV}(k:∀m:Gu,SCall P f [m.sv] (h m)):(KZ f h).ok P:=λargs t ht=>by
 simp only[KZ]at ht
 split at ht<;>cases ht;exact k ⟨_,_,_,_,_,_,_,_,_,_,_⟩
def xC7(c:Co):SCall pP 180 [c.sv] (.bool c.ok):=
 aY aL [] trivial 1000 (let z0:ax:=.ln 3 pA;.ah .all (.ah z0 (.ln 3 (.ah .all (.ah (.ln 11 pA) (.ln 3 (.ah (.ln 7 pA) (.ln 3 (.ah z0 (.ln 3 (.ah .all (.ah (.ln 11 pA) (.ln 3 (.ah (.ln 7 pA) (.ln 3 (.ah z0 (.ln 3 (.ah .all (.ah (.ln 4 pA) (.ln 4 pA))))))))))))))))))))
  (t:=let y0:ak SV:=.ai (.bool false);.ag (c.target==0&& (c.kp==0&& (c.ki==0&& (c.scale==0&& (c.sum==0&& (c.dA==0&&true)))))) y0 (.ag (c.target<0) y0 (.ag (c.target>400000) y0 (.ag (c.kp<0) y0 (.ag (c.kp>1048576) y0 (.ag (c.ki<0) y0 (.ag (c.ki>1048576) y0 (.ag (c.scale<1) y0 (.ag (c.scale>1073741824) y0 (.ag (c.dA<0) y0 (.ag (c.dA>1099511627776) y0 (.ag (c.sum>=0) (.ai (.bool (c.sum<=c.dA))) y0))))))))))))
  (by kernel_rfl) (by simp only[ak.holds,HS,dV,iJ,qW,aV,ez,aH,cI];(repeat' (first|apply aX|intro _));all_goals(refine jh ?_;rw[Co.bz];(try simp only[aV,eY,vW]);omega)) (by kernel_rfl)
def xC8(c:Co):SCall pP 138 [c.sv] (.bool c.ok):=
 aY aL [] trivial 1000 (.ah (.ln 3 (.ah (.ln 3 (.ah (.ln 3 (.ah (.ln 3 (.ah (.ln 3 (.ah (.ln 3 (.ah (.ln 3 (.ah (.ln 3 (.ah (.ln 3 (.ah (.ln 3 (.ah (.ln 4 pA) (.ln 4 pA))) (.ln 8 pA))) (.ln 12 pA))) (.ln 16 pA))) (.ln 20 pA))) (.ln 24 pA))) (.ln 28 pA))) (.ln 32 pA))) (.ln 36 pA))) (.ln 40 pA))) (.ln 44 pA))
  (t:=let y0:ak SV:=.ai (.bool false);.ag (c.target>=0) (.ag (c.target<=400000) (.ag (c.kp>=0) (.ag (c.kp<=1048576) (.ag (c.ki>=0) (.ag (c.ki<=1048576) (.ag (c.scale>=1) (.ag (c.scale<=1073741824) (.ag (c.dA>=0) (.ag (c.dA<=1099511627776) (.ag (c.sum>=0) (.ai (.bool (c.sum<=c.dA))) y0) y0) y0) y0) y0) y0) y0) y0) y0) y0) y0)
  (by kernel_rfl) (by simp only[ak.holds,HS,dV,iJ,qW,aV,ez,aH,cI];(repeat' (first|apply aX|intro _));all_goals(refine jh ?_;rw[Co.bz];(try simp only[aV,eY,vW]);omega)) (by kernel_rfl)
def xI4(g:Gu):ak.holds (λv=>v=(.bool g.ok)) (let y0:ak SV:=.ai (.bool false);.ag (g.low>g.bQ) y0 (.ag (g.low>=-1073741824) (.ag (!decide (g.low<=1073741824)) y0 (.ag (g.bQ>=-1073741824) (.ag (!decide (g.bQ<=1073741824)) y0 (.ag (g.base>=-1073741824) (.ag (!decide (g.base<=1073741824)) y0 (.ag (g.watch>=1) (.ag (!decide (g.watch<=1048576)) y0 (.ag (g.idle>=1) (.ag (!decide (g.idle<=1048576)) y0 (.ag (g.cG>=1) (.ag (!decide (g.cG<=400000)) y0 (.ag (g.bN>=0) (.ag (!decide (g.bN<=400000)) y0 (.ag (g.count>=0) (.ag (g.count<=g.watch) (.ag (g.quiet>=0) (.ag (g.quiet<=g.idle) (.ag (g.fault>=0) (.ai (.bool (g.fault<=4))) y0) y0) y0) y0) y0)) y0)) y0)) y0)) y0)) y0)) y0)) y0):ak SV):=by simp only[ak.holds,HS,dV,iJ,qW,aV,ez,aH,cI];(repeat' (first|apply aX|intro _));all_goals(refine jh ?_;rw[Gu.bz];(try simp only[aV,eY,vW]);omega)
def xI2(g:Gu):SCall pP 151 [g.sv] (.bool g.ok):=
 aY aL [] trivial 1000 (.ah (.ln 14 pA) (.ar (.ar (.ah (.ln 5 (.ah (.ln 9 pA) (.ar (.ar (.ah (.ln 5 (.ah (.ln 4 pA) (.ar (.ar (.ah (.ln 5 (.ah .all (.ah (.ln 3 (.ah (.ln 14 pA) (.ar (.ar (.ah (.ln 5 (.ah (.ln 9 pA) (.ar (.ar (.ah (.ln 5 (.ah (.ln 4 pA) (.ar (.ar (.ah (.ln 5 (.ah .all (.ah (.ln 3 (.ah (.ln 4 (.ah (.ln 4 (.ah (.ar (.ar (.ah (.ln 3 pA) (.ln 3 pA)))) (.ar (.ar pA)))) (.ln 7 pA))) (.ln 8 pA))) (.ln 12 pA)))) (.ln 5 pA)))))) (.ln 10 pA)))))) (.ln 15 pA)))))) (.ln 18 pA)))) (.ln 5 pA)))))) (.ln 10 pA)))))) (.ln 15 pA)))))
  (by kernel_rfl) (xI4 g) (by kernel_rfl)
def xI3(g:Gu):SCall pP 139 [g.sv] (.bool g.ok):=
 aY aL [] trivial 1000 (.ah (.ln 14 pA) (.ar (.ar (.ah (.ln 5 (.ah (.ln 9 pA) (.ar (.ar (.ah (.ln 5 (.ah (.ln 4 pA) (.ar (.ar (.ah (.ln 5 (.ah .all (.ah (.ln 3 (.ah (.ln 14 pA) (.ar (.ar (.ah (.ln 5 (.ah (.ln 9 pA) (.ar (.ar (.ah (.ln 5 (.ah (.ln 4 pA) (.ar (.ar (.ah (.ln 5 (.ah .all (.ah (.ln 3 (.ah (.ln 4 (.ah (.ln 4 (.ah (.ar (.ar (.ah (.ln 3 pA) (.ln 3 pA)))) (.ar (.ar pA)))) (.ln 7 pA))) (.ln 8 pA))) (.ln 12 pA)))) (.ln 5 pA)))))) (.ln 10 pA)))))) (.ln 15 pA)))))) (.ln 18 pA)))) (.ln 5 pA)))))) (.ln 10 pA)))))) (.ln 15 pA)))))
  (by kernel_rfl) (xI4 g) (by kernel_rfl)
def xM8(m:Ma):SCall pP 179 [m.sv] (.bool m.ok):=
 aY aL [] trivial 1000 (let z0:ax:=.ln 37 pA;let z1:ax:=.ln 30 pA;let z2:ax:=.ln 25 pA;let z3:ax:=.ln 20 pA;let z4:ax:=.ln 15 pA;let z5:ax:=.ln 10 pA;let z6:ax:=.ln 21 pA;let z7:ax:=.ln 26 pA;let z8:ax:=.ln 31 pA;let z9:ax:=.ln 36 pA;let Js:ax:=.ln 41 pA;let Jr:ax:=.ln 9 pA;let z12:ax:=.ln 4 pA;let Jq:ax:=.ln 5 pA;.go (.ar (.ah (.ln 3 (.ah z0 (.ln 4 (.ah (.ln 5 (.ah z1 (.ar (.ar (.ah (.ln 5 (.ah z2 (.ar (.ar (.ah (.ln 5 (.ah z3 (.ar (.ar (.ah (.ln 5 (.ah z4 (.ln 5 (.ah Jr (.ar (.ar (.ah (.ln 5 (.ah z12 (.ar (.ar (.ah (.ln 5 (.ah .all (.go (.ar (.ah (.ln 3 (.ah z0 (.ln 4 (.ah (.ln 5 (.ah z1 (.ar (.ar (.ah (.ln 5 (.ah z2 (.ar (.ar (.ah (.ln 5 (.ah z3 (.ar (.ar (.ah (.ln 5 (.ah z4 (.ln 5 (.ah Jr (.ar (.ar (.ah (.ln 5 (.ah z12 (.ar (.ar (.ah (.ln 5 (.ah .all (.go (.ar (.ah (.ln 3 (.ah z0 (.ln 4 (.ah (.ln 5 (.ah z1 (.ar (.ar (.ah (.ln 5 (.ah z2 (.ar (.ar (.ah (.ln 5 (.ah z3 (.ar (.ar (.ah (.ln 5 (.ah z4 (.ln 5 (.ah Jr (.ar (.ar (.ah (.ln 5 (.ah z12 (.ar (.ar (.ah (.ln 5 (.ah .all (.go (.ar (.ah (.ln 3 (.ah z0 (.ln 4 (.ah (.ln 5 (.ah z1 (.ar (.ar (.ah (.ln 5 (.ah z2 (.ar (.ar (.ah (.ln 5 (.ah z3 (.ar (.ar (.ah (.ln 5 (.ah z4 (.ln 5 (.ah Jr (.ar (.ar (.ah (.ln 5 (.ah z12 (.ar (.ar (.ah (.ln 5 (.ah .all (.go (.ar (.ah (.ar (.ar pA)) (.ar (.ar pA))))))) Jq))))) z5))))))) z6))))) z7))))) z8))))) z9)))) Js))))) Jq))))) z5))))))) z6))))) z7))))) z8))))) z9)))) Js))))) Jq))))) z5))))))) z6))))) z7))))) z8))))) z9)))) Js))))) Jq))))) z5))))))) z6))))) z7))))) z8))))) z9)))) Js)))
  (t:=let y0:ak SV:=.ai (.bool false);rT (.ag (m.x.num>=1) (.ag (!decide (m.x.num<=65536)) y0 (.ag (m.x.den>=1) (.ag (!decide (m.x.den<=m.x.num)) y0 (.ag (m.x.bP>=1) (.ag (!decide (m.x.bP<=1048576)) y0 (.ag (m.x.bV>=1) (.ag (!decide (m.x.bV<=16777216)) y0 (.ag (m.x.bB>=1) (.ag (!decide (m.x.bB<=1048576)) y0 (.ag (m.x.min>m.x.max) y0 (.ag (m.x.min>=-1048576) (.ag (!decide (m.x.min<=1048576)) y0 (.ag (m.x.max>=-1048576) (.ag (!decide (m.x.max<=1048576)) y0 (rT (.ag (m.y.num>=1) (.ag (!decide (m.y.num<=65536)) y0 (.ag (m.y.den>=1) (.ag (!decide (m.y.den<=m.y.num)) y0 (.ag (m.y.bP>=1) (.ag (!decide (m.y.bP<=1048576)) y0 (.ag (m.y.bV>=1) (.ag (!decide (m.y.bV<=16777216)) y0 (.ag (m.y.bB>=1) (.ag (!decide (m.y.bB<=1048576)) y0 (.ag (m.y.min>m.y.max) y0 (.ag (m.y.min>=-1048576) (.ag (!decide (m.y.min<=1048576)) y0 (.ag (m.y.max>=-1048576) (.ag (!decide (m.y.max<=1048576)) y0 (rT (.ag (m.z.num>=1) (.ag (!decide (m.z.num<=65536)) y0 (.ag (m.z.den>=1) (.ag (!decide (m.z.den<=m.z.num)) y0 (.ag (m.z.bP>=1) (.ag (!decide (m.z.bP<=1048576)) y0 (.ag (m.z.bV>=1) (.ag (!decide (m.z.bV<=16777216)) y0 (.ag (m.z.bB>=1) (.ag (!decide (m.z.bB<=1048576)) y0 (.ag (m.z.min>m.z.max) y0 (.ag (m.z.min>=-1048576) (.ag (!decide (m.z.min<=1048576)) y0 (.ag (m.z.max>=-1048576) (.ag (!decide (m.z.max<=1048576)) y0 (rT (.ag (m.e.num>=1) (.ag (!decide (m.e.num<=65536)) y0 (.ag (m.e.den>=1) (.ag (!decide (m.e.den<=m.e.num)) y0 (.ag (m.e.bP>=1) (.ag (!decide (m.e.bP<=1048576)) y0 (.ag (m.e.bV>=1) (.ag (!decide (m.e.bV<=16777216)) y0 (.ag (m.e.bB>=1) (.ag (!decide (m.e.bB<=1048576)) y0 (.ag (m.e.min>m.e.max) y0 (.ag (m.e.min>=-1048576) (.ag (!decide (m.e.min<=1048576)) y0 (.ag (m.e.max>=-1048576) (.ag (!decide (m.e.max<=1048576)) y0 (.ag (m.aU>=1) (.ai (.bool (m.aU<=1048576))) y0)) y0)) y0))) y0)) y0)) y0)) y0)) y0))) y0)) y0))) y0)) y0)) y0)) y0)) y0))) y0)) y0))) y0)) y0)) y0)) y0)) y0))) y0)) y0))) y0)) y0)) y0)) y0)) y0))
  (by kernel_rfl) (by simp only[ak.holds,HS,dV,iJ,qW,aV,ez,aH,cI];(repeat' (first|apply aX|intro _));all_goals(refine jh ?_;rw[Ma.bz];(try simp only[Ax.bz,aV,eY,vW]);first|(intro hh;omega)|(constructor<;>intro hh<;>(try simp only[H7])<;>(repeat' apply aX)<;>omega))) (by kernel_rfl)
def xM9(m:Ma):SCall pP 67 [m.sv] (.bool m.ok):=
 aY aL [] trivial 1000 (let z0:ax:=.ln 7 pA;let z1:ax:=.ln 3 pA;let z2:ax:=.ln 37 pA;let z3:ax:=.ln 33 pA;let z4:ax:=.ln 29 pA;let z5:ax:=.ln 23 pA;let z6:ax:=.ln 19 pA;let z7:ax:=.ln 15 pA;let z8:ax:=.ln 11 pA;.go (.ar (.ah z2 (.ln 3 (.ah z3 (.ln 3 (.ah z4 (.ln 5 (.ah z5 (.ln 3 (.ah z6 (.ln 3 (.ah z7 (.ln 3 (.ah z8 (.ln 3 (.ah z0 (.ln 3 (.ah z1 (.ln 3 (.ah .all (.ah z0 (.ln 3 (.ah z1 (.ln 3 (.ah .all (.go (.ar (.ah z2 (.ln 3 (.ah z3 (.ln 3 (.ah z4 (.ln 5 (.ah z5 (.ln 3 (.ah z6 (.ln 3 (.ah z7 (.ln 3 (.ah z8 (.ln 3 (.ah z0 (.ln 3 (.ah z1 (.ln 3 (.ah .all (.ah z0 (.ln 3 (.ah z1 (.ln 3 (.ah .all (.go (.ar (.ah z2 (.ln 3 (.ah z3 (.ln 3 (.ah z4 (.ln 5 (.ah z5 (.ln 3 (.ah z6 (.ln 3 (.ah z7 (.ln 3 (.ah z8 (.ln 3 (.ah z0 (.ln 3 (.ah z1 (.ln 3 (.ah .all (.ah z0 (.ln 3 (.ah z1 (.ln 3 (.ah .all (.go (.ar (.ah z2 (.ln 3 (.ah z3 (.ln 3 (.ah z4 (.ln 5 (.ah z5 (.ln 3 (.ah z6 (.ln 3 (.ah z7 (.ln 3 (.ah z8 (.ln 3 (.ah z0 (.ln 3 (.ah z1 (.ln 3 (.ah .all (.ah z0 (.ln 3 (.ah z1 (.ln 3 (.ah .all (.go (.ar (.ah (.ar (.ar pA)) (.ar (.ar pA)))))))))))))))))))))))))))))))))))))))))))))))))))))))))))))))))))))))))))))))))))))))))))))))))))))))))))))
  (t:=let y0:ak SV:=.ai (.bool false);rT (.ag (m.x.num<1) y0 (.ag (m.x.num>65536) y0 (.ag (m.x.den<1) y0 (.ag (m.x.den>m.x.num) y0 (.ag (m.x.bP<1) y0 (.ag (m.x.bP>1048576) y0 (.ag (m.x.bV<1) y0 (.ag (m.x.bV>16777216) y0 (.ag (m.x.bB<1) y0 (.ag (m.x.bB>1048576) y0 (.ag (m.x.min>m.x.max) y0 (.ag (m.x.min < -1048576) y0 (.ag (m.x.max>1048576) y0 (rT (.ag (m.y.num<1) y0 (.ag (m.y.num>65536) y0 (.ag (m.y.den<1) y0 (.ag (m.y.den>m.y.num) y0 (.ag (m.y.bP<1) y0 (.ag (m.y.bP>1048576) y0 (.ag (m.y.bV<1) y0 (.ag (m.y.bV>16777216) y0 (.ag (m.y.bB<1) y0 (.ag (m.y.bB>1048576) y0 (.ag (m.y.min>m.y.max) y0 (.ag (m.y.min < -1048576) y0 (.ag (m.y.max>1048576) y0 (rT (.ag (m.z.num<1) y0 (.ag (m.z.num>65536) y0 (.ag (m.z.den<1) y0 (.ag (m.z.den>m.z.num) y0 (.ag (m.z.bP<1) y0 (.ag (m.z.bP>1048576) y0 (.ag (m.z.bV<1) y0 (.ag (m.z.bV>16777216) y0 (.ag (m.z.bB<1) y0 (.ag (m.z.bB>1048576) y0 (.ag (m.z.min>m.z.max) y0 (.ag (m.z.min < -1048576) y0 (.ag (m.z.max>1048576) y0 (rT (.ag (m.e.num<1) y0 (.ag (m.e.num>65536) y0 (.ag (m.e.den<1) y0 (.ag (m.e.den>m.e.num) y0 (.ag (m.e.bP<1) y0 (.ag (m.e.bP>1048576) y0 (.ag (m.e.bV<1) y0 (.ag (m.e.bV>16777216) y0 (.ag (m.e.bB<1) y0 (.ag (m.e.bB>1048576) y0 (.ag (m.e.min>m.e.max) y0 (.ag (m.e.min < -1048576) y0 (.ag (m.e.max>1048576) y0 (.ag (m.aU>=1) (.ai (.bool (m.aU<=1048576))) y0)))))))))))))))))))))))))))))))))))))))))))))))))))))))))
  (by kernel_rfl) (by simp only[ak.holds,HS,dV,iJ,qW,aV,ez,aH,cI];(repeat' (first|apply aX|intro _));all_goals(refine jh ?_;rw[Ma.bz];(try simp only[Ax.bz,aV,eY,vW]);first|(intro hh;omega)|(constructor<;>intro hh<;>(try simp only[H7])<;>(repeat' apply aX)<;>omega))) (by kernel_rfl)
def z58:aB:=K3 180 λc=>.bool c.ok
def O2:z58.ok pP:=qq6 xC7
def z59:aB:=K3 138 λc=>.bool c.ok
def O1:z59.ok pP:=qq6 xC8
def DL:aB:=KZ 151 λc=>.bool c.ok
def Fu:DL.ok pP:=qt2 xI2
def DK:aB:=KZ 139 λc=>.bool c.ok
def Ft:DK.ok pP:=qt2 xI3
def pS:aB:=KU 179 λc=>.bool c.ok
def qB:pS.ok pP:=qv7 xM8
def pR:aB:=KU 67 λc=>.bool c.ok
def qA:pR.ok pP:=qv7 xM9
theorem xQ0(c:V4):SCall pP 243 [V4.sv c] (.bool (bM c)):=
 aY aL [] trivial 1000 (let z0:ax:=.ar (.ar pA);.go (.ar (.ah z0 (.ar (.ar (.ah .all (.go (.ar (.ah z0 (.ar (.ar (.ah .all (.go (.ar (.ah z0 (.ar (.ar (.ah .all (.go (.ar (.ah z0 (.ar (.ar (.ah .all (.go pA)))))))))))))))))))))))))
  (t:=let y0:ak SV:=.ai (.bool false);rT (.ag (c.1 < -16777216) y0 (.ag (c.1>16777216) y0 (rT (.ag (c.2.1 < -16777216) y0 (.ag (c.2.1>16777216) y0 (rT (.ag (c.2.2.1 < -16777216) y0 (.ag (c.2.2.1>16777216) y0 (rT (.ag (c.2.2.2 < -16777216) y0 (.ag (c.2.2.2>16777216) y0 (.ai (.bool !(c.1==0&& (c.2.1==0&& (c.2.2.1==0&& (c.2.2.2==0&&true))))))))))))))))))
  (by kernel_rfl) (by simp only[ak.holds,sM];(repeat' (first|apply aX|intro _));all_goals(refine jh ?_;rw[nU];(try simp only[sM]); first|omega|grind)) (by kernel_rfl)
theorem xQ1(c:V4):SCall pP 97 [V4.sv c] (.bool (bM c)):=
 aY aL [] trivial 1000 (let z0:ax:=.ln 4 pA;let z2:ax:=.go pA;let z1:ax:=.go (.ar (.ah z0 (.ln 4 (.ah .all (.ln 5 z2)))));.go (.ar (.ah z0 (.ln 4 (.ah .all (.ln 5 (.go (.ar (.ah z0 (.ln 4 (.ah .all (.ah (.ln 4 (.go (.ar (.ah z0 (.ln 4 (.ah .all (.ln 5 z1))))))) (.ln 4 (.go (.ar (.ah z0 (.ln 4 (.ah .all (.ah (.ln 4 z1) (.ln 4 (.go (.ar (.ah z0 (.ln 4 (.ah .all (.ah (.ln 4 z2) (.ln 4 z2)))))))))))))))))))))))))))
  (t:=let y0:ak SV:=.ai (.bool false);let y1:ak SV:=rT (.ag (c.2.2.2 < -16777216) y0 (rT (.ag (c.2.2.2>16777216) y0 (.ai (.bool true)))));rT (.ag (c.1 < -16777216) y0 (rT (.ag (c.1>16777216) y0 (rT (rT (.ag (c.2.1 < -16777216) y0 (rT (.ag (c.2.1>16777216) y0 (.ag (c.1 != 0) (rT (.ag (c.2.2.1 < -16777216) y0 (rT (.ag (c.2.2.1>16777216) y0 y1)))) (rT (rT (.ag (c.2.2.1 < -16777216) y0 (rT (.ag (c.2.2.1>16777216) y0 (.ag (c.2.1 != 0) y1 (rT (rT (.ag (c.2.2.2 < -16777216) y0 (rT (.ag (c.2.2.2>16777216) y0 (.ag (c.2.2.1 != 0) (.ai (.bool true)) (rT (.ai (.bool (c.2.2.2 != 0))))))))))))))))))))))))))
  (by kernel_rfl) (by simp only[ak.holds,sM];(repeat' (first|apply aX|intro _));all_goals(refine jh ?_;rw[nU];(try simp only[sM]); first|omega|grind)) (by kernel_rfl)
def vA(f:FuncId)(h:V4->ak SV):aB:=⟨f,λargs=>match args with
 |[.agg [.int .i64 a,.int .i64 b,.int .i64 c,.int .i64 d]] =>some (h (a,b,c,d))
 |_=>none⟩
def zB{h:V4->ak SV}(k:∀c,(h c).bw (SCall P f [V4.sv c])):(vA f h).ok P:=λargs t ht=>by
 simp only[vA]at ht
 split at ht<;>cases ht;exact k (_,_,_,_)
def Dg(f:FuncId)(h:V4->Int->ak SV):aB:=⟨f,λargs=>match args with
 |[.agg [.int .i64 a,.int .i64 b,.int .i64 c,.int .i64 d],.int .i64 i] =>some (h (a,b,c,d) i)
 |_=>none⟩
def KG{h:V4->Int->ak SV}(k:∀c i,(h c i).bw (SCall P f [V4.sv c,J i])):(Dg f h).ok P:=λargs t ht=>by
 simp only[Dg]at ht
 split at ht<;>cases ht;exact k (_,_,_,_) _
def Df(f:FuncId)(h:V4->V4->ak SV):aB:=⟨f,λargs=>match args with
 |[.agg [.int .i64 a,.int .i64 b,.int .i64 c,.int .i64 d],.agg [.int .i64 a',.int .i64 b',.int .i64 c',.int .i64 d']] =>some (h (a,b,c,d) (a',b',c',d'))
 |_=>none⟩
def KF{h:V4->V4->ak SV}(k:∀c d,(h c d).bw (SCall P f [V4.sv c,V4.sv d])):(Df f h).ok P:=λargs t ht=>by
 simp only[Df]at ht
 split at ht<;>cases ht;exact k (_,_,_,_) (_,_,_,_)
def zF(f:FuncId)(h:Bk->ak SV):aB:=⟨f,λargs=>match args with
 |[.agg [.int .i64 a,.int .i64 b,.int .i64 c,.int .i64 d,.int .i64 x,.int .i64 y,.int .i64 z,.int .i64 w]] =>some (h ((a,b,c,d),x,y,z,w))
 |_=>none⟩
def Ds{h:Bk->ak SV}(k:∀b,(h b).bw (SCall P f [Bk.sv b])):(zF f h).ok P:=λargs t ht=>by
 simp only[zF]at ht
 split at ht<;>cases ht;exact k ((_,_,_,_),_,_,_,_)
def Dt(f:FuncId)(h:Bk->Int->ak SV):aB:=⟨f,λargs=>match args with
 |[.agg [.int .i64 a,.int .i64 b,.int .i64 c,.int .i64 d,.int .i64 x,.int .i64 y,.int .i64 z,.int .i64 w],.int .i64 i] =>some (h ((a,b,c,d),x,y,z,w) i)
 |_=>none⟩
def K4{h:Bk->Int->ak SV}(k:∀b i,(h b i).bw (SCall P f [Bk.sv b,J i])):(Dt f h).ok P:=λargs t ht=>by
 simp only[Dt]at ht
 split at ht<;>cases ht;exact k ((_,_,_,_),_,_,_,_) _
def K5(f:FuncId)(h:Bk->Int->Int->ak SV):aB:=⟨f,λargs=>match args with
 |[.agg [.int .i64 a,.int .i64 b,.int .i64 c,.int .i64 d,.int .i64 x,.int .i64 y,.int .i64 z,.int .i64 w],.int .i64 i,.int .i64 j] =>some (h ((a,b,c,d),x,y,z,w) i j)
 |_=>none⟩
def qq0{h:Bk->Int->Int->ak SV}(k:∀b i j,(h b i j).bw (SCall P f [Bk.sv b,J i,J j])):(K5 f h).ok P:=λargs t ht=>by
 simp only[K5]at ht
 split at ht<;>cases ht;exact k ((_,_,_,_),_,_,_,_) _ _
abbrev Mo:=Bk×Int×Int
def Mo.cells(m:Mo):List SV:=[J m.1.1.1,J m.1.1.2.1,J m.1.1.2.2.1,J m.1.1.2.2.2,J m.1.2.1,J m.1.2.2.1,J m.1.2.2.2.1,J m.1.2.2.2.2,J m.2.1,J m.2.2]
def Mo.sv(m:Mo):SV:=.agg [J m.1.1.1,J m.1.1.2.1,J m.1.1.2.2.1,J m.1.1.2.2.2,J m.1.2.1,J m.1.2.2.1,J m.1.2.2.2.1,J m.1.2.2.2.2,J m.2.1,J m.2.2]
def Dj(f:FuncId)(h:Mo->ak SV):aB:=⟨f,λargs=>match args with
 |[.agg [.int .i64 a,.int .i64 b,.int .i64 c,.int .i64 d,.int .i64 x,.int .i64 y,.int .i64 z,.int .i64 w,.int .i64 n,.int .i64 t]] =>some (h (((a,b,c,d),x,y,z,w),n,t))
 |_=>none⟩
def KN{h:Mo->ak SV}(k:∀m,(h m).bw (SCall P f [Mo.sv m])):(Dj f h).ok P:=λargs t ht=>by
 simp only[Dj]at ht
 split at ht<;>cases ht;exact k (((_,_,_,_),_,_,_,_),_,_)
def Gj(f:FuncId)(h:Mo->Int->ak SV):aB:=⟨f,λargs=>match args with
 |[.agg [.int .i64 a,.int .i64 b,.int .i64 c,.int .i64 d,.int .i64 x,.int .i64 y,.int .i64 z,.int .i64 w,.int .i64 n,.int .i64 t],.int .i64 i] =>some (h (((a,b,c,d),x,y,z,w),n,t) i)
 |_=>none⟩
def Q8{h:Mo->Int->ak SV}(k:∀m i,(h m i).bw (SCall P f [Mo.sv m,J i])):(Gj f h).ok P:=λargs t ht=>by
 simp only[Gj]at ht
 split at ht<;>cases ht;exact k (((_,_,_,_),_,_,_,_),_,_) _
def aG{x:Int}(h0: -9223372036854775808<=x)(h1:x<=9223372036854775807):i64.wrap x=x:=MT h0 h1
def mJ{a b:Int}(h:a=b):J a=J b:=rQ J h
def jy5{a b c d:Int}{v:V4}(h1:a=v.1)(h2:b=v.2.1)(h3:c=v.2.2.1)(h4:d=v.2.2.2):SV.agg [SV.int .i64 a,SV.int .i64 b,SV.int .i64 c,SV.int .i64 d] =V4.sv v:=by subst h1 h2 h3 h4;rfl
variable{i:Int}
def jj0(hn:1<=n/\n<=16777216)(hi:0<=i/\i<=n)(hk:sz k<=16777216):0<=i*sz k/\i*sz k<=281474976710656:=by
 have:=Ei k;exact⟨wB hi.1 this,Int.le_trans (uO (show i<=16777216 by omega) hk this (by omega)) (by decide)⟩
def SX(hn:1<=n/\n<=16777216)(hi:0<=i/\i<=n)(hk:sz k<=16777216):
  i64.wrap ((i64.wrap (i64.wrap (i64.wrap (2*i)*sz k)+n)).tdiv (i64.wrap (2*n)))=(2*i*sz k+n) / (2*n)/\0<=(2*i*sz k+n) / (2*n)/\(2*i*sz k+n) / (2*n)<=562949970198528:=by
 have b:=jj0 hn hi hk;have e:2*i*sz k=2*(i*sz k):=NJ _ _ _;rw[aG (x:=2*i) (by omega) (by omega),aG (x:=2*n) (by omega) (by omega),aG (x:=2*i*sz k) (by omega) (by omega),aG (x:=2*i*sz k+n) (by omega) (by omega),EQ (by omega)];have h0:0<=(2*i*sz k+n) / (2*n):=ES (by omega) (by omega);have h1:(2*i*sz k+n) / (2*n)<=2*i*sz k+n:=Ii _ (by omega);exact⟨aG (by omega) (by omega),h0,by omega⟩
def zZ(hn:1<=n/\n<=16777216)(hi:0<=i/\i<=n)(hk:sz k<=16777216)(h:¬k<0):
  i64.wrap ((i64.wrap (i64.wrap (i64.wrap (2*i)*sz k)+n)).tdiv (i64.wrap (2*n)))=jD n i k:=by
 rw[(SX hn hi hk).1];unfold jD;rw[au h]
def Aa(hn:1<=n/\n<=16777216)(hi:0<=i/\i<=n)(hk:sz k<=16777216)(h:k<0):
  i64.wrap (0-i64.wrap ((i64.wrap (i64.wrap (i64.wrap (2*i)*sz k)+n)).tdiv (i64.wrap (2*n))))=jD n i k:=by
 obtain⟨a,b,c⟩:=SX hn hi hk;rw[a,aG (by omega) (by omega)];unfold jD;rw[ay h];omega
def MF(hn:1<=n/\n<=16777216)(hi:0<=i/\i<=n)(hk:sz k<=16777216): -562949970198528<=jD n i k/\jD n i k<=562949970198528:=by
 obtain⟨a,b,c⟩:=SX hn hi hk
 unfold jD;split<;>omega
def I9(hn:1<=n):0<=mM n i/\mM n i<=n:=by unfold mM;(repeat' split)<;>omega
def Cm(h:bM c=true):fK c i=(jD (cQ c) (mM (cQ c) i) c.1,jD (cQ c) (mM (cQ c) i) c.2.1,jD (cQ c) (mM (cQ c) i) c.2.2.1,jD (cQ c) (mM (cQ c) i) c.2.2.2):=by unfold fK;rw[h]
def E2(h:bM c=false):fK c i=z4:=by unfold fK;rw[h]
def DG:aB:=vA 243 λc=>.ai (.bool (bM c))
def FL:DG.ok pP:=zB xQ0
def DF:aB:=vA 97 λc=>.ai (.bool (bM c))
def FK:DF.ok pP:=zB xQ1
def nK(f:FuncId):aB:=tU f λn=>.aj (az n (-4611686018427387904) 4611686018427387904) (.ai (J (sz n)))
def x08(n:Int)(hn:az n (-4611686018427387904) 4611686018427387904=true):SCall pP 244 [J n] (J (sz n)):=
 aY aL [] trivial 1000 (.ah (.all) (.all))
  (t:=.ag (n<0)
 (.ai (SV.int i64 (i64.wrap (0-n))))
 (.ai (SV.int i64 n)))
   (by kernel_rfl) (by
    rw[v5]at hn
    have e:i64.wrap (0-n)= -n:=by rw[aG (by omega) (by omega)];omega
    unfold sz;simp only[ak.holds,aV,ez,e];exact⟨λh=>by rw[ay h];rfl,λh=>by rw[au h];rfl⟩) (by kernel_rfl)
def x12(n:Int)(hn:az n (-4611686018427387904) 4611686018427387904=true):SCall pP 100 [J n] (J (sz n)):=
 aY aL [] trivial 1000 (.all)
  (t:=.ai (SV.int i64 (if i64.wrap (0-n)>n then i64.wrap (0-n)else n)))
  (by kernel_rfl) (by
   rw[v5]at hn
   have e:i64.wrap (0-n)= -n:=by rw[aG (by omega) (by omega)];omega
   unfold sz;simp only[ak.holds,e];congr 1;(repeat' split)<;>omega) (by kernel_rfl)
def Yz:(nK 244).ok pP:=rq λn h=>x08 n h
def Yy:(nK 100).ok pP:=rq λn h=>x12 n h
def xE1(c:V4):ak.holds (λv=>v=(J (aF c))) (.ag (!bM c) (.ai (.int .i64 0)) (rT (.aj (az c.1 (-4611686018427387904) 4611686018427387904) (rT (.aj (az c.2.1 (-4611686018427387904) 4611686018427387904) (rT (.aj (az c.2.2.1 (-4611686018427387904) 4611686018427387904) (rT (.aj (az c.2.2.2 (-4611686018427387904) 4611686018427387904) (.ai (.int .i64 (if sz c.2.2.2>if sz c.2.2.1>if sz c.2.1>if sz c.1>0 then sz c.1 else 0 then sz c.2.1 else if sz c.1>0 then sz c.1 else 0 then sz c.2.2.1 else if sz c.2.1>if sz c.1>0 then sz c.1 else 0 then sz c.2.1 else if sz c.1>0 then sz c.1 else 0 then sz c.2.2.2 else if sz c.2.2.1>if sz c.2.1>if sz c.1>0 then sz c.1 else 0 then sz c.2.1 else if sz c.1>0 then sz c.1 else 0 then sz c.2.2.1 else if sz c.2.1>if sz c.1>0 then sz c.1 else 0 then sz c.2.1 else if sz c.1>0 then sz c.1 else 0))))))))))):ak SV):=by
  cases h:bM c with
  |false=>simp only[ak.holds,show bM (c.1,c.2.1,c.2.2)=false from h,IT h,sM];rfl
  |true=>
   have b:=nU.1 h;have e:=vk h;simp only[ak.holds,show bM (c.1,c.2.1,c.2.2)=true from h,AU h,sM]
   (repeat' apply aX)<;>first|rfl|(rw[v5];omega)|exact mJ (by unfold cQ mx;omega)
def xD9(c:V4):SCall pP 182 [V4.sv c] (J (aF c)):=
 aY aL [DG,nK 244] ⟨FL,Yz,trivial⟩ 1000 (.ah (.all) (.go (.ar (.go (.ar (.go (.ar (.go (.ar (.go pA))))))))))
  (by kernel_rfl) (xE1 c) (by kernel_rfl)
def xE0(c:V4):SCall pP 38 [V4.sv c] (J (aF c)):=
 aY aL [DF,nK 100] ⟨FK,Yy,trivial⟩ 1000 (.ah (.all) (.go (.ar (.go (.ar (.go (.ar (.go (.ar (.go pA))))))))))
  (by kernel_rfl) (xE1 c) (by kernel_rfl)
def z70:aB:=vA 182 λc=>.ai (J (aF c))
def sx:z70.ok pP:=zB xD9
def rl:aB:=vA 38 λc=>.ai (J (aF c))
def sw:rl.ok pP:=zB xE0
def xA6(c:V4)(i:Int):SCall pP 268 [V4.sv c,J i] (V4.sv (fK c i)):=
 aY aL [z70,nK 244] ⟨sx,Yz,trivial⟩ 1000 (let z1:ax:=.go (.ar (.ah (.go pA) (.go pA)));let z0:ax:=.go (.ar (.ah z1 z1));.ah (.all) (.go (.ar (.ah (.go (.ar (.ah z0 z0))) (.go (.ar (.ah z0 z0)))))))
  (t:=let y0:=2*if aF c<if 0>i then 0 else i then aF c else if 0>i then 0 else i;let y1:=i64.wrap (2*aF c);let y2:=(i64.wrap (i64.wrap (i64.wrap y0*sz c.2.2.1)+aF c)).tdiv y1;let y3:=(i64.wrap (i64.wrap (i64.wrap y0*sz c.2.2.2)+aF c)).tdiv y1;let y4:=(i64.wrap (i64.wrap (i64.wrap y0*sz c.2.1)+aF c)).tdiv y1;let y5:=(i64.wrap (i64.wrap (i64.wrap y0*sz c.1)+aF c)).tdiv y1;let y6:=!i64.wrap (2*aF c)==0;let y7:=az c.2.2.2 (-4611686018427387904) 4611686018427387904;let y8:=i64.wrap (0-i64.wrap y5);let y9:=i64.wrap (0-i64.wrap y4);let dg:=i64.wrap (0-i64.wrap y2);let fA:=i64.wrap (0-i64.wrap y3);let kR:=az c.2.2.1 (-4611686018427387904) 4611686018427387904;let jP:=decide (c.2.2.2<0);let jO:=i64.wrap y3;let jN:=i64.wrap y2;let jM:=i64.wrap y4;let lE:=i64.wrap y5;let sA:=decide (c.2.2.1<0);.ag (aF c==0) (.ai (.agg [.int .i64 0,.int .i64 0,.int .i64 0,.int .i64 0])) (rT (.aj (az c.1 (-4611686018427387904) 4611686018427387904) (.aj y6 (rT (.ag (c.1<0) (rT (rT (rT (.aj (az c.2.1 (-4611686018427387904) 4611686018427387904) (.aj y6 (rT (.ag (c.2.1<0) (rT (rT (rT (.aj kR (.aj y6 (rT (.ag sA (rT (rT (rT (.aj y7 (.aj y6 (rT (.ag jP (rT (rT (.ai (.agg [.int .i64 y8,.int .i64 y9,.int .i64 dg,.int .i64 fA])))) (.ai (.agg [.int .i64 y8,.int .i64 y9,.int .i64 dg,.int .i64 jO]))))))))) (rT (.aj y7 (.aj y6 (rT (.ag jP (rT (rT (.ai (.agg [.int .i64 y8,.int .i64 y9,.int .i64 jN,.int .i64 fA])))) (.ai (.agg [.int .i64 y8,.int .i64 y9,.int .i64 jN,.int .i64 jO])))))))))))))) (rT (.aj kR (.aj y6 (rT (.ag sA (rT (rT (rT (.aj y7 (.aj y6 (rT (.ag jP (rT (rT (.ai (.agg [.int .i64 y8,.int .i64 jM,.int .i64 dg,.int .i64 fA])))) (.ai (.agg [.int .i64 y8,.int .i64 jM,.int .i64 dg,.int .i64 jO]))))))))) (rT (.aj y7 (.aj y6 (rT (.ag jP (rT (rT (.ai (.agg [.int .i64 y8,.int .i64 jM,.int .i64 jN,.int .i64 fA])))) (.ai (.agg [.int .i64 y8,.int .i64 jM,.int .i64 jN,.int .i64 jO]))))))))))))))))))) (rT (.aj (az c.2.1 (-4611686018427387904) 4611686018427387904) (.aj y6 (rT (.ag (c.2.1<0) (rT (rT (rT (.aj kR (.aj y6 (rT (.ag sA (rT (rT (rT (.aj y7 (.aj y6 (rT (.ag jP (rT (rT (.ai (.agg [.int .i64 lE,.int .i64 y9,.int .i64 dg,.int .i64 fA])))) (.ai (.agg [.int .i64 lE,.int .i64 y9,.int .i64 dg,.int .i64 jO]))))))))) (rT (.aj y7 (.aj y6 (rT (.ag jP (rT (rT (.ai (.agg [.int .i64 lE,.int .i64 y9,.int .i64 jN,.int .i64 fA])))) (.ai (.agg [.int .i64 lE,.int .i64 y9,.int .i64 jN,.int .i64 jO])))))))))))))) (rT (.aj kR (.aj y6 (rT (.ag sA (rT (rT (rT (.aj y7 (.aj y6 (rT (.ag jP (rT (rT (.ai (.agg [.int .i64 lE,.int .i64 jM,.int .i64 dg,.int .i64 fA])))) (.ai (.agg [.int .i64 lE,.int .i64 jM,.int .i64 dg,.int .i64 jO]))))))))) (rT (.aj y7 (.aj y6 (rT (.ag jP (rT (rT (.ai (.agg [.int .i64 lE,.int .i64 jM,.int .i64 jN,.int .i64 fA])))) (.ai (.agg [.int .i64 lE,.int .i64 jM,.int .i64 jN,.int .i64 jO])))))))))))))))))))))))
  (by kernel_rfl) (by
   cases h:bM c with
   |false=>simp only[ak.holds,show aF (c.1,c.2.1,c.2.2)=0 from IT h,sM];rw[E2 h];rfl
   |true=>
    have e:=vk h
    have q:(if cQ c<if 0>i then 0 else i then cQ c else if 0>i then 0 else i)=mM (cQ c) i:=by unfold mM;(repeat' split)<;>omega
    have hn:1<=cQ c/\cQ c<=16777216:=by omega
    have hi:=I9 (i:=i) hn.1
    have hs:(∀k:Int,sz k<=cQ c->sz k<=16777216):=λk hk=>by omega
    have e2:i64.wrap (2*cQ c)≠0:=by rw[aG (by omega) (by omega)];omega
    have b:=nU.1 h;have i1:az c.1 (-4611686018427387904) 4611686018427387904=true:=v5.2 (by omega);have i2:az c.2.1 (-4611686018427387904) 4611686018427387904=true:=v5.2 (by omega);have i3:az c.2.2.1 (-4611686018427387904) 4611686018427387904=true:=v5.2 (by omega);have i4:az c.2.2.2 (-4611686018427387904) 4611686018427387904=true:=v5.2 (by omega)
    have hm:¬cQ c=0:=by omega
    simp only[ak.holds,show aF (c.1,c.2.1,c.2.2)=cQ c from AU h,q,i1,i2,i3,i4,hm,e2,sM];rw[Cm h]
    have n1:=λhh=>Aa (k:=c.1) hn hi (hs _ (by omega)) hh
    have n2:=λhh=>Aa (k:=c.2.1) hn hi (hs _ (by omega)) hh
    have n3:=λhh=>Aa (k:=c.2.2.1) hn hi (hs _ (by omega)) hh
    have n4:=λhh=>Aa (k:=c.2.2.2) hn hi (hs _ (by omega)) hh
    have p1:=λhh=>zZ (k:=c.1) hn hi (hs _ (by omega)) hh
    have p2:=λhh=>zZ (k:=c.2.1) hn hi (hs _ (by omega)) hh
    have p3:=λhh=>zZ (k:=c.2.2.1) hn hi (hs _ (by omega)) hh
    have p4:=λhh=>zZ (k:=c.2.2.2) hn hi (hs _ (by omega)) hh
    refine⟨λh1=>?_,λh1=>?_⟩<;>refine⟨λh2=>?_,λh2=>?_⟩<;>refine⟨λh3=>?_,λh3=>?_⟩<;>refine⟨λh4=>?_,λh4=>?_⟩
    all_goals(first|rw[n1 h1] |rw[p1 h1])
    all_goals(first|rw[n2 h2] |rw[p2 h2])
    all_goals(first|rw[n3 h3] |rw[p3 h3])
    all_goals(first|rw[n4 h4] |rw[p4 h4])
    all_goals rfl) (by kernel_rfl)
def xA8(c:V4)(i:Int):SCall pP 206 [V4.sv c,J i] (V4.sv (fK c i)):=
 aY aL [rl,nK 100] ⟨sw,Yy,trivial⟩ 1000 (let z1:ax:=.go (.ar (.ah (.go pA) (.go pA)));let z0:ax:=.go (.ar (.ah z1 z1));.ah (.all) (.go (.ar (.ah (.go (.ar (.ah z0 z0))) (.go (.ar (.ah z0 z0)))))))
  (t:=let y0:=2*if(if aF c<i then aF c else i)>0 then if aF c<i then aF c else i else 0;let y1:=i64.wrap (2*aF c);let y2:=(i64.wrap (i64.wrap (i64.wrap y0*sz c.2.2.1)+aF c)).tdiv y1;let y3:=(i64.wrap (i64.wrap (i64.wrap y0*sz c.2.2.2)+aF c)).tdiv y1;let y4:=(i64.wrap (i64.wrap (i64.wrap y0*sz c.2.1)+aF c)).tdiv y1;let y5:=(i64.wrap (i64.wrap (i64.wrap y0*sz c.1)+aF c)).tdiv y1;let y6:=!i64.wrap (2*aF c)==0;let y7:=az c.2.2.2 (-4611686018427387904) 4611686018427387904;let y8:=i64.wrap (0-i64.wrap y5);let y9:=i64.wrap (0-i64.wrap y4);let dg:=i64.wrap (0-i64.wrap y2);let fA:=i64.wrap (0-i64.wrap y3);let kR:=az c.2.2.1 (-4611686018427387904) 4611686018427387904;let jP:=decide (c.2.2.2<0);let jO:=i64.wrap y3;let jN:=i64.wrap y2;let jM:=i64.wrap y4;let lE:=i64.wrap y5;let sA:=decide (c.2.2.1<0);.ag (aF c==0) (.ai (.agg [.int .i64 0,.int .i64 0,.int .i64 0,.int .i64 0])) (rT (.aj (az c.1 (-4611686018427387904) 4611686018427387904) (.aj y6 (rT (rT (.ag (c.1<0) (rT (rT (rT (.aj (az c.2.1 (-4611686018427387904) 4611686018427387904) (.aj y6 (rT (rT (.ag (c.2.1<0) (rT (rT (rT (.aj kR (.aj y6 (rT (rT (.ag sA (rT (rT (rT (.aj y7 (.aj y6 (rT (rT (.ag jP (rT (rT (.ai (.agg [.int .i64 y8,.int .i64 y9,.int .i64 dg,.int .i64 fA])))) (.ai (.agg [.int .i64 y8,.int .i64 y9,.int .i64 dg,.int .i64 jO])))))))))) (rT (.aj y7 (.aj y6 (rT (rT (.ag jP (rT (rT (.ai (.agg [.int .i64 y8,.int .i64 y9,.int .i64 jN,.int .i64 fA])))) (.ai (.agg [.int .i64 y8,.int .i64 y9,.int .i64 jN,.int .i64 jO])))))))))))))))) (rT (.aj kR (.aj y6 (rT (rT (.ag sA (rT (rT (rT (.aj y7 (.aj y6 (rT (rT (.ag jP (rT (rT (.ai (.agg [.int .i64 y8,.int .i64 jM,.int .i64 dg,.int .i64 fA])))) (.ai (.agg [.int .i64 y8,.int .i64 jM,.int .i64 dg,.int .i64 jO])))))))))) (rT (.aj y7 (.aj y6 (rT (rT (.ag jP (rT (rT (.ai (.agg [.int .i64 y8,.int .i64 jM,.int .i64 jN,.int .i64 fA])))) (.ai (.agg [.int .i64 y8,.int .i64 jM,.int .i64 jN,.int .i64 jO])))))))))))))))))))))) (rT (.aj (az c.2.1 (-4611686018427387904) 4611686018427387904) (.aj y6 (rT (rT (.ag (c.2.1<0) (rT (rT (rT (.aj kR (.aj y6 (rT (rT (.ag sA (rT (rT (rT (.aj y7 (.aj y6 (rT (rT (.ag jP (rT (rT (.ai (.agg [.int .i64 lE,.int .i64 y9,.int .i64 dg,.int .i64 fA])))) (.ai (.agg [.int .i64 lE,.int .i64 y9,.int .i64 dg,.int .i64 jO])))))))))) (rT (.aj y7 (.aj y6 (rT (rT (.ag jP (rT (rT (.ai (.agg [.int .i64 lE,.int .i64 y9,.int .i64 jN,.int .i64 fA])))) (.ai (.agg [.int .i64 lE,.int .i64 y9,.int .i64 jN,.int .i64 jO])))))))))))))))) (rT (.aj kR (.aj y6 (rT (rT (.ag sA (rT (rT (rT (.aj y7 (.aj y6 (rT (rT (.ag jP (rT (rT (.ai (.agg [.int .i64 lE,.int .i64 jM,.int .i64 dg,.int .i64 fA])))) (.ai (.agg [.int .i64 lE,.int .i64 jM,.int .i64 dg,.int .i64 jO])))))))))) (rT (.aj y7 (.aj y6 (rT (rT (.ag jP (rT (rT (.ai (.agg [.int .i64 lE,.int .i64 jM,.int .i64 jN,.int .i64 fA])))) (.ai (.agg [.int .i64 lE,.int .i64 jM,.int .i64 jN,.int .i64 jO])))))))))))))))))))))))))))
  (by kernel_rfl) (by
   cases h:bM c with
   |false=>simp only[ak.holds,show aF (c.1,c.2.1,c.2.2)=0 from IT h,sM];rw[E2 h];rfl
   |true=>
    have e:=vk h
    have q:(if(if cQ c<i then cQ c else i)>0 then if cQ c<i then cQ c else i else 0)=mM (cQ c) i:=by unfold mM;(repeat' split)<;>omega
    have hn:1<=cQ c/\cQ c<=16777216:=by omega
    have hi:=I9 (i:=i) hn.1
    have hs:(∀k:Int,sz k<=cQ c->sz k<=16777216):=λk hk=>by omega
    have e2:i64.wrap (2*cQ c)≠0:=by rw[aG (by omega) (by omega)];omega
    have b:=nU.1 h;have i1:az c.1 (-4611686018427387904) 4611686018427387904=true:=v5.2 (by omega);have i2:az c.2.1 (-4611686018427387904) 4611686018427387904=true:=v5.2 (by omega);have i3:az c.2.2.1 (-4611686018427387904) 4611686018427387904=true:=v5.2 (by omega);have i4:az c.2.2.2 (-4611686018427387904) 4611686018427387904=true:=v5.2 (by omega)
    have hm:¬cQ c=0:=by omega
    simp only[ak.holds,show aF (c.1,c.2.1,c.2.2)=cQ c from AU h,q,i1,i2,i3,i4,hm,e2,sM];rw[Cm h]
    have n1:=λhh=>Aa (k:=c.1) hn hi (hs _ (by omega)) hh
    have n2:=λhh=>Aa (k:=c.2.1) hn hi (hs _ (by omega)) hh
    have n3:=λhh=>Aa (k:=c.2.2.1) hn hi (hs _ (by omega)) hh
    have n4:=λhh=>Aa (k:=c.2.2.2) hn hi (hs _ (by omega)) hh
    have p1:=λhh=>zZ (k:=c.1) hn hi (hs _ (by omega)) hh
    have p2:=λhh=>zZ (k:=c.2.1) hn hi (hs _ (by omega)) hh
    have p3:=λhh=>zZ (k:=c.2.2.1) hn hi (hs _ (by omega)) hh
    have p4:=λhh=>zZ (k:=c.2.2.2) hn hi (hs _ (by omega)) hh
    refine⟨λh1=>?_,λh1=>?_⟩<;>refine⟨λh2=>?_,λh2=>?_⟩<;>refine⟨λh3=>?_,λh3=>?_⟩<;>refine⟨λh4=>?_,λh4=>?_⟩
    all_goals(first|rw[n1 h1] |rw[p1 h1])
    all_goals(first|rw[n2 h2] |rw[p2 h2])
    all_goals(first|rw[n3 h3] |rw[p3 h3])
    all_goals(first|rw[n4 h4] |rw[p4 h4])
    all_goals rfl) (by kernel_rfl)
def Uo:aB:=Dg 268 λc i=>.ai (V4.sv (fK c i))
def Xw:Uo.ok pP:=KG xA6
def z39:aB:=Dg 206 λc i=>.ai (V4.sv (fK c i))
def Xu:z39.ok pP:=KG xA8
def E3(c:V4)(i:Int):((-562949970198528<=(fK c i).1/\(fK c i).1<=562949970198528)/\(-562949970198528<=(fK c i).2.1/\(fK c i).2.1<=562949970198528))/\(-562949970198528<=(fK c i).2.2.1/\(fK c i).2.2.1<=562949970198528)/\-562949970198528<=(fK c i).2.2.2/\(fK c i).2.2.2<=562949970198528:=by
 cases h:bM c with
 |false=>rw[E2 h];decide
 |true=>
  rw[Cm h];have e:=vk h
  have hn:1<=cQ c/\cQ c<=16777216:=by omega
  have hi:=I9 (i:=i) hn.1;exact⟨⟨MF hn hi (by omega),MF hn hi (by omega)⟩,MF hn hi (by omega),MF hn hi (by omega)⟩
def xd7(h:1<=i/\i<=aF c):nC c i=iC (fK c i) (fK c (i-1)):=by unfold nC;rw[v5.2 h]
def xd6(h:¬(1<=i/\i<=aF c)):nC c i=z4:=by unfold nC;rw[eB.2 λq=>h (v5.1 q)]
def xT5(c:V4)(i:Int):ak.holds (λv=>v=(V4.sv (nC c i))) (let y0:=fK c (i64.wrap (i-1));let y1:ak SV:=.ai (.agg [.int .i64 0,.int .i64 0,.int .i64 0,.int .i64 0]);.ag (i<1) y1 (.ag (i>aF c) y1 (rT (rT (rT (rT (rT (rT (rT (rT (rT (rT (rT (rT (.ai (.agg [.int .i64 (i64.wrap ((fK c i).1-y0.1)),.int .i64 (i64.wrap ((fK c i).2.1-y0.2.1)),.int .i64 (i64.wrap ((fK c i).2.2.1-y0.2.2.1)),.int .i64 (i64.wrap ((fK c i).2.2.2-y0.2.2.2))]))))))))))))))):ak SV):=by
  have r:=nQ c;simp only[ak.holds,sM];refine⟨λh=>?_,λh=>⟨λh2=>?_,λh2=>?_⟩⟩;.rw[xd6 (by omega)];rfl
  .rw[xd6 (by have h2:i>aF c:=h2;omega)];rfl
  .have h2:¬i>aF c:=h2
   have a1:=E3 c i;have a2:=E3 c (i-1);rw[xd7 (by omega),aG (x:=i-1) (by omega) (by omega)]
   refine jy5 ?_ ?_ ?_ ?_<;>(refine aG ?_ ?_<;>omega)
def xT3(c:V4)(i:Int):SCall pP 233 [V4.sv c,J i] (V4.sv (nC c i)):=
 aY aL [z70,Uo] ⟨sx,Xw,trivial⟩ 1000 (.ah (.ln 4 pA) (.ln 4 (.ah .all (.go (.ar (.go (.ar (.go (.ar (.go (.ar (.go pA))))))))))))
  (by kernel_rfl) (xT5 c i) (by kernel_rfl)
def xT4(c:V4)(i:Int):SCall pP 237 [V4.sv c,J i] (V4.sv (nC c i)):=
 aY aL [rl,z39] ⟨sw,Xu,trivial⟩ 1000 (.ah (.ln 4 pA) (.ln 4 (.ah .all (.go (.ar (.go (.ar (.go (.ar (.go (.ar (.go pA))))))))))))
  (by kernel_rfl) (xT5 c i) (by kernel_rfl)
def oa(n:Int):Nat->Int->Int
 |0,r=>r
 |k+1,r=>oa n k (if r+2 ^ k<=n.tdiv (r+2 ^ k)then r+2 ^ k else r)
def gN(n:Int):Int:=oa n 32 0
def zw(k:Nat):(0:Int)<2 ^ k:=Int.pow_pos (by decide)
theorem qY5(n:Int):∀ (k:Nat) (r:Int),r<=oa n k r
 |0,r=>Cf _
 |k+1,r=>by
  have h:=qY5 n k (if r+2 ^ k<=n.tdiv (r+2 ^ k)then r+2 ^ k else r);have hp:=zw k;unfold oa
  split at h;.rename_i c;rw[ay c];omega
  .rename_i c;rw[au c];omega
theorem qY6(n:Int):∀ (k:Nat) (r:Int),oa n k r<r+2 ^ k
 |0,r=>by simp[oa];omega
 |k+1,r=>by
  have h:=qY6 n k (if r+2 ^ k<=n.tdiv (r+2 ^ k)then r+2 ^ k else r);have hp:=zw k
  have e:(2:Int) ^ (k+1)=2 ^ k+2 ^ k:=by rw[NH];omega
  unfold oa
  split at h;.rename_i c;rw[ay c,e];omega
  .rename_i c;rw[au c,e];omega
theorem qY7(hn:1<=n):∀ (k:Nat) (r:Int),0<=r->1<=oa n (k+1) r
 |0,r,hr=>by
  unfold oa oa
  by_cases h:0<r
  .split<;>omega
  .have h0:r=0:=by omega
   subst h0;rw[ay (by simpa using hn)];decide
 |k+1,r,hr=>by
  have hp:=zw (k+1);unfold oa
  exact qY7 hn k _ (by split<;>omega)
def qZ2(n:Int):0<=gN n:=qY5 n 32 0
def Lt(n:Int):gN n<4294967296:=qY6 n 32 0
def Ls(hn:1<=n):1<=gN n:=qY7 hn 31 0 (by decide)
def qF(d low:Nat):Nat->Nat->Nat->Nat×Nat
 |0,q,r=>(q,r)
 |k+1,q,r=>if d<=2*r+low / 2 ^ k % 2 then qF d low k (2*q+1) (2*r+low / 2 ^ k % 2-d)else qF d low k (2*q) (2*r+low / 2 ^ k % 2)
def yf4(x k:Nat):x % 2 ^ (k+1)=(x / 2 ^ k % 2)*2 ^ k+x % 2 ^ k:=by
 rw[Nat.mod_pow_succ,yB,yy]
theorem Qt{d low:Nat}:∀ (k q r:Nat),r<d->qF d low k q r=((((q*d+r)*2 ^ k+low % 2 ^ k) / d),(((q*d+r)*2 ^ k+low % 2 ^ k) % d))
 |0,q,r,h=>by
  have h0:(q*d+r)*2 ^ 0+low % 2 ^ 0=r+d*q:=by simp[Nat.mod_one,yy d q,yB]
  rw[h0,Nat.add_mul_div_left _ _ (by omega),aBH,Nat.div_eq_of_lt h,yA h];simp[qF]
 |k+1,q,r,h=>by
  have e:=yf4 low k;have hb:low / 2 ^ k % 2<2:=yz _ (by decide);generalize aAd:low / 2 ^ k % 2=b at e hb
  have hp:(q*d+r)*2 ^ (k+1)+low % 2 ^ (k+1)=((q*d+r)*2+b)*2 ^ k+low % 2 ^ k:=by
   rw[e,Nat.pow_succ,uM ((q*d+r)*2) b (2 ^ k),EK (q*d+r) 2 (2 ^ k),yy 2 (2 ^ k)];omega
  unfold qF;rw[aAd,hp]
  split
  .rename_i c
   rw[Qt k _ _ (by omega)]
   have:(2*q+1)*d+(2*r+b-d)=(q*d+r)*2+b:=by
    have:(2*q+1)*d=q*d*2+d:=by rw[uM,Nat.one_mul,EK,yy 2]
    omega
   rw[this]
  .rename_i c
   rw[Qt k _ _ (by omega)]
   have:2*q*d+(2*r+b)=(q*d+r)*2+b:=by
    have:2*q*d=q*d*2:=by rw[EK,yy 2]
    omega
   rw[this]
def xh5{d bQ low:Nat}(hh:bQ<d)(hl:low<2 ^ 64):qF d low 64 0 bQ=((bQ*2 ^ 64+low) / d,(bQ*2 ^ 64+low) % d):=by
 rw[Qt 64 0 bQ hh,yA hl,UH,gY]
section
variable {y u u1 q rh:Nat}
def Oq(h:q*(y / 4294967296)+rh=u):q*y+rh*4294967296=u*4294967296+q*(y % 4294967296):=by
 have e:y=y / 4294967296*4294967296+y % 4294967296:=by omega
 have e2:q*y=q*(y / 4294967296)*4294967296+q*(y % 4294967296):=by
  conv=>lhs;rw[e]
  rw[Nat.mul_add,EK]
 rw[e2,<-h,uM];omega
def Wi(hy:0<y)(h:q*(y / 4294967296)+rh=u)(hQ:(u*4294967296+u1) / y<=q)(hc:q*(y % 4294967296)<=4294967296*rh+u1):q=(u*4294967296+u1) / y:=by
 refine Nat.le_antisymm ((aic hy).2 ?_) hQ;have:=Oq h;omega
def Oo(hy:0<y)(hu:u<y)(h1:u1<4294967296):(u*4294967296+u1) / y<4294967296:=by
 rw[UO hy];have:(u+1)*4294967296<=y*4294967296:=nL _ hu;omega
def Wj(hy:0<y)(hu:u<y)(h1:u1<4294967296)(h:q*(y / 4294967296)+rh=u)(hc:4294967296<=q\/4294967296*rh+u1<q*(y % 4294967296)):(u*4294967296+u1) / y+1<=q:=by
 rcases hc with hc|hc
 .have:=Oo hy hu h1;omega
 .rw[Nat.succ_le_iff,UO hy]
  have:=Oq h;omega
def Wm(hy:0<y)(h:q*(y / 4294967296)+rh=u)(hQ:(u*4294967296+u1) / y<=q)(hq:q<=4294967296)(hr:4294967296<=rh):q=(u*4294967296+u1) / y:=by
 refine Nat.le_antisymm ((aic hy).2 ?_) hQ;have k:=Oq h;have k1:q*(y % 4294967296)<=4294967296*4294967295:=wj hq (by omega);omega
def Wl(hy:9223372036854775808<=y)(hy2:y<18446744073709551616)(hu:u<y)(h1:u1<4294967296):
  u / (y / 4294967296)*(y / 4294967296)+(u-u / (y / 4294967296)*(y / 4294967296))=u/\(u*4294967296+u1) / y<=u / (y / 4294967296)/\u / (y / 4294967296)<=4294967297/\u-u / (y / 4294967296)*(y / 4294967296)<4294967296:=by
 have hp:0<y / 4294967296:=by omega
 have hd:=aif u (y / 4294967296);have hm:=yz u hp;have hc:=yy (y / 4294967296) (u / (y / 4294967296));refine⟨by omega,?_,?_,by omega⟩
 .rw[aic hp]
  have hQ:=Nat.div_mul_le_self (u*4294967296+u1) y;generalize (u*4294967296+u1) / y=Q at hQ
  have e:y=y / 4294967296*4294967296+y % 4294967296:=by omega
  have e2:Q*y=Q*(y / 4294967296)*4294967296+Q*(y % 4294967296):=by
   conv=>lhs;rw[e]
   rw[Nat.mul_add,EK]
  omega
 .rw[<-Nat.lt_succ_iff,UO hp]
  omega
end
def jv2{y u u1 u0:Nat}(hy:0<y):(u*4294967296+u1) / y*4294967296+((u*4294967296+u1) % y*4294967296+u0) / y=(u*18446744073709551616+(u1*4294967296+u0)) / y/\((u*4294967296+u1) % y*4294967296+u0) % y=(u*18446744073709551616+(u1*4294967296+u0)) % y:=by
 have e:u*18446744073709551616+(u1*4294967296+u0)=((u*4294967296+u1) % y*4294967296+u0)+y*((u*4294967296+u1) / y*4294967296):=by
  have h:=aif (u*4294967296+u1) y;have h2:y*((u*4294967296+u1) / y*4294967296)=y*((u*4294967296+u1) / y)*4294967296:=(EK _ _ _).symm;omega
 rw[e,Nat.add_mul_div_left _ _ hy,aBH];omega
def qi0:aB:=Dg 233 λc i=>.ai (V4.sv (nC c i))
def yH7:qi0.ok pP:=KG xT3
def qi1:aB:=Dg 237 λc i=>.ai (V4.sv (nC c i))
def yH8:qi1.ok pP:=KG xT4
theorem xX8(b:Bk):ak.holds (λv=>v=(.bool (n7 b))) (.ag (bM b.1) (.ag (b.2.1>=1) (.ag (b.2.1<=16777216) (.ag (b.2.2.2.1>=1) (.ai (.bool (b.2.2.2.1<=1099511627776))) (.ai (.bool false))) (.ai (.bool false))) (.ai (.bool false))) (.ai (.bool false)):ak SV):=by simp only[ak.holds,sM];(repeat' (first|apply aX|intro _));all_goals(refine jh ?_;rw[Ac];(try simp only[sM]); first|omega|grind)
def xX6(b:Bk):SCall pP 242 [Bk.sv b] (.bool (n7 b)):=
 aY aL [DG] ⟨FL,trivial⟩ 1000 (.ah (.ln 3 (.ah (.ln 3 (.ah (.ln 3 (.ah (.ar (.ar pA)) (.ar (.ar pA)))) (.ln 6 pA))) (.ln 10 pA))) (.ln 14 pA))
  (by kernel_rfl) (xX8 b) (by kernel_rfl)
def xX7(b:Bk):SCall pP 238 [Bk.sv b] (.bool (n7 b)):=
 aY aL [DF] ⟨FK,trivial⟩ 1000 (.ah (.ln 3 (.ah (.ln 3 (.ah (.ln 3 (.ah (.ar (.ar pA)) (.ar (.ar pA)))) (.ln 6 pA))) (.ln 10 pA))) (.ln 14 pA))
  (by kernel_rfl) (xX8 b) (by kernel_rfl)
def Dv:aB:=zF 242 λb=>.ai (.bool (n7 b))
def Du:aB:=zF 238 λb=>.ai (.bool (n7 b))
def YC:Dv.ok pP:=Ds (xX6)
def YB:Du.ok pP:=Ds (xX7)
theorem x49(b:Bk):ak.holds (λv=>v=(.bool (f6 b))) (.ag (n7 b) (.ag (b.2.2.1>=0) (.ag (b.2.2.1<=b.2.2.2.1) (.ag (b.2.2.2.2>=0) (.ai (.bool (b.2.2.2.2<=b.2.2.2.1))) (.ai (.bool false))) (.ai (.bool false))) (.ai (.bool false))) (.ai (.bool false)):ak SV):=by simp only[ak.holds,sM];(repeat' (first|apply aX|intro _));all_goals(refine jh ?_;rw[sV,<-Ac];(try simp only[sM]); first|omega|grind)
def x46(b:Bk):SCall pP 181 [Bk.sv b] (.bool (f6 b)):=
 aY aL [Dv] ⟨YC,trivial⟩ 1000 (.ah (.ln 3 (.ah (.ln 5 (.ah (.ln 3 (.ah (.ln 4 pA) (.ln 4 pA))) (.ln 8 pA))) (.ln 14 pA))) (.ln 18 pA))
  (by kernel_rfl) (x49 b) (by kernel_rfl)
def x48(b:Bk):SCall pP 177 [Bk.sv b] (.bool (f6 b)):=
 aY aL [Du] ⟨YB,trivial⟩ 1000 (.ah (.ln 3 (.ah (.ln 5 (.ah (.ln 3 (.ah (.ln 4 pA) (.ln 4 pA))) (.ln 8 pA))) (.ln 14 pA))) (.ln 18 pA))
  (by kernel_rfl) (x49 b) (by kernel_rfl)
def sI:aB:=zF 181 λb=>.ai (.bool (f6 b))
def sH:aB:=zF 177 λb=>.ai (.bool (f6 b))
def A8:sI.ok pP:=Ds (x46)
def A7:sH.ok pP:=Ds (x48)
def xU7(b:Bk)(hb:n7 b=true):ak.holds (λv=>v=(J (iV b))) (.ai (SV.int i64 (i64.wrap (i64.wrap (2*b.snd.fst)*aF b.fst))):ak SV):=by
  have d:=nQ b.1;have q:=(Ac.1 hb).2.1;have p:0<=b.2.1*aF b.1/\b.2.1*aF b.1<=16777216*16777216:=⟨wB (by omega) d.1,uO q.2 d.2 d.1 (by omega)⟩;have e:2*b.2.1*aF b.1=2*(b.2.1*aF b.1):=NJ _ _ _;refine mJ ?_;rw[aG (x:=2*b.2.1) (by omega) (by omega),aG (x:=2*b.2.1*aF b.1) (by omega) (by omega)];rfl
def xU5(b:Bk)(hb:n7 b=true):SCall pP 320 [Bk.sv b] (J (iV b)):=
 aY aL [z70] ⟨sx,trivial⟩ 1000 (.all)
  (by kernel_rfl) (xU7 b hb) (by kernel_rfl)
def xU6(b:Bk)(hb:n7 b=true):SCall pP 294 [Bk.sv b] (J (iV b)):=
 aY aL [rl] ⟨sw,trivial⟩ 1000 (.all)
  (by kernel_rfl) (xU7 b hb) (by kernel_rfl)
def Bl:aB:=zF 320 λb=>.aj (n7 b) (.ai (J (iV b)))
def tW:aB:=zF 294 λb=>.aj (n7 b) (.ai (J (iV b)))
def PO:Bl.ok pP:=Ds (λb h=>xU5 b h)
def YH:tW.ok pP:=Ds (λb h=>xU6 b h)
def qW8:ax:=.ah (.all) (.all)
def iq0(n:Int):o8 (Env.of pP (j9 [])) 1000 (x9 pP 269) .unit (x6 23 [0,4,5]) (v7 pP 269) qW8 (v6 pP 269 [J n]) [] =(.ag (n<0) (.ai (.done (.tuple [.int .i64 0,.int .i64 1]))) (.ai (.at (x8 pP 269 0) 23 (x7 23 [(0,.int .i64 n),(4,.int .i64 0),(5,.int .i64 2147483648)]) []))):=by kernel_rfl
def qW9:ax:=.ah (.ah (.all) (.all)) (.all)
def iq1(n r b:Int):o8 (Env.of pP (j9 [])) 1000 (x9 pP 269) .unit (x6 23 [0,4,5]) (x8 pP 269 0) qW9 (x7 23 [(0,J n),(4,J r),(5,J b)]) [] =(let y0:=(↑(BitVec.ofInt 64 r |||BitVec.ofInt 64 b).toNat:Int); .ag (b>0) (.aj (!i64.wrap y0==0) (.ag (i64.wrap y0<=i64.wrap (n.tdiv (i64.wrap y0))) (rT (.ai (.at (x8 pP 269 0) 23 (x7 23 [(0,.int .i64 n),(4,.int .i64 (i64.wrap y0)),(5,.int .i64 (b.fdiv 2))]) []))) (rT (.ai (.at (x8 pP 269 0) 23 (x7 23 [(0,.int .i64 n),(4,.int .i64 r),(5,.int .i64 (b.fdiv 2))]) []))))) (.ai (.done (.tuple [.int .i64 r,.int .i64 0])))):=by kernel_rfl
def qX1:ax:=.ah (.all) (.all)
def qX0(n:Int):o8 (Env.of pP (j9 [])) 1000 (x9 pP 240) .unit (x6 25 [0,4,5]) (v7 pP 240) qX1 (v6 pP 240 [J n]) [] =(.ag (n<0) (.ai (.done (.tuple [.int .i64 0,.int .i64 1]))) (.ai (.at (x8 pP 240 0) 25 (x7 25 [(0,.int .i64 n),(4,.int .i64 0),(5,.int .i64 2147483648)]) []))):=by kernel_rfl
def qX3:ax:=.ah (.ah (.all) (.all)) (.all)
def qX2(n r b:Int):o8 (Env.of pP (j9 [])) 1000 (x9 pP 240) .unit (x6 25 [0,4,5]) (x8 pP 240 0) qX3 (x7 25 [(0,J n),(4,J r),(5,J b)]) [] =(.ag (b>0) (.aj (!i64.wrap (r+b)==0) (.ag (i64.wrap (r+b)<=i64.wrap (n.tdiv (i64.wrap (r+b)))) (rT (.ai (.at (x8 pP 240 0) 25 (x7 25 [(0,.int .i64 n),(4,.int .i64 (i64.wrap (r+b))),(5,.int .i64 (i64.wrap (b.tdiv 2)))]) []))) (rT (.ai (.at (x8 pP 240 0) 25 (x7 25 [(0,.int .i64 n),(4,.int .i64 r),(5,.int .i64 (i64.wrap (b.tdiv 2)))]) []))))) (.ai (.done (.tuple [.int .i64 r,.int .i64 0])))):=by kernel_rfl
def kJ(u r:Nat->Int)(e:Int):Nat->Int
 |0=>e
 |i+1=>min (u (i+1)) (kJ u r e i+r i)
def HX(p r:Nat->Int)(n:Nat):Nat->Int
 |0=>p n
 |k+1=>min (p (n-(k+1))) (HX p r n k+r (n-(k+1)))
def nJ(u r:Nat->Int)(e:Int)(n i:Nat):Int:=HX (kJ u r e) r n (n-i)
structure yu (u r:Nat->Int) (e:Int) (n:Nat) (x:Nat->Int):Prop where
 first:x 0=e
 last:x n=0
 cap:∀i,0<i->i<n->x i<=u i
 up:∀i,i+1<n->x (i+1)<=x i+r i
 down:∀i,0<i->i<n->x i<=x (i+1)+r i
structure tw (u r:Nat->Int) (e:Int) (n:Nat):Prop where
 hu:∀i,0<=u i
 hr:∀i,0<=r i
 he:0<=e
 hn:1<=n
 un:u n=0
section
variable {u r:Nat->Int} {e:Int} {n:Nat}
def RV:nJ u r e n n=kJ u r e n:=by unfold nJ;rw[UL];rfl
def xR{i:Nat}(h:i<n):nJ u r e n i=min (kJ u r e i) (nJ u r e n (i+1)+r i):=by
 unfold nJ;obtain⟨k,hk⟩:∃k,n-i=k+1:=⟨n-i-1,by omega⟩;rw[hk,show n-(i+1)=k by omega];show min (kJ u r e (n-(k+1))) (HX (kJ u r e) r n k+r (n-(k+1)))=_;rw[show n-(k+1)=i by omega]
theorem Gy(h:tw u r e n):∀i,0<=kJ u r e i
 |0=>h.he
 |i+1=>by
  have:=Gy h i;have h1:=h.hu (i+1);have h2:=h.hr i;simp only[kJ];omega
def qH0(h:tw u r e n):kJ u r e n=0:=by
 have hn:=h.hn;obtain⟨k,rfl⟩:∃k,n=k+1:=⟨n-1,by omega⟩;have:=Gy h k;have h2:=h.hr k;have h3:=h.un;simp only[kJ];omega
def LG(h:tw u r e n):nJ u r e n n=0:=by rw[RV,qH0 h]
def RW{i:Nat}(h:i<=n):nJ u r e n i<=kJ u r e i:=by
 rcases jv i n with k|k
 .rw[xR k];omega
 .obtain rfl:i=n:=by omega
  rw[RV];omega
theorem LF(h:tw u r e n):∀k i,n-i=k->i<=n->0<=nJ u r e n i
 |0,i,hk,hi=>by
  obtain rfl:i=n:=by omega
  rw[LG h];omega
 |k+1,i,hk,hi=>by
  have h1:=LF h k (i+1) (by omega) (by omega);have h2:=Gy h i;have h3:=h.hr i;rw[xR (by omega)];omega
theorem jb2(h:tw u r e n){x:Nat->Int}(hx:yu u r e n x):∀i,i<=n->x i<=kJ u r e i
 |0,_=>by rw[hx.first];exact Cf _
 |i+1,hi=>by
  have h0:=jb2 h hx i (by omega);rcases jv (i+1) n with k|k
  .have h1:=hx.cap (i+1) (by omega) k
   have h2:=hx.up i k;simp only[kJ];omega
  .obtain rfl:i+1=n:=by omega
   rw[hx.last];exact Gy h _
theorem MQ(h:tw u r e n){x:Nat->Int}(hx:yu u r e n x):∀k i,n-i=k->0<i->i<=n->x i<=nJ u r e n i
 |0,i,hk,_,hi=>by
  obtain rfl:i=n:=by omega
  rw[hx.last,LG h];omega
 |k+1,i,hk,h0,hi=>by
  have h1:=MQ h hx k (i+1) (by omega) (by omega) (by omega);have h2:=jb2 h hx i hi;have h3:=hx.down i h0 (by omega);rw[xR (by omega)];omega
def qL8(h:tw u r e n)(h0:nJ u r e n 0=e):yu u r e n (nJ u r e n) where
 first:=h0
 last:=LG h
 cap:=λi hi hn=>by
  have h1:=RW (u:=u) (r:=r) (e:=e) (n:=n) (i:=i) (by omega);obtain⟨k,rfl⟩:∃k,i=k+1:=⟨i-1,by omega⟩;simp only[kJ]at h1;omega
 up:=λi hi=>by
  have h1:=RW (u:=u) (r:=r) (e:=e) (n:=n) (i:=i+1) (by omega);have h3:=h.hr i;have h4:=xR (u:=u) (r:=r) (e:=e) (n:=n) (i:=i) (by omega);simp only[kJ]at h1;omega
 down:=λi hi hn=>by
  have h4:=xR (u:=u) (r:=r) (e:=e) (n:=n) (i:=i) (by omega);omega
def qM0(h:tw u r e n):nJ u r e n 0<=e:=by
 have h1:=xR (u:=u) (r:=r) (e:=e) (n:=n) (i:=0) (by have:=h.hn;omega);simp only[kJ]at h1;omega
def jb4(h:tw u r e n):yu u r e n (λi=>if i=0 then e else 0) where
 first:=rfl
 last:=by have:=h.hn;rw[au (by omega)]
 cap:=λi hi hn=>by rw[au (by omega)];exact h.hu i
 up:=λi hi=>by have:=h.hr i;have:=h.he;rw[au (by omega)];split<;>omega
 down:=λi hi hn=>by have:=h.hr i;rw[au (by omega),au (by omega)];omega
def Oe(cr cap r:Nat->Int)(e:Int)(n:Nat)(s:Nat->Int):Prop:=
 s 0=e/\s n=0/\∀i,i<=n->0<=s i/\(i<n->s i<=cr i)/\(0<i->s i<=cr (i-1))/\(0<i->i<n->s i<=cap i)/\(i<n->s (i+1)-s i<=r i/\s i-s (i+1)<=r i)
def oD(cr cap:Nat->Int)(n i:Nat):Int:=if 0<i/\i<n then min (cap i) (min (cr (i-1)) (cr i))else 0
def zF7{cr cap:Nat->Int}(hn:1<=n)(he:0<=e)(hc:∀i,0<=cap i)(Nd:∀i,0<=cr i)(hr:∀i,0<=r i):tw (oD cr cap n) r e n where
 hu:=λi=>by
  have:=hc i;have:=Nd i;have:=Nd (i-1)
  unfold oD;split<;>omega
 hr:=hr
 he:=he
 hn:=hn
 un:=by unfold oD;rw[au (by omega)]
def Y1{cr cap:Nat->Int}(h:tw (oD cr cap n) r e n)(he:e<=cr 0)(Nd:∀i,0<=cr i){s:Nat->Int}(hs:yu (oD cr cap n) r e n s)(hg:∀x,yu (oD cr cap n) r e n x->∀i,i<=n->x i<=s i):
  (Oe cr cap r e n s↔nJ (oD cr cap n) r e n 0=e)/\(nJ (oD cr cap n) r e n 0=e->∀i,i<=n->s i=nJ (oD cr cap n) r e n i):=by
 have hn:=h.hn
 have eq:nJ (oD cr cap n) r e n 0=e->∀i,i<=n->s i=nJ (oD cr cap n) r e n i:=λh0 i hi=>by
  have h1:=hg _ (qL8 h h0) i hi;rcases wo i with rfl|hp
  .rw[hs.first,h0]
  .have:=MQ h hs _ i rfl hp hi;omega
 refine⟨⟨λhp=>?_,λh0=>?_⟩,eq⟩
 .have h1:=qM0 h
  have h2:=xR (u:=oD cr cap n) (r:=r) (e:=e) (n:=n) (i:=0) (by omega);have h3:=MQ h hs _ 1 rfl (by omega) hn;have h4:=((hp.2.2 0 (by omega)).2.2.2.2 (by omega)).2
  have h5:=hs.first
  simp only[kJ,gY]at h2 h4;omega
 .refine⟨hs.first,hs.last,λi hi=>?_⟩
  have e1:=eq h0 i hi;have p1:=LF h _ i rfl hi
  have hu:0<i->i<n->s i<=cap i/\s i<=cr (i-1)/\s i<=cr i:=λa b=>by
   have:=hs.cap i a b;unfold oD at this;rw[ay ⟨a,b⟩]at this;omega
  refine⟨by omega,λhl=>?_,λhp=>?_,λa b=>(hu a b).1,λhl=>?_⟩
  .rcases wo i with rfl|hp
   .rw[hs.first];exact he
   .exact(hu hp hl).2.2
  .rcases jv i n with k|k
   .exact(hu hp k).2.1
   .obtain rfl:i=n:=by omega
    rw[hs.last];exact Nd _
  .have e2:=eq h0 (i+1) (by omega)
   have p2:=LF h _ (i+1) rfl (by omega);have st:=xR (u:=oD cr cap n) (r:=r) (e:=e) (n:=n) hl;have rr:=h.hr i;refine⟨?_,by omega⟩;rcases jv (i+1) n with k|k
   .have:=hs.up i k;omega
   .obtain rfl:i+1=n:=by omega
    have:=hs.last;omega
end
abbrev w9:Ty:=.pair (.pair (.int .i64) (.pair (.int .i64) (.pair (.int .i64) (.int .i64)))) (.pair (.int .i64) (.pair (.int .i64) (.pair (.int .i64) (.int .i64))))
def LB(l:List Bk):SV:=.list w9 l
def LI(l:List Int):SV:=.list (.int .i64) l
def aM:Bk:=((0,0,0,0),0,0,0,0)
def qK1:ax:=.all
def gr0(l:List Bk)(aw:List Int)(e:Int):o8 (Env.of pP (j9 [Bl])) 1000 (x9 pP 291) .unit (x6 97 [0,1,2,7,8,9,10]) (v7 pP 291) qK1 (v6 pP 291 [LB l,LI aw,J e]) [] =(let y0:=(↑l.length:Int)+1;let y1:=List.replicate (i64.wrap y0).toNat (0:Int); .aj (0<=i64.wrap y0&&i64.wrap y0==i64.wrap y0&&8*i64.wrap y0<=140737488355328&&i64.wrap y0<=(9223372036854775807:Int)) (.aj (0< (↑y1.length:Int)) (.aj (0<y1.length) (.ai (.at (x8 pP 291 0) 97 (x7 97 [(0,.list w9 l),(1,.list (Ty.int i64) aw),(2,.int .i64 e),(7,.int .i64 (↑l.length:Int)),(8,SV.row 0),(9,.int .i64 1),(10,SV.undef)]) [some (.rows (Ty.int i64) (y1.set 0 e))]))))):=by kernel_rfl
def qK5:ax:=.ah (.all) (.all)
def gr1(l:List Bk)(aw:List Int)(e n:Int)(s:List Int)(i:Int):o8 (Env.of pP (j9 [Bl])) 1000 (x9 pP 291) .unit (x6 97 [0,1,2,7,8,9,10]) (x8 pP 291 0) qK5 (x7 97 [(0,LB l),(1,LI aw),(2,J e),(7,J n),(8,.row 0),(9,J i),(10,.undef)]) [some (.rows (.int .i64) s)] =(let y1:=i64.wrap (n-1);let y2:=0<=i64.wrap (i-1)&&i64.wrap (i-1)< (↑l.length:Int);let y3:=i64.wrap (i-1);let y0:=l.getD y3.toNat aM;let y4:=Ty.int i64;let y5:=l.getD i.toNat aM; .ag (i<n) (.aj (0<=i&&i< (↑aw.length:Int)) (.aj y2 (.aj (0<=i&&i< (↑l.length:Int)) (.aj (0<=i64.wrap (i-1)&&i64.wrap (i-1)< (↑s.length:Int)) (.aj (y3.toNat<s.length) (.aj y2 (.aj (n7 y0) (.aj (0<=i&&i< (↑s.length:Int)) (.aj (i.toNat<s.length) (.ai (.at (x8 pP 291 0) 97 (x7 97 [(0,.list w9 l),(1,.list y4 aw),(2,.int .i64 e),(7,.int .i64 n),(8,SV.row 0),(9,.int .i64 (i64.wrap (i+1))),(10,SV.undef)]) [some (.rows y4 (s.set i.toNat (if i64.wrap (s.getD y3.toNat 0+iV y0)<if y5.2.2.2.1<if y0.2.2.2.1<aw.getD i.toNat 0 then y0.2.2.2.1 else aw.getD i.toNat 0 then y5.2.2.2.1 else if y0.2.2.2.1<aw.getD i.toNat 0 then y0.2.2.2.1 else aw.getD i.toNat 0 then i64.wrap (s.getD y3.toNat 0+iV y0)else if y5.2.2.2.1<if y0.2.2.2.1<aw.getD i.toNat 0 then y0.2.2.2.1 else aw.getD i.toNat 0 then y5.2.2.2.1 else if y0.2.2.2.1<aw.getD i.toNat 0 then y0.2.2.2.1 else aw.getD i.toNat 0)))]))))))))))) (.aj (0<=i64.wrap (n-1)&&i64.wrap (n-1)< (↑s.length:Int)) (.aj (y1.toNat<s.length) (.aj (0<=i64.wrap (n-1)&&i64.wrap (n-1)< (↑l.length:Int)) (.aj (n7 (l.getD y1.toNat aM)) (.aj (0<=n&&n< (↑s.length:Int)) (.aj (n.toNat<s.length) (.ai (.at (x8 pP 291 1) 97 (x7 97 [(0,.list w9 l),(1,.list y4 aw),(2,.int .i64 e),(7,.int .i64 n),(8,SV.row 0),(9,.int .i64 i),(10,.int .i64 y1)]) [some (.rows y4 (s.set n.toNat (if i64.wrap (s.getD y1.toNat 0+iV (l.getD y1.toNat aM))<0 then i64.wrap (s.getD y1.toNat 0+iV (l.getD y1.toNat aM))else 0)))]))))))))):=by kernel_rfl
def qK9:ax:=.ah (.all) (.all)
def gr2(l:List Bk)(aw:List Int)(e n:Int)(s:List Int)(i j:Int):o8 (Env.of pP (j9 [Bl])) 1000 (x9 pP 291) .unit (x6 97 [0,1,2,7,8,9,10]) (x8 pP 291 1) qK9 (x7 97 [(0,LB l),(1,LI aw),(2,J e),(7,J n),(8,.row 0),(9,J j),(10,J i)]) [some (.rows (.int .i64) s)] =(let y0:=s.getD (i64.wrap (i+1)).toNat 0+iV (l.getD i.toNat aM); .ag (i>=0) (.aj (0<=i&&i< (↑s.length:Int)) (.aj (i.toNat<s.length) (.aj (0<=i64.wrap (i+1)&&i64.wrap (i+1)< (↑s.length:Int)) (.aj ((i64.wrap (i+1)).toNat<s.length) (.aj (0<=i&&i< (↑l.length:Int)) (.aj (n7 (l.getD i.toNat aM)) (.aj (0<=i&&i< (↑s.length:Int)) (.aj (i.toNat<s.length) (.ai (.at (x8 pP 291 1) 97 (x7 97 [(0,.list w9 l),(1,.list (Ty.int i64) aw),(2,.int .i64 e),(7,.int .i64 n),(8,SV.row 0),(9,.int .i64 j),(10,.int .i64 (i64.wrap (i-1)))]) [some (.rows (Ty.int i64) (s.set i.toNat (if i64.wrap y0<s.getD i.toNat 0 then i64.wrap y0 else s.getD i.toNat 0)))])))))))))) (.ai (.done (.list (Ty.int i64) s)))):=by kernel_rfl
def kW{l:List aB}(hl:mR pP l):cV pP (Env.of pP (j9 l)):=Se aL (SS l hl.all)
def k0:cV pP (Env.of pP (j9 [])):=kW trivial
def Ch:Nat->Int
 |0=>0
 |k+1=>2 ^ k
def QD{k:Nat}(h:k<32):(2:Int) ^ k<=2147483648:=by
 have:(2:Nat) ^ k<=2 ^ 31:=ah8 (by decide) (by omega);have h2:((2 ^ k:Nat):Int)<=((2 ^ 31:Nat):Int):=Int.ofNat_le.2 this
 simpa using h2
def U6(k:Nat):(2:Int) ^ k / 2=Ch k:=by
 cases k with
 |zero=>decide
 |succ k=>simp only[Ch];rw[NH];omega
variable{r:Int}
def yZ9{k:Nat}(hk:k<32)(h0:0<=r)(h1:r<4294967296)(hd:(2:Int) ^ (k+1) ∣ r):i64.wrap (((BitVec.ofInt 64 r |||BitVec.ofInt 64 (2 ^ k)).toNat:Nat):Int)=r+2 ^ k:=by
 obtain⟨m,rfl⟩:=ox h0;have hp:=QD hk
 have e1:(BitVec.ofInt 64 (m:Int)).toNat=m:=by
  rw[Io];have:((2 ^ 64:Nat):Int)=18446744073709551616:=rfl;rw[this];omega
 have e2:(BitVec.ofInt 64 ((2:Int) ^ k)).toNat=2 ^ k:=by
  rw[Io];have:((2 ^ 64:Nat):Int)=18446744073709551616:=rfl;rw[this,show((2:Int) ^ k)=((2 ^ k:Nat):Int) by simp];have h2:(2 ^ k:Nat)<=2 ^ 31:=ah8 (by decide) (by omega);generalize 2 ^ k=q at h2 ⊢;omega
 rw[aix,e1,e2]
 have ig:2 ^ (k+1) ∣ m:=by
  have:((2 ^ (k+1):Nat):Int) ∣ (m:Int):=by simpa using hd
  exact Int.natCast_dvd_natCast.1 this
 obtain⟨q,rfl⟩:=ig;rw[<-aBG (i:=k+1) (b:=2 ^ k) (Nat.pow_lt_pow_right (by decide) (by omega)) q]
 have:((2 ^ (k+1)*q+2 ^ k:Nat):Int)=((2 ^ (k+1)*q:Nat):Int)+2 ^ k:=by simp
 rw[this];exact aG (by omega) (by omega)
def qY9{k:Nat}(hd:(2:Int) ^ (k+1) ∣ r):(2:Int) ^ k ∣ r:=Int.dvd_trans ⟨2,by rw[NH]⟩ hd
def qZ1{k:Nat}(hd:(2:Int) ^ (k+1) ∣ r):(2:Int) ^ k ∣ r+2 ^ k:=Int.dvd_add (qY9 hd) (Int.dvd_refl _)
def Mw{t:Int}(h0:0<=n)(h1:n<=9223372036854775807)(ht:1<=t):i64.wrap (n.tdiv t)=n.tdiv t:=by
 rw[EQ h0];have a:=ES h0 (show 0<=t by omega);have b:=Ii t h0;exact aG (by omega) (by omega)
theorem RD(h0:0<=n)(h1:n<=9223372036854775807):∀ (k:Nat) (r:Int),k<=32->0<=r->r+2 ^ k<=4294967296->(2:Int) ^ k ∣ r->
  t9 pP (x9 pP 269) (.tuple [J (oa n k r),J 0]) (x8 pP 269 0) (x7 23 [(0,J n),(4,J r),(5,J (Ch k))]) []
 |k,r,hk,hr,hs,hd=>by
  refine o6 k0 (n:=1000) (hint:=.unit) (keep:=x6 23 [0,4,5]) (p:=qW9) rfl ?_
  match k,hk,hs,hd with
  |0,hk,hs,hd=>
   erw [iq1 n r 0];exact⟨λh=>absurd (bG h) (by decide),λ_=>rfl⟩
  |k+1,hk,hs,hd=>
   have hp:=zw k;have Hq:=QD (show k<32 by omega)
   have e2:(2:Int) ^ (k+1)=2 ^ k+2 ^ k:=by rw[NH];omega
   have e3:(2:Int) ^ k / 2=Ch k:=U6 k;erw [iq1 n r (2 ^ k)];refine⟨λ_=>?_,λh=>absurd (cO h) (by omega)⟩;rw[yZ9 (by omega) hr (by omega) hd,Mw h0 h1 (by omega),uP _ (by omega),e3];refine⟨by simp;omega,λh=>⟨rfl,o5 _ _,?_⟩,λh=>⟨rfl,o5 _ _,?_⟩⟩
   .have:=RD h0 h1 k (r+2 ^ k) (by omega) (by omega) (by omega) (qZ1 hd)
    rw[oa,ay (bG h)];exact this
   .have:=RD h0 h1 k r (by omega) (by omega) (by omega) (qY9 hd)
    rw[oa,au (cO h)];exact this
theorem RE(h0:0<=n)(h1:n<=9223372036854775807):∀ (k:Nat) (r:Int),k<=32->0<=r->r+2 ^ k<=4294967296->
  t9 pP (x9 pP 240) (.tuple [J (oa n k r),J 0]) (x8 pP 240 0) (x7 25 [(0,J n),(4,J r),(5,J (Ch k))]) []
 |k,r,hk,hr,hs=>by
  refine o6 k0 (n:=1000) (hint:=.unit) (keep:=x6 25 [0,4,5]) (p:=qX3) rfl ?_
  match k,hk,hs with
  |0,hk,hs=>
   erw [qX2 n r 0];exact⟨λh=>absurd (bG h) (by decide),λ_=>rfl⟩
  |k+1,hk,hs=>
   have hp:=zw k;have Hq:=QD (show k<32 by omega)
   have e2:(2:Int) ^ (k+1)=2 ^ k+2 ^ k:=by rw[NH];omega
   have e3:i64.wrap ((2:Int) ^ k |>.tdiv 2)=Ch k:=by rw[EQ (by omega),aG (by omega) (by omega)];exact U6 k
   erw [qX2 n r (2 ^ k)];refine⟨λ_=>?_,λh=>absurd (cO h) (by omega)⟩;rw[aG (x:=r+2 ^ k) (by omega) (by omega),Mw h0 h1 (by omega),e3];refine⟨by simp;omega,λh=>⟨rfl,o5 _ _,?_⟩,λh=>⟨rfl,o5 _ _,?_⟩⟩
   .have:=RE h0 h1 k (r+2 ^ k) (by omega) (by omega) (by omega)
    rw[oa,ay (bG h)];exact this
   .have:=RE h0 h1 k r (by omega) (by omega) (by omega)
    rw[oa,au (cO h)];exact this
def xK3(n:Int)(h0:0<=n)(h1:n<=9223372036854775807):SCall pP 269 [J n] (.tuple [J (gN n),J 0]):=by
 refine s8 rfl rfl (by kernel_rfl) (o6 k0 (n:=1000) (hint:=.unit) (keep:=x6 23 [0,4,5]) (p:=qW8) (boxes:=[]) rfl ?_);have e:=iq0 n;unfold v6 v7 at e;erw [e];exact⟨λh=>absurd (bG h) (by omega),λ_=>⟨o5 _ _,RD h0 h1 32 0 (by omega) (by omega) (by decide) (Int.dvd_zero _)⟩⟩
def xK4(n:Int)(h0:0<=n)(h1:n<=9223372036854775807):SCall pP 240 [J n] (.tuple [J (gN n),J 0]):=by
 refine s8 rfl rfl (by kernel_rfl) (o6 k0 (n:=1000) (hint:=.unit) (keep:=x6 25 [0,4,5]) (p:=qX1) (boxes:=[]) rfl ?_);have e:=qX0 n;unfold v6 v7 at e;erw [e];exact⟨λh=>absurd (bG h) (by omega),λ_=>⟨o5 _ _,RE h0 h1 32 0 (by omega) (by omega) (by decide)⟩⟩
def qY8(n:Int):ak SV:=.aj (az n 0 9223372036854775807) (lT [J (gN n),J 0])
def Ln:aB:=tU 269 qY8
def RA:aB:=tU 240 qY8
def YW:Ln.ok pP:=rq λn h=>xK3 n (v5.1 h).1 (v5.1 h).2
def YV:RA.ok pP:=rq λn h=>xK4 n (v5.1 h).1 (v5.1 h).2
def fp(l:List Bk)(i:Nat):Int:=(l.getD i aM).2.2.2.1
def mX(aw:List Int)(i:Nat):Int:=aw.getD i 0
def dW(l:List Bk)(i:Nat):Int:=iV (l.getD i aM)
def uL(l:List Bk)(aw:List Int):Nat->Int:=oD (fp l) (mX aw) l.length
def fL(l:List Bk)(aw:List Int)(e:Int):Nat->Int:=kJ (uL l aw) (dW l) e
def gL(l:List Bk)(aw:List Int)(e:Int):Nat->Int:=nJ (uL l aw) (dW l) e l.length
structure ed (l:List Bk) (aw:List Int) (e:Int):Prop where
 ne:1<=l.length
 snd:∀b∈l,n7 b=true
 len:aw.length=l.length
 cap:∀c∈aw,0<=c/\c<=1099511627776
 HT:0<=e/\e<=1099511627776
section
variable {l:List Bk} {aw:List Int} {e:Int}
def LK{α:Type}{p:α->Prop}{l:List α}{d:α}(h:∀x∈l,p x)(hd:p d)(i:Nat):p (l.getD i d):=by
 rw[cK]
 cases hx:l[i]? with
 |none=>exact hd
 |some x=>exact h x (If hx)
variable{i:Nat}
def vE{α:Type}{p:α->Prop}{l:List α}{d:α}(h:∀x∈l,p x)(hi:i<l.length):p (l.getD i d):=by
 rw[cK,cc hi];exact h _ (Cb hi)
def ed.ahZ(h:ed l aw e)(i:Nat):0<=mX aw i/\mX aw i<=1099511627776:=LK (p:=λc=>0<=c/\c<=1099511627776) h.cap (by decide) i
def ed.Nw(h:ed l aw e)(i:Nat):0<=fp l i/\fp l i<=1099511627776:=LK (p:=λb:Bk=>0<=b.2.2.2.1/\b.2.2.2.1<=1099511627776) (λb hb=>by have:=Ac.1 (h.snd b hb);omega) (by decide) i
def xk4{b:Bk}(h:n7 b=true):0<=iV b/\iV b<=562949953421312:=by
 have d:=nQ b.1;have q:=(Ac.1 h).2.1;have p:0<=b.2.1*aF b.1/\b.2.1*aF b.1<=16777216*16777216:=⟨wB (by omega) d.1,uO q.2 d.2 d.1 (by omega)⟩;have e:2*b.2.1*aF b.1=2*(b.2.1*aF b.1):=NJ _ _ _;unfold iV;omega
def ed.sG(h:ed l aw e)(i:Nat):0<=dW l i/\dW l i<=562949953421312:=LK (p:=λb:Bk=>0<=iV b/\iV b<=562949953421312) (λb hb=>xk4 (h.snd b hb)) (by decide) i
def ed.lim(h:ed l aw e):tw (uL l aw) (dW l) e l.length:=zF7 h.ne h.HT.1 (λi=>(h.ahZ i).1) (λi=>(h.Nw i).1) λi=>(h.sG i).1
def jw7(h:ed l aw e)(i:Nat):uL l aw i<=1099511627776:=by
 have:=h.ahZ i
 unfold uL oD;split<;>omega
def Rz(h:ed l aw e)(i:Nat):0<=fL l aw e i/\fL l aw e i<=1099511627776:=by
 refine⟨Gy h.lim i,?_⟩
 cases i with
 |zero=>exact h.HT.2
 |succ i=>have:=jw7 h (i+1);unfold fL;simp only[kJ];omega
def qc4(i:Nat):fL l aw e (i+1)=min (uL l aw (i+1)) (fL l aw e i+dW l i):=rfl
def R7(h:ed l aw e)(hi:i<=l.length):0<=gL l aw e i/\gL l aw e i<=1099511627776:=by
 have h1:=LF h.lim _ i rfl hi;have h2:=RW (u:=uL l aw) (r:=dW l) (e:=e) hi;have h3:=Rz h i;unfold fL at h3;unfold gL;omega
def qH5(hi:i<l.length):gL l aw e i=min (fL l aw e i) (gL l aw e (i+1)+dW l i):=xR hi
def qH2:gL l aw e l.length=fL l aw e l.length:=RV
def SB(h0:0<i)(hi:i<l.length):uL l aw i=min (mX aw i) (min (fp l (i-1)) (fp l i)):=ay ⟨h0,hi⟩
def Mj:uL l aw l.length=0:=au (by omega)
def xw{s:List Int}{j:Nat}{v:Int}(hi:i<s.length):(s.set i v).getD j 0=if i=j then v else s.getD j 0:=by
 rw[cK,List.getElem?_set]
 split;.rename_i lh;subst lh;simp[hi]
 .rw[cK]
def LV{s:List Int}{n:Nat}{g:Nat->Int}(hl:s.length=n)(h:∀j,j<n->s.getD j 0=g j):s=(List.range n).map g:=by
 apply NF;intro j
 by_cases hj:j<n
 .have:=h j hj
  rw[cK,cc (by omega)]at this;rw[cc (by omega)];simp[hj];exact this
 .rw[qU (by omega),qU (by simp;omega)]
theorem qK8(h:ed l aw e)(bD:l.length<4611686018427387904):∀ (k:Nat) (s:List Int) (j:Int),k<=l.length->s.length=l.length+1->(∀t,t<k->s.getD t 0=fL l aw e t)->(∀t,k<=t->t<=l.length->s.getD t 0=gL l aw e t)->
  t9 pP (x9 pP 291) (LI ((List.range (l.length+1)).map (gL l aw e))) (x8 pP 291 1) (x7 97 [(0,LB l),(1,LI aw),(2,J e),(7,J (l.length:Int)),(8,.row 0),(9,J j),(10,J ((k:Int)-1))]) [some (.rows (.int .i64) s)]
 |k,s,j,hk,hs,h1,h2=>by
  refine o6 (kW (l:=[Bl]) ⟨PO,trivial⟩) (n:=1000) (hint:=.unit) (keep:=x6 97 [0,1,2,7,8,9,10]) (p:=qK9) rfl ?_;erw [gr2 l aw e l.length s ((k:Int)-1) j]
  match k,hk,h1,h2 with
  |0,hk,h1,h2=>
   refine⟨λc=>absurd (bG c) (by omega),λ_=>?_⟩;show LI s=_;rw[LV hs λt ht=>h2 t (rW _) (by omega)]
  |k+1,hk,h1,h2=>
   have e0:((k+1:Nat):Int)-1=(k:Int):=by omega
   have w1:i64.wrap ((k:Int)+1)=((k+1:Nat):Int):=by rw[aG (by omega) (by omega)];omega
   have w2:i64.wrap ((k:Int)-1)=(k:Int)-1:=aG (by omega) (by omega)
   have t1:((k+1:Nat):Int).toNat=k+1:=by omega
   have t0:(k:Int).toNat=k:=by omega
   have g1:=h2 (k+1) (by omega) (by omega);have f1:=h1 k (by omega);have r1:=R7 h (i:=k+1) (by omega);have r2:=h.sG k;have r3:=Rz h k
   have w3:i64.wrap (s.getD (k+1) 0+iV (l.getD k aM))=gL l aw e (k+1)+dW l k:=by rw[g1];exact aG (by unfold dW at r2;omega) (by unfold dW at r2;omega)
   have Am:n7 (l.getD k aM)=true:=vE (p:=λb=>n7 b=true) h.snd (by omega);rw[e0];refine⟨λc=>?_,λc=>absurd (cO c) (by omega)⟩;simp only[w1,w2,t1,t0,w3,Am,ak.holds,aH,aV];refine⟨by omega,by omega,by omega,by omega,by omega,trivial,by omega,by omega,o5 _ _,?_⟩
   have hv:(if gL l aw e (k+1)+dW l k<s.getD k 0 then gL l aw e (k+1)+dW l k else s.getD k 0)=gL l aw e k:=by
    rw[qH5 (i:=k) (by omega),f1]
    split<;>omega
   rw[hv];refine qK8 h bD k (s.set k (gL l aw e k)) j (by omega) (by simpa using hs) (λt ht=>?_) (λt Hf ht2=>?_);.rw[xw (by omega),au (by omega)];exact h1 t (by omega)
   .rw[xw (by omega)]
    split;.rename_i hkt;subst hkt;rfl
    .exact h2 t (by omega) ht2
theorem qK4(h:ed l aw e)(bD:l.length<4611686018427387904):∀ (k i:Nat) (s:List Int),i+k=l.length->1<=i->s.length=l.length+1->(∀t,t<i->s.getD t 0=fL l aw e t)->
  t9 pP (x9 pP 291) (LI ((List.range (l.length+1)).map (gL l aw e))) (x8 pP 291 0) (x7 97 [(0,LB l),(1,LI aw),(2,J e),(7,J (l.length:Int)),(8,.row 0),(9,J (i:Int)),(10,.undef)]) [some (.rows (.int .i64) s)]
 |k,i,s,hi,h1,hs,hf=>by
  have e1:((i:Int)-1)=((i-1:Nat):Int):=by omega
  have w1:i64.wrap (((i-1:Nat):Int))=((i-1:Nat):Int):=aG (by omega) (by omega)
  have w2:i64.wrap ((i:Int)+1)=((i+1:Nat):Int):=by rw[aG (by omega) (by omega)];omega
  have t0:(i:Int).toNat=i:=by omega
  have t1:((i-1:Nat):Int).toNat=i-1:=by omega
  have f1:=hf (i-1) (by omega);have r2:=h.sG (i-1);have r3:=Rz h (i-1);have Am:n7 (l.getD (i-1) aM)=true:=vE (p:=λb=>n7 b=true) h.snd (by omega)
  have w3:i64.wrap (s.getD (i-1) 0+iV (l.getD (i-1) aM))=fL l aw e (i-1)+dW l (i-1):=by rw[f1];exact aG (by unfold dW at r2;omega) (by unfold dW at r2;omega)
  refine o6 (kW (l:=[Bl]) ⟨PO,trivial⟩) (n:=1000) (hint:=.unit) (keep:=x6 97 [0,1,2,7,8,9,10]) (p:=qK5) rfl ?_;erw [gr1 l aw e l.length s i]
  have uB:fL l aw e i=min (uL l aw i) (fL l aw e (i-1)+dW l (i-1)):=by
   have:=qc4 (l:=l) (aw:=aw) (e:=e) (i-1)
   rwa [show i-1+1=i by omega]at this
  match k,hi with
  |0,hi=>
   have nI:i=l.length:=by omega
   subst nI;refine⟨λc=>absurd (bG c) (by omega),λ_=>?_⟩;simp only[e1,w1,t0,t1,w3,Am,ak.holds,aH,aV];refine⟨by omega,by omega,by omega,trivial,by omega,by omega,o5 _ _,?_⟩
   have hv:(if fL l aw e (l.length-1)+dW l (l.length-1)<0 then fL l aw e (l.length-1)+dW l (l.length-1)else 0)=fL l aw e l.length:=by
    rw[uB,Mj];split<;>omega
   rw[hv,<-e1];refine qK8 h bD l.length _ _ (bA _) (by simpa using hs) (λt ht=>?_) (λt Hf ht2=>?_);.rw[xw (by omega),au (by omega)];exact hf t ht
   .rw[xw (by omega),ay (by omega),show t=l.length by omega,qH2]
  |k+1,hi=>
   refine⟨λ_=>?_,λc=>absurd (cO c) (by omega)⟩
   have hv:∀a b c d:Int,(if d< (if b< (if a<c then a else c)then b else if a<c then a else c)then d else if b< (if a<c then a else c)then b else if a<c then a else c)=min (min c (min a b)) d:=λa b c d=>by(repeat' split)<;>omega
   have hlen2:=h.len;simp only[e1,w1,w2,t0,t1,w3,Am,hv,ak.holds,aH,aV];refine⟨by omega,by omega,by omega,by omega,by omega,by omega,trivial,by omega,by omega,o5 _ _,?_⟩
   have hx:min (min (aw.getD i 0) (min (l.getD (i-1) aM).2.2.2.1 (l.getD i aM).2.2.2.1)) (fL l aw e (i-1)+dW l (i-1))=fL l aw e i:=by
    rw[uB,SB (by omega) (by omega)];rfl
   rw[hx];refine qK4 h bD k (i+1) (s.set i (fL l aw e i)) (by omega) (by omega) (by simpa using hs) (λt ht=>?_);rw[xw (by omega)]
   split;.rename_i yf;subst yf;rfl
   .exact hf t (by omega)
def xH8(h:ed l aw e)(bD:l.length<4611686018427387904)(bS:8*((l.length:Int)+1)<=140737488355328):SCall pP 291 [LB l,LI aw,J e] (LI ((List.range (l.length+1)).map (gL l aw e))):=by
 refine s8 rfl rfl (by kernel_rfl) (o6 (kW (l:=[Bl]) ⟨PO,trivial⟩) (n:=1000) (hint:=.unit) (keep:=x6 97 [0,1,2,7,8,9,10]) (p:=qK1) (boxes:=[]) rfl ?_);have q:=gr0 l aw e;unfold v6 v7 at q;erw [q]
 have w1:i64.wrap ((l.length:Int)+1)=((l.length+1:Nat):Int):=by rw[aG (by omega) (by omega)];omega
 have t1:((l.length+1:Nat):Int).toNat=l.length+1:=by omega
 have cw:=h.ne;simp only[w1,t1,ak.holds,aH,aV,HZ,qs];refine⟨⟨⟨⟨by omega,trivial⟩,by omega⟩,by omega⟩,by omega,by omega,o5 _ _,?_⟩
 have:=qK4 h bD (l.length-1) 1 ((List.replicate (l.length+1) (0:Int)).set 0 e) (by omega) (by omega) (by simp) (λt ht=>by
  obtain rfl:t=0:=by omega
  rw[xw (by simp)];rfl)
 exact this
end
def kP(l:List Bk)(aw:List Int)(e:Int):Bool:=1<=l.length&& (l.length<=1000000&& (l.all n7&& (aw.length=l.length&& (aw.all (λc=>az c 0 1099511627776)&&az e 0 1099511627776))))
variable{l:List Bk}{aw:List Int}{e:Int}
def rn:kP l aw e=true↔l.length<=1000000/\ed l aw e:=by
 simp only[kP,aH,aV,nM,v5];exact⟨λ⟨h1,h2,h3,h4,h5,h6⟩=>⟨h2,h1,h3,h4,h5,h6⟩,λ⟨h2,h1,h3,h4,h5,h6⟩=>⟨h1,h2,h3,h4,h5,h6⟩⟩
def rO(l:List Bk)(aw:List Int)(e:Int):List Int:=(List.range (l.length+1)).map (gL l aw e)
def Di(f:FuncId)(h:List Bk->List Int->Int->ak SV):aB:=⟨f,λargs=>match args with
 |[.list (.pair (.pair (.int .i64) (.pair (.int .i64) (.pair (.int .i64) (.int .i64)))) (.pair (.int .i64) (.pair (.int .i64) (.pair (.int .i64) (.int .i64))))) l,.list (.int .i64) aw,.int .i64 e] =>some (h l aw e)
 |_=>none⟩
def KM{h:List Bk->List Int->Int->ak SV}(k:∀l aw e,(h l aw e).bw (SCall P f [LB l,LI aw,J e])):(Di f h).ok P:=λargs t ht=>by
 simp only[Di]at ht
 split at ht<;>cases ht;exact k _ _ _
def Fm:aB:=Di 291 λl aw e=>.aj (kP l aw e) (.ai (LI (rO l aw e)))
def yz0:Fm.ok pP:=KM λl aw e h=>xH8 (rn.1 h).2 (by have:=(rn.1 h).1;omega) (by have:=(rn.1 h).1;omega)
def YZ:ax:=.all
def pl0(l:List Bk)(aw:List Int)(e:Int):o8 (Env.of pP (j9 [Dv,Fm])) 1000 (x9 pP 262) w9 (x6 100 [0,1,2,10,11,13,14,15,72,73]) (v7 pP 262) YZ (v6 pP 262 [LB l,LI aw,J e]) [] =(.ai (.at (x8 pP 262 0) 100 (x7 100 [(0,.list w9 l),(1,.list (Ty.int i64) aw),(2,.int .i64 e),(10,SV.undef),(11,SV.undef),(13,.list w9 l),(14,.int .i64 (↑l.length:Int)),(15,.int .i64 0),(72,SV.undef),(73,SV.undef)]) [])):=by kernel_rfl
def xa0:ax:=let z0:ax:=.ah .all (.ah (.ln 6 pA) (.ln 6 (.ah .all .all)));.ah (.ah .all .all) (.ah (.ln 5 pA) (.ln 3 (.ah (.ar (.ar (.ah (.ln 10 pA) (.ln 10 (.ah .all z0))))) (.ln 7 z0))))
def pl1(l:List Bk)(aw:List Int)(e i:Int):o8 (Env.of pP (j9 [Dv,Fm])) 1000 (x9 pP 262) w9 (x6 100 [0,1,2,10,11,13,14,15,72,73]) (x8 pP 262 0) xa0 (x7 100 [(0,LB l),(1,LI aw),(2,J e),(10,.undef),(11,.undef),(13,LB l),(14,J l.length),(15,J i),(72,.undef),(73,.undef)]) [] =(let y1:=(↑l.length:Int);let y2:ak Stop:=.ai (.done (.tuple [.list w9 [],.int .i64 1]));let y3:=Ty.int i64;let y0:ak Stop:=.ag (y1==0) (.ai (.done (.tuple [.list w9 [],.int .i64 0]))) (.aj (kP l aw e) (.aj (0< (↑(rO l aw e).length:Int)) (.ag ((rO l aw e).getD 0 0 != e) (.ai (.done (.tuple [.list w9 [],.int .i64 8]))) (.aj (0<=y1&&y1< (↑(rO l aw e).length:Int)) (.ag ((rO l aw e).getD y1.toNat 0 != 0) (.ai (.done (.tuple [.list w9 [],.int .i64 8]))) (.aj (0<=y1&&y1==y1&&64*y1<=140737488355328&&y1<=(9223372036854775807:Int)) (.aj (l.length==(List.replicate y1.toNat ((nE.nY y3 4).pair (y3.pair (y3.pair (y3.pair y3)))).iH).length&&!l.isEmpty) (.ai (.at (x8 pP 262 1) 100 (x7 100 [(0,.list w9 l),(1,.list y3 aw),(2,.int .i64 e),(10,.list y3 (rO l aw e)),(11,SV.row 0),(13,.list w9 l),(14,.int .i64 y1),(15,.int .i64 i),(72,.int .i64 y1),(73,.int .i64 0)]) [some (.rows w9 l)]))))))))); .ag (i<y1) (.aj (0<=i&&i<y1) (.ag (!n7 (l.getD i.toNat aM)) y2 (.ai (.at (x8 pP 262 0) 100 (x7 100 [(0,.list w9 l),(1,.list y3 aw),(2,.int .i64 e),(10,SV.undef),(11,SV.undef),(13,.list w9 l),(14,.int .i64 y1),(15,.int .i64 (i64.wrap (i+1))),(72,SV.undef),(73,SV.undef)]) [])))) (.ag (y1 !=(↑aw.length:Int)) y2 (.ag (y1>0) (.ag (e<0) y2 (.aj (0<y1) (.ag (e> (l.getD 0 aM).2.2.2.1) y2 y0))) y0))):=by kernel_rfl
def QG:ax:=.ah (.ah (.all) (.all)) (.all)
def pl2(l:List Bk)(aw:List Int)(e:Int)(s:List Int)(o:List Bk)(i j k:Int):o8 (Env.of pP (j9 [Dv,Fm])) 1000 (x9 pP 262) w9 (x6 100 [0,1,2,10,11,13,14,15,72,73]) (x8 pP 262 1) QG (x7 100 [(0,LB l),(1,LI aw),(2,J e),(10,LI s),(11,.row 0),(13,LB l),(14,J j),(15,J k),(72,J l.length),(73,J i)]) [some (.rows w9 o)] =(let y0:=o.set i.toNat ((o.getD i.toNat aM).1,(o.getD i.toNat aM).2.1,s.getD i.toNat 0,(o.getD i.toNat aM).2.2.2);let y1:=y0.getD i.toNat aM; .ag (i< (↑l.length:Int)) (.aj (0<=i&&i< (↑s.length:Int)) (.ag (s.getD i.toNat 0<0) (.ai (.done (.tuple [.list w9 [],.int .i64 8]))) (.aj (0<=i&&i< (↑s.length:Int)) (.aj (0<=i64.wrap (i+1)&&i64.wrap (i+1)< (↑s.length:Int)) (.aj (0<=i&&i< (↑o.length:Int)) (.aj (i.toNat<o.length) (.aj (0<=i&&i< (↑y0.length:Int)) (.aj (i.toNat<y0.length) (.ai (.at (x8 pP 262 1) 100 (x7 100 [(0,.list w9 l),(1,.list (Ty.int i64) aw),(2,.int .i64 e),(10,.list (Ty.int i64) s),(11,SV.row 0),(13,.list w9 l),(14,.int .i64 j),(15,.int .i64 k),(72,.int .i64 (↑l.length:Int)),(73,.int .i64 (i64.wrap (i+1)))]) [some (.rows w9 (y0.set i.toNat (y1.1,y1.2.1,y1.2.2.1,y1.2.2.2.1,s.getD (i64.wrap (i+1)).toNat 0)))])))))))))) (.ai (.done (.tuple [.list w9 o,.int .i64 0])))):=by kernel_rfl
def F5(b:Bk)(x y:Int):Bk:=(b.1,b.2.1,x,b.2.2.2.1,y)
def jo(l:List Bk)(g:Nat->Int):List Bk:=(List.range l.length).map λi=>F5 (l.getD i aM) (g i) (g (i+1))
def oO(l:List Bk)(aw:List Int)(e:Int):SV:=if e<=fp l 0 then(if gL l aw e 0=e then .tuple [LB (jo l (gL l aw e)),J 0]else .tuple [LB [],J 8])else .tuple [LB [],J 1]
def vu{α:Type}{s:List α}{d:α}{i j:Nat}{v:α}(hi:i<s.length):(s.set i v).getD j d=if i=j then v else s.getD j d:=by
 rw[cK,List.getElem?_set]
 split;.rename_i lh;subst lh;simp[hi]
 .rw[cK]
def q81{α:Type}{s:List α}{d:α}{n:Nat}{g:Nat->α}(hl:s.length=n)(h:∀j,j<n->s.getD j d=g j):s=(List.range n).map g:=by
 apply NF;intro j
 by_cases hj:j<n
 .have:=h j hj
  rw[cK,cc (by omega)]at this;rw[cc (by omega)];simp[hj];exact this
 .rw[qU (by omega),qU (by simp;omega)]
def LH{t:Nat}(ht:t<=l.length):(rO l aw e).getD t 0=gL l aw e t:=by
 unfold rO;rw[cK,AB,EP (by omega)];rfl
def qL1:(rO l aw e).length=l.length+1:=by simp[rO]
section
variable {l:List Bk} {aw:List Int} {e:Int}
def Nr:mR pP [Dv,Fm] :=⟨YC,yz0,trivial⟩
theorem xa1(h:ed l aw e)(bD:l.length<=1000000):∀ (k i:Nat) (o:List Bk) (j m:Int),i+k=l.length->o.length=l.length->(∀t,t<i->o.getD t aM=F5 (l.getD t aM) (gL l aw e t) (gL l aw e (t+1)))->(∀t,i<=t->o.getD t aM=l.getD t aM)->
  t9 pP (x9 pP 262) (.tuple [LB (jo l (gL l aw e)),J 0]) (x8 pP 262 1) (x7 100 [(0,LB l),(1,LI aw),(2,J e),(10,LI (rO l aw e)),(11,.row 0),(13,LB l),(14,J j),(15,J m),(72,J l.length),(73,J i)]) [some (.rows w9 o)]
 |0,i,o,j,m,hi,ho,h1,h2=>by
  refine o6 (kW Nr) (n:=1000) (hint:=w9) (keep:=x6 100 [0,1,2,10,11,13,14,15,72,73]) (p:=QG) rfl ?_;erw [pl2 l aw e (rO l aw e) o i j m];refine⟨λc=>absurd (bG c) (by omega),λ_=>?_⟩;show SV.tuple [LB o,J 0] =_;rw[q81 (d:=aM) ho λt ht=>h1 t (by omega)];rfl
 |k+1,i,o,j,m,hi,ho,h1,h2=>by
  refine o6 (kW Nr) (n:=1000) (hint:=w9) (keep:=x6 100 [0,1,2,10,11,13,14,15,72,73]) (p:=QG) rfl ?_;erw [pl2 l aw e (rO l aw e) o i j m]
  have t0:(i:Int).toNat=i:=by omega
  have w1:i64.wrap ((i:Int)+1)=((i+1:Nat):Int):=by rw[aG (by omega) (by omega)];omega
  have t1:((i+1:Nat):Int).toNat=i+1:=by omega
  have r1:=R7 h (i:=i) (by omega);refine⟨λ_=>?_,λc=>absurd (cO c) (by omega)⟩;simp only[t0,w1,t1,LH (l:=l) (aw:=aw) (e:=e) (t:=i) (by omega),LH (l:=l) (aw:=aw) (e:=e) (t:=i+1) (by omega),qL1,ak.holds,aH,aV,ez,Ig];refine⟨by omega,λc=>absurd c (by omega),λ_=>⟨by omega,by omega,by omega,by omega,by omega,by omega,o5 _ _,?_⟩⟩;refine xa1 h bD k (i+1) _ j m (by omega) (by simpa using ho) (λt ht=>?_) (λt ht=>?_)
  .rw[vu (by simp;omega)]
   split
   .rename_i yf
    subst yf;rw[vu (by omega),ay rfl,h2 i (by omega)];rfl
   .rename_i yf
    rw[vu (by omega),au yf];exact h1 t (by omega)
  .rw[vu (by simp;omega),au (by omega),vu (by omega),au (by omega)]
   exact h2 t (by omega)
theorem YY(h:ed l aw e)(bD:l.length<=1000000):∀ (k i:Nat),i+k=l.length->
  t9 pP (x9 pP 262) (oO l aw e) (x8 pP 262 0) (x7 100 [(0,LB l),(1,LI aw),(2,J e),(10,.undef),(11,.undef),(13,LB l),(14,J l.length),(15,J i),(72,.undef),(73,.undef)]) []
 |k,i,hi=>by
  have hd:(oO l aw e).data=true:=by unfold oO;(repeat' split)<;>rfl
  refine o6 (kW Nr) (n:=1000) (hint:=w9) (keep:=x6 100 [0,1,2,10,11,13,14,15,72,73]) (p:=xa0) hd ?_;erw [pl1 l aw e i]
  have t0:(i:Int).toNat=i:=by omega
  have tl:(l.length:Int).toNat=l.length:=by omega
  match k,hi with
  |k+1,hi=>
   have w1:i64.wrap ((i:Int)+1)=((i+1:Nat):Int):=by rw[aG (by omega) (by omega)];omega
   have Am:n7 (l.getD i aM)=true:=vE (p:=λb=>n7 b=true) h.snd (by omega)
   have gD:(i:Int)<l.length:=by omega
   have:=YY h bD k (i+1) (by omega);simp only[t0,w1,Am,gD,ak.holds,aH,aV,ez,qt,eY,iG,dV,oQ,jI,ir];exact⟨by omega,o5 _ _,this⟩
  |0,hi=>
   have gD:¬((i:Int)<l.length):=by omega
   have cw:=h.ne;have hl:=h.len;have he:=h.HT;have ok:kP l aw e=true:=rn.2 ⟨bD,h⟩;have g0:=LH (l:=l) (aw:=aw) (e:=e) (t:=0) (by omega);have gn:gL l aw e l.length=0:=LG h.lim;have gnn:=LH (l:=l) (aw:=aw) (e:=e) (t:=l.length) (bA _);have fin:=xa1 h bD l.length 0 l (l.length:Int) (i:Int) (by omega) rfl (λt ht=>absurd ht (tu _)) (λt _=>rfl);have lz:((l.length:Int)==0)=false:=dM.2 (by omega)
   have le:l.isEmpty=false:=by cases l with
    |nil=>simp at cw
    |cons=>rfl
   have lc:((l.length:Int) !=(aw.length:Int))=false:=ot.2 (by omega);unfold oO;simp only[t0,tl,gD,lc,lz,le,ok,g0,gn,gnn,qL1,qs,ak.holds,aH,aV,ez,eY,iG,dV,ir,mG,px,ot,dz,HZ];have hc:fp l 0=(l.getD 0 aM).2.2.2.1:=rfl
   have no:¬¬True:=λc=>c trivial
   refine⟨λ_=>⟨λa=>absurd a (by omega),λ_=>⟨by omega,λa=>?_,λa=>⟨by omega,λb=>?_,λb=>⟨⟨by omega,by omega⟩,λc=>absurd c no,⟨⟨⟨by omega,trivial⟩,by omega⟩,by omega⟩,rfl,o5 _ _,?_⟩⟩⟩⟩,λa=>absurd a (by omega)⟩;.rw[au (by omega)];rfl
   .rw[ay (by omega),au b];rfl
   .rw[ay (by omega),ay b];exact fin
def xS0(h:ed l aw e)(bD:l.length<=1000000):SCall pP 262 [LB l,LI aw,J e] (oO l aw e):=by
 have hd:(oO l aw e).data=true:=by unfold oO;(repeat' split)<;>rfl
 refine s8 rfl hd (by kernel_rfl) (o6 (kW Nr) (n:=1000) (hint:=w9) (keep:=x6 100 [0,1,2,10,11,13,14,15,72,73]) (p:=YZ) (boxes:=[]) hd ?_);have q:=pl0 l aw e;unfold v6 v7 at q;erw [q];exact⟨o5 _ _,YY h bD l.length 0 (by omega)⟩
end
def Sj(l:List Bk)(aw:List Int)(e:Int):ak SV:=.aj (kP l aw e) (.ag (e<=fp l 0) (.ag (gL l aw e 0=e) (lT [LB (jo l (gL l aw e)),J 0]) (lT [LB [],J 8])) (lT [LB [],J 1]))
def xa6(k:kP l aw e=true->SCall pP f [LB l,LI aw,J e] (oO l aw e)):(Sj l aw e).bw (SCall pP f [LB l,LI aw,J e]):=λok=>by
 have k:=k ok;unfold oO at k;refine⟨λa=>⟨λb=>?_,λb=>?_⟩,λa=>?_⟩;.rw[ay (bG a),ay (bG b)]at k;exact k
 .rw[ay (bG a),au (cO b)]at k;exact k
 .rw[au (cO a)]at k;exact k
def tX:aB:=Di 262 Sj
def yH0:tX.ok pP:=KM λl aw e=>xa6 λok=>xS0 (rn.1 ok).2 (rn.1 ok).1
end Go.Proofs.YtnkaepnblikcdaaGreat
