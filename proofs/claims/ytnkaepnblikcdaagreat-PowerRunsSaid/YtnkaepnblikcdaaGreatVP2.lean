/-
  Evaluator, contracts, plain law.
-/
import Derived.Test.YtnkaepnblikcdaaGreatVP1
set_option maxRecDepth 100000
set_option linter.unusedVariables false
set_option linter.defProp false
set_option linter.unusedSimpArgs false
open Go.IntKind (i64 u64 u8)
namespace Go.Sx
noncomputable section
open Go.RowKit
section
variable {P:Program} {E:Env} {α:Type}
def kN(P:Program)(Φ:Value->World->Prop):Result Next->Prop
 |.ok (.value v) w=>Φ v w
 |.ok .skip w=>Φ Go.undef w
 |.ok (.enter f args) w=>Calls P f args w λe w'=>∃v,e=.returned v/\Φ v w'
 |_=>False
theorem kN.mono{Φ Ψ:Value->World->Prop}(h:∀v w,Φ v w->Ψ v w):∀{r:Result Next},kN P Φ r->kN P Ψ r
 |.ok (.value v) w,k=>h v w k
 |.ok .skip w,k=>h _ w k
 |.ok (.enter f args) w,k=>Calls.mono k λe w' ⟨v,he,hv⟩=>⟨v,he,h v w' hv⟩
def jK(P:Program)(m:Mem)(v:SV)(m':Mem)(o:Oper)(ev:Operand->SV):Prop:=
 ∀w0 R0 I w (eb:Operand->Value),aQ w0 R0 I w m->(∀x∈o.op.operands,aJ (RO w0 R0 I w m) I m.next w (ev x) (eb x))->kN P (n9 w0 R0 I w m v m') ((Go.execOp eb o).run P w)
def je(P:Program)(m:Mem)(v:SV)(m':Mem)(f:FuncId)(args:List SV):Prop:=
 ∀w0 R0 I w (vs:List Value),aQ w0 R0 I w m->j8 (RO w0 R0 I w m) I m.next w args vs->kN P (n9 w0 R0 I w m v m') ((Go.callFunc f vs.toArray).run P w)
def jL(P:Program)(Q:Bool)(call:eS α):Prop:=
 ∀f args p m (V:p9 α) (L:α->Prop),(call f args p m V).holds L->∃v p' m',(V v p' m').holds L/\(Q=true->m'=m/\∀m2,je P m2 v m2 f args)/\je P m v m' f args
variable{w:World}
def jU{Φ:Value->World->Prop}{s:Sem Value}{u:Value}{w':World}(h:s.run P w=.ok u w')(hΦ:Φ u w'):kN P Φ ((do pure (Next.value (<-s)):Sem Next).run P w):=by
 simp only[bX,h,bZ,cU];exact hΦ
def Yo(v:Value)(R:Nat->Prop)(I:bu)(n:Nat)(w:World):aJ R I n w (CT v) v:=by
 unfold CT
 split<;>rfl
theorem PF(R:Nat->Prop)(I:bu)(n:Nat)(w:World):∀vs:List Value,j8 R I n w (vs.map CT) vs
 |[] =>rfl
 |v::vs=>⟨v,vs,rfl,Yo v R I n w,PF R I n w vs⟩
def FH(v:Value)(R:Nat->Prop)(I:bu)(n:Nat)(w:World):aJ R I n w (FI v) v:=by
 unfold FI
 split
 .rename_i cs
  exact⟨cs.toList,rfl,PF R I n w _⟩
 .rename_i f a c
  split
  .rename_i ha hc
   refine⟨[],[],?_,rfl,rfl⟩
   have h1:a=#[] :=by apply oy;simpa using ha
   have h2:c=#[] :=by apply oy;simpa using hc
   rw[h1,h2]
  .rfl
 .exact Yo _ R I n w
variable{R:Nat->Prop}{I:bu}{n:Nat}
def jk3:∀{x:SV} {v u:Value},SR x=some v->aJ R I n w x u->u=v
 |.int _ _,_,_,h,hr=>by cases h;exact hr
 |.bool _,_,_,h,hr=>by cases h;exact hr
 |.str _,_,_,h,hr=>by cases h;exact hr
theorem jk5:∀{xs:List SV} {vs us:List Value},MA xs=some vs->j8 R I n w xs us->us=vs
 |[],_,_,h,hr=>by cases h;exact hr
 |x::xs,vs,us,h,hr=>by
  obtain⟨u,iM,rfl,h1,h2⟩:=hr;unfold MA at h
  split at h
  .rename_i v tS e1 e2
   cases h;rw[jk3 e1 h1,jk5 e2 h2]
  .cases h
def jk7{x:SV}{v u:Value}(h:SQ x=some v)(hr:aJ R I n w x u):u=v:=by
 unfold SQ at h
 split at h
 .rename_i cs
  split at h
  .rename_i vs e
   cases h;obtain⟨us,rfl,h2⟩:=hr;rw[jk5 e h2]
  .cases h
 .exact jk3 h hr
def nR{b:Bool}{p:Prop}(h:b=false)(k:b=true):p:=by rw[h]at k;cases k
structure Extra (P:Program) (Q:Bool) (m:Mem) (v:SV) (m':Mem) (o:Oper) (ev:Operand->SV):Prop where
 pure:nq o.op=true->∀m2,jK P m2 v m2 o ev
 shape:oW o.op=true->∀m2,fa m m2->jK P m2 v m2 o ev
 up:Q=true->Ee o.op=true->∀m2,Up m m2->jK P m2 v m2 o ev
 store:mC o.op=true->fa m m'/\fa m' m
 alloc:od o.op=true->m.get m.next=none->Up m m'
variable{Q:Bool}{m:Mem}{v:SV}{o:Oper}{ev:Operand->SV}
def Extra.sS{P:Program}(h1:oW o.op=false)(h2:Ee o.op=false)(h3:mC o.op=false)(h4:od o.op=false)(h:∀m2,jK P m2 v m2 o ev):jK P m v m o ev/\Extra P Q m v m o ev:=
 ⟨h m,λ_=>h,λk=>nR h1 k,λ_ k=>nR h2 k,λk=>nR h3 k,λk=>nR h4 k⟩
def Extra.none{P:Program}{m':Mem}(h0:nq o.op=false)(h1:oW o.op=false)(h2:Ee o.op=false)(h3:mC o.op=false)(h4:od o.op=false):Extra P Q m v m' o ev:=
 ⟨λk=>nR h0 k,λk=>nR h1 k,λ_ k=>nR h2 k,λk=>nR h3 k,λk=>nR h4 k⟩
def Extra.awl{P:Program}(h1:nq o.op=false)(h2:Ee o.op=false)(h3:mC o.op=false)(h4:od o.op=false)(h:∀m2,fa m m2->jK P m2 v m2 o ev):jK P m v m o ev/\Extra P Q m v m o ev:=
 ⟨h m (fa.refl m),λk=>nR h1 k,λ_=>h,λ_ k=>nR h2 k,λk=>nR h3 k,λk=>nR h4 k⟩
def Extra.awk{P:Program}(h1:nq o.op=false)(h2:oW o.op=false)(h3:mC o.op=false)(h4:od o.op=false)(h:∀m2,Up m m2->jK P m2 v m2 o ev):jK P m v m o ev/\Extra P Q m v m o ev:=
 ⟨h m (Up.refl m),λk=>nR h1 k,λk=>nR h2 k,λ_ _=>h,λk=>nR h3 k,λk=>nR h4 k⟩
def xx1{P:Program}{xt t:TypeId}{d:TypeDesc}{z:Value}(hu:P.underlying t=some d)(hi:Lu d=false)(hz:∀w,(zeroValue t).run P w=.ok z w):(Instr.typeAssert .nilIface xt t true).run P w=.ok (.tuple #[z,.bool false]) w:=by
 unfold Instr.typeAssert;rw[bX,ef hu,bZ]
 cases d<;>first|(cases hi;done)|(show Sem.run P (do let z <-zeroValue t;pure (Value.tuple #[z,.bool false])) w=_;rw[bX,hz,bZ,cU])
def xx0{P:Program}{xt t:TypeId}{d:TypeDesc}{v:Value}(hu:P.underlying t=some d)(hi:Lu d=false):(Instr.typeAssert (.iface t v) xt t true).run P w=.ok (.tuple #[v,.bool true]) w:=by
 unfold Instr.typeAssert;rw[bX,ef hu,bZ]
 cases d<;>first|(cases hi;done)|(show Sem.run P (if t=t then pure (Value.tuple #[v,.bool true])else _) w=_;rw[ay rfl,cU])
def A1(hE:dF P E){call:eS α}(ga:jL P Q call){p:ax}{V:p9 α}{L:α->Prop}(h:(execOp E call ev o.op p m V).holds L):
  ∃v p' m',(V v p' m').holds L/\(Q=true->quiet E o.op=true->m'=m)/\(jK P m v m' o ev/\Extra P Q m v m' o ev):=by
 obtain⟨dst,op,ty,pos,after,guard⟩:=o
 cases op<;>dsimp only[execOp]at h<;>try exact h.elim
 case move x=>
  rw[pU]at h;exact⟨_,p,m,h,λ_ _=>rfl,Extra.sS rfl rfl rfl rfl λm2 w0 R0 I w eb hm bJ=>n9.same hm (bJ x (by simp[Op.operands,Call.operands]))⟩
 case assign x=>
  rw[pU]at h;exact⟨_,p,m,h,λ_ _=>rfl,Extra.sS rfl rfl rfl rfl λm2 w0 R0 I w eb hm bJ=>n9.same hm (bJ x (by simp[Op.operands,Call.operands]))⟩
 case pick c a b=>
  split at h
  .rename_i cb hc
   obtain⟨p',h⟩:=qy h;rw[pU]at h;refine⟨_,p',m,h,λ_ _=>rfl,Extra.sS rfl rfl rfl rfl λm2 w0 R0 I w eb hm bJ=>?_⟩;have h1:=bJ c (by simp[Op.operands,Call.operands]);rw[hc]at h1;have h1':eb c=.bool cb:=h1;simp only[Go.execOp,h1',asBool,pure_bind,cU];refine n9.same hm ?_
   cases cb;.exact bJ b (by simp[Op.operands,Call.operands])
   .exact bJ a (by simp[Op.operands,Call.operands])
  .exact h.elim
 case alloc t=>
  split at h
  .rename_i r hr
   split at h
   .rw[Gz]at h
    obtain⟨m',h1,h2⟩:=Mem.nB h;have br:=hE.row _ _ hr;obtain⟨z,nG,rG,_⟩:=Bc br;refine⟨_,p,m',h2,λ_ hq=>(by cases hq),⟨λw0 R0 I w eb hm bJ=>?_,⟨(λk=>by cases k),(λk=>by cases k),(λ_ k=>by cases k),(λk=>by cases k),λ_ hn=>h1.up hn⟩⟩⟩;obtain⟨g1,g2⟩:=hm.alloc (o:=.cells z.cells t) h1 0 0 (λR n' I' e'=>⟨_,BR w _,rG _ _ _ _⟩);refine jU (u:=.pointer (some ⟨w.heap.size,0,none⟩)) (w':=w.alloc (.cells z.cells t)) ?_ ⟨_,g1,g2,by rw[h1.2];omega,by rw[s9]⟩;simp[Instr.alloc,nG,newVar,newRow]
   .rw[Gz]at h
    obtain⟨m',h1,h2⟩:=Mem.nB h;have br:=hE.row _ _ hr;obtain⟨z,nG,rG,_⟩:=Bc br;refine⟨_,p,m',h2,λ_ hq=>(by cases hq),⟨λw0 R0 I w eb hm bJ=>?_,⟨(λk=>by cases k),(λk=>by cases k),(λ_ k=>by cases k),(λk=>by cases k),λ_ hn=>h1.up hn⟩⟩⟩;obtain⟨g1,g2⟩:=hm.alloc (o:=.cells z.cells t) h1 0 0 (λR n' I' e'=>⟨_,t,(0,0),BR w _,Ef _,rG _ _ _ _⟩);refine jU (u:=.pointer (some ⟨w.heap.size,0,none⟩)) (w':=w.alloc (.cells z.cells t)) ?_ ⟨_,g1,g2,by rw[h1.2];omega,by rw[s9]⟩;simp[Instr.alloc,nG,newVar,newRow]
  .exact h.elim
 case box t x=>
  split at h
  .rename_i BK
   rw[Gz]at h;obtain⟨m',h1,h2⟩:=Mem.nB h;refine⟨_,p,m',h2,λ_ hq=>(by cases hq),⟨λw0 R0 I w eb hm bJ=>?_,Extra.none rfl rfl rfl rfl rfl⟩⟩;obtain⟨k1,k2⟩:=(bJ x (by simp[Op.operands,Call.operands])).cells BK;obtain⟨g1,g2⟩:=hm.alloc (o:=.cells (eb x).cells t) h1 0 0 (λR n' I' e'=>⟨_,t,(0,0),BR w _,Ef _,j8.mono e' _ _ k1⟩);refine jU (u:=.pointer (some ⟨w.heap.size,0,none⟩)) (w':=w.alloc (.cells (eb x).cells t)) ?_ ⟨_,g1,g2,by rw[h1.2];omega,by rw[s9]⟩;simp[Instr.box,newVar,newRow]
  .exact h.elim
 case build t parts=>
  obtain⟨v,h1,h2⟩:=yV5 hE h;refine⟨v,p,m,h1,λ_ _=>rfl,Extra.sS rfl rfl rfl rfl λm2 w0 R0 I w eb hm bJ=>?_⟩;obtain⟨u,h3,h4⟩:=h2 m2 w0 R0 I w (parts.toList.map λx=>(x.1,eb x.2)) (PR.map ev eb _ λx hx=>bJ x.2 (by simp only[Op.operands];simpa using ⟨x.1,by simpa using hx⟩));refine jU (u:=u) (w':=w) ?_ (n9.same hm h4);rw[<-h3]
  congr 2
  apply oy;simp
 case buildSlice t n parts=>
  obtain⟨v,m',h1,h2⟩:=yV4 hE h;refine⟨v,p,m',h1,λ_ hq=>(by cases hq),⟨λw0 R0 I w eb hm bJ=>?_,Extra.none rfl rfl rfl rfl rfl⟩⟩;obtain⟨u,w',h3,h4⟩:=h2 w0 R0 I w (parts.toList.map λx=>(x.1,eb x.2)) hm (PR.map ev eb _ λx hx=>bJ x.2 (by simp only[Op.operands];simpa using ⟨x.1,by simpa using hx⟩));refine jU (u:=u) (w':=w') ?_ h4;rw[<-h3]
  congr 2
  apply oy;simp
 case load t a=>
  obtain⟨v,h1,h2⟩:=Ye hE h;refine⟨v,p,m,h1,λ_ _=>rfl,Extra.awk rfl rfl rfl rfl λm2 vQ w0 R0 I w eb hm bJ=>?_⟩;obtain⟨u,h3,h4⟩:=h2 m2 vQ w0 R0 I w _ hm (bJ a (by simp[Op.operands,Call.operands]));exact jU h3 (n9.same hm h4)
 case store t a x=>
  obtain⟨m',h1,jF,h2⟩:=yY7 hE h;refine⟨_,p,m',h1,λ_ hq=>(by cases hq),⟨λw0 R0 I w eb hm bJ=>?_,⟨(λk=>by cases k),(λk=>by cases k),(λ_ k=>by cases k),λ_=>jF,(λk=>by cases k)⟩⟩⟩;obtain⟨w',h3,h4,h5⟩:=h2 w0 R0 I w _ _ hm (bJ a (by simp[Op.operands,Call.operands])) (bJ x (by simp[Op.operands,Call.operands]));simp only[Go.execOp,bX,h3,bZ,cU];exact⟨I,h4,h5,rfl⟩
 case nilCheck x=>
  split at h<;>first
   |exact h.elim
   |(rename_i dD
     refine⟨_,p,m,h,λ_ _=>rfl,Extra.sS rfl rfl rfl rfl λm2 w0 R0 I w eb hm bJ=>?_⟩;have h1:=bJ x (by simp[Op.operands,Call.operands]);rw[dD]at h1
     first
      |(obtain⟨_,h2⟩:=h1
        have h3:=bJ x (by simp[Op.operands,Call.operands]);rw[dD]at h3;simp only[Go.execOp,h2,cU];rw[h2]at h3
        exact n9.same hm h3)
      |(obtain⟨b,o,h2,h4⟩:=h1
        have h3:=bJ x (by simp[Op.operands,Call.operands]);rw[dD]at h3;simp only[Go.execOp,h2,cU];rw[h2]at h3
        exact n9.same hm h3))
 case binOp op t x y ty'=>
  obtain⟨v,h1,h2⟩:=yV1 hE h;refine⟨v,p,m,h1,λ_ _=>rfl,Extra.sS rfl rfl rfl rfl λm2 w0 R0 I w eb hm bJ=>?_⟩;obtain⟨u,h3,h4⟩:=h2 m2 w0 R0 I w _ _ x y (bJ x (by simp[Op.operands,Call.operands])) (bJ y (by simp[Op.operands,Call.operands]));exact jU h3 (n9.same hm h4)
 case unOp op t x=>
  obtain⟨v,h1,h2⟩:=yY9 (P:=P) h;refine⟨v,p,m,h1,λ_ _=>rfl,Extra.sS rfl rfl rfl rfl λm2 w0 R0 I w eb hm bJ=>?_⟩;obtain⟨u,h3,h4⟩:=h2 m2 w0 R0 I w _ (bJ x (by simp[Op.operands,Call.operands]));exact jU h3 (n9.same hm h4)
 case convert s d x=>
  obtain⟨v,m',h1,An,h2⟩:=yW0 hE h;refine⟨v,p,m',h1,λ_ hq=>An λr e hr hd=>?_,⟨λw0 R0 I w eb hm bJ=>?_,Extra.none rfl rfl rfl rfl rfl⟩⟩
  .simp only[quiet,hr]at hq
   obtain⟨de,sz,iI,ze,ty',eg,he⟩:=r;dsimp only at hd;subst hd
   cases hq
  .obtain⟨u,w',h3,h4⟩:=h2 w0 R0 I w _ hm (bJ x (by simp[Op.operands,Call.operands]))
   exact jU h3 h4
 case makeFunc fn first cap=>
  cases fn<;>try exact h.elim
  case func f=>
   refine⟨_,p,m,h,λ_ _=>rfl,Extra.sS rfl rfl rfl rfl λm2 w0 R0 I w eb hm bJ=>?_⟩;refine jU (u:=.func (.func f) (first.map eb) (cap.map eb)) (w':=w) (by rfl) (n9.same hm ⟨first.toList.map eb,cap.toList.map eb,?_,j8.map ev eb _ (λx hx=>bJ x (by simp[Op.operands]at hx ⊢;simp[hx])),j8.map ev eb _ λx hx=>bJ x (by simp[Op.operands]at hx ⊢;simp[hx])⟩)
   congr 1<;>(apply oy;simp)
 case makeSlice t l c=>
  obtain⟨v,m',h1,h2⟩:=yX8 hE h;refine⟨v,p,m',h1,λ_ hq=>(by cases hq),⟨λw0 R0 I w eb hm bJ=>?_,Extra.none rfl rfl rfl rfl rfl⟩⟩;obtain⟨u,w',h3,h4⟩:=h2 w0 R0 I w _ _ hm (bJ l (by simp[Op.operands,Call.operands])) (bJ c (by simp[Op.operands,Call.operands]));exact jU h3 h4
 case slice t x lo hi mx=>
  obtain⟨v,m',h1,An,h2⟩:=yY4 hE h;refine⟨v,p,m',h1,λ_ hq=>An (by cases mx with|none=>rfl|some _=>cases hq),⟨λw0 R0 I w eb hm bJ=>?_,Extra.none rfl rfl rfl rfl rfl⟩⟩
  have ho:∀y:Option Operand,(∀z,y=some z->z∈(Op.slice t x lo hi mx).operands)->wK (RO w0 R0 I w m) I m.next w (y.map ev) (y.map eb):=λy hy=>by
   cases y with
   |none=>trivial
   |some y=>exact bJ y (hy y rfl)
  obtain⟨u,w',h3,h4⟩:=h2 w0 R0 I w _ (lo.map eb) (hi.map eb) (mx.map eb) hm (bJ x (by simp[Op.operands,Call.operands])) (ho lo λz hz=>by simp[Op.operands,hz]) (ho hi λz hz=>by simp[Op.operands,hz]) (ho mx λz hz=>by simp[Op.operands,hz]);exact jU h3 h4
 case fieldAddr s x f=>
  obtain⟨v,h1,h2⟩:=yW7 hE h;refine⟨v,p,m,h1,λ_ _=>rfl,Extra.sS rfl rfl rfl rfl λm2 w0 R0 I w eb hm bJ=>?_⟩;obtain⟨u,h3,h4⟩:=h2 m2 w0 R0 I w _ (bJ x (by simp[Op.operands,Call.operands]));exact jU h3 (n9.same hm h4)
 case field s x f=>
  obtain⟨v,h1,h2⟩:=yW8 hE h;refine⟨v,p,m,h1,λ_ _=>rfl,Extra.sS rfl rfl rfl rfl λm2 w0 R0 I w eb hm bJ=>?_⟩;obtain⟨u,h3,h4⟩:=h2 m2 w0 R0 I w _ (bJ x (by simp[Op.operands,Call.operands]));exact jU h3 (n9.same hm h4)
 case indexAddr t x ix=>
  obtain⟨v,h1,h2⟩:=yX1 hE h;refine⟨v,p,m,h1,λ_ _=>rfl,Extra.awl rfl rfl rfl rfl λm2 jF w0 R0 I w eb hm bJ=>?_⟩;obtain⟨u,h3,h4⟩:=h2 m2 jF w0 R0 I w _ _ hm (bJ x (by simp[Op.operands,Call.operands])) (bJ ix (by simp[Op.operands,Call.operands]));exact jU h3 (n9.same hm h4)
 case index t x ix=>
  obtain⟨v,h1,h2⟩:=yX2 hE h;refine⟨v,p,m,h1,λ_ _=>rfl,Extra.sS rfl rfl rfl rfl λm2 w0 R0 I w eb hm bJ=>?_⟩;obtain⟨u,h3,h4⟩:=h2 m2 w0 R0 I w _ _ (bJ x (by simp[Op.operands,Call.operands])) (bJ ix (by simp[Op.operands,Call.operands]));exact jU h3 (n9.same hm h4)
 case range t x=>
  split at h
  .rename_i sz iI ze ty' eg he hr
   obtain⟨v,m',h1,h2⟩:=yY2 (P:=P) h;refine⟨v,p,m',h1,λ_ hq=>(by cases hq),⟨λw0 R0 I w eb hm bJ=>?_,Extra.none rfl rfl rfl rfl rfl⟩⟩;obtain⟨u,w',h3,h4⟩:=h2 t w0 R0 I w _ (hE.row _ _ hr).gh hm (bJ x (by simp[Op.operands,Call.operands]));exact jU h3 h4
  .exact h.elim
 case next x isString=>
  cases isString with
  |false=>cases h
  |true=>
   obtain⟨v,p',m',h1,h2⟩:=yY0 (P:=P) h;refine⟨v,p',m',h1,λ_ hq=>(by cases hq),⟨λw0 R0 I w eb hm bJ=>?_,Extra.none rfl rfl rfl rfl rfl⟩⟩;obtain⟨u,w',h3,h4⟩:=h2 ty w0 R0 I w _ hm (bJ x (by simp[Op.operands,Call.operands]));exact jU h3 h4
 case extract x i=>
  obtain⟨v,h1,h2⟩:=yW4 (P:=P) h;refine⟨v,p,m,h1,λ_ _=>rfl,Extra.sS rfl rfl rfl rfl λm2 w0 R0 I w eb hm bJ=>?_⟩;obtain⟨u,h3,h4⟩:=h2 m2 w0 R0 I w _ (bJ x (by simp[Op.operands,Call.operands]));exact jU h3 (n9.same hm h4)
 case makeInterface t x=>
  split at h
  .rename_i r hr
   split at h
   .rename_i hi
    split at h
    .rename_i v hv
     refine⟨_,p,m,h,λ_ _=>rfl,λw0 R0 I w eb hm bJ=>?_,Extra.none rfl rfl rfl rfl rfl⟩;have h1:=jk7 hv (bJ x (by simp[Op.operands,Call.operands]));have hu:=(hE.row _ _ hr).gh;refine jU (u:=.iface t v) (w':=w) ?_ ⟨I,hm,Ext.refl _ _ _ _,rfl⟩;simp only[Instr.makeInterface,bX,ef hu,bZ,h1]
     cases hd:r.desc<;>first|rfl|(rw[hd]at hi;cases hi)
    .exact h.elim
   .exact h.elim
  .exact h.elim
 case typeAssert x xt t ok=>
  cases ok with
  |false=>cases h
  |true=>
   dsimp only at h
   split at h
   .rename_i r hr
    have br:=hE.row _ _ hr
    split at h
    .rename_i hi
     split at h
     .rename_i u hx
      split at h
      .split at h
       .rename_i z hzv
        obtain⟨i,g1,g2⟩:=hE.zv t z hzv
        have hz:∀w,(zeroValue t).run P w=.ok z w:=λw=>by simp only[zeroValue,typeInfo,bX,KC,bZ,g1,cU,g2]
        refine⟨_,p,m,h,λ_ _=>rfl,λw0 R0 I w eb hm bJ=>?_,Extra.none rfl rfl rfl rfl rfl⟩
        have h1:eb x=.nilIface:=by have:=bJ x (by simp[Op.operands,Call.operands]);rw[hx]at this;exact this
        refine jU (u:=.tuple #[z,.bool false]) (w':=w) ?_ ⟨I,hm,Ext.refl _ _ _ _,_,rfl,_,_,rfl,FH _ _ _ _ _,_,_,rfl,rfl,rfl⟩;simp only[h1,bX,xx1 br.gh hi hz,bZ,cU]
       .exact h.elim
      .rename_i t' v
       split at h
       .rename_i ht
        have ht:=gQ ht;subst ht;refine⟨_,p,m,h,λ_ _=>rfl,λw0 R0 I w eb hm bJ=>?_,Extra.none rfl rfl rfl rfl rfl⟩
        have h1:eb x=.iface t' v:=by have:=bJ x (by simp[Op.operands,Call.operands]);rw[hx]at this;exact this
        refine jU (u:=.tuple #[v,.bool true]) (w':=w) ?_ ⟨I,hm,Ext.refl _ _ _ _,_,rfl,_,_,rfl,FH _ _ _ _ _,_,_,rfl,rfl,rfl⟩;simp only[h1,bX,xx0 br.gh hi,bZ,cU]
       .exact h.elim
      .exact h.elim
     .exact h.elim
    .exact h.elim
   .exact h.elim
 case call c=>
  unfold FD at h
  split at h
  .rename_i b hb
   obtain⟨v,p',m',h1,An,jF,h2⟩:=yV7 hE h;refine⟨v,p',m',h1,λ_ hq=>An (λiQ=>by obtain⟨ca,aa,ta⟩:=c;dsimp only at hb;subst hb iQ;cases hq) (λiQ=>by obtain⟨ca,aa,ta⟩:=c;dsimp only at hb;subst hb iQ;cases hq),⟨λw0 R0 I w eb hm bJ=>?_,?_⟩⟩
   .have key:∀cs,kN P (n9 w0 R0 I w m v m') ((Go.builtin b c.argTypes ty cs (c.args.map eb)).run P w):=λcs=>by
     obtain⟨u,w',h3,h4⟩:=h2 ty cs w0 R0 I w (c.args.toList.map eb) hm (j8.map ev eb _ λx hx=>bJ x (by simp[Op.operands,Call.operands]at hx ⊢;simp[hx]))
     have e1:c.argTypes.toList.toArray=c.argTypes:=by simp
     have e2:(c.args.toList.map eb).toArray=c.args.map eb:=by apply oy;simp
     rw[e1,e2]at h3;rw[h3];exact h4
    simp only[Go.execOp,resolve,hb,pure_bind,invoke];exact key _
   .obtain⟨ca,aa,ta⟩:=c
    dsimp only at hb;subst hb;refine⟨(λk=>by cases k),λk m2 ay7 w0 R0 I w eb hm bJ=>?_,(λ_ k=>by cases k),(λk=>by cases k),(λk=>by cases k)⟩
    have bD:b=.len:=by cases b<;>first|rfl|(cases k;done)
    have key:∀cs,kN P (n9 w0 R0 I w m2 v m2) ((Go.builtin b ta ty cs (aa.map eb)).run P w):=λcs=>by
     obtain⟨u,w',h3,h4⟩:=jF bD m2 ay7 ty cs w0 R0 I w (aa.toList.map eb) hm (j8.map ev eb _ λx hx=>bJ x (by simp[Op.operands,Call.operands]at hx ⊢;simp[hx]))
     have e1:ta.toList.toArray=ta:=by simp
     have e2:(aa.toList.map eb).toArray=aa.map eb:=by apply oy;simp
     rw[e1,e2]at h3;rw[h3];exact h4
    simp only[Go.execOp,resolve,pure_bind,invoke];exact key _
  .rename_i f hf
   split at h
   .rename_i k first cap hk
    obtain⟨v,p',m',h1,An,h2⟩:=ga _ _ _ _ _ _ h;have key:∀m1 St,je P m1 v St k (first++(c.args.toList.map ev++cap))->jK P m1 v St ⟨dst,.call c,ty,pos,after,guard⟩ ev:=?key;refine⟨v,p',m',h1,λhQ _=>(An hQ).1,key _ _ h2,⟨(λk=>by cases k),λk=>?_,λhQ _ m2 _=>key _ _ ((An hQ).2 m2),(λk=>by cases k),(λk=>by cases k)⟩⟩
    .obtain⟨ca,aa,ta⟩:=c
     dsimp only at hf;subst hf
     cases k
    intro m1 St h2 w0 R0 I w eb hm bJ;have h3:=bJ f (by simp[Op.operands,Call.operands,hf]);rw[hk]at h3;obtain⟨vs,us,h4,h5,h6⟩:=h3;have h7:=h2 w0 R0 I w (vs++(c.args.toList.map eb++us)) hm (h5.append ((j8.map ev eb _ λx hx=>bJ x (by simp[Op.operands,Call.operands]at hx ⊢;simp[hx])).append h6));simp only[Go.execOp,resolve,hf,h4,Deferred.ofValue,pure_bind,invoke]
    have e:(vs++(c.args.toList.map eb++us)).toArray=(⟨vs⟩:Array Value)++c.args.map eb++⟨us⟩:=by apply oy;simp
    rw[e]at h7;exact h7
   .exact h.elim
  .exact h.elim
end
section
variable {P:Program} {E:Env} {α:Type}
def rj(R:Nat->Prop)(I:bu)(n:Nat)(w:World)(fr:Fr)(tmps:Array Value):Prop:=
 fr.size=tmps.size/\∀t,aJ R I n w (fr.get t) (tmps.getD t Go.undef)
variable{R:Nat->Prop}{I:bu}{n:Nat}{w:World}{fr:Fr}
theorem rj.mono{R':Nat->Prop}{I':bu}{n':Nat}{w':World}(e:Ext R I n w R' I' n' w'){tmps:Array Value}(h:rj R I n w fr tmps):rj R' I' n' w' fr tmps:=⟨h.1,λt=>aJ.mono e _ _ (h.2 t)⟩
def gf(fr:Fr)(d:Option Tmp)(v:SV)(aD:Fr):Prop:=
 aD.size=fr.size/\(∀t,d=some t->t<fr.size)/\∀t,aD.get t=if d=some t then v else fr.get t
variable{v:SV}
def Fr.iN{t:Nat}{k:Fr->ak α}{L:α->Prop}(h:(fr.set t v k).holds L):∃aD,gf fr (some t) v aD/\(k aD).holds L:=by
 unfold Fr.set at h
 split at h
 .rename_i cW
  obtain⟨tb,h1,h2⟩:=xP _ _ _ _ _ h;refine⟨⟨fr.size,tb⟩,⟨rfl,λu hu=>?_,λu=>?_⟩,h2⟩;.injection hu with hu;subst hu;exact UN cW
  .unfold Fr.get
   rw[h1 u]
   by_cases hu:u=t
   .subst hu;simp
   .have:¬(some t=some u):=λh=>hu (by injection h with h;exact h.symm)
    rw[au hu,au this]
 .exact h.elim
def vt{d:Option Tmp}{k:Fr->ak α}{L:α->Prop}(h:(nW fr d v k).holds L):∃aD,gf fr d v aD/\(k aD).holds L:=by
 cases d with
 |none=>exact⟨fr,⟨rfl,λt ht=>(by cases ht),λt=>by simp⟩,h⟩
 |some t=>exact Fr.iN h
variable{a:Act}
theorem rj.put{aD:Fr}{d:Option Tmp}{u:Value}(h:rj R I n w fr a.tmps)(hf:gf fr d v aD)(hv:aJ R I n w v u):rj R I n w aD (a.put d u).tmps:=by
 obtain⟨f1,f2,f3⟩:=hf
 cases d with
 |none=>exact⟨f1.trans h.1,λt=>by rw[f3 t];simpa[Act.put]using h.2 t⟩
 |some d=>
  refine⟨by simp[Act.put,f1,h.1],λt=>?_⟩;rw[f3 t]
  have hd:d<a.tmps.size:=by rw[<-h.1];exact f2 d rfl
  by_cases ht:d=t
  .subst ht
   simp[Act.put,uR,hd];exact hv
  .have:¬(some d=some t):=λe=>ht (by injection e)
   rw[au this];have h2:=h.2 t
   simpa[Act.put,NN ht]using h2
theorem rj.eval(h:rj R I n w fr a.tmps)(x:Operand):aJ R I n w (t4 fr x) (a.eval x):=by
 cases x with
 |tmp t=>exact h.2 t
 |const v=>exact FH v _ _ _ _
 |global g=>rfl
 |func f=>exact⟨[],[],rfl,rfl,rfl⟩
def fV(all:List Oper)(get:Nat->SV)(o:Oper):Option Bool:=
 match o.guard with
 |none=>some true
 |some (j,want)=>match(all[j]?).bind (·.dst)with
  |some d=>match get d with
   |.bool b=>some (b==want)
   |.undef=>some false
   |_=>none
  |none=>none
variable{o:Oper}
def G3{all:List Oper}{get:Nat->SV}{tmps:Array Value}{g:Bool}(h:∀j want d,o.guard=some (j,want)->(all[j]?).bind (·.dst)=some d->aJ R I n w (get d) (tmps.getD d Go.undef))(hg:fV all get o=some g):
  Region.wanted o (yielded all.toArray tmps)=g:=by
 unfold fV at hg;unfold Region.wanted
 cases ho:o.guard with
 |none=>rw[ho]at hg;injection hg
 |some jw=>
  obtain⟨j,want⟩:=jw;rw[ho]at hg;dsimp only at hg ⊢
  cases hd:(all[j]?).bind (·.dst)with
  |none=>rw[hd]at hg;cases hg
  |some d=>
   rw[hd]at hg;dsimp only at hg;have hr:=h j want d ho hd
   have e:yielded all.toArray tmps j=match tmps[d]? with|some (.bool b)=>some b|_=>none:=by
    unfold yielded
    have:(all.toArray[j]?).bind (·.dst)=some d:=by simpa using hd
    rw[this];rfl
   rw[e]
   split at hg
   .rename_i b hb
    injection hg with hg;rw[hb]at hr;have pd:tmps.getD d Go.undef=.bool b:=hr
    have:tmps[d]? =some (.bool b):=by
     rw[jx]at pd
     cases ht:tmps[d]? with
     |none=>rw[ht]at pd;simp[Go.undef]at pd
     |some x=>rw[ht]at pd;simpa using pd
    rw[this,<-hg]
    cases b<;>cases want<;>rfl
   .rename_i hb
    injection hg with hg;rw[hb]at hr;have pd:tmps.getD d Go.undef=Go.undef:=hr
    have:(match tmps[d]? with|some (.bool b)=>some b|_=>none)=(none:Option Bool):=by
     rw[jx]at pd
     cases ht:tmps[d]? with
     |none=>rfl
     |some x=>rw[ht]at pd;simp at pd;subst pd;rfl
    rw[this,<-hg];rfl
   .cases hg
variable{Q:Exit->Act->World->Prop}
def Mg{K:Act->World->Prop}{Φ:Value->World->Prop}(h:∀u w',Φ u w'->K (a.put o.dst u) w'):∀{r:Result Next},kN P Φ r->o.upon P a K Q r
 |.ok (.value v) w,k=>h v w k
 |.ok .skip w,k=>h _ w k
 |.ok (.enter f args) w,k=>Calls.mono k λe w' ⟨v,he,hv⟩=>by subst he;exact h v w' hv
def gE(P:Program)(all:List Oper)(o:Oper)(fr:Fr)(m:Mem)(v:SV)(m':Mem):Prop:=
 (fV all fr.get o=some true/\jK P m v m' o (t4 fr))\/(fV all fr.get o=some false/\v=.undef/\m'=m)
inductive Ik (P:Program) (all:List Oper):List Oper->Fr->Mem->Fr->Mem->Prop where
 |nil (fr:Fr) (m:Mem):Ik P all [] fr m fr m
 |cons {o:Oper} {rest:List Oper} {fr aW aD:Fr} {m m1 m':Mem} {v:SV} (h:gE P all o fr m v m1) (hf:gf fr o.dst v aW) (k:Ik P all rest aW m1 aD m'):Ik P all (o::rest) fr m aD m'
structure EL (P:Program) (E:Env) (Q:Bool) (all:List Oper) (o:Oper) (fr:Fr) (m:Mem) (v:SV) (m':Mem):Prop where
 quiet:Q=true->quiet E o.op=true->m'=m
 more:fV all fr.get o=some true->Extra P Q m v m' o (t4 fr)
 store:mC o.op=true->fa m m'/\fa m' m
 alloc:od o.op=true->m.get m.next=none->Up m m'
def FF(hE:dF P E){Q:Bool}{call:eS α}(ga:jL P Q call){ug:Op->Bool}{all:List Oper}{ih:gR α}{p:ax}{m:Mem}{L:α->Prop}(h:(mh E ug call all o ih p fr m).holds L):
  ∃p' v aW m1,(ih p' aW m1).holds L/\gE P all o fr m v m1/\gf fr o.dst v aW/\EL P E Q all o fr m v m1:=by
 have run:∀ (p:ax) (cH:Fr),(∀t,cH.get t=fr.get t)->cH.size=fr.size->fV all fr.get o=some true->((match ug o.op with
   |true=>execOp E call (t4 cH) o.op p m λv p m=>nW cH o.dst v λfr=>ih p fr m
   |false=>.aA 133:ak α)).holds L->∃p' v aW m1,(ih p' aW m1).holds L/\gE P all o fr m v m1/\gf fr o.dst v aW/\EL P E Q all o fr m v m1:=by
  intro p cH hg hs ph h
  split at h
  .rename_i hlo
   obtain⟨v,p',m1,h1,h2,h3⟩:=A1 hE ga h;obtain⟨aW,h4,h5⟩:=vt h1
   have he:t4 cH=t4 fr:=funext λx=>by cases x<;>simp[t4,hg]
   rw[he]at h3;exact⟨p',v,aW,m1,h5,.inl ⟨ph,h3.1⟩,⟨h4.1.trans hs,λt ht=>by rw[<-hs];exact h4.2.1 t ht,λt=>by rw[h4.2.2 t,hg t]⟩,⟨h2,λ_=>h3.2,h3.2.store,h3.2.alloc⟩⟩
  .exact h.elim
 have skip:∀ (p:ax) (cH:Fr),(∀t,cH.get t=fr.get t)->cH.size=fr.size->fV all fr.get o=some false->(nW cH o.dst .undef λfr=>ih p fr m).holds L->∃p' v aW m1,(ih p' aW m1).holds L/\gE P all o fr m v m1/\gf fr o.dst v aW/\EL P E Q all o fr m v m1:=by
  intro p cH hg hs ph h;obtain⟨aW,h4,h5⟩:=vt h;exact⟨p,.undef,aW,m,h5,.inr ⟨ph,rfl,rfl⟩,⟨h4.1.trans hs,λt ht=>by rw[<-hs];exact h4.2.1 t ht,λt=>by rw[h4.2.2 t,hg t]⟩,⟨λ_ _=>rfl,λh=>(by rw[ph]at h;cases h),λ_=>⟨fa.refl m,fa.refl m⟩,λ_ _=>Up.refl m⟩⟩
 unfold mh at h
 cases hg:o.guard with
 |none=>
  rw[hg]at h;exact run p fr (λ_=>rfl) rfl (by simp[fV,hg]) h
 |some jw=>
  rw[hg]at h;dsimp only at h;rw[tH]at h
  split at h
  .rename_i oj BM
   split at h
   .rename_i d hd
    have hb:(all[jw.1]?).bind (·.dst)=some d:=by rw[BM];exact hd
    split at h
    .rename_i b cn
     obtain⟨p',h⟩:=qy h;obtain⟨cH,h1,h2⟩:=Fr.iN h
     have yg:∀t,cH.get t=fr.get t:=λt=>by
      rw[h1.2.2 t]
      by_cases ht:some d=some t
      .cases ht;rw[ay rfl,cn]
      .rw[au ht]
     split at h2
     .rename_i uD
      exact run p' cH yg h1.1 (by simp only[fV,hg,hb,cn];rw[uD]) h2
     .rename_i uD
      exact skip p' cH yg h1.1 (by simp only[fV,hg,hb,cn];rw[uD]) h2
    .rename_i cn
     exact skip p fr (λ_=>rfl) rfl (by simp only[fV,hg,hb,cn]) h
    .exact h.elim
   .exact h.elim
  .exact h.elim
def dG(ds:List Deferred)(w0:World)(R0:eo)(I:bu)(w:World)(fr:Fr)(m:Mem)(a:Act):Prop:=
 aQ w0 R0 I w m/\rj (RO w0 R0 I w m) I m.next w fr a.tmps/\a.defers=ds
abbrev zd5(w0:World)(R0:eo)(I:bu)(w:World)(fr:Fr)(m:Mem)(a:Act):Prop:=dG [] w0 R0 I w fr m a
def zu(a:Act)(d:Option Tmp)(v:Value):(a.put d v).defers=a.defers:=by cases d<;>rfl
variable{ds:List Deferred}{w0:World}{R0:eo}
def jh1{aW:Fr}{m m1:Mem}{all:List Oper}(hs:dG ds w0 R0 I w fr m a)(h:gE P all o fr m v m1)(hf:gf fr o.dst v aW){K:Act->World->Prop}
  (hK:∀I' w' a',dG ds w0 R0 I' w' aW m1 a'->m8 w0 R0 I w m I' w' m1->K a' w'):if Region.wanted o (yielded all.toArray a.tmps)then o.wp P a w K Q\/(o.asks P a w/\LetsOut Q)else K (a.put o.dst Go.undef) w:=by
 obtain⟨hm,cn,hd⟩:=hs;rcases h with⟨hg,nH⟩|⟨hg,rfl,rfl⟩
 .rw[G3 (λj want d _ _=>cn.2 d) hg]
  refine .inl (Mg (λu w' hu=>?_) (nH w0 R0 I w a.eval hm (λx _=>cn.eval x)));obtain⟨I',g1,g2,g3⟩:=hu;exact hK I' w' _ ⟨g1,(cn.mono g2).put hf g3,by rw[zu];exact hd⟩ g2
 .rw[G3 (λj want d _ _=>cn.2 d) hg]
  exact hK I w _ ⟨hm,cn.put hf rfl,by rw[zu];exact hd⟩ (Ext.refl _ _ _ _)
def WG{all:List Oper}:∀{ops:List Oper} {fr aD:Fr} {m m':Mem},Ik P all ops fr m aD m'->∀ (i:Nat),all.drop i=ops->∀ (I:bu) (w:World) (a:Act),dG ds w0 R0 I w fr m a->
  (∀I' w' a',dG ds w0 R0 I' w' aD m' a'->m8 w0 R0 I w m I' w' m'->Q .normal a' w')->wpOps P all.toArray Q (List.range' i ops.length) a w:=by
 intro ops fr aD m m' h
 induction h with
 |nil fr m=>intro i hi I w a hs hQ;exact hQ I w a hs (Ext.refl _ _ _ _)
 |@cons o rest fr aW aD m m1 m' v cR hf k ih=>
  intro i hi I w a hs hQ
  have bT:all[i]? =some o:=by
   have:(all.drop i)[0]? =some o:=by rw[hi];rfl
   simpa using this
  have TB:all.drop (i+1)=rest:=by
   have:(all.drop i).drop 1=rest:=by rw[hi];rfl
   rw[List.drop_drop]at this;exact this
  rw[tv,ND];unfold wpOps
  have Hs:all.toArray[i]? =some o:=by simpa using bT
  rw[Hs]
  exact jh1 hs cR hf λI' w' a' bj he=>ih (i+1) TB I' w' a' bj λρ2 w2 a2 iP TY=>hQ ρ2 w2 a2 iP (he.trans TY)
def IE(P:Program)(Φ:Value->World->Prop):Result Next->Prop
 |.halt (.panic u) w=>Φ u w
 |.ok (.enter f args) w=>Calls P f args w λe w'=>∃u,e=.panicked [{v:=u,recovered:=false}] /\Φ u w'
 |_=>False
def E4(P:Program)(m:Mem)(v:SV)(m':Mem)(o:Oper)(ev:Operand->SV):Prop:=
 ∀w0 R0 I w (eb:Operand->Value),aQ w0 R0 I w m->(∀x∈o.op.operands,aJ (RO w0 R0 I w m) I m.next w (ev x) (eb x))->IE P (n9 w0 R0 I w m v m') ((Go.execOp eb o).run P w)
def zc6(P:Program)(m:Mem)(v:SV)(m':Mem)(f:FuncId)(args:List SV):Prop:=
 ∀w0 R0 I w (vs:List Value),aQ w0 R0 I w m->j8 (RO w0 R0 I w m) I m.next w args vs->IE P (n9 w0 R0 I w m v m') ((Go.callFunc f vs.toArray).run P w)
def AP(P:Program)(f:FuncId)(args:List SV)(m:Mem):Ex->Prop
 |.ok v m'=>je P m v m' f args
 |.cE v m'=>zc6 P m v m' f args
inductive Ij (P:Program) (all:List Oper):List Oper->Fr->Mem->SV->Fr->Mem->Prop where
 |here {o:Oper} {rest:List Oper} {fr:Fr} {m m':Mem} {v:SV} (hg:o.guard=none) (h:E4 P m v m' o (t4 fr)):Ij P all (o::rest) fr m v fr m'
 |next {o:Oper} {rest:List Oper} {fr aW aD:Fr} {m m1 m':Mem} {v u:SV} (h:gE P all o fr m u m1) (hf:gf fr o.dst u aW) (k:Ij P all rest aW m1 v aD m'):Ij P all (o::rest) fr m v aD m'
def WI{all:List Oper}:∀{ops:List Oper} {fr aD:Fr} {m m':Mem} {v:SV},Ij P all ops fr m v aD m'->∀ (i:Nat),all.drop i=ops->∀ (I:bu) (w:World) (a:Act),dG ds w0 R0 I w fr m a->
  (∀I' w' a' u,dG ds w0 R0 I' w' aD m' a'->m8 w0 R0 I w m I' w' m'->aJ (RO w0 R0 I' w' m') I' m'.next w' v u->Q (.panic [{v:=u,recovered:=false}]) a' w')->wpOps P all.toArray Q (List.range' i ops.length) a w:=by
 intro ops fr aD m m' v h
 induction h with
 |@here o rest fr m m' v hg nH=>
  intro i hi I w a hs hQ
  have bT:all[i]? =some o:=by
   have:(all.drop i)[0]? =some o:=by rw[hi];rfl
   simpa using this
  rw[tv,ND];unfold wpOps
  have Hs:all.toArray[i]? =some o:=by simpa using bT
  rw[Hs];obtain⟨hm,cn,hd⟩:=hs;have hw:Region.wanted o (yielded all.toArray a.tmps)=true:=G3 (get:=fr.get) (λj want d _ _=>cn.2 d) (by simp[fV,hg]);dsimp only;rw[hw];refine .inl ?_
  have h1:=nH w0 R0 I w a.eval hm λx _=>cn.eval x
  unfold Oper.wp;generalize (Go.execOp a.eval o).run P w=r at h1
  have out:∀u w',n9 w0 R0 I w m v m' u w'->Q (.panic [{v:=u,recovered:=false}]) a w':=λu w' ⟨I',g1,g2,g3⟩=>hQ I' w' a u ⟨g1,cn.mono g2,hd⟩ g2 g3
  match r,h1 with
  |.halt (.panic u) w',h1=>exact out u w' h1
  |.ok (.enter f args) w',h1=>
   rw[Oper.upon_enter]
   exact Calls.mono h1 λe C6 ⟨u,he,hu⟩=>by subst he;exact out u C6 hu
 |@next o rest fr aW aD m m1 m' v u cR hf k ih=>
  intro i hi I w a hs hQ
  have bT:all[i]? =some o:=by
   have:(all.drop i)[0]? =some o:=by rw[hi];rfl
   simpa using this
  have TB:all.drop (i+1)=rest:=by
   have:(all.drop i).drop 1=rest:=by rw[hi];rfl
   rw[List.drop_drop]at this;exact this
  rw[tv,ND];unfold wpOps
  have Hs:all.toArray[i]? =some o:=by simpa using bT
  rw[Hs]
  exact jh1 hs cR hf λI' w' a' bj he=>ih (i+1) TB I' w' a' bj λρ2 w2 a2 u2 iP TY BI=>hQ ρ2 w2 a2 u2 iP (he.trans TY) BI
end
def It{a b:Nat}(h:Nat.beq a b=false):a≠b:=λe=>by subst e;simp at h
mutual
theorem aJ.wg{R:Nat->Prop}{I:bu}{n:Nat}{w:World}{k:Nat}:∀ (x:SV) (v:Value),aJ R I n w x v->gH k x=true->k<n
 |.undef,_,_,h=>by cases h
 |.di,_,_,h=>by cases h
 |.int _ _,_,_,h=>by cases h
 |.bool _,_,_,h=>by cases h
 |.str _,_,_,h=>by cases h
 |.cm,_,_,h=>by cases h
 |.list _ _,_,_,h=>by cases h
 |.row id,_,hr,h=>by rw[<-gQ (show Nat.beq id k=true from h)];exact hr.1
 |.arr id _ _,_,hr,h=>by rw[<-gQ (show Nat.beq id k=true from h)];exact hr.1
 |.ptr id _,_,hr,h=>by rw[<-gQ (show Nat.beq id k=true from h)];exact hr.1
 |.pY,_,_,h=>by cases h
 |.jt _ _ _ _,_,_,h=>by cases h
 |.iy id _ _ _,_,hr,h=>by rw[<-gQ (show Nat.beq id k=true from h)];exact hr.1
 |.agg cs,_,hr,h=>by
  obtain⟨vs,_,h2⟩:=hr;exact j8.wg cs vs h2 h
 |.tuple cs,_,hr,h=>by
  obtain⟨vs,_,h2⟩:=hr;exact j8.wg cs vs h2 h
 |.fn f a b,_,hr,h=>by
  obtain⟨vs,us,_,h2,h3⟩:=hr;have h:(iT k a||iT k b)=true:=h;rcases ia _ _▸h with h|h
  .exact j8.wg a vs h2 h
  .exact j8.wg b us h3 h
 |.dO _,_,_,h=>by cases h
theorem j8.wg{R:Nat->Prop}{I:bu}{n:Nat}{w:World}{k:Nat}:∀ (xs:List SV) (vs:List Value),j8 R I n w xs vs->iT k xs=true->k<n
 |[],_,_,h=>by cases h
 |x::xs,_,hr,h=>by
  obtain⟨u,us,_,h2,h3⟩:=hr;have h:(gH k x||iT k xs)=true:=h;rcases ia _ _▸h with h|h
  .exact aJ.wg x u h2 h
  .exact j8.wg xs us h3 h
end
mutual
theorem aJ.cL{R:Nat->Prop}{I:bu}{n:Nat}{w:World}{k:Nat}{r:Nat×Nat×Nat}:∀ (x:SV) (v:Value),gH k x=false->aJ R I n w x v->aJ R (Go.Sx.cL I k r) n w x v
 |.undef,_,_,h=>h
 |.di,_,_,_=>trivial
 |.int _ _,_,_,h=>h
 |.bool _,_,_,h=>h
 |.str _,_,_,h=>h
 |.cm,_,_,h=>h
 |.list _ _,_,_,h=>h
 |.row id,_,hm,h=>by
  have cw:=It (show Nat.beq id k=false from hm);exact⟨h.1,by rw[r8 _ _ cw];exact h.2⟩
 |.arr id _ _,_,hm,h=>by
  have cw:=It (show Nat.beq id k=false from hm);exact⟨h.1,by rw[r8 _ _ cw];exact h.2⟩
 |.ptr id _,_,hm,h=>by
  have cw:=It (show Nat.beq id k=false from hm);exact⟨h.1,by rw[r8 _ _ cw];exact h.2⟩
 |.pY,_,_,h=>h
 |.jt _ _ _ _,_,_,h=>h
 |.iy id _ _ _,_,hm,h=>by
  have cw:=It (show Nat.beq id k=false from hm);exact⟨h.1,by rw[r8 _ _ cw];exact h.2⟩
 |.agg cs,_,hm,h=>by
  obtain⟨vs,h1,h2⟩:=h;exact⟨vs,h1,j8.cL cs vs hm h2⟩
 |.tuple cs,_,hm,h=>by
  obtain⟨vs,h1,h2⟩:=h;exact⟨vs,h1,j8.cL cs vs hm h2⟩
 |.fn f a b,_,hm,h=>by
  obtain⟨vs,us,h1,h2,h3⟩:=h;have hm:(iT k a||iT k b)=false:=hm;rw[aiv]at hm;exact⟨vs,us,h1,j8.cL a vs hm.1 h2,j8.cL b us hm.2 h3⟩
 |.dO _,_,_,h=>h
theorem j8.cL{R:Nat->Prop}{I:bu}{n:Nat}{w:World}{k:Nat}{r:Nat×Nat×Nat}:∀ (xs:List SV) (vs:List Value),iT k xs=false->j8 R I n w xs vs->j8 R (Go.Sx.cL I k r) n w xs vs
 |[],_,_,h=>h
 |x::xs,_,hm,h=>by
  obtain⟨u,us,h1,h2,h3⟩:=h;have hm:(gH k x||iT k xs)=false:=hm;rw[aiv]at hm;exact⟨u,us,h1,aJ.cL x u hm.1 h2,j8.cL xs us hm.2 h3⟩
end
variable{I:bu}{w:World}
theorem fN.cL{R:Nat->Prop}{n:Nat}{k:Nat}{r r':Nat×Nat×Nat}:∀ (B:aR),vm k (some B)=false->fN R I n w r B->fN R (Go.Sx.cL I k r') n w r B
 |.cells cs,hm,h=>by
  obtain⟨arr,e,fr,h1,h2,h3⟩:=h;exact⟨arr,e,fr,h1,h2,j8.cL cs _ hm h3⟩
 |.rows _ _,_,h=>h
 |.iter _ _,_,h=>h
 |.obj t cs,hm,h=>by
  obtain⟨arr,h1,h3⟩:=h;exact⟨arr,h1,j8.cL cs _ hm h3⟩
variable{w0:World}{R0:eo}{m m':Mem}
def aQ.aBq(hm:aQ w0 R0 I w m){k:Nat}(hk:k<m.next)(hn:m.get k=none)(hB:∀id B,m.get id=some B->vm k (some B)=false){cs:List SV}{arr:Array Value}{e:TypeId}
  (hg:∀id,m'.get id=if id=k then some (.cells cs)else m.get id) (hnx:m'.next=m.next) (hc:∀R I n w,j8 R I n w cs arr.toList):
  aQ w0 R0 (cL I k (w.heap.size,0,0)) (w.alloc (.cells arr e)) m'/\(∀b,RO w0 R0 I w m b->RO w0 R0 (cL I k (w.heap.size,0,0)) (w.alloc (.cells arr e)) m' b/\(w.alloc (.cells arr e)).heap[b]? =w.heap[b]?)/\
   ∀x v,gH k x=false->aJ (RO w0 R0 I w m) I m.next w x v->aJ (RO w0 R0 (cL I k (w.heap.size,0,0)) (w.alloc (.cells arr e)) m') (cL I k (w.heap.size,0,0)) m'.next (w.alloc (.cells arr e)) x v:=by
 have mK:=hm.size_le
 have bS:(w.alloc (.cells arr e)).heap.size=w.heap.size+1:=by simp
 have hold:∀b,b<w.heap.size->(w.alloc (.cells arr e)).heap[b]? =w.heap[b]? :=λb hb=>Below.heap_alloc w _ b hb
 have hG:∀id C,m'.get id=some C->(id=k/\C=.cells cs)\/(id≠k/\m.get id=some C):=λid C aI=>by
  rw[hg id]at aI
  by_cases h:id=k
  .rw[ay h]at aI;injection aI with aI;exact .inl ⟨h,aI.symm⟩
  .rw[au h]at aI;exact .inr ⟨h,aI⟩
 have dZ:∀b,RO w0 R0 I w m b->RO w0 R0 (cL I k (w.heap.size,0,0)) (w.alloc (.cells arr e)) m' b:=λb hb=>by
  have cW:=hm.mB hb;rcases hb with hb|⟨h1,h2,h3,h4⟩
  .exact .inl hb
  .refine .inr ⟨h1,by omega,λid C aI bC=>?_,h4⟩
   rcases hG id C aI with⟨rfl,rfl⟩|⟨cw,hx⟩
   .rw[s9];omega
   .rw[r8 _ _ cw]at bC ⊢;exact h3 id C hx bC
 have e1:Ext (RO w0 R0 I w m) (cL I k (w.heap.size,0,0)) m.next w (RO w0 R0 (cL I k (w.heap.size,0,0)) (w.alloc (.cells arr e)) m') (cL I k (w.heap.size,0,0)) m'.next (w.alloc (.cells arr e)):=
  ⟨by omega,λ_ _=>rfl,λb hb=>⟨dZ b hb,hold b (hm.mB hb)⟩⟩
 refine⟨⟨hm.below.trans ⟨rfl,rfl,rfl,by omega,λb hb=>hold b (by omega)⟩,λid C aI=>?_,λid C aI bC=>?_,λid C aI bC=>?_,λid bY C C' aI uy fZ iP he=>?_,λid C aI=>?_,λb hb=>⟨by have:=(hm.aI.1 b hb).1;omega,(hold b (hm.aI.1 b hb).1).trans (hm.aI.1 b hb).2⟩,λid C aI bC=>?_⟩,λb hb=>⟨dZ b hb,hold b (hm.mB hb)⟩,λx v hx hr=>aJ.mono e1 x v (aJ.cL x v hx hr)⟩
 .rw[hnx]
  rcases hG id C aI with⟨rfl,_⟩|⟨_,hx⟩
  .exact hk
  .exact hm.lt id C hx
 .rcases hG id C aI with⟨rfl,rfl⟩|⟨cw,hx⟩
  .rw[s9];exact mK
  .rw[r8 _ _ cw]at bC ⊢;exact hm.lo id C hx bC
 .rcases hG id C aI with⟨rfl,rfl⟩|⟨cw,hx⟩
  .rw[s9];show w.heap.size<_;omega
  .rw[r8 _ _ cw]at bC ⊢;have:=hm.hi id C hx bC;omega
 .rcases hG id C aI with⟨rfl,rfl⟩|⟨cw,hx⟩<;>rcases hG bY C' uy with⟨rfl,rfl⟩|⟨Hu,hx'⟩
  .rfl
  .rw[s9]at he;rw[r8 _ _ Hu]at iP he
   have:=hm.hi bY C' hx' iP;have he:w.heap.size=(I bY).1:=he;omega
  .rw[s9]at he;rw[r8 _ _ cw]at fZ he
   have:=hm.hi id C hx fZ;have he:(I id).1=w.heap.size:=he;omega
  .rw[r8 _ _ cw]at fZ he;rw[r8 _ _ Hu]at iP he
   exact hm.inj id bY C C' hx hx' fZ iP he
 .rcases hG id C aI with⟨rfl,rfl⟩|⟨cw,hx⟩
  .rw[s9]
   exact⟨arr,e,(0,0),BR w _,Ef _,hc _ _ _ _⟩
  .rw[r8 _ _ cw]
   exact fN.mono e1 C (λbC=>hold _ (hm.hi id C hx bC)) (fN.cL C (hB id C hx) (hm.box id C hx))
 .rcases hG id C aI with⟨rfl,rfl⟩|⟨cw,hx⟩
  .rw[s9];exact λhr=>by have:=(hm.aI.1 _ hr).1;exact gZ _ this
  .rw[r8 _ _ cw]at bC ⊢;exact hm.aI.2 id C hx bC
def Of(P:Program)(o:Oper)(n0:Nat)(v:SV)(cz:Nat->SV)(m m':Mem):Prop:=
 ∃t k r,o.op=.alloc t/\o.guard=none/\rV P t r/\v=.ptr k 0/\n0<=k/\k<m.next/\m.get k=none/\(∀id,m'.get id=if id=k then some (.cells r.zero)else m.get id)/\m'.next=m.next/\(∀t,gH k (cz t)=false)/\∀id B,m.get id=some B->vm k (some B)=false
section
variable {P:Program} {E:Env} {α:Type}
inductive AF (P:Program) (E:Env) (all:List Oper):List Oper->Fr->Mem->Fr->Mem->Prop where
 |nil (fr:Fr) (m:Mem):AF P E all [] fr m fr m
 |cons {o:Oper} {rest:List Oper} {fr aW aD:Fr} {m m1 m':Mem} {v:SV} (h:gE P all o fr m v m1) (hx:EL P E true all o fr m v m1) (hf:gf fr o.dst v aW) (k:AF P E all rest aW m1 aD m'):AF P E all (o::rest) fr m aD m'
theorem z24(hE:dF P E){call:eS α}(ga:jL P true call){ug:Op->Bool}{all:List Oper}{k:gR α}{L:α->Prop}:∀ (ops:List Oper) (p:ax) (fr:Fr) (m:Mem),(OW E ug call all ops k p fr m).holds L->
  ∃p' aD m',(k p' aD m').holds L/\AF P E all ops fr m aD m'
 |[],p,fr,m,h=>⟨p,fr,m,h,.nil fr m⟩
 |o::rest,p,fr,m,h=>by
  change (mh E ug call all o (OW E ug call all rest k) p fr m).holds L at h
  obtain⟨p1,v,aW,m1,h1,h2,h3,h4⟩:=FF hE ga h;obtain⟨p',aD,m',h5,h6⟩:=z24 hE ga rest p1 aW m1 h1;exact⟨p',aD,m',h5,.cons h2 h4 h3 h6⟩
structure UD (P:Program) (E:Env) (all:List Oper) (m m':Mem) (fr aD:Fr) (aS:Nat->Fr) (aO:Nat->SV) (ms:Nat->Mem):Prop where
 first:aS 0=fr
 last:aS all.length=aD
 mfirst:ms 0=m
 D6:ms all.length=m'
 step:∀i o,all[i]? =some o->gE P all o (aS i) (ms i) (aO i) (ms (i+1))
 more:∀i o,all[i]? =some o->EL P E true all o (aS i) (ms i) (aO i) (ms (i+1))
 next:∀i o,all[i]? =some o->gf (aS i) o.dst (aO i) (aS (i+1))
def AF.index{all:List Oper}:∀{ops:List Oper} {fr aD:Fr} {m m':Mem},AF P E all ops fr m aD m'->∃ (aS:Nat->Fr) (aO:Nat->SV) (ms:Nat->Mem),aS 0=fr/\aS ops.length=aD/\ms 0=m/\ms ops.length=m'/\
  (∀i o,ops[i]? =some o->gE P all o (aS i) (ms i) (aO i) (ms (i+1)))/\(∀i o,ops[i]? =some o->EL P E true all o (aS i) (ms i) (aO i) (ms (i+1)))/\(∀i o,ops[i]? =some o->gf (aS i) o.dst (aO i) (aS (i+1))):=by
 intro ops fr aD m m' h
 induction h with
 |nil fr m=>exact⟨λ_=>fr,λ_=>.undef,λ_=>m,rfl,rfl,rfl,rfl,λi o h=>by simp at h,λi o h=>by simp at h,λi o h=>by simp at h⟩
 |@cons o rest fr aW aD m m1 m' v cR hx hf k ih=>
  obtain⟨aS,aO,ms,h1,h2,Au,HI,h3,Tl,h4⟩:=ih;refine⟨λi=>Nat.casesOn i fr aS,λi=>Nat.casesOn i v aO,λi=>Nat.casesOn i m ms,rfl,h2,rfl,HI,λi o' hi=>?_,λi o' hi=>?_,λi o' hi=>?_⟩
  .cases i with
   |zero=>simp at hi;subst hi;dsimp only;rw[Au];exact cR
   |succ i=>exact h3 i o' (by simpa using hi)
  .cases i with
   |zero=>simp at hi;subst hi;dsimp only;rw[Au];exact hx
   |succ i=>exact Tl i o' (by simpa using hi)
  .cases i with
   |zero=>simp at hi;subst hi;dsimp only;rw[h1];exact hf
   |succ i=>exact h4 i o' (by simpa using hi)
variable{m m':Mem}{fr aD:Fr}
def AF.toWalk{all:List Oper}(h:AF P E all all fr m aD m'):∃aS aO ms,UD P E all m m' fr aD aS aO ms:=
 let ⟨aS,aO,ms,h1,h2,h3,h4,h5,h6,h7⟩:=h.index
 ⟨aS,aO,ms,h1,h2,h3,h4,h5,h6,h7⟩
structure UF (all:List Oper) (fr aD:Fr) (aS:Nat->Fr) (aO:Nat->SV):Prop where
 first:aS 0=fr
 last:aS all.length=aD
 next:∀i o,all[i]? =some o->gf (aS i) o.dst (aO i) (aS (i+1))
def cz(all:List Oper)(fr:Fr)(aO:Nat->SV)(S:Nat->Bool):Nat->Nat->SV
 |0,t=>fr.get t
 |n+1,t=>if S n=true/\(all[n]?).bind (·.dst)=some t then aO n else cz all fr aO S n t
variable{aS:Nat->Fr}
theorem Ox{all:List Oper}{aO:Nat->SV}(hw:UF all fr aD aS aO):∀ (i:Nat),i<=all.length->∀t,(aS i).get t=cz all fr aO (λ_=>true) i t
 |0,_,t=>by rw[hw.first];rfl
 |i+1,hi,t=>by
  have cW:i<all.length:=hi;have ho:all[i]? =some all[i] :=cc cW;rw[(hw.next i _ ho).2.2 t,Ox hw i (by omega) t];simp only[cz,ho,UG,dV]
theorem AW{all:List Oper}{fr:Fr}{aO:Nat->SV}{S S':Nat->Bool}{t:Nat}:∀ (i:Nat),(∀j,j<i->(all[j]?).bind (·.dst)=some t->S j=S' j)->cz all fr aO S i t=cz all fr aO S' i t
 |0,_=>rfl
 |i+1,h=>by
  have ih:=AW (fr:=fr) (aO:=aO) i (λj hj=>h j (by omega));simp only[cz,ih]
  by_cases hd:(all[i]?).bind (·.dst)=some t
  .rw[h i (by omega) hd]
  .simp[hd]
theorem Fc{all:List Oper}{fr:Fr}{aO:Nat->SV}{S:Nat->Bool}{t i:Nat}:∀ (n:Nat),i<=n->(∀j,i<=j->j<n->(all[j]?).bind (·.dst)=some t->S j=false)->cz all fr aO S n t=cz all fr aO S i t
 |0,hi,_=>by rw[show i=0 by omega]
 |n+1,hi,h=>by
  by_cases he:i=n+1
  .rw[he]
  .have ih:=Fc (fr:=fr) (aO:=aO) n (by omega) (λj h1 h2=>h j h1 (by omega))
   simp only[cz]
   by_cases hd:(all[n]?).bind (·.dst)=some t
   .rw[h n (by omega) (by omega) hd];simpa using ih
   .simp[hd];exact ih
structure UY (all:List Oper):Prop where
 pair:∀i j oi oj,i<j->all[i]? =some oi->all[j]? =some oj->(∃e∈oj.after,Region.binds .any e=true/\e.on=i)\/oi.apart all.toArray oj=true
 back:∀j oj,all[j]? =some oj->∀e∈oj.after,Region.binds .any e=true->e.on<j
def qV8{all:List Oper}(h:Region.lexB .any all.toArray=true):UY all:=by
 simp only[Region.lexB,aH]at h
 have key:∀ (f k:Nat) (aZ:Array Bool),k+f=all.length->(∀i,i<all.length->aZ.getD i true=decide (i<k))->aZ.size=all.length->Region.lexFrom .any all.toArray f k aZ=true->
   ∀i,k<=i->i<all.length->(∀oi,all[i]? =some oi->∀e∈oi.after,Region.binds .any e=true->e.on<i)/\∀j oi oj,i<j->all[i]? =some oi->all[j]? =some oj->(∃e∈oj.after,Region.binds .any e=true/\e.on=i)\/oi.apart all.toArray oj=true:=by
  intro f
  induction f with
  |zero=>intro k aZ hk hl bS h i h1 h2;omega
  |succ f ih=>
   intro k aZ hk hl bS h i h1 h2;simp only[Region.lexFrom,aH]at h;obtain⟨⟨hr,hf⟩,hB⟩:=h
   by_cases hik:i=k
   .subst hik
    have pd:i∈Region.ready .any all.toArray aZ:=by simpa using hr
    obtain⟨_,o,ho,rL⟩:=mem_ready.1 pd
    have bT:all[i]? =some o:=by simpa using ho
    constructor
    .intro oi hi e he hb
     rw[bT]at hi;cases hi;have:=rL e he hb
     have cW:e.on<all.length:=by
      rcases jv e.on all.length with h|h
      .exact h
      .rw[jx,aiC (by omega)]at this;simp at this
     have h3:=hl e.on cW
     have h4:aZ.getD e.on true=true:=by
      rw[jx]at this ⊢;rw[qX (by omega)]at this ⊢
      simpa using this
     rw[h4]at h3
     simpa using h3.symm
    .intro j oi oj lh hi hj
     rw[bT]at hi;cases hi;have gu:j<all.length:=(iZ.1 hj).1
     by_cases hw:∃e∈oj.after,Region.binds .any e=true/\e.on=i
     .exact .inl hw
     .refine .inr (Region.free_spec ho hf j oj (by simpa using hj) (by omega) ?_ (λe he hb dD=>hw ⟨e,he,hb,dD⟩))
      rw[hl j gu];simp;omega
   .refine ih (k+1) _ (by omega) (λj hj=>?_) (by simpa using bS) hB i (by omega) h2
    have h3:=hl j hj
    by_cases Hx:k=j
    .subst Hx
     rw[jx,uR];simp[bS,hj]
    .rw[getD_set_ne true Hx,h3]
     congr 1
     rw[eq_iff_iff];omega
 have hk:=key all.length 0 (Array.replicate all.length false) (by omega) (λi hi=>by simp[hi]) (by simp) (by simpa using h.2);refine⟨λi j oi oj lh hi hj=>?_,λj oj hj=>?_⟩;.exact(hk i (rW _) (iZ.1 hi).1).2 j oi oj lh hi hj
 .exact(hk j (rW _) (iZ.1 hj).1).1 oj hj
def nD(aZ:Array Bool):Nat->Nat
 |0=>0
 |n+1=>nD aZ n+if aZ.getD n true=true then 0 else 1
theorem SA{aZ:Array Bool}{i:Nat}:∀ (n:Nat),i<n->aZ.getD i true=false->i<aZ.size->nD (aZ.setIfInBounds i true) n+1=nD aZ n
 |0,h,_,_=>by omega
 |n+1,h,hf,hs=>by
  by_cases nI:i=n
  .subst nI
   have h1:(aZ.setIfInBounds i true).getD i true=true:=by simp[jx,uR,hs]
   have h2:∀k,k<=i->nD (aZ.setIfInBounds i true) k=nD aZ k:=by
    intro k
    induction k with
    |zero=>intro _;rfl
    |succ k ih=>
     intro hk;simp only[nD,ih (by omega)];rw[getD_set_ne true (by omega)]
   simp only[nD,h1,hf,h2 i (bA _)];simp
  .have ih:=SA n (by omega) hf hs
   simp only[nD];rw[getD_set_ne true nI];omega
theorem Sz{aZ:Array Bool}:∀ (n:Nat),nD aZ n=0->∀i,i<n->aZ.getD i true=true
 |0,_,i,hi=>by omega
 |n+1,h,i,hi=>by
  simp only[nD]at h
  by_cases nI:i=n
  .subst nI
   by_cases hc:aZ.getD i true=true
   .exact hc
   .rw[au hc]at h;omega
  .exact Sz n (by omega) i (by omega)
def q89{ops:Array Oper}{o:Oper}{t:Tmp}(h: .tmp t∈o.op.operands):t∈o.looksAt ops:=
 ail _ (List.mem_filterMap.2 ⟨.tmp t,by simpa using h,rfl⟩)
def q88{ops:Array Oper}{o:Oper}{g:Nat}{want:Bool}{t:Tmp}(h:o.guard=some (g,want))(hd:(ops[g]?).bind (·.dst)=some t):t∈o.looksAt ops:=
 aBJ _ (by rw[h];dsimp only;rw[hd];simp)
def zo5{ds:List Deferred}{w0:World}{R0:eo}{all:List Oper}{aO:Nat->SV}(n0:Nat)(hw:UF all fr aD aS aO)(hi:UY all){M:(Nat->Bool)->Mem}(Ni:∀S S',(∀k,k<all.length->S k=S' k)->M S=M S')
  (Tt:∀ (S:Nat->Bool) i o,all[i]? =some o->S i=false->(∀j oj,all[j]? =some oj->S j=true->∀e∈oj.after,Region.binds .any e=true->S e.on=true)->(∀e∈o.after,Region.binds .any e=true->S e.on=true)->gE P all o (aS i) (M S) (aO i) (M λk=>if k=i then true else S k)\/Of P o n0 (aO i) (cz all fr aO S all.length) (M S) (M λk=>if k=i then true else S k))
  (M5:Region.noSelect all.toArray=true) {Q:Exit->Act->World->Prop} {Ψ:bu->World->Mem->Prop}
  (hΨa:∀I w m k r w' m',n0<=k->Ψ I w m->m'.next=m.next->(∀b,RO w0 R0 I w m b->RO w0 R0 (cL I k r) w' m' b/\w'.heap[b]? =w.heap[b]?)->Ψ (cL I k r) w' m')
  (hΨ:∀I w m I' w' m',Ψ I w m->m8 w0 R0 I w m I' w' m'->Ψ I' w' m') (hQ:∀I w a,dG ds w0 R0 I w aD (M λ_=>true) a->Ψ I w (M λ_=>true)->Q .normal a w):∀ (rP:Nat) (aZ:Array Bool) (I:bu) (w:World) (a:Act),aZ.size=all.length->nD aZ all.length=rP->
  (∀j oj,all[j]? =some oj->aZ.getD j true=true->∀e∈oj.after,Region.binds .any e=true->aZ.getD e.on false=true)->
  aQ w0 R0 I w (M λk=>aZ.getD k true)->fr.size=a.tmps.size->a.defers=ds->(∀t,aJ (RO w0 R0 I w (M λk=>aZ.getD k true)) I (M λk=>aZ.getD k true).next w (cz all fr aO (λi=>aZ.getD i true) all.length t) (a.tmps.getD t Go.undef))->Ψ I w (M λk=>aZ.getD k true)->
  wpAny P .any all.toArray Q rP aZ a w:=by
 have Tw:∀i,i<=all.length->(aS i).size=fr.size:=by
  intro i
  induction i with
  |zero=>intro _;rw[hw.first]
  |succ i ih=>intro h;rw[(hw.next i _ (cc (by omega))).1];exact ih (by omega)
 have done:∀ (aZ:Array Bool) (I:bu) (w:World) (a:Act),aZ.size=all.length->aQ w0 R0 I w (M λk=>aZ.getD k true)->fr.size=a.tmps.size->a.defers=ds->(∀t,aJ (RO w0 R0 I w (M λk=>aZ.getD k true)) I (M λk=>aZ.getD k true).next w (cz all fr aO (λi=>aZ.getD i true) all.length t) (a.tmps.getD t Go.undef))->Ψ I w (M λk=>aZ.getD k true)->(∀i,i<all.length->aZ.getD i true=true)->Q .normal a w:=by
  intro aZ I w a bS hm hs hd fQ qj rL
  have eM:M (λk=>aZ.getD k true)=M λ_=>true:=Ni _ _ λk hk=>rL k hk
  rw[eM]at hm fQ qj;refine hQ I w a ⟨hm,⟨by rw[<-hw.last,Tw _ (bA _)];exact hs,λt=>?_⟩,hd⟩ qj
  have e:aD.get t=cz all fr aO (λi=>aZ.getD i true) all.length t:=by
   rw[<-hw.last,Ox hw _ (bA _)]
   exact AW _ λj hj _=>(rL j hj).symm
  rw[e];exact fQ t
 -- where none is ready all are aZ
 have Sr:∀ (aZ:Array Bool),aZ.size=all.length->Region.ready .any all.toArray aZ=[] ->∀i,i<all.length->aZ.getD i true=true:=by
  intro aZ bS hr i
  induction i using Nat.strongRecOn with
  |_ i ih=>
   intro jX;rcases pE (aZ.getD i true)with h|h
   .exact h
   .have:i∈Region.ready .any all.toArray aZ:=by
     rw[mem_ready];refine⟨h,all[i],by simp[jX],λe he hb=>?_⟩;have cW:=hi.back i _ (cc jX) e he hb;have h1:=ih e.on cW (by omega);rw[jx,qX (by omega)]at h1 ⊢
     simpa using h1
    rw[hr]at this
    cases this
 intro rP
 induction rP with
 |zero=>
  intro aZ I w a bS G8 eT hm hs hd fQ qj;have rL:=Sz _ G8;refine⟨?_,done aZ I w a bS hm hs hd fQ qj rL⟩;apply List.eq_nil_iff_forall_not_mem.2;intro i Hy;obtain⟨h1,o,ho,_⟩:=mem_ready.1 Hy
  have jX:i<all.length:=by
   have:all[i]? =some o:=by simpa using ho
   exact(iZ.1 this).1
  rw[rL i jX]at h1;cases h1
 |succ rP ih=>
  intro aZ I w a bS G8 eT hm hs hd fQ qj;refine⟨λhr=>done aZ I w a bS hm hs hd fQ qj (Sr aZ bS hr),λi Hy=>?_⟩;obtain⟨hl,o,ho,BS⟩:=mem_ready.1 Hy
  have bT:all[i]? =some o:=by simpa using ho
  have jX:i<all.length:=(iZ.1 bT).1
  -- abS writes a slot C9 i looks at, ahead of i, is aZ; abS writes it behind i is not
  have before:∀j oj,all[j]? =some oj->j<i->oj.apart all.toArray o=false->aZ.getD j true=true:=by
   intro j oj hj iE BT;rcases hi.pair j i oj o iE hj bT with⟨e,he,hb,dD⟩|h
   .have:=BS e he hb
    rw[dD,jx]at this
    have gu:j<aZ.size:=by rw[bS];exact(iZ.1 hj).1
    rw[qX gu]at this;rw[jx,qX gu]
    simpa using this
   .rw[BT]at h;cases h
  have behind:∀j oj,all[j]? =some oj->i<j->o.apart all.toArray oj=false->aZ.getD j true=false:=by
   intro j oj hj lh BT;rcases hi.pair i j o oj lh bT hj with⟨e,he,hb,dD⟩|h
   .rcases pE (aZ.getD j true)with hc|hc
    .have:=eT j oj hj hc e he hb
     rw[dD,jx]at this;rw[jx]at hl;rw[qX (by omega)]at this hl;simp at this hl;rw[this]at hl;cases hl
    .exact hc
   .rw[BT]at h;cases h
  -- abT i looks at
  have looks:∀t,t∈o.looksAt all.toArray->cz all fr aO (λk=>aZ.getD k true) all.length t=(aS i).get t:=by
   intro t ht;rw[Ox hw i (by omega),Fc (i:=i) all.length (by omega) (λj h1 h2 ig=>?_)]
   .refine AW i λj hj ig=>?_
    have gu:j<all.length:=by omega
    refine before j _ (cc gu) hj ?_
    have qk:all[j].dst=some t:=by simpa[cc gu]using ig
    simp[Oper.apart,qk,ht]
   .by_cases iE:j=i
    .subst iE;exact hl
    .have gu:j<all.length:=h2
     refine behind j _ (cc gu) (by omega) ?_
     have qk:all[j].dst=some t:=by simpa[cc gu]using ig
     simp[Oper.apart,qk,ht]
  -- behind i
  have ux:∀k,k<all.length->(aZ.setIfInBounds i true).getD k true=if k=i then true else aZ.getD k true:=by
   intro k hk
   by_cases dB:k=i
   .subst dB;simp[jx,uR,bS,jX]
   .rw[getD_set_ne true (Ne.symm dB),au dB]
  have Nc:∀t,cz all fr aO (λk=>(aZ.setIfInBounds i true).getD k true) all.length t=if o.dst=some t then aO i else cz all fr aO (λk=>aZ.getD k true) all.length t:=by
   intro t
   by_cases ht:o.dst=some t
   .rw[ay ht,Fc (i:=i+1) all.length jX (λj h1 h2 ig=>?_)]
    .simp only[cz,bT,UG]
     rw[ay ⟨by rw[ux i jX];simp,ht⟩]
    .rw[ux j h2,au (by omega)]
     refine behind j _ (cc h2) (by omega) ?_
     have qk:all[j].dst=some t:=by simpa[cc h2]using ig
     simp[Oper.apart,qk,ht]
   .rw[au ht]
    refine AW _ λj hj ig=>?_
    rw[ux j hj]
    by_cases iE:j=i
    .subst iE
     rw[bT]at ig;exact absurd (by simpa using ig) ht
    .rw[au iE]
  have Et:nD (aZ.setIfInBounds i true) all.length=rP:=by
   have:=SA all.length jX hl (by omega);omega
  have Ey:∀j oj,all[j]? =some oj->(aZ.setIfInBounds i true).getD j true=true->∀e∈oj.after,Region.binds .any e=true->(aZ.setIfInBounds i true).getD e.on false=true:=by
   intro j oj hj yd e he hb;have gu:j<all.length:=(iZ.1 hj).1;rw[ux j gu]at yd
   by_cases iE:j=i
   .subst iE
    rw[bT]at hj;cases hj;exact getD_set_true (BS e he hb)
   .rw[au iE]at yd
    exact getD_set_true (eT j oj hj yd e he hb)
  have uB:=hw.next i o bT
  -- the memory ahead of i and behind i
  have eM:M (λk=>(aZ.setIfInBounds i true).getD k true)=M λk=>if k=i then true else aZ.getD k true:=Ni _ _ λk hk=>ux k hk
  have up:∀k,aZ.getD k false=true->aZ.getD k true=true:=λk hk=>by
   rw[jx]at hk ⊢
   cases hx:aZ[k]? with
   |none=>rfl
   |some b=>rw[hx]at hk;simpa using hk
  have cR:=Tt (λk=>aZ.getD k true) i o bT hl (λj oj hj yd e he hb=>up _ (eT j oj hj yd e he hb)) (λe he hb=>up _ (BS e he hb));rw[<-eM]at cR;generalize M6:M (λk=>aZ.getD k true)=m at cR hm fQ qj;generalize kZ:M (λk=>(aZ.setIfInBounds i true).getD k true)=m' at cR
  have GI:∀ (I':bu) (w':World) (u:Value),m8 w0 R0 I w m I' w' m'->aJ (RO w0 R0 I' w' m') I' m'.next w' (aO i) u->∀t,aJ (RO w0 R0 I' w' m') I' m'.next w' (cz all fr aO (λk=>(aZ.setIfInBounds i true).getD k true) all.length t) ((a.put o.dst u).tmps.getD t Go.undef):=by
   intro I' w' u he hu t;rw[Nc t]
   have h1:∀d,o.dst=some d->d<a.tmps.size:=λd ig=>by rw[<-hs,<-Tw i (by omega)];exact uB.2.1 d ig
   cases HC:o.dst with
   |none=>simpa[Act.put]using aJ.mono he _ _ (fQ t)
   |some d=>
    have cW:=h1 d HC
    by_cases ht:d=t
    .subst ht
     simp[Act.put,uR,cW];exact hu
    .have:¬(some d=some t):=λe=>ht (by injection e)
     rw[au this];have h2:=aJ.mono he _ _ (fQ t)
     simpa[Act.put,NN ht]using h2
  have D3:∀u,fr.size=(a.put o.dst u).tmps.size:=λu=>by rw[hs];cases o.dst<;>simp[Act.put]
  -- the awf itself
  unfold wpOp;rw[ho];dsimp only
  have Tk:∀g,fV all (aS i).get o=some g->Region.wanted o (yielded all.toArray a.tmps)=g:=λg hg=>
   G3 (R:=RO w0 R0 I w m) (I:=I) (n:=m.next) (w:=w) (λj want d rJ td=>by rw[<-looks d (q88 rJ (by simpa using td))];exact fQ d) hg
  rcases cR with(⟨hg,nH⟩|⟨hg,hv,hmm⟩)|⟨t,k,r,fR,rJ,cF,hvk,TQ,M8,ye,TP,TO,hk5,hk6⟩
  .rw[Tk _ hg,ay rfl]
   -- its operands agree with the text's frame
   have az0:∀x∈o.op.operands,aJ (RO w0 R0 I w m) I m.next w (t4 (aS i) x) (a.eval x):=by
    intro x hx
    cases x with
    |tmp t=>
     show aJ _ _ _ _ ((aS i).get t) _;rw[<-looks t (q89 hx)];exact fQ t
    |const v=>exact FH v _ _ _ _
    |global g=>exact rfl
    |func f=>exact⟨[],[],rfl,rfl,rfl⟩
   refine .inl ?_;unfold Oper.wp;refine Mg (λu w' hu=>?_) (nH w0 R0 I w a.eval hm az0);obtain⟨I',g1,g2,g3⟩:=hu;exact ih _ I' w' _ (by simpa using bS) Et Ey (by rw[kZ];exact g1) (D3 u) (by rw[zu];exact hd) (by rw[kZ];exact GI I' w' u g2 g3) (by rw[kZ];exact hΨ _ _ _ _ _ _ qj g2)
  .rw[Tk _ hg]
   subst hmm;simp only[eY,iD];exact ih _ I w _ (by simpa using bS) Et Ey (by rw[kZ];exact hm) (D3 _) (by rw[zu];exact hd) (by rw[kZ];exact GI I w Go.undef (Ext.refl _ _ _ _) (by rw[hv];rfl)) (by rw[kZ];exact qj)
  . -- a new variable
    rw[Tk true (by unfold fV;rw[rJ]),ay rfl];obtain⟨z,nG,rG,_⟩:=Bc cF;obtain⟨b1,b2,b3⟩:=hm.aBq M8 ye hk6 (arr:=z.cells) (e:=t) TP TO rG;refine .inl ?_;unfold Oper.wp
    have azh:kN P (λu w'=>u=.pointer (some ⟨w.heap.size,0,none⟩)/\w'=w.alloc (.cells z.cells t)) ((Go.execOp a.eval o).run P w):=by
     obtain⟨dst,op,ty,pos,after,guard⟩:=o;dsimp only at fR;subst fR;exact jU (u:=.pointer (some ⟨w.heap.size,0,none⟩)) (w':=w.alloc (.cells z.cells t)) (by simp[Instr.alloc,nG,newVar,newRow]) ⟨rfl,rfl⟩
    refine Mg (λu w' hu=>?_) azh;obtain⟨rfl,rfl⟩:=hu;refine ih _ (cL I k (w.heap.size,0,0)) _ _ (by simpa using bS) Et Ey (by rw[kZ];exact b1) (D3 _) (by rw[zu];exact hd) (λt'=>?_) (by rw[kZ];exact hΨa _ _ _ _ _ _ _ TQ qj TO b2);rw[kZ,Nc t']
    have h1:∀d,o.dst=some d->d<a.tmps.size:=λd ig=>by rw[<-hs,<-Tw i (by omega)];exact uB.2.1 d ig
    have old:=λt'=>b3 _ _ (hk5 t') (fQ t')
    cases HC:o.dst with
    |none=>simpa[Act.put]using old t'
    |some d=>
     have cW:=h1 d HC
     by_cases ht:d=t'
     .subst ht
      simp[Act.put,uR,cW];rw[hvk];exact⟨by rw[TO];exact M8,by rw[s9]⟩
     .have:¬(some d=some t'):=λe=>ht (by injection e)
      rw[au this]
      simpa[Act.put,NN ht]using old t'
variable{o:Op}
def xd9(h:nq o=true):quiet E o=true:=by cases o<;>first|rfl|(cases h;done)
def ja6(h:oW o=true):quiet E o=true:=by
 cases o<;>first
  |rfl
  |(cases h;done)
  |(rename_i c;obtain⟨ca,aa,ta⟩:=c;cases ca<;>first|(cases h;done)|(rename_i b;cases b<;>first|rfl|(cases h;done)))
def xe0(h:nq o=true):ey o=false:=by cases o<;>first|rfl|(cases h;done)
def ja7(h:oW o=true):ey o=false:=by cases o<;>first|rfl|(cases h;done)
def MG(h:mC o=true):ey o=true:=by simp[ey,h]
structure UC (E:Env) (all:List Oper) (al:Bool) (a:Nat):Prop where
 pre:∀ (i:Nat) (o:Oper),i<a->all[i]? =some o->ey o.op=false/\Ep E al o.op=true
 head:∀ (o:Oper),all[a]? =some o->ey o.op=true/\od o.op=al
 post:∀ (i:Nat) (o:Oper),a<i->all[i]? =some o->Ae al o.op=true
 afk:∀ (j:Nat) (oj:Oper),all[j]? =some oj->mC oj.op=true->∀ (i:Nat) (oi:Oper),i<j->all[i]? =some oi->nq oi.op=true\/oW oi.op=true\/pI all 3 oj i=true
variable{al:Bool}
theorem jG1:∀ (l:List Oper),MV E al l=true->∃a,(∀ (i:Nat) (o:Oper),i<a->l[i]? =some o->ey o.op=false/\Ep E al o.op=true)/\(∀ (o:Oper),l[a]? =some o->ey o.op=true/\od o.op=al)/\∀ (i:Nat) (o:Oper),a<i->l[i]? =some o->Ae al o.op=true
 |[],_=>⟨0,λi o h=>absurd h (tu _),λo h=>(by cases h),λi o _ h=>(by cases h)⟩
 |o::os,h=>by
  change (match ey o.op with|true=>(od o.op==al)&&os.all λo=>Ae al o.op|false=>Ep E al o.op&&MV E al os)=true at h
  split at h
  .rename_i hw
   simp only[aH,cI,nM]at h;refine⟨0,λi o h=>absurd h (tu _),λo' h'=>?_,λi o' hi h'=>?_⟩;.simp at h';subst h';exact⟨hw,h.1⟩
   .cases i with
    |zero=>cases hi
    |succ i=>exact h.2 o' (If (by simpa using h'))
  .rename_i hw
   simp only[aH]at h;obtain⟨a,h1,h2,h3⟩:=jG1 os h.2;refine⟨a+1,λi o' hi h'=>?_,λo' h'=>h2 o' (by simpa using h'),λi o' hi h'=>?_⟩
   .cases i with
    |zero=>simp at h';subst h';exact⟨hw,h.1⟩
    |succ i=>exact h1 i o' (by omega) (by simpa using h')
   .cases i with
    |zero=>omega
    |succ i=>exact h3 i o' (by omega) (by simpa using h')
def jF9{all:List Oper}(h:Ta E all=true):∃al a,UC E all al a:=by
 simp only[Ta,aH,ia]at h
 have hp:∀ (j:Nat) (oj:Oper),all[j]? =some oj->mC oj.op=true->∀ (i:Nat) (oi:Oper),i<j->all[i]? =some oi->nq oi.op=true\/oW oi.op=true\/pI all 3 oj i=true:=by
  intro j oj hj hs i oi lh hi;have h2:=h.2;simp only[jG2,nM]at h2;have h3:=h2 (oj,j) (Ic.2 hj);simp only[hs,qt,yG,nM]at h3;have h4:=h3 (oi,i) (Ic.2 hi)
  have hb:Nat.blt i j=true:=by rw[UP];exact lh
  simp only[hb,qt,yG,ia]at h4;rcases h4 with h4|h4|h4
  .exact .inl h4
  .exact .inr (.inl h4)
  .exact .inr (.inr h4)
 rcases h.1 with h1|h1<;>obtain⟨a,g1,g2,g3⟩:=jG1 all h1
 .exact⟨false,a,g1,g2,g3,hp⟩
 .exact⟨true,a,g1,g2,g3,hp⟩
def lB(all:List Oper)(ms:Nat->Mem)(S:Nat->Bool):Nat->Mem
 |0=>ms 0
 |n+1=>if S n=true/\(all[n]?).any (λo=>ey o.op)=true then ms (n+1)else lB all ms S n
theorem Oy{all:List Oper}{ms:Nat->Mem}{S S':Nat->Bool}:∀ (n:Nat),(∀k,k<n->(all[k]?).any (λo=>ey o.op)=true->S k=S' k)->lB all ms S n=lB all ms S' n
 |0,_=>rfl
 |n+1,h=>by
  have ih:=Oy (ms:=ms) n (λk hk=>h k (by omega));simp only[lB,ih]
  by_cases hw:(all[n]?).any (λo=>ey o.op)=true
  .rw[h n (by omega) hw]
  .simp[hw]
theorem IX{all:List Oper}{ms:Nat->Mem}{S:Nat->Bool}{i:Nat}:∀ (n:Nat),i<=n->(∀k,i<=k->k<n->(all[k]?).any (λo=>ey o.op)=true->S k=false)->lB all ms S n=lB all ms S i
 |0,h,_=>by rw[show i=0 by omega]
 |n+1,h,hk=>by
  by_cases he:i=n+1
  .rw[he]
  .have ih:=IX (ms:=ms) n (by omega) (λk h1 h2=>hk k h1 (by omega))
   simp only[lB]
   by_cases hw:(all[n]?).any (λo=>ey o.op)=true
   .rw[hk n (by omega) (by omega) hw];simpa using ih
   .simp[hw];exact ih
theorem Wu{all:List Oper}{ms:Nat->Mem}{S:Nat->Bool}:∀ (n:Nat),n<=all.length->∃k,k<=n/\lB all ms S n=ms k/\(k=0\/∃j o,k=j+1/\S j=true/\all[j]? =some o/\ey o.op=true)
 |0,_=>⟨0,bA _,rfl,.inl rfl⟩
 |n+1,h=>by
  simp only[lB]
  split
  .rename_i hc
   refine⟨n+1,bA _,rfl,.inr ⟨n,all[n],rfl,hc.1,cc h,?_⟩⟩;have:=hc.2;rw[cc h]at this
   simpa using this
  .obtain⟨k,h1,h2,h3⟩:=Wu (all:=all) (ms:=ms) (S:=S) n (by omega)
   exact⟨k,by omega,h2,h3⟩
theorem IY{all:List Oper}{ms:Nat->Mem}(hk:∀ (i:Nat) (o:Oper),all[i]? =some o->ey o.op=false->ms (i+1)=ms i){S:Nat->Bool}:∀ (n:Nat),n<=all.length->(∀k,k<n->(all[k]?).any (λo=>ey o.op)=true->S k=true)->lB all ms S n=ms n
 |0,_,_=>rfl
 |n+1,h,hS=>by
  simp only[lB];have ho:all[n]? =some all[n] :=cc h
  by_cases hw:ey all[n].op=true
  .rw[ay ⟨hS n (by omega) (by rw[ho];simpa using hw),by rw[ho];simpa using hw⟩]
  .rw[au (λhc=>hw (by have:=hc.2;rw[ho]at this;simpa using this)),IY (all:=all) hk n (by omega) (λk hk=>hS k (by omega)),hk n _ ho (by simpa using hw)]
theorem wS{all:List Oper}{S:Nat->Bool}(eT:∀ (j:Nat) (oj:Oper),all[j]? =some oj->S j=true->∀e∈oj.after,Region.binds .any e=true->S e.on=true):
  ∀ (n:Nat) (o:Oper) (i:Nat),(∀e∈o.after,Region.binds .any e=true->S e.on=true)->pI all n o i=true->S i=true
 |0,o,i,ho,h=>by
  simp only[pI,Cd,aH]at h;obtain⟨e,he,hb,hon⟩:=h;have:=ho e (by simpa using he) hb;rw[gQ hon]at this;exact this
 |n+1,o,i,ho,h=>by
  unfold pI at h;rcases ia _ _▸h with h|h
  .exact wS eT n o i ho h
  .simp only[Cd,aH]at h
   obtain⟨e,he,hb,hx⟩:=h
   split at hx
   .rename_i o' ho'
    rw[tH]at ho';have hS:=ho e (by simpa using he) hb;exact wS eT n o' i (λe' HB iQ=>eT e.on o' ho' hS e' HB iQ) hx
   .cases hx
def jG5{all:List Oper}{aO:Nat->SV}{ms:Nat->Mem}(hw:UD P E all m m' fr aD aS aO ms){a:Nat}(jE:UC E all al a)(k:Nat)(o:Oper)(ho:all[k]? =some o)(fW:ey o.op=false):ms (k+1)=ms k:=by
 refine(hw.more k o ho).quiet rfl ?_;rcases NC k a with h|h|h
 .have:=(jE.pre k o h ho).2
  simp only[Ep,aH]at this;exact this.1
 .subst h;rw[(jE.head o ho).1]at fW;cases fW
 .have:=jE.post k o h ho
  simp only[Ae,ia,aH]at this;rcases this with h1|h1|h1
  .exact xd9 h1
  .rw[MG h1]at fW;cases fW
  .exact ja6 h1.1
def jG6{all:List Oper}{aO:Nat->SV}{ms:Nat->Mem}(hw:UD P E all m m' fr aD aS aO ms){a:Nat}(jE:UC E all al a)(ahz:m.get m.next=none)
  (S:Nat->Bool) (i:Nat) (o:Oper) (bT:all[i]? =some o) (jY:S i=false) (eT:∀ (j:Nat) (oj:Oper),all[j]? =some oj->S j=true->∀e∈oj.after,Region.binds .any e=true->S e.on=true) (Hl:∀e∈o.after,Region.binds .any e=true->S e.on=true):
  gE P all o (aS i) (lB all ms S all.length) (aO i) (lB all ms (λk=>if k=i then true else S k) all.length):=by
 have jX:i<all.length:=(iZ.1 bT).1
 have pg:∀ (k:Nat) (o:Oper),all[k]? =some o->ey o.op=false->ms (k+1)=ms k:=λk o ho fW=>jG5 hw jE k o ho fW
 have BN:∀{k:Nat} {o:Oper},all[k]? =some o->((all[k]?).any (λo=>ey o.op)=true↔ey o.op=true):=λ{k o} ho=>by rw[ho];simp
 -- the memory ahead of the first ey is the first one
 have Ap:∀k,k<=a->k<=all.length->ms k=m:=by
  intro k
  induction k with
  |zero=>intro _ _;exact hw.mfirst
  |succ k ih=>
   intro h1 h2;have ho:all[k]? =some all[k] :=cc h2;rw[pg k _ ho (jE.pre k _ (by omega) ho).1];exact ih (by omega) (by omega)
 -- a ey behind the first is a store
 have Hh:∀ (k:Nat) (o:Oper),a<k->all[k]? =some o->ey o.op=true->mC o.op=true:=by
  intro k o h ho fW;have:=jE.post k o h ho;simp only[Ae,ia,aH]at this;rcases this with h1|h1|h1
  .rw[xe0 h1]at fW;cases fW
  .exact h1
  .rw[ja7 h1.1]at fW;cases fW
 have Sq:∀{o:Oper},ey o.op=true->¬(nq o.op=true\/oW o.op=true):=λ{o} fW h=>by
  rcases h with h|h
  .rw[xe0 h]at fW;cases fW
  .rw[ja7 h]at fW;cases fW
 -- whatever is no auq of nothing waits ahead of a store C9 is aZ
 have aha:∀ (j:Nat) (oj:Oper) (k:Nat) (ok:Oper),all[j]? =some oj->mC oj.op=true->S j=true->k<j->all[k]? =some ok->¬(nq ok.op=true\/oW ok.op=true)->S k=true:=by
  intro j oj k ok hj hs qN hkj hk hn;rcases jE.afk j oj hj hs k ok hkj hk with h|h|h
  .exact absurd (.inl h) hn
  .exact absurd (.inr h) hn
  .exact wS eT 3 oj k (λe he hb=>eT j oj hj qN e he hb) h
 by_cases fW:ey o.op=true
 . -- a ey: atZ ahead of it are aZ, atZ behind it are not
   have HH:∀k,k<i->(all[k]?).any (λo=>ey o.op)=true->S k=true:=by
    intro k hk js
    have Aq:k<all.length:=by omega
    have ho:all[k]? =some all[k] :=cc Aq;have Ev:=(BN ho).1 js
    have Hz:a<i:=by
     rcases jv k a with h|h
     .rw[(jE.pre k _ h ho).1]at Ev;cases Ev
     .omega
    rcases jE.afk i o bT (Hh i o Hz bT fW) k _ hk ho with h|h|h
    .exact absurd (.inl h) (Sq Ev)
    .exact absurd (.inr h) (Sq Ev)
    .exact wS eT 3 o k Hl h
   have HF:∀k,i<k->k<all.length->(all[k]?).any (λo=>ey o.op)=true->S k=false:=by
    intro k hk Aq js;have ho:all[k]? =some all[k] :=cc Aq;have Ev:=(BN ho).1 js
    have hai:a<=i:=by
     rcases jv i a with h|h
     .rw[(jE.pre i _ h bT).1]at fW;cases fW
     .exact h
    rcases pE (S k)with h|h
    .have:=aha k _ i o ho (Hh k _ (by omega) ho Ev) h hk bT (Sq fW)
     rw[jY]at this;cases this
    .exact h
   have e1:lB all ms S all.length=ms i:=by
    rw[IX (i:=i) all.length (by omega) (λk h1 h2 h3=>?_),IY pg i (by omega) HH]
    by_cases dB:k=i
    .rw[dB];exact jY
    .exact HF k (by omega) h2 h3
   have e2:lB all ms (λk=>if k=i then true else S k) all.length=ms (i+1):=by
    rw[IX (i:=i+1) all.length (by omega) (λk h1 h2 h3=>?_),IY pg (i+1) (by omega) (λk h1 h2=>?_)]
    .by_cases dB:k=i
     .rw[ay dB]
     .rw[au dB];exact HH k (by omega) h2
    .rw[au (by omega)];exact HF k (by omega) h2 h3
   rw[e1,e2];exact hw.step i o bT
 . -- no ey: the memory stays
   have BG:ey o.op=false:=by simpa using fW
   have e2:lB all ms (λk=>if k=i then true else S k) all.length=lB all ms S all.length:=by
    refine Oy _ λk hk js=>?_
    by_cases dB:k=i
    .subst dB;exact absurd ((BN bT).1 js) fW
    .simp[dB]
   rw[e2];rcases hw.step i o bT with⟨hg,nH⟩|⟨hg,hv,_⟩
   .refine .inl ⟨hg,?_⟩
    have hx:=(hw.more i o bT).more hg;obtain⟨k,Aq,hkm,TQ⟩:=Wu (all:=all) (ms:=ms) (S:=S) all.length (bA _);rw[hkm]
    by_cases hp:nq o.op=true
    .exact hx.pure hp _
    -- how the memories look
    have kJ:∀k,k<=all.length->fa m (ms k):=by
     intro k
     induction k with
     |zero=>intro _;rw[hw.mfirst];exact fa.refl m
     |succ k ih=>
      intro hk;have ho:all[k]? =some all[k] :=cc hk;refine(ih (by omega)).trans ?_
      by_cases js:ey all[k].op=true
      .by_cases hka:k=a
       .subst hka
        by_cases cR:mC all[k].op=true
        .exact((hw.more k _ ho).store cR).1
        .have rM:od all[k].op=true:=by
          simp only[ey,ia]at js;exact js.resolve_left cR
         refine((hw.more k _ ho).alloc rM ?_).shape;rw[Ap k (bA _) (by omega)];exact ahz
       .have hak:a<k:=by
         rcases jv k a with h|h
         .rw[(jE.pre k _ h ho).1]at js;cases js
         .omega
        exact((hw.more k _ ho).store (Hh k _ hak ho js)).1
      .rw[pg k _ ho (by simpa using js)];exact fa.refl _
    by_cases hs:oW o.op=true
    .refine hx.shape hs _ ?_
     by_cases Hz:i<=a
     .rw[Ap i Hz (by omega)];exact kJ k Aq
     . -- behind the first ey there is no allocation
       have Hp:=jE.post i o (by omega) bT;simp only[Ae,ia,aH]at Hp
       have rM:al=false:=by
        rcases Hp with h1|h1|h1
        .exact absurd h1 hp
        .rw[MG h1]at BG;cases BG
        .simpa using h1.2
       have HX:∀k,k<=all.length->fa (ms k) m:=by
        intro k
        induction k with
        |zero=>intro _;rw[hw.mfirst];exact fa.refl m
        |succ k ih=>
         intro hk;have ho:all[k]? =some all[k] :=cc hk;refine fa.trans ?_ (ih (by omega))
         by_cases js:ey all[k].op=true
         .have cR:mC all[k].op=true:=by
           rcases NC k a with h|h|h
           .rw[(jE.pre k _ h ho).1]at js;cases js
           .subst h
            have:=(jE.head _ ho).2;rw[rM]at this;simp only[ey,ia,this]at js;exact js.resolve_right (by simp)
           .exact Hh k _ h ho js
          exact((hw.more k _ ho).store cR).2
         .rw[pg k _ ho (by simpa using js)];exact fa.refl _
       exact(HX i (by omega)).trans (kJ k Aq)
    -- a auq: no store is aZ
    have Hz:i<a:=by
     rcases NC i a with h|h|h
     .exact h
     .subst h;rw[(jE.head o bT).1]at BG;cases BG
     .have Hp:=jE.post i o h bT
      simp only[Ae,ia,aH]at Hp;rcases Hp with h1|h1|h1
      .exact absurd h1 hp
      .rw[MG h1]at BG;cases BG
      .exact absurd h1.1 hs
    have hmi:=Ap i (by omega) (by omega)
    have afm:∀ (j:Nat) (oj:Oper),all[j]? =some oj->S j=true->mC oj.op=true->False:=by
     intro j oj hj qN cR
     have lh:i<j:=by
      rcases jv j a with h|h
      .have h1:=(jE.pre j oj h hj).1
       rw[MG cR]at h1;cases h1
      .omega
     have:=aha j oj i o hj cR qN lh bT (λh=>h.elim hp hs);rw[jY]at this;cases this
    rcases TQ with rfl|⟨j,oj,rfl,qN,hj,Hw⟩
    .rw[hw.mfirst,<-hmi]
     have ay5:ms (i+1)=ms i:=pg i o bT BG;rw[ay5]at nH;exact nH
    .have hja:j=a:=by
      rcases NC j a with h|h|h
      .rw[(jE.pre j oj h hj).1]at Hw;cases Hw
      .exact h
      .exact(afm j oj hj qN (Hh j oj h hj Hw)).elim
     subst hja
     have rM:od oj.op=true:=by
      simp only[ey,ia]at Hw
      exact Hw.resolve_left λh=>afm j oj hj qN h
     have halt:al=true:=by rw[<-(jE.head oj hj).2];exact rM
     have ahm:=(jE.pre i o Hz bT).2;simp only[Ep,halt,aH,qt,yG,ia]at ahm
     have vQ:Ee o.op=true:=by
      rcases ahm.2 with h|h|h
      .exact absurd h hp
      .exact absurd h hs
      .exact h
     refine hx.up rfl vQ _ ?_;have hmj:=Ap j (bA _) (by omega);rw[hmi,<-hmj];refine(hw.more j oj hj).alloc rM ?_;rw[hmj];exact ahz
   .exact .inr ⟨hg,hv,rfl⟩
end
section
variable {P:Program} {E:Env} {α:Type}
def AV(cs:List SV):(SV.agg cs).data=f7 cs:=by
 induction cs with
 |nil=>rfl
 |cons x xs ih=>
  show(match x.data with|true=>(SV.agg xs).data|false=>false)=(match x.data with|true=>f7 xs|false=>false);rw[ih]
def IV(cs:List SV):(SV.tuple cs).data=f7 cs:=AV cs
def Wr(f:Nat)(a c:List SV):(SV.fn f a c).data=match f7 a with|true=>f7 c|false=>false:=by
 rw[<-AV a,<-AV c];rfl
def wP(x:SV)(xs:List SV):f7 (x::xs)=match x.data with|true=>f7 xs|false=>false:=rfl
mutual
theorem aJ.data{R R':Nat->Prop}{I I':bu}{n n':Nat}{w:World}(hR:∀b,R b->R' b):∀ (x:SV) (v:Value),x.data=true->aJ R I n w x v->aJ R' I' n' w x v
 |.undef,_,_,h=>h
 |.di,_,_,_=>trivial
 |.int _ _,_,_,h=>h
 |.bool _,_,_,h=>h
 |.str _,_,_,h=>h
 |.cm,_,_,h=>h
 |.list t l,v,_,h=>p7.mono (λb hb=>⟨hR b hb,rfl⟩) (.list t) l [v] h
 |.row _,_,hd,_=>by cases hd
 |.arr _ _ _,_,hd,_=>by cases hd
 |.ptr _ _,_,hd,_=>by cases hd
 |.pY,_,_,h=>h
 |.jt t l i off,v,_,h=>by
  obtain⟨b,o,h1,h2,h3⟩:=h;exact⟨b,o,h1,h2,h3.mono λb hb=>⟨hR b hb,rfl⟩⟩
 |.iy _ _ _ _,_,hd,_=>by cases hd
 |.agg cs,v,hd,h=>by
  obtain⟨vs,h1,h2⟩:=h;exact⟨vs,h1,j8.data hR cs vs (by rw[<-AV];exact hd) h2⟩
 |.tuple cs,v,hd,h=>by
  obtain⟨vs,h1,h2⟩:=h;exact⟨vs,h1,j8.data hR cs vs (by rw[<-IV];exact hd) h2⟩
 |.fn f first cap,v,hd,h=>by
  obtain⟨vs,us,h1,h2,h3⟩:=h;rw[Wr]at hd
  cases h4:f7 first with
  |false=>rw[h4]at hd;cases hd
  |true=>
   rw[h4]at hd;exact⟨vs,us,h1,j8.data hR first vs h4 h2,j8.data hR cap us hd h3⟩
 |.dO _,_,_,h=>h
theorem j8.data{R R':Nat->Prop}{I I':bu}{n n':Nat}{w:World}(hR:∀b,R b->R' b):∀ (xs:List SV) (vs:List Value),f7 xs=true->j8 R I n w xs vs->j8 R' I' n' w xs vs
 |[],_,_,h=>h
 |x::xs,vs,hd,h=>by
  obtain⟨u,us,h1,h2,h3⟩:=h;rw[wP]at hd
  cases h4:x.data with
  |false=>rw[h4]at hd;cases hd
  |true=>
   rw[h4]at hd;exact⟨u,us,h1,aJ.data hR x u h4 h2,j8.data hR xs us hd h3⟩
end
theorem X8:∀ (args:List SV) (i:Nat) (fr:Fr) (k:Fr->ak α) (L:α->Prop),(List.rec (motive:=λ_=>Nat->Fr->(Fr->ak α)->ak α) (λ_ fr k=>k fr) (λx _ ih i fr k=>jZ x λx=>fr.set i x λfr=>ih (i+1) fr k) args i fr k).holds L->
  ∃aD,(k aD).holds L/\aD.size=fr.size/\(args=[] \/i+args.length<=fr.size)/\∀t,aD.get t=if i<=t/\t<i+args.length then args.getD (t-i) .undef else fr.get t
 |[],i,fr,k,L,h=>⟨fr,h,rfl,.inl rfl,λt=>by rw[au (by simp)]⟩
 |x::args,i,fr,k,L,h=>by
  change (jZ x λx=>fr.set i x λfr=>List.rec (motive:=λ_=>Nat->Fr->(Fr->ak α)->ak α) (λ_ fr k=>k fr) (λx _ ih i fr k=>jZ x λx=>fr.set i x λfr=>ih (i+1) fr k) args (i+1) fr k).holds L at h
  rw[pU]at h;obtain⟨aW,h1,h2⟩:=Fr.iN h;obtain⟨aD,h3,h4,h5,h6⟩:=X8 args (i+1) aW k L h2;have cW:=h1.2.1 i rfl;refine⟨aD,h3,h4.trans h1.1,.inr ?_,λt=>?_⟩
  .rcases h5 with rfl|h5
   .exact cW
   .rw[h1.1]at h5;simp only[tv];omega
  .rw[h6 t]
   simp only[tv]
   by_cases h7:i+1<=t/\t<i+1+args.length
   .rw[ay h7,ay ⟨by omega,by omega⟩,show t-i=(t-(i+1))+1 by omega,List.getD_cons_succ]
   .rw[au h7,h1.2.2 t]
    by_cases h8:i=t
    .subst h8
     rw[ay rfl,ay ⟨by omega,by omega⟩];simp
    .have:¬(some i=some t):=λe=>h8 (by injection e)
     rw[au this,au (by omega)]
def qz{size:Nat}{args:List SV}{k:Fr->ak α}{L:α->Prop}(h:(Fr.make size args k).holds L):∃fr,(k fr).holds L/\fr.size=size/\(args=[] \/args.length<=size)/\∀t,fr.get t=args.getD t .undef:=by
 obtain⟨fr,h1,h2,h3,h4⟩:=X8 args 0 ⟨size,.e⟩ k L h;refine⟨fr,h1,h2,h3.imp id (λh=>by simpa using h),λt=>?_⟩;rw[h4 t]
 by_cases ht:t<args.length
 .rw[ay ⟨rW _,by omega⟩];simp
 .rw[au (by omega)]
  have:args.getD t .undef=.undef:=by simp[List.getD,qU (show args.length<=t by omega)]
  rw[this];rfl
variable{I:bu}{w:World}{fr:Fr}
def pV{R:Nat->Prop}{n:Nat}{size:Nat}{args:List SV}{vs:List Value}(h1:fr.size=size)(h2:args=[] \/args.length<=size)(h3:∀t,fr.get t=args.getD t .undef)(h:j8 R I n w args vs):
  rj R I n w fr (vs.toArray++Array.replicate (size-vs.toArray.size) Go.undef):=by
 have hl:=h.length
 have mK:args.length<=size:=by
  rcases h2 with rfl|h2
  .simp
  .exact h2
 refine⟨by rw[h1];simp;omega,λt=>?_⟩;rw[h3 t]
 by_cases ht:t<args.length
 .obtain⟨c,hc⟩:∃c,args[t]? =some c:=⟨_,cc ht⟩
  obtain⟨v,hv,hr⟩:=h.get hc
  have e1:args.getD t .undef=c:=by simp[List.getD,hc]
  have e2:(vs.toArray++Array.replicate (size-vs.toArray.size) Go.undef).getD t Go.undef=v:=by
   rw[jx,aiD (by simp;omega)];simp[hv]
  rw[e1,e2];exact hr
 .have e1:args.getD t .undef=.undef:=by simp[List.getD,qU (show args.length<=t by omega)]
  have e2:(vs.toArray++Array.replicate (size-vs.toArray.size) Go.undef).getD t Go.undef=Go.undef:=by
   rw[jx,aBS (by simp;omega),aiB]
   split<;>rfl
  rw[e1,e2];rfl
def Kp(tmps:Array Value):ResultVar->Sem Value
 |.tmp t=>pure (tmps.getD t Go.undef)
 |.cell a t=>do loadVar t (<-asAddr (tmps.getD a Go.undef))
def xq3(fn:Func)(tmps:Array Value):Go.results fn tmps=(do
  let vs <-fn.results.mapM (Kp tmps)
  pure (if h:vs.size=1 then vs[0]else .tuple vs)):=by
 unfold Go.results
 congr 1
variable{m:Mem}
def xo5(hE:dF P E){r:ResultVar}{k:SV->ak α}{L:α->Prop}(h:(Ql E m fr r k).holds L):∃v,(k v).holds L/\∀⦃ds:List Deferred⦄ w0 R0 I w a,dG ds w0 R0 I w fr m a->
  ∃u,(Kp a.tmps r).run P w=.ok u w/\aJ (RO w0 R0 I w m) I m.next w v u:=by
 cases r with
 |tmp t=>
  change (jZ (fr.get t) k).holds L at h
  rw[pU]at h;exact⟨_,h,λds w0 R0 I w a hs=>⟨_,rfl,hs.2.1.2 t⟩⟩
 |cell a' t=>
  change (FC E t (fr.get a') .kK m λv _ _=>k v).holds L at h
  obtain⟨v,h1,h2⟩:=Ye hE h;refine⟨v,h1,λds w0 R0 I w a hs=>?_⟩;obtain⟨u,h3,h4⟩:=h2 m (Up.refl m) w0 R0 I w _ hs.1 (hs.2.1.2 a');refine⟨u,?_,h4⟩;show((do loadVar t (<-asAddr (a.tmps.getD a' Go.undef)):Sem Value)).run P w=_;generalize a.tmps.getD a' Go.undef=av at h3 ⊢
  cases av<;>try(simp[Instr.loadAt,Instr.sureAddr]at h3;done)
  rename_i o
  cases o with
  |none=>simp[Instr.loadAt,Instr.sureAddr]at h3
  |some ad=>simpa[Instr.loadAt,Instr.sureAddr,asAddr]using h3
theorem Z0(hE:dF P E):∀ (rs:List ResultVar) (k:List SV->ak α) (L:α->Prop),(Qm E m fr rs k).holds L->∃vs,(k vs).holds L/\vs.length=rs.length/\∀⦃ds:List Deferred⦄ w0 R0 I w a,dG ds w0 R0 I w fr m a->
  ∃us,(rs.mapM (Kp a.tmps)).run P w=.ok us w/\j8 (RO w0 R0 I w m) I m.next w vs us
 |[],k,L,h=>⟨[],h,rfl,λds w0 R0 I w a hs=>⟨[],rfl,rfl⟩⟩
 |r::rs,k,L,h=>by
  change (Ql E m fr r λv=>Qm E m fr rs λvs=>k (v::vs)).holds L at h
  obtain⟨v,h1,h2⟩:=xo5 hE h;obtain⟨vs,h3,h4,h5⟩:=Z0 hE rs _ L h1;refine⟨v::vs,h3,by simp[h4],λds w0 R0 I w a hs=>?_⟩;obtain⟨u,h6,h7⟩:=h2 w0 R0 I w a hs;obtain⟨us,h8,h9⟩:=h5 w0 R0 I w a hs;refine⟨u::us,?_,u,us,rfl,h7,h9⟩;rw[List.mapM_cons];simp only[bX,h6,h8,bZ,cU]
def qE(hE:dF P E){fn:Func}{k:SV->ak α}{L:α->Prop}(h:(results E fn m fr k).holds L):∃v,(k v).holds L/\∀⦃ds:List Deferred⦄ w0 R0 I w a,dG ds w0 R0 I w fr m a->∃u,(Go.results fn a.tmps).run P w=.ok u w/\aJ (RO w0 R0 I w m) I m.next w v u:=by
 obtain⟨vs,h1,h2,h3⟩:=Z0 hE fn.results.toList _ L h
 have run:∀ (a:Act) (w:World) (us:List Value),(fn.results.toList.mapM (Kp a.tmps)).run P w=.ok us w->(Go.results fn a.tmps).run P w=.ok (if h:us.toArray.size=1 then us.toArray[0]else .tuple us.toArray) w:=by
  intro a w us hu;rw[xq3,aBQ];simp only[bX,Sem.run_map,hu];rfl
 split at h1
 .rename_i v
  refine⟨v,h1,λds w0 R0 I w a hs=>?_⟩;obtain⟨us,h4,u,iM,rfl,h5,h6⟩:=h3 w0 R0 I w a hs;rw[show iM=[]from h6]at h4;exact⟨u,by rw[run a w _ h4];rfl,h5⟩
 .rename_i cw
  refine⟨_,h1,λds w0 R0 I w a hs=>?_⟩;obtain⟨us,h4,h5⟩:=h3 w0 R0 I w a hs;have hl:=h5.length;refine⟨.tuple us.toArray,?_,us,rfl,h5⟩;rw[run a w _ h4,dif_neg];intro h6
  have:vs.length=1:=by simp at h6;omega
  obtain⟨v,hv⟩:=List.length_eq_one_iff.1 this;exact cw v hv
def ak.bw{β:Type}(Φ:β->Prop):ak β->Prop
 |.ai a=>Φ a
 |.ag b t f=>(b=true->t.bw Φ)/\(b=false->f.bw Φ)
 |.aj b t=>b=true->t.bw Φ
 |.aA _=>True
theorem EX{Φ:SV->Prop}{V:p9 α}{L:α->Prop}:∀ (t:ak SV) (p:ax),(yH m V t p).holds L->t.bw Φ->∃v p',(V v p' m).holds L/\Φ v
 |.ai v,p,h,hs=>⟨v,p,h,hs⟩
 |.ag b t f,p,h,hs=>by
  obtain⟨p',h⟩:=qy (k:=λb p=>match b with
   |true=>yH m V t p
   |false=>yH m V f p) h
  cases b with
  |true=>exact EX t p' h (hs.1 rfl)
  |false=>exact EX f p' h (hs.2 rfl)
 |.aj b t,p,h,hs=>EX t p h.2 (hs h.1)
 |.aA _,_,h,_=>h.elim
def SCall(P:Program)(f:FuncId)(args:List SV)(v:SV):Prop:=∀m,je P m v m f args
def Cq(P:Program)(f:FuncId)(args:List SV)(m:Mem)(x:SV×Mem):Prop:=je P m x.1 x.2 f args
def lW(P:Program)(f:FuncId)(args:List SV)(B:aR)(x:Bool×SV×aR):Prop:=
 ∀m m' id,m.get id=some B->mT m id (some x.2.2) m'->AP P f (.ptr id 0::args) m (match x.1 with|true=>.cE x.2.1 m'|false=>.ok x.2.1 m')
def yQ(P:Program)(f:FuncId)(args:List SV)(x:SV×Mem):Prop:=
 ∀m v' m',(lU x.1 x.2 m λv m=>ak.ai (v,m)).holds (λy=>y=(v',m'))->je P m v' m' f args
def uX(P:Program)(E:Env):Prop:=(∀f s args t,E.sum f=some s->s args=some t->t.bw (SCall P f args))/\(∀f s args m t,E.wr f=some s->s args m=some t->t.bw (Cq P f args m))/\(∀f s args m t,E.pn f=some s->s args m=some t->t.bw (AP P f args m))/\(∀f s args B t,E.bx f=some s->s args B=some t->t.bw (lW P f args B))/\∀f s args t,E.ow f=some s->s args=some t->t.bw (yQ P f args)
theorem Iq{Φ:SV×Mem->Prop}{V:p9 α}{L:α->Prop}:∀ (t:ak (SV×Mem)) (p:ax),(Ci V t p).holds L->t.bw Φ->∃x p',(V x.1 p' x.2).holds L/\Φ x
 |.ai x,p,h,hs=>⟨x,p,h,hs⟩
 |.ag b t f,p,h,hs=>by
  unfold Ci at h;obtain⟨p',h⟩:=qy h
  cases b with
  |true=>exact Iq t p' h (hs.1 rfl)
  |false=>exact Iq f p' h (hs.2 rfl)
 |.aj b t,p,h,hs=>Iq t p h.2 (hs h.1)
 |.aA _,_,h,_=>h.elim
theorem Ir{Φ:Bool×SV×aR->Prop}{V:SV->ax->aR->ak α}{L:α->Prop}:∀ (t:ak (Bool×SV×aR)) (p:ax),(Cj V t p).holds L->t.bw Φ->∃v B p',(V v p' B).holds L/\Φ (false,v,B)
 |.ai (false,v,B),p,h,hs=>⟨v,B,p,h,hs⟩
 |.ai (true,v,B),p,h,hs=>h.elim
 |.ag b t f,p,h,hs=>by
  unfold Cj at h;obtain⟨p',h⟩:=qy h
  cases b with
  |true=>exact Ir t p' h (hs.1 rfl)
  |false=>exact Ir f p' h (hs.2 rfl)
 |.aj b t,p,h,hs=>Ir t p h.2 (hs h.1)
 |.aA _,_,h,_=>h.elim
theorem EY{Φ:SV×Mem->Prop}{V:p9 α}{L:α->Prop}:∀ (t:ak (SV×Mem)) (p:ax),(AJ m V t p).holds L->t.bw Φ->∃x p',(lU x.1 x.2 m λv m=>V v p' m).holds L/\Φ x
 |.ai x,p,h,hs=>⟨x,p,h,hs⟩
 |.ag b t f,p,h,hs=>by
  unfold AJ at h;obtain⟨p',h⟩:=qy h
  cases b with
  |true=>exact EY t p' h (hs.1 rfl)
  |false=>exact EY f p' h (hs.2 rfl)
 |.aj b t,p,h,hs=>EY t p h.2 (hs h.1)
 |.aA _,_,h,_=>h.elim
theorem HY{Φ:Ex->Prop}{V:p9 α}{lQ:SV->Mem->ak α}{L:α->Prop}:∀ (t:ak Ex) (p:ax),(AI V lQ t p).holds L->t.bw Φ->(∃v m p',(V v p' m).holds L/\Φ (.ok v m))\/∃v m,(lQ v m).holds L/\Φ (.cE v m)
 |.ai (.ok v m),p,h,hs=>.inl ⟨v,m,p,h,hs⟩
 |.ai (.cE v m),p,h,hs=>.inr ⟨v,m,h,hs⟩
 |.ag b t f,p,h,hs=>by
  unfold AI at h;obtain⟨p',h⟩:=qy h
  cases b with
  |true=>exact HY t p' h (hs.1 rfl)
  |false=>exact HY f p' h (hs.2 rfl)
 |.aj b t,p,h,hs=>HY t p h.2 (hs h.1)
 |.aA _,_,h,_=>h.elim
abbrev RR(w0:World)(R0:eo)(ρ0:bu)(w:World)(m0:Mem)(ρc:bu)(cT:Mem)(w':World)(b:Nat):Prop:=
 RO w0 R0 ρ0 w m0 b\/RO w (RS w0 R0 ρ0 w m0) ρc w' cT b
structure Hand (w0:World) (R0:eo) (ρ0:bu) (w:World) (m0:Mem) (ρc:bu) (cT:Mem) (w':World) (I:bu) (m mc:Mem):Prop where
 le:m0.next<=m.next
 same:∀id,id<m0.next->I id=ρ0 id
 lt:∀id B,m.get id=some B->id<m.next
 lo:∀id B,m.get id=some B->fJ (I id) B->w0.heap.size<=(I id).1
 hi:∀id B,m.get id=some B->fJ (I id) B->(I id).1<w'.heap.size
 nh:∀id B,m.get id=some B->fJ (I id) B->¬R0 (I id).1
 inj:∀id bY B B',m.get id=some B->m.get bY=some B'->fJ (I id) B->fJ (I bY) B'->(I id).1=(I bY).1->id=bY
 box:∀id B,m.get id=some B->fN (RR w0 R0 ρ0 w m0 ρc cT w') I m.next w' (I id) B
 sub:∀k B,mc.get k=some B->cT.get k=some B
 apart:∀k B,mc.get k=some B->fJ (ρc k) B->∀id C,m.get id=some C->fJ (I id) C->(I id).1≠(ρc k).1
 ro:∀b,RR w0 R0 ρ0 w m0 ρc cT w' b->RO w0 R0 I w' m b
variable{w0:World}{R0:eo}
def Hand.start{ρ0:bu}{m0:Mem}{ρc:bu}{cT:Mem}{w':World}(hm:aQ w0 R0 ρ0 w m0)(hc:aQ w (RS w0 R0 ρ0 w m0) ρc w' cT):Hand w0 R0 ρ0 w m0 ρc cT w' ρ0 m0 cT:=by
 have bS:=hc.below.size
 have pg:∀b,RO w0 R0 ρ0 w m0 b->RO w0 R0 ρ0 w' m0 b:=λb hb=>by
  rcases hb with hb|⟨h1,h2,h3⟩
  .exact .inl hb
  .exact .inr ⟨h1,by omega,h3⟩
 have e:Ext (RO w0 R0 ρ0 w m0) ρ0 m0.next w (RR w0 R0 ρ0 w m0 ρc cT w') ρ0 m0.next w':=⟨bA _,λ_ _=>rfl,λb hb=>⟨.inl hb,hc.below.block b (hm.mB hb)⟩⟩;refine⟨bA _,λ_ _=>rfl,hm.lt,hm.lo,λid B h1 h2=>?_,hm.aI.2,hm.inj,λid B h1=>fN.mono e B (λhs=>hc.below.block _ (hm.hi id B h1 hs)) (hm.box id B h1),λ_ _ h=>h,λk B h1 h2 id C h3 h4=>?_,λb hb=>?_⟩;.have:=hm.hi id B h1 h2;omega
 .have:=hm.hi id C h3 h4;have:=hc.lo k B h1 h2;omega
 .rcases hb with hb|⟨hb,_⟩|⟨h1,h2,_⟩
  .exact pg b hb
  .exact pg b hb
  .have:=hm.size_le
   exact .inr ⟨by omega,h2,λid C h3 h4=>by have:=hm.hi id C h3 h4;omega,λhr=>by have:=(hm.aI.1 b hr).1;omega⟩
variable{mc:Mem}
def Hand.finish{ρ0:bu}{m0:Mem}{ρc:bu}{cT:Mem}{w':World}(hm:aQ w0 R0 ρ0 w m0)(hc:aQ w (RS w0 R0 ρ0 w m0) ρc w' cT)(h:Hand w0 R0 ρ0 w m0 ρc cT w' I m mc):
  aQ w0 R0 I w' m/\m8 w0 R0 ρ0 w m0 I w' m:=by
 have e:Ext (RR w0 R0 ρ0 w m0 ρc cT w') I m.next w' (RO w0 R0 I w' m) I m.next w':=⟨bA _,λ_ _=>rfl,λb hb=>⟨h.ro b hb,rfl⟩⟩;refine⟨⟨hm.below.trans (hc.below.mono hm.size_le),h.lt,h.lo,h.hi,h.inj,λid B h1=>fN.mono e B (λ_=>rfl) (h.box id B h1),λb hb=>⟨qS (hm.aI.1 b hb).1 hc.below.size,(hc.below.block b (hm.aI.1 b hb).1).trans (hm.aI.1 b hb).2⟩,h.nh⟩,h.le,h.same,λb hb=>⟨h.ro b (.inl hb),hc.below.block b (hm.mB hb)⟩⟩
def Vx{v:SV}{k:SV->Mem->Mem->ak α}{L:α->Prop}(h:(jb v mc m k).holds L):∃v' gp m',(k v' gp m').holds L/\∀w0 R0 ρ0 w m0 ρc cT w' I (u:Value),aQ w0 R0 ρ0 w m0->aQ w (RS w0 R0 ρ0 w m0) ρc w' cT->Hand w0 R0 ρ0 w m0 ρc cT w' I m mc->aJ (RO w (RS w0 R0 ρ0 w m0) ρc w' cT) ρc cT.next w' v u->
  ∃I',Hand w0 R0 ρ0 w m0 ρc cT w' I' m' gp/\Ext (RR w0 R0 ρ0 w m0 ρc cT w') I m.next w' (RR w0 R0 ρ0 w m0 ρc cT w') I' m'.next w'/\aJ (RR w0 R0 ρ0 w m0 ρc cT w') I' m'.next w' v' u:=by
 have plain:∀v:SV,v.data=true->(k v mc m).holds L->∃v' gp m',(k v' gp m').holds L/\∀w0 R0 ρ0 w m0 ρc cT w' I (u:Value),aQ w0 R0 ρ0 w m0->aQ w (RS w0 R0 ρ0 w m0) ρc w' cT->Hand w0 R0 ρ0 w m0 ρc cT w' I m mc->aJ (RO w (RS w0 R0 ρ0 w m0) ρc w' cT) ρc cT.next w' v u->
   ∃I',Hand w0 R0 ρ0 w m0 ρc cT w' I' m' gp/\Ext (RR w0 R0 ρ0 w m0 ρc cT w') I m.next w' (RR w0 R0 ρ0 w m0 ρc cT w') I' m'.next w'/\aJ (RR w0 R0 ρ0 w m0 ρc cT w') I' m'.next w' v' u:=
  λv hd h=>⟨v,mc,m,h,λw0 R0 ρ0 w m0 ρc cT w' I u hm hc hh hr=>⟨I,hh,Ext.refl _ _ _ _,aJ.data (λb hb=>.inr hb) v u hd hr⟩⟩
 cases v with
 |row id=>
  dsimp only[jb]at h
  split at h
  .rename_i t l hg
   obtain⟨gp,h1,h2⟩:=Mem.iN h;obtain⟨m',h3,h4⟩:=Mem.nB h2;refine⟨_,gp,m',h4,λw0 R0 ρ0 w m0 ρc cT w' I u hm hc hh hr=>?_⟩;have lj:=hh.sub id _ hg
   have aht:∀j B,gp.get j=some B->j≠id/\mc.get j=some B:=λj B hj=>by
    rw[h1.1 j]at hj
    by_cases e:j=id
    .rw[ay e]at hj;cases hj
    .rw[au e]at hj;exact⟨e,hj⟩
   have ec:∀j B,m'.get j=some B->(j=m.next/\B=.rows t l)\/(j≠m.next/\m.get j=some B):=λj B hj=>by
    rw[h3.1 j]at hj
    by_cases e:j=m.next
    .rw[ay e]at hj;injection hj with hj;exact .inl ⟨e,hj.symm⟩
    .rw[au e]at hj;exact .inr ⟨e,hj⟩
   have mK:=hh.le;have ayM:=hm.size_le;have e:Ext (RR w0 R0 ρ0 w m0 ρc cT w') I m.next w' (RR w0 R0 ρ0 w m0 ρc cT w') (cL I m.next (ρc id)) m'.next w':=⟨by rw[h3.2];omega,λj hj=>r8 _ _ (by omega),λb hb=>⟨hb,rfl⟩⟩;refine⟨cL I m.next (ρc id),⟨by rw[h3.2];omega,λj hj=>by rw[r8 _ _ (by omega)];exact hh.same j hj,λj B hj=>?_,λj B hj hs=>?_,λj B hj hs=>?_,λj B hj hs=>?_,λj j' B B' hj rI hs bj he=>?_,λj B hj=>?_,λj B hj=>hh.sub j B (aht j B hj).2,λj B hj hs bY C uy bj=>?_,λb hb=>?_⟩,e,?_⟩
   .rw[h3.2]
    rcases ec j B hj with⟨rfl,_⟩|⟨_,n2⟩
    .omega
    .have:=hh.lt j B n2;omega
   .rcases ec j B hj with⟨rfl,rfl⟩|⟨n1,n2⟩
    .rw[s9]at hs ⊢;have:=hc.lo id _ lj hs;omega
    .rw[r8 _ _ n1]at hs ⊢;exact hh.lo j B n2 hs
   .rcases ec j B hj with⟨rfl,rfl⟩|⟨n1,n2⟩
    .rw[s9]at hs ⊢;exact hc.hi id _ lj hs
    .rw[r8 _ _ n1]at hs ⊢;exact hh.hi j B n2 hs
   .rcases ec j B hj with⟨rfl,rfl⟩|⟨n1,n2⟩
    .rw[s9]at hs ⊢;exact λhr=>by have:=(hm.aI.1 _ hr).1;have:=hc.lo id _ lj hs;omega
    .rw[r8 _ _ n1]at hs ⊢;exact hh.nh j B n2 hs
   .rcases ec j B hj with⟨rfl,rfl⟩|⟨n1,n2⟩<;>rcases ec j' B' rI with⟨rfl,rfl⟩|⟨vI,xV⟩
    .rfl
    .rw[s9]at hs he;rw[r8 _ _ vI]at bj he
     exact absurd he.symm (hh.apart id _ hg hs j' B' xV bj)
    .rw[s9]at bj he;rw[r8 _ _ n1]at hs he
     exact absurd he (hh.apart id _ hg bj j B n2 hs)
    .rw[r8 _ _ n1]at hs he;rw[r8 _ _ vI]at bj he
     exact hh.inj j j' B B' n2 xV hs bj he
   .rcases ec j B hj with⟨rfl,rfl⟩|⟨n1,n2⟩
    .rw[s9]
     obtain⟨b1,b2,b3⟩:=hc.box id _ lj;refine⟨b1,b2,λhp=>?_⟩;obtain⟨arr,el,fr,q1,q2,q3,q4⟩:=b3 hp;refine⟨arr,el,fr,q1,q2,q3,λi hi=>?_⟩;obtain⟨cs,c1,c2,c3⟩:=q4 i hi;exact⟨cs,c1,c2,p7.mono (λb hb=>⟨.inr hb,rfl⟩) _ _ _ c3⟩
    .rw[r8 _ _ n1]
     exact fN.mono e B (λ_=>rfl) (hh.box j B n2)
   .obtain⟨n1,n2⟩:=aht j B hj
    rcases ec bY C uy with⟨rfl,rfl⟩|⟨k1,k2⟩
    .rw[s9]at bj ⊢
     exact λhe=>n1 (hc.inj id j _ B lj (hh.sub j B n2) bj hs he).symm
    .rw[r8 _ _ k1]at bj ⊢
     exact hh.apart j B n2 hs bY C k2 bj
   .have cw:fJ (ρc id) (.rows t l)->(ρc id).1≠b:=λhs=>by
     rcases hb with hb|hb
     .have:=hm.mB hb;have:=hc.lo id _ lj hs;omega
     .exact hc.Ge hb lj hs
    rcases hh.ro b hb with hb|⟨g1,g2,g3,g4⟩
    .exact .inl hb
    .refine .inr ⟨g1,g2,λj B hj hs=>?_,g4⟩
     rcases ec j B hj with⟨rfl,rfl⟩|⟨n1,n2⟩
     .rw[s9]at hs ⊢;exact cw hs
     .rw[r8 _ _ n1]at hs ⊢;exact g3 j B n2 hs
   .obtain⟨_,a,hu,ha⟩:=hr
    exact⟨by rw[h3.2];omega,a,by rw[s9];exact hu,by rw[s9];exact ha⟩
  .exact h.elim
 |undef=>exact plain _ rfl h
 |di=>cases h
 |int a b=>exact plain _ rfl h
 |bool a=>exact plain _ rfl h
 |str a=>exact plain _ rfl h
 |cm=>exact plain _ rfl h
 |list a b=>exact plain _ rfl h
 |arr a b c=>cases h
 |ptr a b=>cases h
 |pY=>exact plain _ rfl h
 |jt a b c d=>exact plain _ rfl h
 |iy a b c d=>cases h
 |agg cs=>
  dsimp only[jb]at h
  split at h;.rename_i hd;exact plain _ hd h
  .exact h.elim
 |tuple cs=>
  dsimp only[jb]at h
  split at h;.rename_i hd;exact plain _ hd h
  .exact h.elim
 |fn f a c=>
  dsimp only[jb]at h
  split at h;.rename_i hd;exact plain _ hd h
  .exact h.elim
 |dO u=>exact plain _ rfl h
theorem Vw:∀ (vs:List SV) (mc m:Mem) (k:List SV->Mem->Mem->ak α) (L:α->Prop),(wI vs mc m k).holds L->∃tS gp m',(k tS gp m').holds L/\∀w0 R0 ρ0 w m0 ρc cT w' I (us:List Value),aQ w0 R0 ρ0 w m0->aQ w (RS w0 R0 ρ0 w m0) ρc w' cT->Hand w0 R0 ρ0 w m0 ρc cT w' I m mc->j8 (RO w (RS w0 R0 ρ0 w m0) ρc w' cT) ρc cT.next w' vs us->
  ∃I',Hand w0 R0 ρ0 w m0 ρc cT w' I' m' gp/\Ext (RR w0 R0 ρ0 w m0 ρc cT w') I m.next w' (RR w0 R0 ρ0 w m0 ρc cT w') I' m'.next w'/\j8 (RR w0 R0 ρ0 w m0 ρc cT w') I' m'.next w' tS us
 |[],mc,m,k,L,h=>⟨[],mc,m,h,λw0 R0 ρ0 w m0 ρc cT w' I us hm hc hh hr=>⟨I,hh,Ext.refl _ _ _ _,hr⟩⟩
 |v::vs,mc,m,k,L,h=>by
  change (jb v mc m λv mc m=>wI vs mc m λvs mc m=>k (v::vs) mc m).holds L at h
  obtain⟨v',Ss,m1,h1,h2⟩:=Vx h;obtain⟨tS,gp,m',h3,h4⟩:=Vw vs Ss m1 _ L h1;refine⟨v'::tS,gp,m',h3,λw0 R0 ρ0 w m0 ρc cT w' I us hm hc hh hr=>?_⟩;obtain⟨u,iM,rfl,r1,r2⟩:=hr;obtain⟨ρ1,g1,g2,g3⟩:=h2 w0 R0 ρ0 w m0 ρc cT w' I u hm hc hh r1;obtain⟨I',g4,g5,g6⟩:=h4 w0 R0 ρ0 w m0 ρc cT w' ρ1 iM hm hc g1 r2;exact⟨I',g4,g2.trans g5,u,iM,rfl,aJ.mono g5 _ _ g3,g6⟩
def N3{v:SV}{k:SV->Mem->ak α}{L:α->Prop}(h:(lU v mc m k).holds L):∃v' m',(k v' m').holds L/\∀w0 R0 I w ρc w' (u:Value),aQ w0 R0 I w m->aQ w (RS w0 R0 I w m) ρc w' mc->aJ (RO w (RS w0 R0 I w m) ρc w' mc) ρc mc.next w' v u->n9 w0 R0 I w m v' m' u w':=by
 have one:∀v:SV,(jb v mc m λv _ m=>k v m).holds L->∃v' m',(k v' m').holds L/\∀w0 R0 I w ρc w' (u:Value),aQ w0 R0 I w m->aQ w (RS w0 R0 I w m) ρc w' mc->aJ (RO w (RS w0 R0 I w m) ρc w' mc) ρc mc.next w' v u->n9 w0 R0 I w m v' m' u w':=by
  intro v h;obtain⟨v',gp,m',h1,h2⟩:=Vx h;refine⟨v',m',h1,λw0 R0 I w ρc w' u hm hc hr=>?_⟩;obtain⟨I',g1,g2,g3⟩:=h2 w0 R0 I w m ρc mc w' I u hm hc (Hand.start hm hc) hr;obtain⟨g4,g5⟩:=g1.finish hm hc;exact⟨I',g4,g5,aJ.mono ⟨bA _,λ_ _=>rfl,λb hb=>⟨g1.ro b hb,rfl⟩⟩ _ _ g3⟩
 have many:∀ (vs:List SV) (mk:List SV->SV) (mkv:List Value->Value),(∀ (R:Nat->Prop) (I:bu) (n:Nat) (w:World) cs u,aJ R I n w (mk cs) u↔∃us,u=mkv us/\j8 R I n w cs us)->(wI vs mc m λvs _ m=>k (mk vs) m).holds L->∃v' m',(k v' m').holds L/\∀w0 R0 I w ρc w' (u:Value),aQ w0 R0 I w m->aQ w (RS w0 R0 I w m) ρc w' mc->aJ (RO w (RS w0 R0 I w m) ρc w' mc) ρc mc.next w' (mk vs) u->n9 w0 R0 I w m v' m' u w':=by
  intro vs mk mkv hmk h;obtain⟨tS,gp,m',h1,h2⟩:=Vw vs mc m _ L h;refine⟨_,m',h1,λw0 R0 I w ρc w' u hm hc hr=>?_⟩;obtain⟨us,rfl,pd⟩:=(hmk _ _ _ _ _ _).1 hr;obtain⟨I',g1,g2,g3⟩:=h2 w0 R0 I w m ρc mc w' I us hm hc (Hand.start hm hc) pd;obtain⟨g4,g5⟩:=g1.finish hm hc;exact⟨I',g4,g5,(hmk _ _ _ _ _ _).2 ⟨us,rfl,j8.mono ⟨bA _,λ_ _=>rfl,λb hb=>⟨g1.ro b hb,rfl⟩⟩ _ _ g3⟩⟩
 cases v with
 |tuple vs=>exact many vs .tuple (λus=>.tuple ⟨us⟩) (λ_ _ _ _ _ _=>Iff.rfl) h
 |agg vs=>exact many vs .agg (λus=>.agg ⟨us⟩) (λ_ _ _ _ _ _=>Iff.rfl) h
 |_=>exact one _ h
def xh(hm:aQ w0 R0 I w m)(ρc:bu):aQ w (RS w0 R0 I w m) ρc w ⟨0,.e⟩/\∀b,RO w0 R0 I w m b->RO w (RS w0 R0 I w m) ρc w ⟨0,.e⟩ b:=
 ⟨⟨⟨Below.refl _ _,hm.Np⟩,λid B h=>(by cases h),λid B h=>(by cases h),λid B h=>(by cases h),λid bY B B' h=>(by cases h),λid B h=>(by cases h),λb hb=>⟨hm.mB hb,rfl⟩,λid B h=>(by cases h)⟩,λb hb=>.inl ⟨hb,hm.mB hb⟩⟩
end
def aQ.bare(h:aQ w0 R0 I w m):aQ w0 R0 I w ⟨0,.e⟩/\∀b,RO w0 R0 I w m b->RO w0 R0 I w ⟨0,.e⟩ b:=
 ⟨⟨h.below,λid B h=>(by cases h),λid B h=>(by cases h),λid B h=>(by cases h),λid bY B B' h=>(by cases h),λid B h=>(by cases h),h.aI.1,λid B h=>(by cases h)⟩,λb hb=>by
   rcases hb with hb|⟨k1,k2,_,k4⟩
   .exact .inl hb
   .exact .inr ⟨k1,k2,(λid B hB=>by cases hB),k4⟩⟩
def zp6(h:aQ w0 R0 I w m){id off n:Nat}{cs:List SV}(hg:m.get id=some (.cells cs)){u:Ty}{l:List u.T}(hl:vK u n ((cs.drop off).take (n*u.sz))=some l){v:Value}
  (hu:v=.slice (some ⟨(I id).1,off,none⟩) n n):aJ (RO w0 R0 I w ⟨0,.e⟩) I 0 w (.list u l) v:=by
 have dZ:=h.bare.2;obtain⟨arr,e,fr,k1,k2,k3⟩:=h.box id _ hg;obtain⟨hd1,bD⟩:=Mi hl ((k3.drop off).take (n*u.sz));refine⟨some ⟨(I id).1,off,none⟩,n,by rw[hu,bD],by omega,λh0=>⟨(I id).1,off,rfl,.inr ⟨h.lo id _ hg trivial,h.hi id _ hg trivial,(λid B hB=>by cases hB),h.aI.2 id _ hg trivial⟩,λi hi=>?_⟩⟩;obtain⟨ds,d1,d2,d3⟩:=hd1.Nv i hi;refine⟨ds,d1,λj hj=>?_,p7.mono (λb hb=>⟨dZ b hb,rfl⟩) _ _ _ d3⟩;rw[rR w _ _ arr e fr k1,<-d2 j hj]
 have hb:i*u.sz+j<n*u.sz:=by
  have:(i+1)*u.sz<=n*u.sz:=nL _ (by omega);rw[qR]at this;omega
 dsimp only;rw[yC,ay hb,yD];simp
variable{hint:Ty}{v:SV}{u:Value}
def qI7(h:aQ w0 R0 I w m)(hv:aJ (RO w0 R0 I w m) I m.next w v u)(hd:(DV hint m v).data=true):aJ (RO w0 R0 I w ⟨0,.e⟩) I 0 w (DV hint m v) u:=by
 have dZ:=h.bare.2;unfold DV at hd ⊢
 split at hd
 .split at hd
  .exact aJ.data dZ _ _ hd hv
  .exact⟨none,0,by rw[show u=_ from hv];rfl,bA _,λh=>absurd h (gZ _)⟩
 .rename_i id
  split at hd
  .rename_i t l hg
   obtain⟨_,a,hu,ha⟩:=hv;obtain⟨b1,b2,hp⟩:=h.box id _ hg;refine⟨a,(I id).2.2,by rw[hu,b1],b2,λh0=>?_⟩;have h0:0< (I id).2.2:=qS h0 b2;obtain⟨arr,e,fr,k1,k2,k3,k4⟩:=hp h0;refine⟨(I id).1,0,ha h0,.inr ⟨h.lo id _ hg h0,h.hi id _ hg h0,(λid B hB=>by cases hB),h.aI.2 id _ hg h0⟩,λi hi=>?_⟩;obtain⟨cs,c1,c2,c3⟩:=k4 i hi;refine⟨cs,c1,λj hj=>?_,p7.mono (λb hb=>⟨dZ b hb,rfl⟩) _ _ _ c3⟩;rw[rR w _ _ arr e fr k1,gY];exact c2 j hj
  .cases hd
 .rename_i id off n
  split at hd
  .rename_i cs hg
   split at hd
   .rename_i l hl
    exact zp6 h hg hl hv.2
   .cases hd
  .cases hd
 .exact aJ.data dZ _ _ hd hv
theorem qJ1(h:aQ w0 R0 I w m):∀{cs:List SV} {us:List Value},j8 (RO w0 R0 I w m) I m.next w cs us->f7 (Gx hint m cs)=true->j8 (RO w0 R0 I w ⟨0,.e⟩) I 0 w (Gx hint m cs) us
 |[],_,hr,_=>hr
 |x::xs,us,hr,hd=>by
  obtain⟨u,iM,rfl,h2,h3⟩:=hr;unfold Gx at hd ⊢;rw[wP]at hd
  cases h4:(DV hint m x).data with
  |false=>rw[h4]at hd;cases hd
  |true=>rw[h4]at hd;exact⟨u,iM,rfl,qI7 h h2 h4,qJ1 h h3 hd⟩
def qI9(h:aQ w0 R0 I w m)(hv:aJ (RO w0 R0 I w m) I m.next w v u)(hd:(DU hint m v).data=true):aJ (RO w0 R0 I w ⟨0,.e⟩) I 0 w (DU hint m v) u:=by
 unfold DU at hd ⊢
 split at hd
 .obtain⟨vs,h1,h2⟩:=hv
  exact⟨vs,h1,qJ1 h h2 (by rw[<-AV];exact hd)⟩
 .exact qI7 h hv hd
theorem qJ3(h:aQ w0 R0 I w m):∀{cs:List SV} {us:List Value},j8 (RO w0 R0 I w m) I m.next w cs us->f7 (Gw hint m cs)=true->j8 (RO w0 R0 I w ⟨0,.e⟩) I 0 w (Gw hint m cs) us
 |[],_,hr,_=>hr
 |x::xs,us,hr,hd=>by
  obtain⟨u,iM,rfl,h2,h3⟩:=hr;unfold Gw at hd ⊢;rw[wP]at hd
  cases h4:(DU hint m x).data with
  |false=>rw[h4]at hd;cases hd
  |true=>rw[h4]at hd;exact⟨u,iM,rfl,qI9 h h2 h4,qJ3 h h3 hd⟩
def qJ4(h:aQ w0 R0 I w m)(hv:aJ (RO w0 R0 I w m) I m.next w v u)(hd:(ud hint m v).data=true):aJ (RO w0 R0 I w ⟨0,.e⟩) I 0 w (ud hint m v) u:=by
 unfold ud at hd ⊢
 split at hd
 .obtain⟨vs,h1,h2⟩:=hv
  exact⟨vs,h1,qJ3 h h2 (by rw[<-IV];exact hd)⟩
 .exact qI9 h hv hd
section
variable {P:Program} {E:Env} {α:Type}
def zP2{l:List SV}(h:f7 l=true):∀x∈l,x.data=true:=by
 induction l with
 |nil=>intro x hx;cases hx
 |cons y ys ih=>
  rw[wP]at h;intro x hx
  cases hy:y.data with
  |false=>rw[hy]at h;cases h
  |true=>
   rw[hy]at h;rcases qT.1 hx with rfl|hx
   .exact hy
   .exact ih h x hx
def x88{o:Oper}{ev:Operand->SV}{hint:Ty}{v:SV}{mc:Mem}(hd:f7 (o.op.operands.toList.map ev)=true)(hv:(ud hint mc v).data=true)(h:jK P ⟨0,.e⟩ v mc o ev)(m:Mem):jK P m (ud hint mc v) m o ev:=by
 intro w0 R0 I w eb hm bJ;obtain⟨o1,o2⟩:=xh hm I
 have h1:=h w (RS w0 R0 I w m) I w eb o1 λx hx=>aJ.data o2 _ _ (zP2 hd _ (EM.2 ⟨x,by simpa using hx,rfl⟩)) (bJ x hx)
 refine kN.mono (λu w' ⟨I',g1,g2,g3⟩=>?_) h1;have cR:=Hand.start hm g1.bare.1;obtain⟨k1,k2⟩:=cR.finish hm g1.bare.1;exact⟨I,k1,k2,aJ.data (λb hb=>cR.ro b (.inr hb)) _ u hv (qJ4 g1 g3 hv)⟩
def IF(P:Program)(E:Env)(all:List Oper)(o:Oper)(fr:Fr)(m:Mem)(v:SV)(m':Mem):Prop:=
 lM E o.op=true\/(m'=m/\∀m2,gE P all o fr m2 v m2)
variable{fr:Fr}{m:Mem}
def yT2(hE:dF P E){call:eS α}(ga:jL P false call){all:List Oper}{o:Oper}{ih:gR α}{p:ax}{L:α->Prop}(h:(J3 E call o ih p fr m).holds L):
  ∃p' v aW m1,(ih p' aW m1).holds L/\gE P all o fr m v m1/\gf fr o.dst v aW/\IF P E all o fr m v m1:=by
 unfold J3 at h
 split at h
 .rename_i hg
  have ph:fV all fr.get o=some true:=by unfold fV;rw[hg]
  split at h
  .rename_i hw
   obtain⟨v,p',m1,h1,_,h3,h4⟩:=A1 hE ga h;obtain⟨aW,h5,h6⟩:=vt h1;exact⟨p',v,aW,m1,h6,.inl ⟨ph,h3⟩,h5,.inl hw⟩
  .split at h
   .rename_i hp
    obtain⟨v,p',m1,h1,_,h3,h4⟩:=A1 hE ga h;obtain⟨aW,h5,h6⟩:=vt h1;exact⟨p',v,aW,m,h6,.inl ⟨ph,h4.pure hp m⟩,h5,.inr ⟨rfl,λm2=>.inl ⟨ph,h4.pure hp m2⟩⟩⟩
   .split at h
    .rename_i hd
     obtain⟨v,p',mc,h1,_,h3,h4⟩:=A1 hE ga h
     split at h1
     .rename_i hv
      rw[pU]at h1;obtain⟨aW,h5,h6⟩:=vt h1;have key:=x88 hd hv h3;exact⟨p',_,aW,m,h6,.inl ⟨ph,key m⟩,h5,.inr ⟨rfl,λm2=>.inl ⟨ph,key m2⟩⟩⟩
     .exact h1.elim
    .exact h.elim
 .exact h.elim
inductive AH (P:Program) (E:Env) (all:List Oper):List Oper->Fr->Mem->Fr->Mem->Prop where
 |nil (fr:Fr) (m:Mem):AH P E all [] fr m fr m
 |cons {o:Oper} {rest:List Oper} {fr aW aD:Fr} {m m1 m':Mem} {v:SV} (h:gE P all o fr m v m1) (hx:IF P E all o fr m v m1) (hf:gf fr o.dst v aW) (k:AH P E all rest aW m1 aD m'):AH P E all (o::rest) fr m aD m'
theorem Xf(hE:dF P E){call:eS α}(ga:jL P false call){all:List Oper}{k:gR α}{L:α->Prop}:∀ (ops:List Oper) (p:ax) (fr:Fr) (m:Mem),(z17 E call ops k p fr m).holds L->
  ∃p' aD m',(k p' aD m').holds L/\AH P E all ops fr m aD m'
 |[],p,fr,m,h=>⟨p,fr,m,h,.nil fr m⟩
 |o::rest,p,fr,m,h=>by
  change (J3 E call o (z17 E call rest k) p fr m).holds L at h
  obtain⟨p1,v,aW,m1,h1,h2,h3,h4⟩:=yT2 (all:=all) hE ga h;obtain⟨p',aD,m',h5,h6⟩:=Xf hE ga rest p1 aW m1 h1;exact⟨p',aD,m',h5,.cons h2 h4 h3 h6⟩
structure UE (P:Program) (E:Env) (all:List Oper) (m m':Mem) (fr aD:Fr) (aS:Nat->Fr) (aO:Nat->SV) (ms:Nat->Mem):Prop where
 first:aS 0=fr
 last:aS all.length=aD
 mfirst:ms 0=m
 D6:ms all.length=m'
 step:∀i o,all[i]? =some o->gE P all o (aS i) (ms i) (aO i) (ms (i+1))
 more:∀i o,all[i]? =some o->IF P E all o (aS i) (ms i) (aO i) (ms (i+1))
 next:∀i o,all[i]? =some o->gf (aS i) o.dst (aO i) (aS (i+1))
def AH.index{all:List Oper}:∀{ops:List Oper} {fr aD:Fr} {m m':Mem},AH P E all ops fr m aD m'->∃ (aS:Nat->Fr) (aO:Nat->SV) (ms:Nat->Mem),aS 0=fr/\aS ops.length=aD/\ms 0=m/\ms ops.length=m'/\
  (∀i o,ops[i]? =some o->gE P all o (aS i) (ms i) (aO i) (ms (i+1)))/\(∀i o,ops[i]? =some o->IF P E all o (aS i) (ms i) (aO i) (ms (i+1)))/\(∀i o,ops[i]? =some o->gf (aS i) o.dst (aO i) (aS (i+1))):=by
 intro ops fr aD m m' h
 induction h with
 |nil fr m=>exact⟨λ_=>fr,λ_=>.undef,λ_=>m,rfl,rfl,rfl,rfl,λi o h=>by simp at h,λi o h=>by simp at h,λi o h=>by simp at h⟩
 |@cons o rest fr aW aD m m1 m' v cR hx hf k ih=>
  obtain⟨aS,aO,ms,h1,h2,Au,HI,h3,Tl,h4⟩:=ih;refine⟨λi=>Nat.casesOn i fr aS,λi=>Nat.casesOn i v aO,λi=>Nat.casesOn i m ms,rfl,h2,rfl,HI,λi o' hi=>?_,λi o' hi=>?_,λi o' hi=>?_⟩
  .cases i with
   |zero=>simp at hi;subst hi;dsimp only;rw[Au];exact cR
   |succ i=>exact h3 i o' (by simpa using hi)
  .cases i with
   |zero=>simp at hi;subst hi;dsimp only;rw[Au];exact hx
   |succ i=>exact Tl i o' (by simpa using hi)
  .cases i with
   |zero=>simp at hi;subst hi;dsimp only;rw[h1];exact hf
   |succ i=>exact h4 i o' (by simpa using hi)
variable{m':Mem}{aD:Fr}
def AH.toWalk{all:List Oper}(h:AH P E all all fr m aD m'):∃aS aO ms,UE P E all m m' fr aD aS aO ms:=
 let ⟨aS,aO,ms,h1,h2,h3,h4,h5,h6,h7⟩:=h.index
 ⟨aS,aO,ms,h1,h2,h3,h4,h5,h6,h7⟩
def mW(E:Env)(all:List Oper)(ms:Nat->Mem)(S:Nat->Bool):Nat->Mem
 |0=>ms 0
 |n+1=>if S n=true/\(all[n]?).any (λo=>lM E o.op)=true then ms (n+1)else mW E all ms S n
variable{ms:Nat->Mem}{S:Nat->Bool}
theorem Oz{all:List Oper}{S':Nat->Bool}:∀ (n:Nat),(∀k,k<n->(all[k]?).any (λo=>lM E o.op)=true->S k=S' k)->mW E all ms S n=mW E all ms S' n
 |0,_=>rfl
 |n+1,h=>by
  simp only[mW];rw[Oz n λk hk=>h k (by omega)]
  by_cases hw:(all[n]?).any (λo=>lM E o.op)=true
  .rw[h n (by omega) hw]
  .rw[au (λc=>hw c.2),au (λc=>hw c.2)]
theorem IZ{all:List Oper}{i:Nat}:∀ (n:Nat),i<=n->(∀k,i<=k->k<n->(all[k]?).any (λo=>lM E o.op)=true->S k=false)->mW E all ms S n=mW E all ms S i
 |0,hi,_=>by rw[Nat.le_zero.1 hi]
 |n+1,hi,h=>by
  rcases jv n i with h1|h1
  .rw[show i=n+1 by omega]
  .simp only[mW]
   rw[au (λc=>by have:=h n h1 (by omega) c.2;rw[c.1]at this;cases this),IZ n h1 λk h1 h2=>h k h1 (by omega)]
theorem I1{all:List Oper}(hk:∀ (i:Nat) (o:Oper),all[i]? =some o->lM E o.op=false->ms (i+1)=ms i):∀ (n:Nat),n<=all.length->(∀k,k<n->(all[k]?).any (λo=>lM E o.op)=true->S k=true)->mW E all ms S n=ms n
 |0,_,_=>rfl
 |n+1,hn,h=>by
  simp only[mW];have ho:all[n]? =some all[n] :=cc (by omega)
  by_cases hw:(all[n]?).any (λo=>lM E o.op)=true
  .rw[ay ⟨h n (by omega) hw,hw⟩]
  .rw[au (λc=>hw c.2),I1 hk n (by omega) λk h1=>h k (by omega)]
   refine(hk n _ ho ?_).symm;rw[ho]at hw;simpa using hw
def WH{all:List Oper}(h:Ja E all=true):∀ (j:Nat) (oj:Oper),all[j]? =some oj->lM E oj.op=true->∀ (i:Nat) (oi:Oper),i<j->all[i]? =some oi->lM E oi.op=true->pI all 3 oj i=true:=by
 intro j oj hj hs i oi lh hi hwi;simp only[Ja,nM]at h;have h3:=h (oj,j) (Ic.2 hj);simp only[hs,qt,yG,nM]at h3;have h4:=h3 (oi,i) (Ic.2 hi)
 have hb:Nat.blt i j=true:=by rw[UP];exact lh
 simpa only[hb,hwi,qt,yG]using h4
def qF9{all:List Oper}{aS:Nat->Fr}{aO:Nat->SV}(hw:UE P E all m m' fr aD aS aO ms)(k:Nat)(o:Oper)(ho:all[k]? =some o)(fW:lM E o.op=false):ms (k+1)=ms k:=by
 rcases hw.more k o ho with h|h
 .rw[fW]at h;cases h
 .exact h.1
def qG0{all:List Oper}{aS:Nat->Fr}{aO:Nat->SV}(hw:UE P E all m m' fr aD aS aO ms)(Nf:Ja E all=true)
  (S:Nat->Bool) (i:Nat) (o:Oper) (bT:all[i]? =some o) (jY:S i=false) (eT:∀ (j:Nat) (oj:Oper),all[j]? =some oj->S j=true->∀e∈oj.after,Region.binds .any e=true->S e.on=true) (Hl:∀e∈o.after,Region.binds .any e=true->S e.on=true):
  gE P all o (aS i) (mW E all ms S all.length) (aO i) (mW E all ms (λk=>if k=i then true else S k) all.length):=by
 have jX:i<all.length:=(iZ.1 bT).1
 have pg:∀ (k:Nat) (o:Oper),all[k]? =some o->lM E o.op=false->ms (k+1)=ms k:=λk o ho fW=>qF9 hw k o ho fW
 have BN:∀{k:Nat} {o:Oper},all[k]? =some o->((all[k]?).any (λo=>lM E o.op)=true↔lM E o.op=true):=λ{k o} ho=>by rw[ho];simp
 by_cases fW:lM E o.op=true
 .have HH:∀k,k<i->(all[k]?).any (λo=>lM E o.op)=true->S k=true:=by
   intro k hk js;have ho:all[k]? =some all[k] :=cc (by omega);exact wS eT 3 o k Hl (WH Nf i o bT fW k _ hk ho ((BN ho).1 js))
  have HF:∀k,i<k->k<all.length->(all[k]?).any (λo=>lM E o.op)=true->S k=false:=by
   intro k hk Aq js;have ho:all[k]? =some all[k] :=cc Aq;rcases pE (S k)with h|h
   .have:=wS eT 3 _ i (λe he hb=>eT k _ ho h e he hb) (WH Nf k _ ho ((BN ho).1 js) i o hk bT fW)
    rw[jY]at this;cases this
   .exact h
  have e1:mW E all ms S all.length=ms i:=by
   rw[IZ (i:=i) all.length (by omega) (λk h1 h2 h3=>?_),I1 pg i (by omega) HH]
   by_cases dB:k=i
   .rw[dB];exact jY
   .exact HF k (by omega) h2 h3
  have e2:mW E all ms (λk=>if k=i then true else S k) all.length=ms (i+1):=by
   rw[IZ (i:=i+1) all.length (by omega) (λk h1 h2 h3=>?_),I1 pg (i+1) (by omega) (λk h1 h2=>?_)]
   .by_cases dB:k=i
    .rw[ay dB]
    .rw[au dB];exact HH k (by omega) h2
   .rw[au (by omega)];exact HF k (by omega) h2 h3
  rw[e1,e2];exact hw.step i o bT
 .have e2:mW E all ms (λk=>if k=i then true else S k) all.length=mW E all ms S all.length:=by
   refine Oz _ λk hk js=>?_
   by_cases dB:k=i
   .subst dB;exact absurd ((BN bT).1 js) fW
   .simp[dB]
  rw[e2];rcases hw.more i o bT with h|h
  .exact absurd h fW
  .exact h.2 _
end
variable{m2:Mem}
def RO.congr(hg:∀id,m2.get id=m.get id):RO w0 R0 I w m2=RO w0 R0 I w m:=by
 funext b;unfold RO;simp only[hg]
theorem aQ.congr(hg:∀id,m2.get id=m.get id)(hn:m2.next=m.next)(h:aQ w0 R0 I w m):aQ w0 R0 I w m2:=by
 refine⟨h.below,λid B hB=>?_,λid B hB=>h.lo id B (by rw[<-hg];exact hB),λid B hB=>h.hi id B (by rw[<-hg];exact hB),λid bY B B' hB rN=>h.inj id bY B B' (by rw[<-hg];exact hB) (by rw[<-hg];exact rN),λid B hB=>?_,h.aI.1,λid B hB=>h.aI.2 id B (by rw[<-hg];exact hB)⟩;.rw[hn];exact h.lt id B (by rw[<-hg];exact hB)
 .rw[RO.congr hg,hn];exact h.box id B (by rw[<-hg];exact hB)
theorem n9.congr{bh:Mem}{w':World}(hg:∀id,m2.get id=m.get id)(hn:m2.next=m.next)(lk:∀id,bh.get id=m'.get id)(gW:bh.next=m'.next)(h:n9 w0 R0 I w m v m' u w'):n9 w0 R0 I w m2 v bh u w':=by
 obtain⟨I',g1,g2,g3⟩:=h;refine⟨I',g1.congr lk gW,?_,?_⟩
 .unfold m8
  rw[RO.congr hg,RO.congr lk,hn,gW];exact g2
 .rw[RO.congr lk,gW];exact g3
theorem jK.congr{P:Program}{bh:Mem}{o:Oper}{ev:Operand->SV}(hg:∀id,m2.get id=m.get id)(hn:m2.next=m.next)(lk:∀id,bh.get id=m'.get id)(gW:bh.next=m'.next)(h:jK P m v m' o ev):jK P m2 v bh o ev:=by
 intro w0 R0 I w eb hm bJ;have h1:=h w0 R0 I w eb (hm.congr (λid=>(hg id).symm) hn.symm) (λx hx=>by rw[<-RO.congr hg,<-hn];exact bJ x hx);exact kN.mono (λu w' hu=>hu.congr hg hn lk gW) h1
theorem F4{β O α:Type}{L:α->Prop}:∀ (d:Nat) (t:Tb β) (i:Nat) (v:Option β) (k:Tb β->ak α),(e9 d t i v k).holds L->∀ (t2:Tb O) (v2:Option O),∃t2',∀ (δ:Type) (k2:Tb O->ak δ),e9 d t2 i v2 k2=k2 t2'
 |0,_,_,_,_,h=>h.elim
 |d+1,t,0,v,k,h=>λt2 v2=>by
  cases t2 with
  |e=>exact⟨_,λ_ _=>rfl⟩
  |n l u r=>exact⟨_,λ_ _=>rfl⟩
 |d+1,t,j+1,v,k,h=>λt2 v2=>by
  have down:∃ (t':Tb β) (α':Type) (L':α'->Prop) (k':Tb β->ak α'),(e9 d t' (j / 2) v k').holds L':=by
   cases t with
   |e=>
    change (Tb.pick j (λi=>e9 d .e i v λl=>k (.n l none .e)) (λi=>e9 d .e i v λr=>k (.n .e none r))).holds L at h
    by_cases hj:j % 2=0
    .rw[Tb.fG hj]at h;exact⟨_,_,_,_,h⟩
    .rw[Tb.fF hj]at h;exact⟨_,_,_,_,h⟩
   |n l u r=>
    change (Tb.pick j (λi=>e9 d l i v λl=>k (.n l u r)) (λi=>e9 d r i v λr=>k (.n l u r))).holds L at h
    by_cases hj:j % 2=0
    .rw[Tb.fG hj]at h;exact⟨_,_,_,_,h⟩
    .rw[Tb.fF hj]at h;exact⟨_,_,_,_,h⟩
  obtain⟨t',α',L',k',h'⟩:=down
  cases t2 with
  |e=>
   obtain⟨t3,h3⟩:=F4 d t' (j / 2) v k' h' (.e:Tb O) v2
   by_cases hj:j % 2=0
   .exact⟨_,λδ k2=>by
     change Tb.pick j (λi=>e9 d .e i v2 λl=>k2 (.n l none .e)) (λi=>e9 d .e i v2 λr=>k2 (.n .e none r))=_
     rw[Tb.fG hj,h3]⟩
   .exact⟨_,λδ k2=>by
     change Tb.pick j (λi=>e9 d .e i v2 λl=>k2 (.n l none .e)) (λi=>e9 d .e i v2 λr=>k2 (.n .e none r))=_
     rw[Tb.fF hj,h3]⟩
  |n l u r=>
   by_cases hj:j % 2=0
   .obtain⟨t3,h3⟩:=F4 d t' (j / 2) v k' h' l v2
    exact⟨_,λδ k2=>by
     change Tb.pick j (λi=>e9 d l i v2 λl=>k2 (.n l u r)) (λi=>e9 d r i v2 λr=>k2 (.n l u r))=_
     rw[Tb.fG hj,h3]⟩
   .obtain⟨t3,h3⟩:=F4 d t' (j / 2) v k' h' r v2
    exact⟨_,λδ k2=>by
     change Tb.pick j (λi=>e9 d l i v2 λl=>k2 (.n l u r)) (λi=>e9 d r i v2 λr=>k2 (.n l u r))=_
     rw[Tb.fF hj,h3]⟩
def x93{β:Type}{d:Nat}{t t':Tb β}{i:Nat}{v:Option β}(h:∀ (δ:Type) (k2:Tb β->ak δ),e9 d t i v k2=k2 t'):AQ t i v t':=by
 obtain⟨t2,g1,g2⟩:=xP (L:=λx=>x=t') d t i v .ai (by rw[h];exact rfl);obtain rfl:t2=t':=g2;exact g1
def Mem.Gb{α:Type}{L:α->Prop}{id:Nat}{b:Option aR}{k:Mem->ak α}(h:(m.set id b k).holds L)(m2:Mem)(b2:Option aR):∃bh,mT m2 id b2 bh/\∀ (δ:Type) (k2:Mem->ak δ),m2.set id b2 k2=k2 bh:=by
 obtain⟨t',ht⟩:=F4 40 m.tb id b (λtb=>k ⟨m.next,tb⟩) h m2.tb b2;exact⟨⟨m2.next,t'⟩,⟨x93 ht,rfl⟩,λδ k2=>ht δ _⟩
def Mem.D4{α:Type}{L:α->Prop}{B:aR}{k:Mem->Nat->ak α}(h:(m.push B k).holds L)(m2:Mem)(B2:aR)(hn:m2.next=m.next):∃bh,mU m2 B2 bh/\∀ (δ:Type) (k2:Mem->Nat->ak δ),m2.push B2 k2=k2 bh m2.next:=by
 unfold Mem.push at h;rw[R9]at h;obtain⟨t',ht⟩:=F4 40 m.tb m.next (some B) (λtb=>k ⟨m.next+1,tb⟩ m.next) h m2.tb (some B2);rw[<-hn]at ht;refine⟨⟨m2.next+1,t'⟩,⟨x93 ht,rfl⟩,λδ k2=>?_⟩;unfold Mem.push;rw[R9];exact ht δ _
theorem FQ{α:Type}{L:α->Prop}:∀ (cs:List SV) (off:Nat) (vs:List SV) (k:List SV->ak α),(qD cs off vs k).holds L->∃r,(k r).holds L/\∀ (δ:Type) (k2:List SV->ak δ),qD cs off vs k2=k2 r
 |[],off,[],k,h=>⟨[],h,λ_ _=>rfl⟩
 |[],off,_::_,k,h=>h.elim
 |c::cs,off,[],k,h=>⟨_,h,λ_ _=>rfl⟩
 |c::cs,0,v::vs,k,h=>by
  change (jZ v λv=>qD cs 0 vs λys=>k (v::ys)).holds L at h
  rw[pU]at h;obtain⟨r,h1,h2⟩:=FQ cs 0 vs _ h;refine⟨_,h1,λδ k2=>?_⟩
  change (jZ v λv=>qD cs 0 vs λys=>k2 (v::ys))=_
  rw[pU,h2]
 |c::cs,off+1,v::vs,k,h=>by
  change (qD cs off (v::vs) λys=>k (c::ys)).holds L at h
  obtain⟨r,h1,h2⟩:=FQ cs off (v::vs) _ h
  exact⟨_,h1,λδ k2=>by
   change (qD cs off (v::vs) λys=>k2 (c::ys))=_
   rw[h2]⟩
theorem PC{α:Type}{L:α->Prop}:∀ (ids:List Nat) (mF:Mem) (k:Mem->ak α),(m.only ids mF k).holds L->∃kE,(k kE).holds L/\kE.next=mF.next/\∀id,kE.get id=if id∈ids/\(m.get id).isSome=true then m.get id else mF.get id
 |[],mF,k,h=>⟨mF,h,rfl,λid=>by simp⟩
 |i::ids,mF,k,h=>by
  change ((match m.get i with
   |some B=>mF.set i (some B) λmF=>m.only ids mF k
   |none=>m.only ids mF k:ak α)).holds L at h
  cases hi:m.get i with
  |none=>
   rw[hi]at h;obtain⟨kE,h1,h2,h3⟩:=PC ids mF k h;refine⟨kE,h1,h2,λid=>?_⟩;rw[h3 id]
   by_cases e:id=i
   .subst e;rw[hi];simp
   .simp[e]
  |some B=>
   rw[hi]at h;obtain⟨m1,g1,g2⟩:=Mem.iN h;obtain⟨kE,h1,h2,h3⟩:=PC ids m1 k g2;refine⟨kE,h1,h2.trans g1.2,λid=>?_⟩;rw[h3 id,g1.1 id]
   by_cases e:id=i
   .subst e;rw[hi];simp
   .simp[e]
def PD{α:Type}{L:α->Prop}{ids:List Nat}{k:Mem->ak α}(h:(m.only ids ⟨m.next,.e⟩ k).holds L):∃mF,(k mF).holds L/\mF.next=m.next/\(∀id∈ids,mF.get id=m.get id)/\∀id,id∉ids->mF.get id=none:=by
 obtain⟨mF,h1,h2,h3⟩:=PC ids _ k h;refine⟨mF,h1,h2,λid aI=>?_,λid aI=>?_⟩
 .rw[h3 id]
  cases hx:m.get id with
  |none=>simp;exact ahU _ id
  |some B=>simp[aI]
 .rw[h3 id,au (λc=>aI c.1)];exact ahU _ id
where ahU (n k:Nat):(⟨n,.e⟩:Mem).get k=none:=rfl
theorem P3{α:Type}{L:α->Prop}{mF:Mem}:∀ (ids:List Nat) (m:Mem) (k:Mem->ak α),(Mem.L6 mF ids m k).holds L->∃m',(k m').holds L/\m'.next=m.next/\∀id,m'.get id=if id∈ids then mF.get id else m.get id
 |[],m,k,h=>⟨m,h,rfl,λid=>by simp⟩
 |i::ids,m,k,h=>by
  change (m.set i (mF.get i) λm=>Mem.L6 mF ids m k).holds L at h
  obtain⟨m1,g1,g2⟩:=Mem.iN h;obtain⟨m',h1,h2,h3⟩:=P3 ids m1 k g2;refine⟨m',h1,h2.trans g1.2,λid=>?_⟩;rw[h3 id,g1.1 id]
  by_cases e:id=i
  .subst e;simp
  .simp[e]
section
variable {P:Program} {E:Env} {α:Type} {L:α->Prop}
def O9{Q:Bool}:jL P Q (λ_ _ _ _ _=>.aA 0:eS α):=λf args p m V L h=>h.elim
variable{p:ax}{m:Mem}{v:SV}
def Kx(hE:dF P E){call:eS (SV×Mem)}(ga:jL P false call){ev:Operand->SV}{o:Oper}{m':Mem}
  (h:(execOp E call ev o.op p m λv _ m=>.ai (v,m)).holds λy=>y.1=v/\(∀id,y.2.get id=m'.get id)/\y.2.next=m'.next):jK P m v m' o ev:=by
 obtain⟨v1,p1,m1,h1,_,h2,_⟩:=A1 hE ga h;obtain⟨rfl,h3,h4⟩:=h1;exact h2.congr (λ_=>rfl) rfl (λid=>(h3 id).symm) h4.symm
def yY6{t:TypeId}{a:SV}{V:p9 α}(h:(xc E t a v p m V).holds L):
  ∃m',(V .undef p m').holds L/\∀ (m2 bh:Mem) (p2:ax),(∀id∈oJ a [],m2.get id=m.get id)->(∀id,bh.get id=if id∈oJ a []then m'.get id else m2.get id)->bh.next=m2.next->
   (xc E t a v p2 m2 λv _ m=>.ai (v,m)).holds λy=>y.1=.undef/\(∀id,y.2.get id=bh.get id)/\y.2.next=bh.next:=by
 unfold xc at h
 cases hr:E.row t with
 |none=>rw[hr]at h;cases h
 |some r=>
  rw[hr]at h;dsimp only at h
  split at h;.exact h.elim
  .rename_i hs
   cases a<;>try exact h.elim
   case ptr id off=>
    dsimp only at h
    cases hg:m.get id with
    |none=>rw[hg]at h;cases h
    |some B=>
     rw[hg]at h
     cases B<;>try exact h.elim
     case cells cs=>
      dsimp only at h;obtain⟨cs',h1,h2⟩:=FQ _ _ _ _ h;obtain⟨m',h3,h4⟩:=Mem.iN h1;refine⟨m',h4,λm2 bh p2 ha hp hn=>?_⟩;have ha:=ha id (by simp[oJ,oA,idx]);obtain⟨m3,h5,h6⟩:=Mem.Gb h1 m2 (some (.cells cs'));unfold xc;rw[hr];dsimp only;rw[hs];dsimp only;rw[ha,hg];dsimp only;rw[h2,h6];refine⟨rfl,λbY=>?_,h5.2.trans hn.symm⟩;rw[h5.1 bY,hp bY,h3.1 bY]
      by_cases e:bY=id
      .subst e;simp[oJ,oA,idx]
      .simp[oJ,oA,idx,e]
     case obj u cs=>
      dsimp only at h;obtain⟨cs',h1,h2⟩:=FQ _ _ _ _ h;obtain⟨m',h3,h4⟩:=Mem.iN h1;refine⟨m',h4,λm2 bh p2 ha hp hn=>?_⟩;have ha:=ha id (by simp[oJ,oA,idx]);obtain⟨m3,h5,h6⟩:=Mem.Gb h1 m2 (some (.obj u cs'));unfold xc;rw[hr];dsimp only;rw[hs];dsimp only;rw[ha,hg];dsimp only;rw[h2,h6];refine⟨rfl,λbY=>?_,h5.2.trans hn.symm⟩;rw[h5.1 bY,hp bY,h3.1 bY]
      by_cases e:bY=id
      .subst e;simp[oJ,oA,idx]
      .simp[oJ,oA,idx,e]
   case iy id sz i off=>
    dsimp only at h
    cases hg:m.get id with
    |none=>rw[hg]at h;cases h
    |some B=>
     rw[hg]at h
     cases B<;>try exact h.elim
     case rows u l=>
      dsimp only at h
      split at h
      .rename_i bS
       obtain⟨Ew,h⟩:=h;obtain⟨cs',h1,h2⟩:=FQ _ _ _ _ h
       split at h1
       .rename_i x hx
        obtain⟨m',h3,h4⟩:=Mem.iN h1;refine⟨m',h4,λm2 bh p2 ha hp hn=>?_⟩;have ha:=ha id (by simp[oJ,oA,idx]);obtain⟨m3,h5,h6⟩:=Mem.Gb h1 m2 (some (.rows u (l.set i x)));unfold xc;rw[hr];dsimp only;rw[hs];dsimp only;rw[ha,hg];dsimp only;rw[bS];dsimp only;refine⟨Ew,?_⟩;rw[h2,hx];dsimp only;rw[h6];refine⟨rfl,λbY=>?_,h5.2.trans hn.symm⟩;rw[h5.1 bY,hp bY,h3.1 bY]
        by_cases e:bY=id
        .subst e;simp[oJ,oA,idx]
        .simp[oJ,oA,idx,e]
       .exact h1.elim
      .exact h.elim
def Cu{u:Ty}{m2:Mem}{x:SV}(h:∀id,gH id x=true->m2.get id=m.get id):oC u m2 x=oC u m x:=by
 cases x<;>try rfl
 case row id=>
  have:=h id (by simp[gH]);simp only[oC,this]
 case arr id off n=>
  have:=h id (by simp[gH]);simp only[oC,this]
def Fz{id n k:Nat}:id∈List.range' n k↔n<=id/\id<n+k:=by simp[List.mem_range'_1]
def yU8{t:TypeId}{s x:SV}{V:p9 α}(h:(lD E t s x p m V).holds L):
  ∃v p' m',(V v p' m').holds L/\m.next<=m'.next/\∀ (F:List Nat) (m2 bh:Mem),(∀id,gH id s=true\/gH id x=true->id∈F)->(∀id∈F,m2.get id=m.get id)->m2.next=m.next->
   (∀id,bh.get id=if id∈F++List.range' m.next (m'.next-m.next)then m'.get id else m2.get id)->bh.next=m'.next->
   (lD E t s x .kK m2 λv _ m=>.ai (v,m)).holds λy=>y.1=v/\(∀id,y.2.get id=bh.get id)/\y.2.next=bh.next:=by
 unfold lD at h
 split at h
 .rename_i e sz iI ze F8 eg he cF
  split at h
  .rename_i de size bytes Od u Ur HB kG
   split at h
   .rename_i hs
    split at h
    .rename_i xs sX
     split at h
     . -- nil
       obtain⟨hb,h⟩:=h;obtain⟨m',h1,h2⟩:=Mem.nB h;refine⟨_,p,m',h2,by rw[h1.2];omega,λF m2 bh hF ha hn hp gW=>?_⟩;obtain⟨m3,h5,h6⟩:=Mem.D4 h m2 (.rows u xs) hn;unfold lD;rw[cF];dsimp only;rw[kG];dsimp only;rw[hs];dsimp only;rw[Cu (λid aI=>ha id (hF id (.inr aI))),sX];dsimp only;refine⟨hb,?_⟩;rw[h6];refine⟨by rw[hn],λid=>?_,by rw[h5.2,hn,gW,h1.2]⟩;rw[h5.1 id,hp id,h1.1 id,hn];simp only[wu,Fz,h1.2]
       by_cases e1:id=m.next
       .subst e1;simp
       .rw[au e1,au e1]
        by_cases e2:id∈F
        .rw[ay (.inl e2)];exact ha id e2
        .rw[au (λc=>c.elim e2 λc=>by omega)]
     . -- a row
       rename_i id
       split at h
       .rename_i v l hg
        split at h
        .rename_i hv
         obtain⟨hb,h⟩:=h;obtain⟨m1,h1,h2⟩:=Mem.iN h;obtain⟨m',h3,h4⟩:=Mem.nB h2;refine⟨_,p,m',h4,by rw[h3.2,h1.2];omega,λF m2 bh hF ha hn hp gW=>?_⟩;have aI:id∈F:=hF id (.inl (by simp[gH]));obtain⟨m4,h5,h6⟩:=Mem.Gb h m2 none;obtain⟨m5,h7,h8⟩:=Mem.D4 h2 m4 (.rows u ((hv▸l:List u.T)++xs)) (by rw[h5.2,h1.2,hn]);unfold lD;rw[cF];dsimp only;rw[kG];dsimp only;rw[hs];dsimp only;rw[Cu (λid aI=>ha id (hF id (.inr aI))),sX];dsimp only;rw[ha id aI,hg];dsimp only;rw[dif_pos hv];refine⟨hb,?_⟩;rw[h6,h8];refine⟨by rw[h5.2,h1.2,hn],λj=>?_,by rw[h7.2,h5.2,hn,gW,h3.2,h1.2]⟩;rw[h7.1 j,hp j,h3.1 j,h5.2,h1.2,hn];simp only[wu,Fz,h3.2,h1.2]
         by_cases e1:j=m.next
         .subst e1;simp
         .rw[au e1,au e1,h5.1 j,h1.1 j]
          by_cases e3:j=id
          .subst e3;rw[ay rfl,ay rfl];simp[aI]
          .rw[au e3,au e3]
           by_cases e2:j∈F
           .rw[ay (.inl e2)];exact ha j e2
           .rw[au (λc=>c.elim e2 λc=>by omega)]
        .exact h.elim
       .exact h.elim
     . -- an aBp slice
       rename_i id off n
       split at h
       .rename_i l hl
        obtain⟨p',h⟩:=qy h
        cases xY:xs.isEmpty with
        |true=>
         rw[xY]at h;refine⟨_,p',m,h,bA _,λF m2 bh hF ha hn hp gW=>?_⟩;unfold lD;rw[cF];dsimp only;rw[kG];dsimp only;rw[hs];dsimp only;rw[Cu (λid aI=>ha id (hF id (.inr aI))),sX];dsimp only;rw[Cu (λid aI=>ha id (hF id (.inl aI))),hl];dsimp only;rw[xY];refine⟨rfl,λj=>?_,by rw[hn,gW]⟩;rw[hp j]
         by_cases e2:j∈F
         .rw[ay (ail _ e2)];exact ha j e2
         .rw[au (by simp[e2])]
        |false=>
         rw[xY]at h;obtain⟨hb,h⟩:=h;obtain⟨m',h1,h2⟩:=Mem.nB h;refine⟨_,p',m',h2,by rw[h1.2];omega,λF m2 bh hF ha hn hp gW=>?_⟩;obtain⟨m3,h5,h6⟩:=Mem.D4 h m2 (.rows u (l++xs)) hn;unfold lD;rw[cF];dsimp only;rw[kG];dsimp only;rw[hs];dsimp only;rw[Cu (λid aI=>ha id (hF id (.inr aI))),sX];dsimp only;rw[Cu (λid aI=>ha id (hF id (.inl aI))),hl];dsimp only;rw[xY];refine⟨hb,?_⟩;rw[h6];refine⟨by rw[hn],λid=>?_,by rw[h5.2,hn,gW,h1.2]⟩;rw[h5.1 id,hp id,h1.1 id,hn];simp only[wu,Fz,h1.2]
         by_cases e1:id=m.next
         .subst e1;simp
         .rw[au e1,au e1]
          by_cases e2:id∈F
          .rw[ay (.inl e2)];exact ha id e2
          .rw[au (λc=>c.elim e2 λc=>by omega)]
       .exact h.elim
     .exact h.elim
    .exact h.elim
   .exact h.elim
  .exact h.elim
 .exact h.elim
def Vy{mc:Mem}{k:SV->Mem->Mem->ak α}(h:(jb v mc m k).holds L):∃v' gp m',(k v' gp m').holds L/\m.next<=m'.next/\(∀id,¬(m.next<=id/\id<m'.next)->m'.get id=m.get id)/\
  ∀m2:Mem,m2.next=m.next->∃bh,bh.next=m'.next/\(∀id,bh.get id=if m.next<=id/\id<m'.next then m'.get id else m2.get id)/\∀ (δ:Type) (k2:SV->Mem->Mem->ak δ),jb v mc m2 k2=k2 v' gp bh:=by
 have plain:∀v:SV,(∀ (m:Mem) (δ:Type) (k:SV->Mem->Mem->ak δ),jb v mc m k=k v mc m)->(k v mc m).holds L->∃v' gp m',(k v' gp m').holds L/\m.next<=m'.next/\(∀id,¬(m.next<=id/\id<m'.next)->m'.get id=m.get id)/\
   ∀m2:Mem,m2.next=m.next->∃bh,bh.next=m'.next/\(∀id,bh.get id=if m.next<=id/\id<m'.next then m'.get id else m2.get id)/\∀ (δ:Type) (k2:SV->Mem->Mem->ak δ),jb v mc m2 k2=k2 v' gp bh:=
  λv he h=>⟨v,mc,m,h,bA _,λ_ _=>rfl,λm2 hn=>⟨m2,hn,λid=>by rw[au (by omega)],λδ k2=>he m2 δ k2⟩⟩
 cases v with
 |row id=>
  dsimp only[jb]at h
  split at h
  .rename_i t l hg
   obtain⟨gp,_,h6⟩:=Mem.Gb h mc none;rw[h6]at h;obtain⟨m',h3,h4⟩:=Mem.D4 h m (.rows t l) rfl;rw[h4]at h;refine⟨_,gp,m',h,by rw[h3.2];omega,λj hj=>by rw[h3.1 j,au (by rw[h3.2]at hj;omega)],λm2 hn=>?_⟩
   have h0:(m.push (.rows t l) λm id=>k (.row id) gp m).holds L:=by rw[h4];exact h
   obtain⟨m3,h7,h8⟩:=Mem.D4 h0 m2 (.rows t l) hn;refine⟨m3,by rw[h7.2,h3.2,hn],λj=>?_,λδ k2=>?_⟩
   .rw[h7.1 j,h3.1 j,h3.2,hn]
    by_cases e1:j=m.next
    .subst e1;simp
    .rw[au e1,au e1,au (by omega)]
   .simp only[jb,hg]
    rw[h6,h8,hn]
  .exact h.elim
 |undef=>exact plain _ (λ_ _ _=>rfl) h
 |di=>cases h
 |int a b=>exact plain _ (λ_ _ _=>rfl) h
 |bool a=>exact plain _ (λ_ _ _=>rfl) h
 |str a=>exact plain _ (λ_ _ _=>rfl) h
 |cm=>exact plain _ (λ_ _ _=>rfl) h
 |list a b=>exact plain _ (λ_ _ _=>rfl) h
 |arr a b c=>cases h
 |ptr a b=>cases h
 |pY=>exact plain _ (λ_ _ _=>rfl) h
 |jt a b c d=>exact plain _ (λ_ _ _=>rfl) h
 |iy a b c d=>cases h
 |agg cs=>
  dsimp only[jb]at h
  split at h;.rename_i hd;exact plain _ (λ_ _ _=>by dsimp only[jb];rw[hd]) h
  .exact h.elim
 |tuple cs=>
  dsimp only[jb]at h
  split at h;.rename_i hd;exact plain _ (λ_ _ _=>by dsimp only[jb];rw[hd]) h
  .exact h.elim
 |fn f a c=>
  dsimp only[jb]at h
  split at h;.rename_i hd;exact plain _ (λ_ _ _=>by dsimp only[jb];rw[hd]) h
  .exact h.elim
 |dO u=>exact plain _ (λ_ _ _=>rfl) h
theorem N4:∀ (vs:List SV) (mc m:Mem) (k:List SV->Mem->Mem->ak α),(wI vs mc m k).holds L->∃tS gp m',(k tS gp m').holds L/\m.next<=m'.next/\(∀id,¬(m.next<=id/\id<m'.next)->m'.get id=m.get id)/\
  ∀m2:Mem,m2.next=m.next->∃bh,bh.next=m'.next/\(∀id,bh.get id=if m.next<=id/\id<m'.next then m'.get id else m2.get id)/\∀ (δ:Type) (k2:List SV->Mem->Mem->ak δ),wI vs mc m2 k2=k2 tS gp bh
 |[],mc,m,k,h=>⟨[],mc,m,h,bA _,λ_ _=>rfl,λm2 hn=>⟨m2,hn,λid=>by rw[au (by omega)],λδ k2=>rfl⟩⟩
 |v::vs,mc,m,k,h=>by
  change (jb v mc m λv mc m=>wI vs mc m λvs mc m=>k (v::vs) mc m).holds L at h
  obtain⟨v',Ss,m1,h1,l1,g1,a1⟩:=Vy h;obtain⟨tS,gp,m',h2,l2,g2,a2⟩:=N4 vs Ss m1 _ h1;refine⟨v'::tS,gp,m',h2,UM l1 l2,λid aI=>by rw[g2 id (by omega),g1 id (by omega)],λm2 hn=>?_⟩;obtain⟨m3,n3,e3,k3⟩:=a1 m2 hn;obtain⟨m4,n4,e4,k4⟩:=a2 m3 n3;refine⟨m4,n4,λid=>?_,λδ k2=>?_⟩
  .rw[e4 id,e3 id]
   by_cases c2:m1.next<=id/\id<m'.next
   .rw[ay c2,ay (by omega)]
   .rw[au c2]
    by_cases c1:m.next<=id/\id<m1.next
    .rw[ay c1,ay (by omega),g2 id c2]
    .rw[au c1,au (by omega)]
  .change (jb v mc m2 λv mc m=>wI vs mc m λvs mc m=>k2 (v::vs) mc m)=_
   rw[k3,k4]
def Vv{mc:Mem}{k:SV->Mem->ak α}(h:(lU v mc m k).holds L):∃v' m',(k v' m').holds L/\m.next<=m'.next/\(∀id,¬(m.next<=id/\id<m'.next)->m'.get id=m.get id)/\
  ∀m2:Mem,m2.next=m.next->∃bh,bh.next=m'.next/\(∀id,bh.get id=if m.next<=id/\id<m'.next then m'.get id else m2.get id)/\∀ (δ:Type) (k2:SV->Mem->ak δ),lU v mc m2 k2=k2 v' bh:=by
 have one:∀v:SV,(∀ (m:Mem) (δ:Type) (k:SV->Mem->ak δ),lU v mc m k=jb v mc m λv _ m=>k v m)->(jb v mc m λv _ m=>k v m).holds L->∃v' m',(k v' m').holds L/\m.next<=m'.next/\(∀id,¬(m.next<=id/\id<m'.next)->m'.get id=m.get id)/\
   ∀m2:Mem,m2.next=m.next->∃bh,bh.next=m'.next/\(∀id,bh.get id=if m.next<=id/\id<m'.next then m'.get id else m2.get id)/\∀ (δ:Type) (k2:SV->Mem->ak δ),lU v mc m2 k2=k2 v' bh:=by
  intro v he h;obtain⟨v',gp,m',h1,l1,g1,a1⟩:=Vy h;refine⟨v',m',h1,l1,g1,λm2 hn=>?_⟩;obtain⟨m3,n3,e3,k3⟩:=a1 m2 hn;exact⟨m3,n3,e3,λδ k2=>by rw[he,k3]⟩
 cases v with
 |tuple vs=>
  obtain⟨v',gp,m',h1,l1,g1,a1⟩:=N4 vs mc m _ h;refine⟨_,m',h1,l1,g1,λm2 hn=>?_⟩;obtain⟨m3,n3,e3,k3⟩:=a1 m2 hn;exact⟨m3,n3,e3,λδ k2=>k3 _ _⟩
 |agg vs=>
  obtain⟨v',gp,m',h1,l1,g1,a1⟩:=N4 vs mc m _ h;refine⟨_,m',h1,l1,g1,λm2 hn=>?_⟩;obtain⟨m3,n3,e3,k3⟩:=a1 m2 hn;exact⟨m3,n3,e3,λδ k2=>k3 _ _⟩
 |_=>exact one _ (λ_ _ _=>rfl) h
end
section
variable {P:Program} {E:Env} {α:Type} {L:α->Prop}
def E7(P:Program)(call:eS α):Prop:=
 ∀f args p m (V:p9 α) (L:α->Prop),(call f args p m V).holds L->∃v p' m',(V v p' m').holds L/\m.next<=m'.next/\∀ (F:List Nat) (m2 bh:Mem),(∀id,iT id args=true->id∈F)->(∀id∈F,m2.get id=m.get id)->m2.next=m.next->
  (∀id,bh.get id=if id∈F++List.range' m.next (m'.next-m.next)then m'.get id else m2.get id)->bh.next=m'.next->je P m2 v bh f args
theorem JO{id:Nat}:∀{l:List SV} {x:SV},x∈l->gH id x=true->iT id l=true
 |y::l,x,h,hm=>by
  show(gH id y||iT id l)=true;rcases qT.1 h with rfl|h
  .rw[hm];rfl
  .rw[JO h hm];simp
theorem qV0:∀{l:List Nat} {k j:Nat},idx l k=some j->k∈l
 |x::l,k,j,h=>by
  unfold idx at h
  split at h
  .rename_i hx
   rw[gQ hx];exact mO
  .split at h
   .rename_i j' hj
    exact rX _ (qV0 hj)
   .cases h
def yO{id:Nat}{l:List Nat}:id∈oA id l/\∀k∈l,k∈oA id l:=by
 unfold oA
 split;.rename_i j hj;exact⟨qV0 hj,λk hk=>hk⟩
 .exact⟨by simp,λk hk=>by simp[hk]⟩
mutual
theorem qU8{k:Nat}:∀ (x:SV) (l:List Nat),(gH k x=true->k∈oJ x l)/\∀j∈l,j∈oJ x l
 |.undef,l=>⟨λh=>(by cases h),λj hj=>hj⟩
 |.di,l=>⟨λh=>(by cases h),λj hj=>hj⟩
 |.int _ _,l=>⟨λh=>(by cases h),λj hj=>hj⟩
 |.bool _,l=>⟨λh=>(by cases h),λj hj=>hj⟩
 |.str _,l=>⟨λh=>(by cases h),λj hj=>hj⟩
 |.cm,l=>⟨λh=>(by cases h),λj hj=>hj⟩
 |.list _ _,l=>⟨λh=>(by cases h),λj hj=>hj⟩
 |.row id,l=>⟨λh=>by rw[<-gQ (show Nat.beq id k=true from h)];exact yO.1,yO.2⟩
 |.arr id _ _,l=>⟨λh=>by rw[<-gQ (show Nat.beq id k=true from h)];exact yO.1,yO.2⟩
 |.ptr id _,l=>⟨λh=>by rw[<-gQ (show Nat.beq id k=true from h)];exact yO.1,yO.2⟩
 |.pY,l=>⟨λh=>(by cases h),λj hj=>hj⟩
 |.jt _ _ _ _,l=>⟨λh=>(by cases h),λj hj=>hj⟩
 |.iy id _ _ _,l=>⟨λh=>by rw[<-gQ (show Nat.beq id k=true from h)];exact yO.1,yO.2⟩
 |.agg cs,l=>DN cs l
 |.tuple cs,l=>DN cs l
 |.fn _ a b,l=>by
  obtain⟨a1,a2⟩:=DN (k:=k) a l;obtain⟨b1,b2⟩:=DN (k:=k) b (rz a l);refine⟨λh=>?_,λj hj=>b2 j (a2 j hj)⟩;have h:(iT k a||iT k b)=true:=h;rcases ia _ _▸h with h|h
  .exact b2 k (a1 h)
  .exact b1 h
 |.dO _,l=>⟨λh=>(by cases h),λj hj=>hj⟩
theorem DN{k:Nat}:∀ (xs:List SV) (l:List Nat),(iT k xs=true->k∈rz xs l)/\∀j∈l,j∈rz xs l
 |[],l=>⟨λh=>(by cases h),λj hj=>hj⟩
 |x::xs,l=>by
  obtain⟨a1,a2⟩:=qU8 (k:=k) x l;obtain⟨b1,b2⟩:=DN (k:=k) xs (oJ x l);refine⟨λh=>?_,λj hj=>b2 j (a2 j hj)⟩;have h:(gH k x||iT k xs)=true:=h;rcases ia _ _▸h with h|h
  .exact b2 k (a1 h)
  .exact b1 h
end
variable{o:Oper}{p:ax}{m:Mem}
def xk7(hE:dF P E){call:eS α}(ga:jL P true call){ev:Operand->SV}{V:p9 α}(hk:(nq o.op||(oW o.op||qY0 o.op))=true)(h:(execOp E call ev o.op p m V).holds L):
  ∃v p' m',(V v p' m').holds L/\∀m2,(∀id B,m.get id=some B->m2.get id=some B)->jK P m2 v m2 o ev:=by
 obtain⟨v,p',m',h1,_,_,hx⟩:=A1 hE ga h;refine⟨v,p',m',h1,λm2 kZ=>?_⟩;rcases ia _ _▸hk with hk|hk
 .exact hx.pure hk m2
 .rcases ia _ _▸hk with hk|hk
  .exact hx.shape hk m2 (Up.shape kZ)
  .refine hx.up rfl ?_ m2 kZ
   generalize o.op=op at hk
   cases op<;>first|rfl|cases hk
def ji6(hE:dF P E){call:eS α}{ev:Operand->SV}{V:p9 α}(hk:mC o.op=true)(h:(execOp E call ev o.op p m V).holds L):
  ∃m',(V .undef p m').holds L/\∀ (m2 bh:Mem),(∀id∈kC ev o.op,m2.get id=m.get id)->(∀id,bh.get id=if id∈kC ev o.op then m'.get id else m2.get id)->bh.next=m2.next->jK P m2 .undef bh o ev:=by
 obtain⟨dst,op,ty,pos,after,guard⟩:=o
 cases op<;>try cases hk
 rename_i t a x;obtain⟨m',h1,h2⟩:=yY6 (E:=E) (α:=α) (L:=L) (V:=V) h;exact⟨m',h1,λm2 bh ha hp hn=>Kx hE (call:=λ_ _ _ _ _=>.aA 0) O9 (p:=p) (h2 m2 bh p ha hp hn)⟩
open Classical in
/-- A call that is known to hand on this. -/
def PE(f:FuncId)(args:List SV)(m m':Mem)(v:SV):eS (SV×Mem):=λf' ah0 p m1 V=>if f'=f/\ah0=args/\m1=m then V v p m' else .aA 0
def yU0{f:FuncId}{args:List SV}{m':Mem}{v:SV}(h:je P m v m' f args):jL P false (PE f args m m' v):=by
 intro f' ah0 p m1 V L hh;unfold PE at hh
 split at hh
 .rename_i hc
  obtain⟨rfl,rfl,rfl⟩:=hc;exact⟨v,p,m',hh,λhq=>(by cases hq),h⟩
 .exact hh.elim
def yc3(hE:dF P E){call:eS α}(ga:E7 P call){fr:Fr}{V:p9 α}(hk:M0 E o.op=true)(h:(execOp E call (t4 fr) o.op p m V).holds L):
  ∃v p' m',(V v p' m').holds L/\m.next<=m'.next/\∀ (m2 bh:Mem),(∀id∈kC (t4 fr) o.op,m2.get id=m.get id)->m2.next=m.next->(∀id,bh.get id=if id∈kC (t4 fr) o.op++List.range' m.next (m'.next-m.next)then m'.get id else m2.get id)->bh.next=m'.next->jK P m2 v bh o (t4 fr):=by
 obtain⟨dst,op,ty,pos,after,guard⟩:=o
 cases op<;>try cases hk
 . -- a slice atK elements
   rename_i t n parts
   have hn0:n=0/\parts.toList=[] :=by
    cases n with
    |zero=>cases hp:parts.toList with
     |nil=>exact⟨rfl,rfl⟩
     |cons x l=>simp[M0,hp]at hk
    |succ n=>simp[M0]at hk
   obtain⟨rfl,hp0⟩:=hn0
   .clear hk
    have hpe:parts.toList.map (λx=>(x.1,t4 fr x.2))=[] :=by rw[hp0];rfl
    have h:(CR E t 0 (parts.toList.map λx=>(x.1,t4 fr x.2)) p m V).holds L:=h;rw[hpe]at h;have h0:=h;unfold CR at h
    split at h
    .rename_i e sz iI ze F8 eg he cF
     split at h
     .rename_i re kG
      split at h
      .rename_i hs
       have h:(m.push (.cells []) λm id=>V (.arr id 0 0) p m).holds L:=h;obtain⟨m',h1,h2⟩:=Mem.nB h;refine⟨_,p,m',h2,by rw[h1.2];omega,λm2 bh ha hn hp gW=>?_⟩;refine Kx hE (call:=λ_ _ _ _ _=>.aA 0) O9 (p:=.kK) ?_;obtain⟨m3,h5,h6⟩:=Mem.D4 h m2 (.cells []) hn;dsimp only[execOp];rw[hpe];unfold CR;rw[cF];dsimp only;rw[kG];dsimp only;rw[hs];dsimp only;show((m2.push (.cells []) λm id=>ak.ai (SV.arr id 0 0,m):ak (SV×Mem))).holds _;rw[h6];refine⟨by rw[hn],λid=>?_,by rw[h5.2,hn,gW,h1.2]⟩;rw[h5.1 id,hp id,h1.1 id,hn];simp only[wu,Fz,h1.2]
       by_cases e1:id=m.next
       .subst e1;simp
       .rw[au e1,au e1]
        by_cases e2:id∈kC (t4 fr) (.buildSlice t 0 parts)
        .rw[ay (.inl e2)];exact ha id e2
        .rw[au (λc=>c.elim e2 λc=>by omega)]
      .exact h.elim
     .exact h.elim
    .exact h.elim
 rename_i c;obtain⟨callee,args,argTypes⟩:=c;dsimp only at hk h ⊢
 have vR:∀x∈args.toList,∀id,gH id (t4 fr x)=true->id∈kC (t4 fr) (.call ⟨callee,args,argTypes⟩):=by
  intro x hx id aI;refine(DN (k:=id) _ []).1 (JO (EM.2 ⟨x,?_,rfl⟩) aI)
  cases callee<;>simp[Op.operands,Call.operands]<;>simp_all
 cases callee with
 |builtin b=>
  cases b<;>try cases hk
  -- append
  have h:(FE E .append argTypes.toList (args.toList.map (t4 fr)) p m V).holds L:=h
  have shape:∃t t1 a b,argTypes.toList=[t,t1] /\args.toList=[a,b] :=by
   rcases hl:args.toList with _|⟨a,_|⟨b,_|⟨c,l⟩⟩⟩<;>rcases He:argTypes.toList with _|⟨t,_|⟨t1,_|⟨t2,l'⟩⟩⟩<;>rw[hl,He]at h<;>first
    |exact h.elim
    |exact⟨t,t1,a,b,rfl,rfl⟩
  obtain⟨t,t1,a,b,He,T2⟩:=shape
  have bR:args.toList.map (t4 fr)=[t4 fr a,t4 fr b] :=by rw[T2];rfl
  rw[He,bR]at h
  have run:∀ (h:(lD E t (t4 fr a) (t4 fr b) p m V).holds L),(∀ (β:Type) (κ2:p9 β) (m2:Mem),(FE E .append argTypes.toList (args.toList.map (t4 fr)) .kK m2 κ2)=lD E t (t4 fr a) (t4 fr b) .kK m2 κ2)->∃v p' m',(V v p' m').holds L/\m.next<=m'.next/\∀ (m2 bh:Mem),(∀id∈kC (t4 fr) (.call ⟨.builtin .append,args,argTypes⟩),m2.get id=m.get id)->m2.next=m.next->(∀id,bh.get id=if id∈kC (t4 fr) (.call ⟨.builtin .append,args,argTypes⟩)++List.range' m.next (m'.next-m.next)then m'.get id else m2.get id)->bh.next=m'.next->jK P m2 v bh ⟨dst,.call ⟨.builtin .append,args,argTypes⟩,ty,pos,after,guard⟩ (t4 fr):=by
   intro h he;obtain⟨v,p',m',h1,h2,h3⟩:=yU8 h;refine⟨v,p',m',h1,h2,λm2 bh ha hn hp gW=>?_⟩;refine Kx hE (call:=λ_ _ _ _ _=>.aA 0) O9 (p:=.kK) ?_;dsimp only[execOp,FD];rw[he];exact h3 _ m2 bh (λid aI=>aI.elim (vR a (by rw[T2];simp) id) (vR b (by rw[T2];simp) id)) ha hn hp gW
  have h:((match E.row t1 with
   |some {desc:=.slice _, ..}=>lD E t (t4 fr a) (t4 fr b) p m V
   |some {desc:=.string, ..}=>lD E t (t4 fr a) (t4 fr b) p m V
   |_=>.aA 89:ak α)).holds L:=h
  split at h
  .rename_i e sz iI ze F8 eg he cF
   refine run h λβ κ2 m2=>?_
   rw[He,bR]
   show(match E.row t1 with
    |some {desc:=.slice _, ..}=>lD E t (t4 fr a) (t4 fr b) .kK m2 κ2
    |some {desc:=.string, ..}=>lD E t (t4 fr a) (t4 fr b) .kK m2 κ2
    |_=>.aA 89:ak β)=_
   rw[cF]
  .rename_i sz iI ze F8 eg he cF
   refine run h λβ κ2 m2=>?_
   rw[He,bR]
   show(match E.row t1 with
    |some {desc:=.slice _, ..}=>lD E t (t4 fr a) (t4 fr b) .kK m2 κ2
    |some {desc:=.string, ..}=>lD E t (t4 fr a) (t4 fr b) .kK m2 κ2
    |_=>.aA 89:ak β)=_
   rw[cF]
  .exact h.elim
 |value f=>
  cases f<;>try cases hk
  rename_i k;dsimp only[execOp,FD,t4]at h;simp only[List.nil_append,wA]at h;obtain⟨v,p',m',h1,h2,h3⟩:=ga _ _ _ _ _ _ h;refine⟨v,p',m',h1,h2,λm2 bh ha hn hp gW=>?_⟩;have nH:=h3 _ m2 bh (λid aI=>?_) ha hn hp gW
  .refine Kx hE (yU0 nH) (p:=.kK) ?_
   dsimp only[execOp,FD,t4];simp only[List.nil_append,wA];unfold PE;rw[ay ⟨rfl,rfl,rfl⟩];exact⟨rfl,λ_=>rfl,rfl⟩
  . -- an argument mentions it
    have:∃x∈args.toList.map (t4 fr),gH id x=true:=by
     revert aI
     generalize args.toList.map (t4 fr)=l
     induction l with
     |nil=>intro h;cases h
     |cons y l ih=>
      intro h;have h:(gH id y||iT id l)=true:=h;rcases ia _ _▸h with h|h
      .exact⟨y,mO,h⟩
      .obtain⟨x,h1,h2⟩:=ih h
       exact⟨x,rX _ h1,h2⟩
    obtain⟨x,hx,hm⟩:=this;obtain⟨a,ha',rfl⟩:=EM.1 hx;exact vR a ha' id hm
 |invoke a b=>cases hk
end
def jl9{β:Type}:∀ (i:Nat) (t:Tb β) (v:Option β),∃t',AQ t i v t':=by
 intro i
 induction i using Nat.strongRecOn with
 |ind i ih=>
  intro t v
  obtain⟨l,x,r,hg⟩:∃l x r,∀k,t.get k=(Tb.n l x r).get k:=by
   cases t with
   |n l x r=>exact⟨l,x,r,λ_=>rfl⟩
   |e=>
    refine⟨.e,none,.e,λk=>?_⟩
    cases k with
    |zero=>rfl
    |succ j=>
     rw[Tb.iF]
     by_cases h:j % 2=0
     .rw[Tb.fG h];rfl
     .rw[Tb.fF h];rfl
  cases i with
  |zero=>
   refine⟨.n l v r,λk=>?_⟩
   cases k with
   |zero=>rfl
   |succ j=>rw[au (by omega),hg];rfl
  |succ i=>
   by_cases hi:i % 2=0
   .obtain⟨l',hl⟩:=ih (i / 2) (by omega) l v
    refine⟨.n l' x r,λk=>?_⟩
    cases k with
    |zero=>rw[au (by omega),hg];rfl
    |succ j=>
     rw[hg,Tb.iF,Tb.iF]
     by_cases h:j % 2=0
     .rw[Tb.fG h,Tb.fG h,hl]
      by_cases e:j=i
      .subst e;simp
      .rw[au (by omega),au (by omega)]
     .rw[Tb.fF h,Tb.fF h,au (by omega)]
   .obtain⟨r',hr⟩:=ih (i / 2) (by omega) r v
    refine⟨.n l x r',λk=>?_⟩
    cases k with
    |zero=>rw[au (by omega),hg];rfl
    |succ j=>
     rw[hg,Tb.iF,Tb.iF]
     by_cases h:j % 2=0
     .rw[Tb.fG h,Tb.fG h,au (by omega)]
     .rw[Tb.fF h,Tb.fF h,hr]
      by_cases e:j=i
      .subst e;simp
      .rw[au (by omega),au (by omega)]
section
variable {P:Program} {E:Env} {α:Type} {L:α->Prop}
def RP{l:List Nat}{k:Nat}:gJ l k=true↔k∈l:=by
 simp only[gJ,Cd];exact⟨λ⟨x,h1,h2⟩=>by rw[<-gQ h2];exact h1,λh=>⟨k,h,by simp⟩⟩
def JR{l k:List Nat}:A5 l k=true↔∃x,x∈l/\x∈k:=by
 simp only[A5,Cd];exact⟨λ⟨x,h1,h2⟩=>⟨x,h1,RP.1 h2⟩,λ⟨x,h1,h2⟩=>⟨x,h1,RP.2 h2⟩⟩
structure B8 (P:Program) (all:List Oper) (refs:List (Nat×Nat)) (i:Nat) (o:Oper) (fr:Fr) (m:Mem) (v:SV) (m1:Mem) (s:Rec):Prop where
 keep:∀id,id∉s.wt->m1.get id=m.get id
 le:m.next<=m1.next
 same:s.g=false->m1.next=m.next
 step:(fV all fr.get o=some false/\v=.undef/\s.wt=[] /\s.g=false)\/
  (fV all fr.get o=some true/\∀m2 bh:Mem,(∀id,id∈s.rd\/id∈s.wt->m2.get id=m.get id)->(s.g=true->m2.next=m.next)->(∀id,bh.get id=if id∈s.wt then m1.get id else m2.get id)->(bh.next=if s.g=true then m1.next else m2.next)->jK P m2 v bh o (t4 fr))\/
  (∃t k r,o.op=.alloc t/\o.guard=none/\DO refs i=some k/\rV P t r/\v=.ptr k 0/\s.wt=[k] /\s.g=false/\m1.get k=some (.cells r.zero))
inductive AG (P:Program) (all:List Oper) (refs:List (Nat×Nat)):Nat->List Oper->List Rec->Fr->Mem->Fr->Mem->Prop where
 |nil (i:Nat) (aN:List Rec) (fr:Fr) (m:Mem):AG P all refs i [] aN fr m fr m
 |cons {i:Nat} {o:Oper} {rest:List Oper} {aN:List Rec} {fr aW aD:Fr} {m m1 m':Mem} {v:SV} {s:Rec} (hs:s.i=i) (cR:B8 P all refs i o fr m v m1 s) (hf:gf fr o.dst v aW)
   (Nh:xe all o aN s=true) (ahl:tN all refs o i v s.wt (s.wt.map m1.get)=true) (k:AG P all refs (i+1) rest (s::aN) aW m1 aD m'):AG P all refs i (o::rest) aN fr m aD m'
variable{o:Oper}{p:ax}{fr:Fr}
def GD{refs:List (Nat×Nat)}{all:List Oper}{aN:List Rec}{ih:yR α}{v:SV}{mN:Mem}{s:Rec}(h:(Bq refs all o aN ih v p fr mN s).holds L):
  ∃aW,(ih (s::aN) p aW mN).holds L/\gf fr o.dst v aW/\xe all o aN s=true/\tN all refs o s.i v s.wt (s.wt.map mN.get)=true:=by
 unfold Bq at h
 split at h
 .rename_i hc
  rw[aH]at hc;obtain⟨aW,h1,h2⟩:=vt h;exact⟨aW,h2,h1,hc.2,hc.1⟩
 .exact h.elim
variable{m:Mem}
def xw1(hE:dF P E){call dH kv:eS α}(ga:jL P false call)(qm:jL P true dH)(Ez:E7 P kv){refs:List (Nat×Nat)}{all:List Oper}{i:Nat}{ih:yR α}{aN:List Rec}
  (hg:fV all fr.get o=some true) (h:(FV E call dH kv refs all i o ih aN p fr m).holds L):
  ∃p' aW m1 v s,(ih (s::aN) p' aW m1).holds L/\s.i=i/\B8 P all refs i o fr m v m1 s/\gf fr o.dst v aW/\xe all o aN s=true/\tN all refs o i v s.wt (s.wt.map m1.get)=true:=by
 unfold FV at h
 split at h
 . -- a new variable
   split at h<;>try exact h.elim
   rename_i t fR
   split at h<;>try exact h.elim
   rename_i k hk
   split at h<;>try exact h.elim
   rename_i r hr
   have rJ:o.guard=none/\E.row t=some r:=by
    split at hr;.rename_i rJ;exact⟨rJ,hr⟩
    .cases hr
   rw[Gz]at h;obtain⟨mN,h1,h2⟩:=Mem.iN h;obtain⟨aW,g1,g2,g3,g4⟩:=GD h2;refine⟨p,aW,mN,_,_,g1,rfl,⟨λid aI=>?_,by rw[h1.2];exact bA _,λ_=>h1.2,.inr (.inr ⟨t,k,r,fR,rJ.1,hk,hE.row _ _ rJ.2,rfl,rfl,rfl,by rw[h1.1 k,ay rfl]⟩)⟩,g2,g3,g4⟩;rw[h1.1 id,au (λe=>aI (by rw[e];exact mO))]
 .split at h
  .rename_i hk
   obtain⟨mF,h1,hn,ha,hb⟩:=PD h;obtain⟨v,p',mx,h2,h3⟩:=xk7 hE qm hk h1;obtain⟨aW,g1,g2,g3,g4⟩:=GD h2;refine⟨p',aW,m,v,_,g1,rfl,⟨λ_ _=>rfl,bA _,λ_=>rfl,.inr (.inl ⟨hg,λm2 bh e1 _ e3 e4=>?_⟩)⟩,g2,g3,g4⟩;refine(h3 m2 λid B hB=>?_).congr (λ_=>rfl) rfl (λid=>by simpa using e3 id) (by simpa using e4)
   by_cases aI:id∈Sa (t4 fr) o.op
   .rw[e1 id (.inl aI),<-ha id aI];exact hB
   .rw[hb id aI]at hB;cases hB
  .split at h
   .rename_i hk
    obtain⟨mF,h1,hn,ha,hb⟩:=PD h;obtain⟨kE,h2,h3⟩:=ji6 hE hk h1;obtain⟨mN,h4,h5,h6⟩:=P3 _ _ _ h2;obtain⟨aW,g1,g2,g3,g4⟩:=GD h4;refine⟨p,aW,mN,_,_,g1,rfl,⟨λid aI=>by rw[h6 id,au aI],by rw[h5];exact bA _,λ_=>h5,.inr (.inl ⟨hg,λm2 bh e1 _ e3 e4=>?_⟩)⟩,g2,g3,g4⟩;refine h3 m2 bh (λid aI=>by rw[e1 id (.inr aI),ha id aI]) (λid=>?_) (by simpa using e4);rw[e3 id]
    by_cases aI:id∈kC (t4 fr) o.op
    .have uy:id∈(Rec.mk i [] (kC (t4 fr) o.op) false).wt:=aI
     rw[ay uy,ay aI,h6 id,ay aI]
    .have uy:id∉ (Rec.mk i [] (kC (t4 fr) o.op) false).wt:=aI
     rw[au uy,au aI]
   .split at h
    .rename_i hk
     obtain⟨mF,h1,hn,ha,hb⟩:=PD h;obtain⟨v,p',kE,h2,mK,h3⟩:=yc3 hE Ez hk h1;obtain⟨mN,h4,h5,h6⟩:=P3 _ _ _ h2;obtain⟨aW,g1,g2,g3,g4⟩:=GD h4;have h5:mN.next=kE.next:=h5
     have h6:∀id,mN.get id=if id∈kC (t4 fr) o.op++List.range' m.next (kE.next-m.next)then kE.get id else m.get id:=h6
     refine⟨p',aW,mN,v,_,g1,rfl,⟨λid aI=>?_,by rw[h5,<-hn];exact mK,(by intro hc;cases hc),.inr (.inl ⟨hg,λm2 bh e1 e2 e3 e4=>?_⟩)⟩,g2,g3,g4⟩
     .have uy:id∉kC (t4 fr) o.op++List.range' m.next (kE.next-m.next):=aI
      rw[h6 id,au uy]
     .have e1:∀id,id∈nN\/id∈kC (t4 fr) o.op++List.range' m.next (kE.next-m.next)->m2.get id=m.get id:=e1
      have e3:∀id,bh.get id=if id∈kC (t4 fr) o.op++List.range' m.next (kE.next-m.next)then mN.get id else m2.get id:=e3
      have e4:bh.next=mN.next:=by simpa using e4
      refine h3 m2 bh (λid aI=>by rw[e1 id (.inr (ail _ aI)),ha id aI]) (by rw[e2 rfl,hn]) (λid=>?_) (by rw[e4,h5]);rw[e3 id,hn]
      by_cases aI:id∈kC (t4 fr) o.op++List.range' m.next (kE.next-m.next)
      .rw[ay aI,ay aI,h6 id,ay aI]
      .rw[au aI,au aI]
    .split at h
     .rename_i hd
      obtain⟨v,p',mc,h1,_,h3,_⟩:=A1 hE ga h
      split at h1
      .rename_i hv
       rw[pU]at h1;obtain⟨aW,g1,g2,g3,g4⟩:=GD h1;refine⟨p',aW,m,_,_,g1,rfl,⟨λ_ _=>rfl,bA _,λ_=>rfl,.inr (.inl ⟨hg,λm2 bh e1 _ e3 e4=>?_⟩)⟩,g2,g3,g4⟩;exact(x88 hd hv h3 m2).congr (λ_=>rfl) rfl (λid=>by simpa using e3 id) (by simpa using e4)
      .exact h1.elim
     .exact h.elim
def yT5(hE:dF P E){call dH kv:eS α}(ga:jL P false call)(qm:jL P true dH)(Ez:E7 P kv){refs:List (Nat×Nat)}{all:List Oper}{i:Nat}{ih:yR α}{aN:List Rec}
  (h:(J1 E call dH kv refs all i o ih aN p fr m).holds L):
  ∃p' aW m1 v s,(ih (s::aN) p' aW m1).holds L/\s.i=i/\B8 P all refs i o fr m v m1 s/\gf fr o.dst v aW/\xe all o aN s=true/\tN all refs o i v s.wt (s.wt.map m1.get)=true:=by
 have run:∀ (p:ax) (cH:Fr),(∀t,cH.get t=fr.get t)->cH.size=fr.size->fV all fr.get o=some true->(FV E call dH kv refs all i o ih aN p cH m).holds L->
   ∃p' aW m1 v s,(ih (s::aN) p' aW m1).holds L/\s.i=i/\B8 P all refs i o fr m v m1 s/\gf fr o.dst v aW/\xe all o aN s=true/\tN all refs o i v s.wt (s.wt.map m1.get)=true:=by
  intro p cH hg hs ph h;have hgf:cH.get=fr.get:=funext hg
  have he:t4 cH=t4 fr:=funext λx=>by cases x<;>simp[t4,hg]
  obtain⟨p',aW,m1,v,s,h1,h2,⟨k1,k2,k3,k4⟩,h4,h5,h6⟩:=xw1 hE ga qm Ez (by rw[hgf];exact ph) h;rw[he,hgf]at k4;exact⟨p',aW,m1,v,s,h1,h2,⟨k1,k2,k3,k4⟩,⟨h4.1.trans hs,λt ht=>by rw[<-hs];exact h4.2.1 t ht,λt=>by rw[h4.2.2 t,hg t]⟩,h5,h6⟩
 have skip:∀ (p:ax) (cH:Fr),(∀t,cH.get t=fr.get t)->cH.size=fr.size->fV all fr.get o=some false->(nW cH o.dst .undef λfr=>ih (⟨i,[],[],false⟩::aN) p fr m).holds L->
   ∃p' aW m1 v s,(ih (s::aN) p' aW m1).holds L/\s.i=i/\B8 P all refs i o fr m v m1 s/\gf fr o.dst v aW/\xe all o aN s=true/\tN all refs o i v s.wt (s.wt.map m1.get)=true:=by
  intro p cH hg hs ph h;obtain⟨aW,h4,h5⟩:=vt h;refine⟨p,aW,m,.undef,⟨i,[],[],false⟩,h5,rfl,⟨λ_ _=>rfl,bA _,λ_=>rfl,.inl ⟨ph,rfl,rfl,rfl⟩⟩,⟨h4.1.trans hs,λt ht=>by rw[<-hs];exact h4.2.1 t ht,λt=>by rw[h4.2.2 t,hg t]⟩,?_,?_⟩
  .unfold xe
   rw[nM];intro r _;simp[Rec.oq,A5,gJ]
  .unfold tN
   rw[nM];intro ck _;simp[gH,gJ]
 unfold J1 at h
 cases hg:o.guard with
 |none=>
  rw[hg]at h;exact run p fr (λ_=>rfl) rfl (by simp[fV,hg]) h
 |some jw=>
  rw[hg]at h;dsimp only at h;rw[tH]at h
  split at h
  .rename_i oj BM
   split at h
   .rename_i d hd
    have hb:(all[jw.1]?).bind (·.dst)=some d:=by rw[BM];exact hd
    split at h
    .rename_i b cn
     obtain⟨p',h⟩:=qy h;obtain⟨cH,h1,h2⟩:=Fr.iN h
     have yg:∀t,cH.get t=fr.get t:=λt=>by
      rw[h1.2.2 t]
      by_cases ht:some d=some t
      .cases ht;rw[ay rfl,cn]
      .rw[au ht]
     split at h2
     .rename_i uD
      exact run p' cH yg h1.1 (by simp only[fV,hg,hb,cn];rw[uD]) h2
     .rename_i uD
      exact skip p' cH yg h1.1 (by simp only[fV,hg,hb,cn];rw[uD]) h2
    .rename_i cn
     exact skip p fr (λ_=>rfl) rfl (by simp only[fV,hg,hb,cn]) h
    .exact h.elim
   .exact h.elim
  .exact h.elim
theorem z23(hE:dF P E){call dH kv:eS α}(ga:jL P false call)(qm:jL P true dH)(Ez:E7 P kv){refs:List (Nat×Nat)}{all:List Oper}{k:gR α}:∀ (ops:List Oper) (i:Nat) (aN:List Rec) (p:ax) (fr:Fr) (m:Mem),
  (z22 E call dH kv refs all ops k i aN p fr m).holds L->∃p' aD m',(k p' aD m').holds L/\AG P all refs i ops aN fr m aD m'
 |[],i,aN,p,fr,m,h=>⟨p,fr,m,h,.nil i aN fr m⟩
 |o::rest,i,aN,p,fr,m,h=>by
  change (J1 E call dH kv refs all i o (z22 E call dH kv refs all rest k (i+1)) aN p fr m).holds L at h
  obtain⟨p1,aW,m1,v,s,h1,h2,h3,h4,h5,h6⟩:=yT5 hE ga qm Ez h;obtain⟨p',aD,m',h7,h8⟩:=z23 hE ga qm Ez rest (i+1) (s::aN) p1 aW m1 h1;exact⟨p',aD,m',h7,.cons h2 h3 h4 h5 h6 h8⟩
structure ah3 (P:Program) (all:List Oper) (refs:List (Nat×Nat)) (m m':Mem) (fr aD:Fr) (aS:Nat->Fr) (aO:Nat->SV) (ms:Nat->Mem) (rs:Nat->Rec):Prop where
 first:aS 0=fr
 last:aS all.length=aD
 mfirst:ms 0=m
 D6:ms all.length=m'
 step:∀i o,all[i]? =some o->B8 P all refs i o (aS i) (ms i) (aO i) (ms (i+1)) (rs i)
 next:∀i o,all[i]? =some o->gf (aS i) o.dst (aO i) (aS (i+1))
 oq:∀i j o,all[j]? =some o->i<j->(rs i).oq (rs j)=true->pI all 3 o i=true
 refs:∀i o,all[i]? =some o->tN all refs o i (aO i) (rs i).wt ((rs i).wt.map (ms (i+1)).get)=true
def AG.index{all:List Oper}{refs:List (Nat×Nat)}:∀{i:Nat} {ops:List Oper} {aN:List Rec} {fr aD:Fr} {m m':Mem},AG P all refs i ops aN fr m aD m'->∃ (aS:Nat->Fr) (aO:Nat->SV) (ms:Nat->Mem) (rs:Nat->Rec),aS 0=fr/\aS ops.length=aD/\ms 0=m/\ms ops.length=m'/\
  (∀j o,ops[j]? =some o->B8 P all refs (i+j) o (aS j) (ms j) (aO j) (ms (j+1)) (rs j))/\(∀j o,ops[j]? =some o->gf (aS j) o.dst (aO j) (aS (j+1)))/\
  (∀j o,ops[j]? =some o->(rs j).i=i+j)/\(∀j o r,ops[j]? =some o->r∈aN->r.oq (rs j)=true->pI all 3 o r.i=true)/\(∀j k o,ops[k]? =some o->j<k->(rs j).oq (rs k)=true->pI all 3 o (i+j)=true)/\
  (∀j o,ops[j]? =some o->tN all refs o (i+j) (aO j) (rs j).wt ((rs j).wt.map (ms (j+1)).get)=true):=by
 intro i ops aN fr aD m m' h
 induction h with
 |nil i aN fr m=>exact⟨λ_=>fr,λ_=>.undef,λ_=>m,λ_=>⟨0,[],[],false⟩,rfl,rfl,rfl,rfl,λj o h=>by simp at h,λj o h=>by simp at h,λj o h=>by simp at h,λj o r h=>by simp at h,λj k o h=>by simp at h,λj o h=>by simp at h⟩
 |@cons i o rest aN fr aW aD m m1 m' v s hs cR hf Nh ahl k ih=>
  obtain⟨aS,aO,ms,rs,h1,h2,Au,HI,h3,h4,h5,h6,h7,h8⟩:=ih;refine⟨λi=>Nat.casesOn i fr aS,λi=>Nat.casesOn i v aO,λi=>Nat.casesOn i m ms,λi=>Nat.casesOn i s rs,rfl,h2,rfl,HI,λj o' hj=>?_,λj o' hj=>?_,λj o' hj=>?_,λj o' r hj hr hc=>?_,λj k o' hk Hx hc=>?_,λj o' hj=>?_⟩
  .cases j with
   |zero=>simp at hj;subst hj;dsimp only;rw[Au];exact cR
   |succ j=>have:=h3 j o' (by simpa using hj);rwa [show i+(j+1)=i+1+j by omega]
  .cases j with
   |zero=>simp at hj;subst hj;dsimp only;rw[h1];exact hf
   |succ j=>exact h4 j o' (by simpa using hj)
  .cases j with
   |zero=>exact hs
   |succ j=>have:=h5 j o' (by simpa using hj);dsimp only;omega
  .cases j with
   |zero=>
    simp at hj;subst hj;unfold xe at Nh;rw[nM]at Nh;have:=Nh r hr;have hc:r.oq s=true:=hc;rw[hc]at this
    simpa using this
   |succ j=>exact h6 j o' r (by simpa using hj) (rX _ hr) hc
  .cases k with
   |zero=>omega
   |succ k=>
    cases j with
    |zero=>
     have:=h6 k o' s (by simpa using hk) mO hc;rw[hs]at this;simpa using this
    |succ j=>
     have:=h7 j k o' (by simpa using hk) (by omega) hc
     rwa [show i+(j+1)=i+1+j by omega]
  .cases j with
   |zero=>simp at hj;subst hj;dsimp only;rw[Au];exact ahl
   |succ j=>have:=h8 j o' (by simpa using hj);rwa [show i+(j+1)=i+1+j by omega]
def AG.toWalk{all:List Oper}{refs:List (Nat×Nat)}{m':Mem}{aD:Fr}(h:AG P all refs 0 all [] fr m aD m'):∃aS aO ms rs,ah3 P all refs m m' fr aD aS aO ms rs:=by
 obtain⟨aS,aO,ms,rs,h1,h2,h3,h4,h5,h6,h7,h8,h9,lw⟩:=h.index;refine⟨aS,aO,ms,rs,h1,h2,h3,h4,λi o ho=>?_,h6,λi j o ho lh hc=>?_,λi o ho=>?_⟩;.have:=h5 i o ho;rwa [gY]at this
 .have:=h9 i j o ho lh hc;rwa [gY]at this
 .have:=lw i o ho;rwa [gY]at this
def jj(ms:Nat->Mem)(rs:Nat->Rec)(S:Nat->Bool):Nat->Nat->Option aR
 |0,id=>(ms 0).get id
 |n+1,id=>if S n=true/\id∈(rs n).wt then(ms (n+1)).get id else jj ms rs S n id
def lZ(ms:Nat->Mem)(rs:Nat->Rec)(S:Nat->Bool):Nat->Nat
 |0=>(ms 0).next
 |n+1=>if S n=true/\(rs n).g=true then(ms (n+1)).next else lZ ms rs S n
theorem Zl(f:Nat->Option aR):∀ (l:List Nat) (t:Tb aR),∃t':Tb aR,∀id,t'.get id=if id∈l then f id else t.get id
 |[],t=>⟨t,λid=>by simp⟩
 |i::l,t=>by
  obtain⟨t1,h1⟩:=jl9 i t (f i);obtain⟨t2,h2⟩:=Zl f l t1;refine⟨t2,λid=>?_⟩;rw[h2 id,h1 id]
  by_cases e:id=i
  .subst e;simp
  .simp[e]
theorem qI3(ms:Nat->Mem)(rs:Nat->Rec)(S:Nat->Bool):∀n,∃t:Tb aR,∀id,t.get id=jj ms rs S n id
 |0=>⟨(ms 0).tb,λid=>rfl⟩
 |n+1=>by
  obtain⟨t,h⟩:=qI3 ms rs S n
  by_cases hS:S n=true
  .obtain⟨t',h'⟩:=Zl (λid=>(ms (n+1)).get id) (rs n).wt t
   refine⟨t',λid=>?_⟩;rw[h' id,h id];simp only[jj,hS,dV]
  .exact⟨t,λid=>by rw[h id];simp only[jj];rw[au (λc=>hS c.1)]⟩
open Classical in
def GP(g:Nat->Option aR)(n:Nat):Mem:=if h:∃t:Tb aR,∀id,t.get id=g id then⟨n,Classical.choose h⟩else⟨n,.e⟩
def yf0(g:Nat->Option aR)(n:Nat):(GP g n).next=n:=by unfold GP;split<;>rfl
def ye9{g:Nat->Option aR}(n:Nat)(h:∃t:Tb aR,∀id,t.get id=g id)(id:Nat):(GP g n).get id=g id:=by
 unfold GP;rw[dif_pos h];exact Classical.choose_spec h id
def xa(all:List Oper)(ms:Nat->Mem)(rs:Nat->Rec)(S:Nat->Bool):Mem:=GP (jj ms rs S all.length) (lZ ms rs S all.length)
def wZ(all:List Oper)(ms:Nat->Mem)(rs:Nat->Rec)(S:Nat->Bool)(id:Nat):(xa all ms rs S).get id=jj ms rs S all.length id:=ye9 _ (qI3 ms rs S _) id
def zj(all:List Oper)(ms:Nat->Mem)(rs:Nat->Rec)(S:Nat->Bool):(xa all ms rs S).next=lZ ms rs S all.length:=yf0 _ _
section
variable {ms:Nat->Mem} {rs:Nat->Rec} {S S':Nat->Bool}
variable{id:Nat}
theorem R4:∀n,(∀j,j<n->id∈(rs j).wt->S j=S' j)->jj ms rs S n id=jj ms rs S' n id
 |0,_=>rfl
 |n+1,h=>by
  simp only[jj];rw[R4 n λj hj=>h j (by omega)]
  by_cases hw:id∈(rs n).wt
  .rw[h n (by omega) hw]
  .rw[au (λc=>hw c.2),au (λc=>hw c.2)]
theorem Pa:∀n,(∀j,j<n->(rs j).g=true->S j=S' j)->lZ ms rs S n=lZ ms rs S' n
 |0,_=>rfl
 |n+1,h=>by
  simp only[lZ];rw[Pa n λj hj=>h j (by omega)]
  by_cases hw:(rs n).g=true
  .rw[h n (by omega) hw]
  .rw[au (λc=>hw c.2),au (λc=>hw c.2)]
theorem LJ{i:Nat}:∀n,i<=n->(∀j,i<=j->j<n->id∈(rs j).wt->S j=false)->jj ms rs S n id=jj ms rs S i id
 |0,h,_=>by rw[Nat.le_zero.1 h]
 |n+1,h,hS=>by
  rcases jv n i with h1|h1
  .rw[show i=n+1 by omega]
  .simp only[jj]
   rw[au (λc=>by have:=hS n h1 (by omega) c.2;rw[c.1]at this;cases this),LJ n h1 λj a b=>hS j a (by omega)]
theorem JD{i:Nat}:∀n,i<=n->(∀j,i<=j->j<n->(rs j).g=true->S j=false)->lZ ms rs S n=lZ ms rs S i
 |0,h,_=>by rw[Nat.le_zero.1 h]
 |n+1,h,hS=>by
  rcases jv n i with h1|h1
  .rw[show i=n+1 by omega]
  .simp only[lZ]
   rw[au (λc=>by have:=hS n h1 (by omega) c.2;rw[c.1]at this;cases this),JD n h1 λj a b=>hS j a (by omega)]
theorem R5:∀n,(∀j,j<n->id∉ (rs j).wt->(ms (j+1)).get id=(ms j).get id)->(∀j,j<n->id∈(rs j).wt->S j=true)->jj ms rs S n id=(ms n).get id
 |0,_,_=>rfl
 |n+1,hk,hS=>by
  simp only[jj]
  by_cases hw:id∈(rs n).wt
  .rw[ay ⟨hS n (by omega) hw,hw⟩]
  .rw[au (λc=>hw c.2),hk n (by omega) hw,R5 n (λj hj=>hk j (by omega)) λj hj=>hS j (by omega)]
theorem Pb:∀n,(∀j,j<n->(rs j).g=false->(ms (j+1)).next=(ms j).next)->(∀j,j<n->(rs j).g=true->S j=true)->lZ ms rs S n=(ms n).next
 |0,_,_=>rfl
 |n+1,hk,hS=>by
  simp only[lZ]
  by_cases hw:(rs n).g=true
  .rw[ay ⟨hS n (by omega) hw,hw⟩]
  .rw[au (λc=>hw c.2),hk n (by omega) (by simpa using hw),Pb n (λj hj=>hk j (by omega)) λj hj=>hS j (by omega)]
theorem XO:∀n,(∀j,j<n->(ms j).next<=(ms (j+1)).next)->(ms 0).next<=lZ ms rs S n
 |0,_=>bA _
 |n+1,h=>by
  simp only[lZ]
  split
  .have:∀k,k<=n+1->(ms 0).next<=(ms k).next:=by
    intro k
    induction k with
    |zero=>intro _;exact bA _
    |succ k ih=>intro hk;exact UM (ih (by omega)) (h k (by omega))
   exact this _ (bA _)
  .exact XO n λj hj=>h j (by omega)
theorem Ub{id:Nat}:∀n,(∃j,j<n/\S j=true/\id∈(rs j).wt/\jj ms rs S n id=(ms (j+1)).get id)\/jj ms rs S n id=(ms 0).get id
 |0=>.inr rfl
 |n+1=>by
  simp only[jj]
  split;.rename_i hc;exact .inl ⟨n,by omega,hc.1,hc.2,rfl⟩
  .rcases Ub (id:=id) n with⟨j,h1,h2⟩|h
   .exact .inl ⟨j,by omega,h2⟩
   .exact .inr h
end
def ju2{all:List Oper}{refs:List (Nat×Nat)}{m':Mem}{aD:Fr}{aS:Nat->Fr}{aO:Nat->SV}{ms:Nat->Mem}{rs:Nat->Rec}(hw:ah3 P all refs m m' fr aD aS aO ms rs)(n0:Nat)
  (ay9:∀c k,DO refs c=some k->(c,k)∈refs/\n0<=k/\k<m.next) (vT:∀id B,m.get id=some B->id<n0/\∀k,n0<=k->vm k (some B)=false) (cn:∀t k,n0<=k->gH k (fr.get t)=false)
  (S:Nat->Bool) (i:Nat) (o:Oper) (bT:all[i]? =some o) (jY:S i=false) (eT:∀ (j:Nat) (oj:Oper),all[j]? =some oj->S j=true->∀e∈oj.after,Region.binds .any e=true->S e.on=true) (Hl:∀e∈o.after,Region.binds .any e=true->S e.on=true):
  gE P all o (aS i) (xa all ms rs S) (aO i) (xa all ms rs λk=>if k=i then true else S k)\/Of P o n0 (aO i) (cz all fr aO S all.length) (xa all ms rs S) (xa all ms rs λk=>if k=i then true else S k):=by
 have jX:i<all.length:=(iZ.1 bT).1
 have get:∀j,j<all.length->all[j]? =some (all.getD j o):=λj hj=>by
  rw[cK,cc hj];rfl
 have ahead:∀j,j<i->(rs j).oq (rs i)=true->S j=true:=λj hj hc=>wS eT 3 o j Hl (hw.oq j i o bT hj hc)
 have behind:∀j,i<j->j<all.length->(rs i).oq (rs j)=true->S j=false:=λj hj gu hc=>by
  rcases pE (S j)with h|h
  .have:=wS eT 3 _ i (λe he hb=>eT j _ (get j gu) h e he hb) (hw.oq i j _ (get j gu) hj hc)
   rw[jY]at this;cases this
  .exact h
 have keep:∀id j,j<all.length->id∉ (rs j).wt->(ms (j+1)).get id=(ms j).get id:=λid j hj aI=>(hw.step j _ (get j hj)).keep id aI
 have same:∀j,j<all.length->(rs j).g=false->(ms (j+1)).next=(ms j).next:=λj hj=>(hw.step j _ (get j hj)).same
 have aA5:∀id j k,id∈(rs j).wt->(id∈(rs k).rd\/id∈(rs k).wt)->(rs j).oq (rs k)=true:=λid j k h1 h2=>by
  unfold Rec.oq;rcases h2 with h2|h2
  .rw[JR.2 ⟨id,h1,h2⟩];rfl
  .rw[JR.2 ⟨id,h1,h2⟩];simp
 have ahY:∀id j k,(id∈(rs j).rd\/id∈(rs j).wt)->id∈(rs k).wt->(rs j).oq (rs k)=true:=λid j k h1 h2=>by
  unfold Rec.oq;rcases h1 with h1|h1
  .rw[JR.2 ⟨id,h1,h2⟩];simp
  .rw[show A5 (rs j).wt (rs k).wt=true from JR.2 ⟨id,h1,h2⟩];simp
 have Uv:∀j k,(rs j).g=true->(rs k).g=true->(rs j).oq (rs k)=true:=λj k h1 h2=>by unfold Rec.oq;rw[h1,h2];simp
 -- abT the awf looks at is as in the text
 have now:∀id,id∈(rs i).rd\/id∈(rs i).wt->jj ms rs S all.length id=(ms i).get id:=by
  intro id aI;rw[LJ (i:=i) _ (by omega) (λj h1 h2 h3=>?_),R5 i (λj hj=>keep id j (by omega)) (λj hj h3=>ahead j hj (aA5 id j i h3 aI))];rcases jv i j with h4|h4
  .exact behind j h4 h2 (ahY id i j aI h3)
  .rw[show j=i by omega];exact jY
 have awo:(rs i).g=true->lZ ms rs S all.length=(ms i).next:=by
  intro hg;rw[JD (i:=i) _ (by omega) (λj h1 h2 h3=>?_),Pb i (λj hj=>same j (by omega)) (λj hj h3=>ahead j hj (Uv j i h3 hg))];rcases jv i j with h4|h4
  .exact behind j h4 h2 (Uv i j hg h3)
  .rw[show j=i by omega];exact jY
 -- and abT it leaves
 have Q0:∀id,jj ms rs (λk=>if k=i then true else S k) all.length id=if id∈(rs i).wt then(ms (i+1)).get id else jj ms rs S all.length id:=by
  intro id
  by_cases aI:id∈(rs i).wt
  .rw[ay aI,LJ (i:=i+1) _ (by omega) (λj h1 h2 h3=>?_)]
   .simp only[jj]
    rw[ay ⟨by simp,aI⟩]
   .rw[au (by omega)];exact behind j (by omega) h2 (ahY id i j (.inr aI) h3)
  .rw[au aI]
   refine R4 _ λj hj h3=>?_
   by_cases e:j=i
   .subst e;exact absurd h3 aI
   .rw[au e]
 have Sp:lZ ms rs (λk=>if k=i then true else S k) all.length=if(rs i).g=true then(ms (i+1)).next else lZ ms rs S all.length:=by
  by_cases hg:(rs i).g=true
  .rw[ay hg,JD (i:=i+1) _ (by omega) (λj h1 h2 h3=>?_)]
   .simp only[lZ]
    rw[ay ⟨by simp,hg⟩]
   .rw[au (by omega)];exact behind j (by omega) h2 (Uv i j hg h3)
  .rw[au hg]
   refine Pa _ λj hj h3=>?_
   by_cases e:j=i
   .subst e;exact absurd h3 hg
   .rw[au e]
 rcases(hw.step i o bT).step with⟨h1,h2,h3,h4⟩|⟨h1,h2⟩|⟨t,k,r,h1,h2,h3,h4,h5,h6,h7,h8⟩
 .refine .inl (.inr ⟨h1,h2,?_⟩)
  have e1:jj ms rs (λk=>if k=i then true else S k) all.length=jj ms rs S all.length:=funext λid=>by rw[Q0 id,h3,au (by simp)]
  have e2:lZ ms rs (λk=>if k=i then true else S k) all.length=lZ ms rs S all.length:=by rw[Sp,h4,au (by simp)]
  unfold xa;rw[e1,e2]
 .refine .inl (.inl ⟨h1,h2 _ _ (λid aI=>?_) (λhg=>?_) (λid=>?_) ?_⟩)
  .rw[wZ];exact now id aI
  .rw[zj];exact awo hg
  .rw[wZ,wZ];exact Q0 id
  .rw[zj,zj];exact Sp
 .obtain⟨M8,ye,TP⟩:=ay9 i k h3
  -- abS mentions the new box waits for it
  have waits:∀j,j<all.length->S j=true->(gH k (aO j)=true\/k∈(rs j).wt\/∃id∈(rs j).wt,vm k ((ms (j+1)).get id)=true)->False:=by
   intro j hj qN hc;have hr:=hw.refs j _ (get j hj);unfold tN at hr;rw[nM]at hr;have hr:=hr (i,k) M8
   have tf:(gH k (aO j)||(gJ (rs j).wt k||((rs j).wt.map (ms (j+1)).get).any (vm k)))=true:=by
    rcases hc with hc|hc|⟨id,hc,hd⟩
    .rw[hc];rfl
    .rw[RP.2 hc];simp
    .have:((rs j).wt.map (ms (j+1)).get).any (vm k)=true:=Cd.2 ⟨_,EM.2 ⟨id,hc,rfl⟩,hd⟩
     rw[this];simp
   rw[tf]at hr;simp only[qt,yG,ia]at hr;rcases hr with hr|hr
   .have:=gQ hr
    subst this;rw[jY]at qN;cases qN
   .have:=wS eT 3 _ i (λe he hb=>eT j _ (get j hj) qN e he hb) hr
    rw[jY]at this;cases this
  have Ap:ms 0=m:=hw.mfirst;refine .inr ⟨t,k,r,h1,h2,h4,h5,ye,?_,?_,λid=>?_,?_,λt'=>?_,λid B hB=>?_⟩
  .rw[zj]
   refine qS TP ?_;rw[<-Ap]
   exact XO _ λj hj=>(hw.step j _ (get j hj)).le
  .rw[wZ]
   rcases Ub (ms:=ms) (rs:=rs) (S:=S) (id:=k) all.length with⟨j,hj,qN,Tm,_⟩|h
   .exact(waits j hj qN (.inr (.inl Tm))).elim
   .rw[h,Ap]
    cases hx:m.get k with
    |none=>rfl
    |some B=>have:=(vT k B hx).1;omega
  .rw[wZ,wZ,Q0 id,h6]
   by_cases e:id=k
   .subst e;rw[ay (by simp),ay rfl,h8]
   .rw[au (by simp[e]),au e]
  .rw[zj,zj,Sp,h7,au (by simp)]
  .have:∀n,n<=all.length->gH k (cz all fr aO S n t')=false:=by
    intro n
    induction n with
    |zero=>intro _;exact cn t' k ye
    |succ n ih=>
     intro hn;simp only[cz]
     split
     .rename_i hc
      rcases pE (gH k (aO n))with h|h
      .exact(waits n (by omega) hc.1 (.inl h)).elim
      .exact h
     .exact ih (by omega)
   exact this _ (bA _)
  .rw[wZ]at hB
   rcases Ub (ms:=ms) (rs:=rs) (S:=S) (id:=id) all.length with⟨j,hj,qN,Tm,he⟩|h
   .rcases pE (vm k (some B))with h|h
    .exact(waits j hj qN (.inr (.inr ⟨id,Tm,by rw[<-he,hB];exact h⟩))).elim
    .exact h
   .rw[h,Ap]at hB
    exact(vT id B hB).2 k ye
end
section
variable {P:Program} {E:Env} {α:Type}
inductive EV (P:Program) (all:List Oper):List Oper->Fr->Mem->Fr->Mem->Prop where
 |last {o:Oper} {fr aW:Fr} {m m1:Mem} {v:SV} (h:gE P all o fr m v m1) (hf:gf fr o.dst v aW):EV P all [o] fr m aW m1
 |cons {o o2:Oper} {rest:List Oper} {fr aW aD:Fr} {m m':Mem} {v:SV} (h:gE P all o fr m v m) (hf:gf fr o.dst v aW) (k:EV P all (o2::rest) aW m aD m'):EV P all (o::o2::rest) fr m aD m'
theorem z20(hE:dF P E){dH call:eS α}(qm:jL P true dH)(ga:jL P false call){all:List Oper}{k:gR α}{L:α->Prop}:∀ (ops:List Oper) (p:ax) (fr:Fr) (m:Mem),ops≠[] ->(OV E dH call all ops k p fr m).holds L->
  ∃p' aD m',(k p' aD m').holds L/\EV P all ops fr m aD m'
 |[],p,fr,m,hn,_=>absurd rfl hn
 |[o],p,fr,m,_,h=>by
  change (mh E (λ_=>true) call all o k p fr m).holds L at h
  obtain⟨p1,v,aW,m1,h1,h2,h3,_⟩:=FF hE ga h;exact⟨p1,aW,m1,h1,.last h2 h3⟩
 |o::o2::rest,p,fr,m,_,h=>by
  change (mh E (quiet E) dH all o (OV E dH call all (o2::rest) k) p fr m).holds L at h
  have hq:quiet E o.op=true\/fV all fr.get o=some false:=by
   unfold mh at h
   cases hg:o.guard with
   |none=>
    rw[hg]at h;dsimp only at h
    split at h;.rename_i hq;exact .inl hq
    .exact h.elim
   |some jw=>
    cases hq:quiet E o.op with
    |true=>exact .inl rfl
    |false=>
     right;rw[hg]at h;dsimp only at h;rw[tH]at h
     split at h
     .rename_i oj BM
      split at h
      .rename_i d hd
       have hb:(all[jw.1]?).bind (·.dst)=some d:=by rw[BM];exact hd
       split at h
       .rename_i b cn
        obtain⟨p',h⟩:=qy h;obtain⟨cH,h1,h2⟩:=Fr.iN h
        split at h2;.rw[hq]at h2;cases h2
        .rename_i uD
         simp only[fV,hg,hb,cn];rw[uD]
       .rename_i cn
        simp only[fV,hg,hb,cn]
       .exact h.elim
      .exact h.elim
     .exact h.elim
  obtain⟨p1,v,aW,m1,h1,h2,h3,h4⟩:=FF hE qm h
  have hm:m1=m:=by
   rcases hq with hq|hq
   .exact h4.quiet rfl hq
   .rcases h2 with⟨hg,_⟩|⟨_,_,hm⟩
    .rw[hq]at hg;cases hg
    .exact hm
  subst hm;obtain⟨p',aD,m',h5,h6⟩:=z20 hE qm ga (o2::rest) p1 aW m1 (by simp) h1;exact⟨p',aD,m',h5,.cons h2 h3 h6⟩
def EV.index{all:List Oper}:∀{ops:List Oper} {fr aD:Fr} {m m':Mem},EV P all ops fr m aD m'->∃ (aS:Nat->Fr) (aO:Nat->SV),aS 0=fr/\aS ops.length=aD/\
  (∀i o,ops[i]? =some o->gf (aS i) o.dst (aO i) (aS (i+1)))/\(∀i o,ops[i]? =some o->i+1<ops.length->gE P all o (aS i) m (aO i) m)/\∀i o,ops[i]? =some o->i+1=ops.length->gE P all o (aS i) m (aO i) m':=by
 intro ops fr aD m m' h
 induction h with
 |@last o fr aW m m1 v cR hf=>
  refine⟨λi=>Nat.casesOn i fr λ_=>aW,λ_=>v,rfl,rfl,λi o' hi=>?_,λi o' hi hl=>?_,λi o' hi hl=>?_⟩
  .cases i with
   |zero=>simp at hi;subst hi;exact hf
   |succ i=>simp at hi
  .simp at hl
  .cases i with
   |zero=>simp at hi;subst hi;exact cR
   |succ i=>simp at hi
 |@cons o o2 rest fr aW aD m m' v cR hf k ih=>
  obtain⟨aS,aO,h1,h2,h3,h4,h5⟩:=ih;refine⟨λi=>Nat.casesOn i fr aS,λi=>Nat.casesOn i v aO,rfl,h2,λi o' hi=>?_,λi o' hi hl=>?_,λi o' hi hl=>?_⟩
  .cases i with
   |zero=>simp at hi;subst hi;dsimp only;rw[h1];exact hf
   |succ i=>exact h3 i o' (by simpa using hi)
  .cases i with
   |zero=>simp at hi;subst hi;exact cR
   |succ i=>exact h4 i o' (by simpa using hi) (by simp at hl ⊢;omega)
  .cases i with
   |zero=>simp at hl
   |succ i=>exact h5 i o' (by simpa using hi) (by simp at hl ⊢;omega)
def q40{all:List Oper}(h:L1 all=true){S:Nat->Bool}(eT:∀ (j:Nat) (oj:Oper),all[j]? =some oj->S j=true->∀e∈oj.after,Region.binds .any e=true->S e.on=true)(hl:S (all.length-1)=true):∀i,i<all.length->S i=true:=by
 have:∀d i,i+1+d=all.length->S i=true:=by
  intro d
  induction d using Nat.strongRecOn with
  |_ d ih=>
   intro i hi
   by_cases h0:i+1=all.length
   .rw[show i=all.length-1 by omega];exact hl
   .simp only[L1,nM]at h
    have bT:all[i]? =some all[i] :=cc (by omega);have h1:=h (all[i],i) (Ic.2 bT)
    have hb:Nat.beq (i+1) all.length=false:=by
     rw[<-EW,Nat.beq_eq];exact h0
    simp only[hb,yG,Cd,aH]at h1;obtain⟨⟨oj,j⟩,hj,h2,e,he,h3,h4⟩:=h1;have hj:=Ic.1 hj
    have cW:i<j:=by rw[UP]at h2;exact h2
    have gu:=(iZ.1 hj).1;have:=eT j oj hj (ih (all.length-(j+1)) (by omega) j (by omega)) e (by simpa using he) h3
    rwa [gQ h4]at this
 exact λi hi=>this (all.length-(i+1)) i (by omega)
variable{m:Mem}{aS:Nat->Fr}
def q49{all:List Oper}{m':Mem}{aO:Nat->SV}(Hv:L1 all=true)
  (h4:∀i o,all[i]? =some o->i+1<all.length->gE P all o (aS i) m (aO i) m) (h5:∀i o,all[i]? =some o->i+1=all.length->gE P all o (aS i) m (aO i) m')
  (S:Nat->Bool) (i:Nat) (o:Oper) (bT:all[i]? =some o) (jY:S i=false) (eT:∀ (j:Nat) (oj:Oper),all[j]? =some oj->S j=true->∀e∈oj.after,Region.binds .any e=true->S e.on=true):
  gE P all o (aS i) (if S (all.length-1)=true then m' else m) (aO i) (if(if all.length-1=i then true else S (all.length-1))=true then m' else m):=by
 have jX:=(iZ.1 bT).1
 have hS:S (all.length-1)=false:=by
  rcases pE (S (all.length-1))with h|h
  .rw[q40 Hv eT h i jX]at jY;cases jY
  .exact h
 rw[hS]
 by_cases hl:i+1=all.length
 .rw[au (by simp),ay (by rw[ay (by omega)])]
  exact h5 i o bT hl
 .rw[au (by simp),au (by rw[au (by omega)];simp)]
  exact h4 i o bT (by omega)
def Gv{x k:Nat}{l:List Nat}:gJ (x::l) k=(Nat.beq x k||gJ l k):=rfl
theorem Td{c:Nat}:∀ (l:List Oper) (i:Nat) (aN:List Nat),
  (∀k,gJ aN k=true->gJ (qK c l i aN) k=true)/\(∀k,gJ (qK c l i aN) k=true->gJ aN k=true\/i<=k)/\
  (∀j o,l[j]? =some o->i+j=c->gJ (qK c l i aN) (i+j)=true)/\
  (∀j o,l[j]? =some o->gJ (qK c l i aN) (i+j)=true->gJ aN (i+j)=true\/i+j=c\/∃e∈o.after,Region.binds .any e=true/\gJ (qK c l i aN) e.on=true)/\
  (∀j o,l[j]? =some o->(∃e∈o.after,Region.binds .any e=true/\gJ (qK c l i aN) e.on=true/\e.on<i+j)->gJ (qK c l i aN) (i+j)=true)
 |[],i,aN=>⟨λ_ h=>h,λ_ h=>.inl h,λj o h=>by simp at h,λj o h=>by simp at h,λj o h=>by simp at h⟩
 |o::l,i,aN=>by
  have e:qK c (o::l) i aN=(match Nat.beq i c||o.after.toList.any (λe=>Region.binds .any e&&gJ aN e.on)with
   |true=>qK c l (i+1) (i::aN)
   |false=>qK c l (i+1) aN):=rfl
  cases hb:Nat.beq i c||o.after.toList.any (λe=>Region.binds .any e&&gJ aN e.on)with
  |true=>
   rw[hb]at e;dsimp only at e;rw[e];obtain⟨q1,q2,q3,q4,q5⟩:=Td l (i+1) (i::aN);have hi:gJ (qK c l (i+1) (i::aN)) i=true:=q1 i (by rw[Gv];simp);refine⟨λk hk=>q1 k (by rw[Gv,hk];simp),λk hk=>?_,λj o' hj hc=>?_,λj o' hj hk=>?_,λj o' hj hk=>?_⟩
   .rcases q2 k hk with h|h
    .rw[Gv,ia]at h
     rcases h with h|h
     .exact .inr (aib (gQ h))
     .exact .inl h
    .exact .inr (by omega)
   .cases j with
    |zero=>exact hi
    |succ j=>rw[show i+(j+1)=i+1+j by omega]at hc ⊢;exact q3 j o' (by simpa using hj) hc
   .cases j with
    |zero=>
     simp at hj;subst hj;rw[ia]at hb;rcases hb with hb|hb
     .exact .inr (.inl (gQ hb))
     .simp only[Cd,aH]at hb
      obtain⟨e',he,h1,h2⟩:=hb;exact .inr (.inr ⟨e',by simpa using he,h1,q1 _ (by rw[Gv,h2];simp)⟩)
    |succ j=>
     rw[show i+(j+1)=i+1+j by omega]at hk ⊢;rcases q4 j o' (by simpa using hj) hk with h|h|h
     .rw[Gv,ia]at h
      rcases h with h|h
      .have:=gQ h;omega
      .exact .inl h
     .exact .inr (.inl h)
     .exact .inr (.inr h)
   .cases j with
    |zero=>exact hi
    |succ j=>
     rw[show i+(j+1)=i+1+j by omega]at hk ⊢;exact q5 j o' (by simpa using hj) hk
  |false=>
   rw[hb]at e;dsimp only at e;rw[e];obtain⟨q1,q2,q3,q4,q5⟩:=Td l (i+1) aN;rw[aiv]at hb;refine⟨q1,λk hk=>?_,λj o' hj hc=>?_,λj o' hj hk=>?_,λj o' hj hk=>?_⟩
   .rcases q2 k hk with h|h
    .exact .inl h
    .exact .inr (by omega)
   .cases j with
    |zero=>have:=hb.1;rw[show i=c by omega]at this;simp at this
    |succ j=>rw[show i+(j+1)=i+1+j by omega]at hc ⊢;exact q3 j o' (by simpa using hj) hc
   .cases j with
    |zero=>
     rcases q2 _ hk with h|h
     .exact .inl h
     .omega
    |succ j=>
     rw[show i+(j+1)=i+1+j by omega]at hk ⊢;exact q4 j o' (by simpa using hj) hk
   .cases j with
    |zero=>
     simp at hj;subst hj;obtain⟨e',he,h1,h2,h3⟩:=hk
     have h4:gJ aN e'.on=true:=by
      rcases q2 _ h2 with h|h
      .exact h
      .omega
     have:=hb.2;rw[<-EW,Cd]at this;exact absurd ⟨e',by simpa using he,by rw[h1,h4];rfl⟩ this
    |succ j=>
     rw[show i+(j+1)=i+1+j by omega]at hk ⊢;exact q5 j o' (by simpa using hj) hk
structure EH (all:List Oper) (D:Nat->Bool) (fr:Fr) (aS:Nat->Fr) (aO:Nat->SV):Prop where
 first:aS 0=fr
 next:∀i o,all[i]? =some o->(D i=true->gf (aS i) o.dst (aO i) (aS (i+1)))/\(D i=false->aS (i+1)=aS i)
variable{D:Nat->Bool}{fr:Fr}
theorem IW{all:List Oper}{aO:Nat->SV}(hw:EH all D fr aS aO):∀ (i:Nat),i<=all.length->∀t,(aS i).get t=cz all fr aO D i t
 |0,_,t=>by rw[hw.first];rfl
 |i+1,hi,t=>by
  have cW:i<all.length:=hi;have ho:all[i]? =some all[i] :=cc cW;have h:=hw.next i _ ho;simp only[cz,ho,UG];rcases pE (D i)with hD|hD
  .rw[(h.1 hD).2.2 t,IW hw i (by omega) t]
   simp only[hD,dV]
  .rw[h.2 hD,IW hw i (by omega) t]
   simp[hD]
theorem EH.size{all:List Oper}{aO:Nat->SV}(hw:EH all D fr aS aO):∀ (i:Nat),i<=all.length->(aS i).size=fr.size
 |0,_=>by rw[hw.first]
 |i+1,hi=>by
  have ho:all[i]? =some all[i] :=cc hi;have h:=hw.next i _ ho;rcases pE (D i)with hD|hD
  .rw[(h.1 hD).1];exact EH.size hw i (by omega)
  .rw[h.2 hD];exact EH.size hw i (by omega)
theorem Wt{all:List Oper}{aO:Nat->SV}{S:Nat->Bool}{t:Nat}(ht:∀ (j:Nat) (oj:Oper),all[j]? =some oj->oj.dst≠some t):∀n,cz all fr aO S n t=fr.get t
 |0=>rfl
 |n+1=>by
  simp only[cz];rw[au,Wt ht n]
  rintro ⟨_,h⟩
  cases ho:all[n]? with
  |none=>rw[ho]at h;simp at h
  |some o=>rw[ho]at h;exact ht n o ho (by simpa using h)
def zo6{ds:List Deferred}{w0:World}{R0:eo}{all:List Oper}{aO:Nat->SV}{m':Mem}{v:SV}{c:Nat}{oc:Oper}(hw:EH all D fr aS aO)(hi:UY all)
  (Tt:∀i o,all[i]? =some o->D i=true->gE P all o (aS i) m (aO i) m) (hc:all[c]? =some oc) (HE:oc.guard=none) (T4:D c=false) (TF:E4 P m v m' oc (t4 (aS all.length)))
  (TZ:∀i o,all[i]? =some o->D i=false->i≠c->∃e∈o.after,Region.binds .any e=true/\D e.on=false) (aAt:∀j oj,all[j]? =some oj->D j=true->∀e∈oj.after,Region.binds .any e=true->D e.on=true)
  {Q:Exit->Act->World->Prop} {ρ0:bu} {wa:World}
  (hQ:∀I' w' a u,aQ w0 R0 I' w' m'->fr.size=a.tmps.size->a.defers=ds->(∀t,(∀ (j:Nat) (oj:Oper),all[j]? =some oj->oj.dst≠some t)->aJ (RO w0 R0 I' w' m') I' m'.next w' (fr.get t) (a.tmps.getD t Go.undef))->m8 w0 R0 ρ0 wa m I' w' m'->aJ (RO w0 R0 I' w' m') I' m'.next w' v u->Q (.panic [{v:=u,recovered:=false}]) a w'):
  ∀ (rP:Nat) (aZ:Array Bool) (I:bu) (w:World) (a:Act),aZ.size=all.length->nD aZ all.length=rP->
  (∀j oj,all[j]? =some oj->aZ.getD j true=true->∀e∈oj.after,Region.binds .any e=true->aZ.getD e.on false=true)->(∀k,k<all.length->aZ.getD k true=true->D k=true)->
  aQ w0 R0 I w m->fr.size=a.tmps.size->a.defers=ds->(∀t,aJ (RO w0 R0 I w m) I m.next w (cz all fr aO (λi=>aZ.getD i true) all.length t) (a.tmps.getD t Go.undef))->m8 w0 R0 ρ0 wa m I w m->
  wpAny P .any all.toArray Q rP aZ a w:=by
 have ahG:=(iZ.1 hc).1
 have Sr:∀ (aZ:Array Bool),aZ.size=all.length->Region.ready .any all.toArray aZ=[] ->∀i,i<all.length->aZ.getD i true=true:=by
  intro aZ bS hr i
  induction i using Nat.strongRecOn with
  |_ i ih=>
   intro jX;rcases pE (aZ.getD i true)with h|h
   .exact h
   .have:i∈Region.ready .any all.toArray aZ:=by
     rw[mem_ready];refine⟨h,all[i],by simp[jX],λe he hb=>?_⟩;have cW:=hi.back i _ (cc jX) e he hb;have h1:=ih e.on cW (by omega);rw[jx,qX (by omega)]at h1 ⊢
     simpa using h1
    rw[hr]at this
    cases this
 have never:∀ (aZ:Array Bool),(∀k,k<all.length->aZ.getD k true=true->D k=true)->(∀i,i<all.length->aZ.getD i true=true)->False:=by
  intro aZ h1 h2;have:=h1 c ahG (h2 c ahG);rw[T4]at this;cases this
 intro rP
 induction rP with
 |zero=>
  intro aZ I w a bS G8 eT hD hm hs hd fQ qj;exact(never aZ hD (Sz _ G8)).elim
 |succ rP ih=>
  intro aZ I w a bS G8 eT hD hm hs hd fQ qj;refine⟨λhr=>(never aZ hD (Sr aZ bS hr)).elim,λi Hy=>?_⟩;obtain⟨hl,o,ho,BS⟩:=mem_ready.1 Hy
  have bT:all[i]? =some o:=by simpa using ho
  have jX:i<all.length:=(iZ.1 bT).1
  have before:∀j oj,all[j]? =some oj->j<i->oj.apart all.toArray o=false->aZ.getD j true=true:=by
   intro j oj hj iE BT;rcases hi.pair j i oj o iE hj bT with⟨e,he,hb,dD⟩|h
   .have:=BS e he hb
    rw[dD,jx]at this
    have gu:j<aZ.size:=by rw[bS];exact(iZ.1 hj).1
    rw[qX gu]at this;rw[jx,qX gu]
    simpa using this
   .rw[BT]at h;cases h
  have behind:∀j oj,all[j]? =some oj->i<j->o.apart all.toArray oj=false->aZ.getD j true=false:=by
   intro j oj hj lh BT;rcases hi.pair i j o oj lh bT hj with⟨e,he,hb,dD⟩|h
   .rcases pE (aZ.getD j true)with hc|hc
    .have:=eT j oj hj hc e he hb
     rw[dD,jx]at this;rw[jx]at hl;rw[qX (by omega)]at this hl;simp at this hl;rw[this]at hl;cases hl
    .exact hc
   .rw[BT]at h;cases h
  have up:∀k,aZ.getD k false=true->aZ.getD k true=true:=λk hk=>by
   rw[jx]at hk ⊢
   cases hx:aZ[k]? with
   |none=>rfl
   |some b=>rw[hx]at hk;simpa using hk
  -- nothing C9 waits for the call is ready
  have aAa:i=c\/D i=true:=by
   by_cases BP:i=c
   .exact .inl BP
   .right
    rcases pE (D i)with h|h
    .exact h
    .obtain⟨e,he,hb,h2⟩:=TZ i o bT h BP
     have h3:=hD e.on (Nat.lt_trans (hi.back i o bT e he hb) jX) (up _ (BS e he hb));rw[h2]at h3;cases h3
  have Tj:∀ (F:Fr),(∀t,t∈o.looksAt all.toArray->cz all fr aO (λk=>aZ.getD k true) all.length t=F.get t)->∀g,fV all F.get o=some g->Region.wanted o (yielded all.toArray a.tmps)=g:=λF hF g hg=>
   G3 (R:=RO w0 R0 I w m) (I:=I) (n:=m.next) (w:=w) (λj want d rJ td=>by rw[<-hF d (q88 rJ (by simpa using td))];exact fQ d) hg
  have ahC:∀ (F:Fr),(∀t,t∈o.looksAt all.toArray->cz all fr aO (λk=>aZ.getD k true) all.length t=F.get t)->∀x∈o.op.operands,aJ (RO w0 R0 I w m) I m.next w (t4 F x) (a.eval x):=by
   intro F hF x hx
   cases x with
   |tmp t=>
    show aJ _ _ _ _ (F.get t) _;rw[<-hF t (q89 hx)];exact fQ t
   |const v=>exact FH v _ _ _ _
   |global g=>exact rfl
   |func f=>exact⟨[],[],rfl,rfl,rfl⟩
  unfold wpOp;rw[ho];dsimp only
  by_cases BP:i=c
  .subst BP
   rw[hc]at bT;cases bT
   have looks:∀t,t∈oc.looksAt all.toArray->cz all fr aO (λk=>aZ.getD k true) all.length t=(aS all.length).get t:=by
    intro t ht;rw[IW hw _ (bA _)]
    refine AW _ λj hj ig=>?_
    have qk:all[j].dst=some t:=by simpa[cc hj]using ig
    rcases NC j i with h|h|h
    .have h1:=before j _ (cc hj) h (by simp[Oper.apart,qk,ht])
     rw[h1,hD j hj h1]
    .subst h;rw[hl,T4]
    .have h1:=behind j _ (cc hj) h (by simp[Oper.apart,qk,ht])
     rw[h1];rcases hi.pair i j oc _ h hc (cc hj)with⟨e,he,hb,dD⟩|h2
     .rcases pE (D j)with h3|h3
      .have:=aAt j _ (cc hj) h3 e he hb
       rw[dD,T4]at this;cases this
      .exact h3.symm
     .have:oc.apart all.toArray all[j] =false:=by simp[Oper.apart,qk,ht]
      rw[this]at h2;cases h2
   rw[Tj _ looks true (by unfold fV;rw[HE]),ay rfl];refine .inl ?_;have h1:=TF w0 R0 I w a.eval hm (ahC _ looks);unfold Oper.wp;generalize (Go.execOp a.eval oc).run P w=r at h1
   have out:∀u w',n9 w0 R0 I w m v m' u w'->Q (.panic [{v:=u,recovered:=false}]) a w':=λu w' ⟨I',g1,g2,g3⟩=>
    hQ I' w' a u g1 hs hd (λt ht=>by
     have:=aJ.mono g2 _ _ (fQ t)
     rwa [Wt ht]at this) (qj.trans g2) g3
   match r,h1 with
   |.halt (.panic u) w',h1=>exact out u w' h1
   |.ok (.enter f args) w',h1=>
    rw[Oper.upon_enter]
    exact Calls.mono h1 λe C6 ⟨u,he,hu⟩=>by subst he;exact out u C6 hu
  .have T3:=aAa.resolve_left BP
   have looks:∀t,t∈o.looksAt all.toArray->cz all fr aO (λk=>aZ.getD k true) all.length t=(aS i).get t:=by
    intro t ht;rw[IW hw i (by omega),Fc (i:=i) all.length (by omega) (λj h1 h2 ig=>?_)]
    .refine AW i λj hj ig=>?_
     have gu:j<all.length:=by omega
     have qk:all[j].dst=some t:=by simpa[cc gu]using ig
     have h1:=before j _ (cc gu) hj (by simp[Oper.apart,qk,ht]);rw[h1,hD j gu h1]
    .by_cases iE:j=i
     .subst iE;exact hl
     .have gu:j<all.length:=h2
      refine behind j _ (cc gu) (by omega) ?_
      have qk:all[j].dst=some t:=by simpa[cc gu]using ig
      simp[Oper.apart,qk,ht]
   have ux:∀k,k<all.length->(aZ.setIfInBounds i true).getD k true=if k=i then true else aZ.getD k true:=by
    intro k hk
    by_cases dB:k=i
    .subst dB;simp[jx,uR,bS,jX]
    .rw[getD_set_ne true (Ne.symm dB),au dB]
   have Nc:∀t,cz all fr aO (λk=>(aZ.setIfInBounds i true).getD k true) all.length t=if o.dst=some t then aO i else cz all fr aO (λk=>aZ.getD k true) all.length t:=by
    intro t
    by_cases ht:o.dst=some t
    .rw[ay ht,Fc (i:=i+1) all.length jX (λj h1 h2 ig=>?_)]
     .simp only[cz,bT,UG]
      rw[ay ⟨by rw[ux i jX];simp,ht⟩]
     .rw[ux j h2,au (by omega)]
      refine behind j _ (cc h2) (by omega) ?_
      have qk:all[j].dst=some t:=by simpa[cc h2]using ig
      simp[Oper.apart,qk,ht]
    .rw[au ht]
     refine AW _ λj hj ig=>?_
     rw[ux j hj]
     by_cases iE:j=i
     .subst iE
      rw[bT]at ig;exact absurd (by simpa using ig) ht
     .rw[au iE]
   have Et:nD (aZ.setIfInBounds i true) all.length=rP:=by
    have:=SA all.length jX hl (by omega);omega
   have Ey:∀j oj,all[j]? =some oj->(aZ.setIfInBounds i true).getD j true=true->∀e∈oj.after,Region.binds .any e=true->(aZ.setIfInBounds i true).getD e.on false=true:=by
    intro j oj hj yd e he hb;have gu:j<all.length:=(iZ.1 hj).1;rw[ux j gu]at yd
    by_cases iE:j=i
    .subst iE
     rw[bT]at hj;cases hj;exact getD_set_true (BS e he hb)
    .rw[au iE]at yd
     exact getD_set_true (eT j oj hj yd e he hb)
   have Nj:∀k,k<all.length->(aZ.setIfInBounds i true).getD k true=true->D k=true:=λk hk h=>by
    rw[ux k hk]at h
    by_cases dB:k=i
    .subst dB;exact T3
    .rw[au dB]at h;exact hD k hk h
   have uB:=(hw.next i o bT).1 T3
   have GI:∀ (I':bu) (w':World) (u:Value),m8 w0 R0 I w m I' w' m->aJ (RO w0 R0 I' w' m) I' m.next w' (aO i) u->∀t,aJ (RO w0 R0 I' w' m) I' m.next w' (cz all fr aO (λk=>(aZ.setIfInBounds i true).getD k true) all.length t) ((a.put o.dst u).tmps.getD t Go.undef):=by
    intro I' w' u he hu t;rw[Nc t]
    have h1:∀d,o.dst=some d->d<a.tmps.size:=λd ig=>by rw[<-hs,<-hw.size i (by omega)];exact uB.2.1 d ig
    cases HC:o.dst with
    |none=>simpa[Act.put]using aJ.mono he _ _ (fQ t)
    |some d=>
     have cW:=h1 d HC
     by_cases ht:d=t
     .subst ht
      simp[Act.put,uR,cW];exact hu
     .have:¬(some d=some t):=λe=>ht (by injection e)
      rw[au this];have h2:=aJ.mono he _ _ (fQ t)
      simpa[Act.put,NN ht]using h2
   have D3:∀u,fr.size=(a.put o.dst u).tmps.size:=λu=>by rw[hs];cases o.dst<;>simp[Act.put]
   rcases Tt i o bT T3 with⟨hg,nH⟩|⟨hg,hv,_⟩
   .rw[Tj _ looks _ hg,ay rfl]
    refine .inl ?_;unfold Oper.wp;refine Mg (λu w' hu=>?_) (nH w0 R0 I w a.eval hm (ahC _ looks));obtain⟨I',g1,g2,g3⟩:=hu;exact ih _ I' w' _ (by simpa using bS) Et Ey Nj g1 (D3 u) (by rw[zu];exact hd) (GI I' w' u g2 g3) (qj.trans g2)
   .rw[Tj _ looks _ hg]
    simp only[eY,iD];exact ih _ I w _ (by simpa using bS) Et Ey Nj hm (D3 _) (by rw[zu];exact hd) (GI I w Go.undef (Ext.refl _ _ _ _) (by rw[hv];rfl)) qj
def yT7(hE:dF P E){dH:eS α}(qm:jL P true dH){all:List Oper}{o:Oper}{ih:gR α}{p:ax}{L:α->Prop}(h:(mh E (quiet E) dH all o ih p fr m).holds L):
  ∃p' v aW,(ih p' aW m).holds L/\gE P all o fr m v m/\gf fr o.dst v aW:=by
 have hq:quiet E o.op=true\/fV all fr.get o=some false:=by
  unfold mh at h
  cases hg:o.guard with
  |none=>
   rw[hg]at h;dsimp only at h
   split at h;.rename_i hq;exact .inl hq
   .exact h.elim
  |some jw=>
   cases hq:quiet E o.op with
   |true=>exact .inl rfl
   |false=>
    right;rw[hg]at h;dsimp only at h;rw[tH]at h
    split at h
    .rename_i oj BM
     split at h
     .rename_i d hd
      have hb:(all[jw.1]?).bind (·.dst)=some d:=by rw[BM];exact hd
      split at h
      .rename_i b cn
       obtain⟨p',h⟩:=qy h;obtain⟨cH,h1,h2⟩:=Fr.iN h
       split at h2;.rw[hq]at h2;cases h2
       .rename_i uD
        simp only[fV,hg,hb,cn];rw[uD]
      .rename_i cn
       simp only[fV,hg,hb,cn]
      .exact h.elim
     .exact h.elim
    .exact h.elim
 obtain⟨p1,v,aW,m1,h1,h2,h3,h4⟩:=FF hE qm h
 have hm:m1=m:=by
  rcases hq with hq|hq
  .exact h4.quiet rfl hq
  .rcases h2 with⟨hg,_⟩|⟨_,_,hm⟩
   .rw[hq]at hg;cases hg
   .exact hm
 subst hm;exact⟨p1,v,aW,h1,h2,h3⟩
theorem z26(hE:dF P E){dH:eS α}(qm:jL P true dH){W:List Nat}{all:List Oper}{k:gR α}{L:α->Prop}:∀ (ops:List Oper) (i:Nat) (p:ax) (fr:Fr) (m:Mem),(z25 E dH W all ops k i p fr m).holds L->
  ∃p' aD,(k p' aD m).holds L/\∃ (aS:Nat->Fr) (aO:Nat->SV),aS 0=fr/\aS ops.length=aD/\∀j o,ops[j]? =some o->(gJ W (i+j)=false->gf (aS j) o.dst (aO j) (aS (j+1))/\gE P all o (aS j) m (aO j) m)/\(gJ W (i+j)=true->aS (j+1)=aS j)
 |[],i,p,fr,m,h=>⟨p,fr,h,λ_=>fr,λ_=>.undef,rfl,rfl,λj o h=>by simp at h⟩
 |o::rest,i,p,fr,m,h=>by
  have e:z25 E dH W all (o::rest) k i=(match gJ W i with
   |true=>z25 E dH W all rest k (i+1)
   |false=>mh E (quiet E) dH all o (z25 E dH W all rest k (i+1))):=rfl
  rw[e]at h
  cases hW:gJ W i with
  |true=>
   rw[hW]at h;obtain⟨p',aD,h1,aS,aO,h2,h3,h4⟩:=z26 hE qm rest (i+1) p fr m h;refine⟨p',aD,h1,λj=>Nat.casesOn j fr aS,λj=>Nat.casesOn j .undef aO,rfl,h3,λj o' hj=>?_⟩
   cases j with
   |zero=>exact⟨λhc=>(by rw[wq,hW]at hc;cases hc),λ_=>h2⟩
   |succ j=>rw[show i+(j+1)=i+1+j by omega];exact h4 j o' (by simpa using hj)
  |false=>
   rw[hW]at h;obtain⟨p1,v,aW,g1,g2,g3⟩:=yT7 hE qm h;obtain⟨p',aD,h1,aS,aO,h2,h3,h4⟩:=z26 hE qm rest (i+1) p1 aW m g1;refine⟨p',aD,h1,λj=>Nat.casesOn j fr aS,λj=>Nat.casesOn j v aO,rfl,h3,λj o' hj=>?_⟩
   cases j with
   |zero=>
    simp at hj;subst hj;exact⟨λ_=>⟨(by dsimp only;rw[h2];exact g3),g2⟩,λhc=>by rw[wq,hW]at hc;cases hc⟩
   |succ j=>rw[show i+(j+1)=i+1+j by omega];exact h4 j o' (by simpa using hj)
theorem SD{L:α->Prop}:∀ (ops:List Oper) (fr:Fr) (k:Fr->ak α),(GV ops fr k).holds L->∃aD,(k aD).holds L/\aD.size=fr.size/\∀t,aD.get t=.di\/(aD.get t=fr.get t/\∀ (j:Nat) (oj:Oper),ops[j]? =some oj->oj.dst≠some t)
 |[],fr,k,h=>⟨fr,h,rfl,λt=>.inr ⟨rfl,λj oj h=>by simp at h⟩⟩
 |o::rest,fr,k,h=>by
  have e:GV (o::rest) fr k=(match o.dst with
   |some d=>fr.set d .di λfr=>GV rest fr k
   |none=>GV rest fr k):=rfl
  rw[e]at h
  cases hd:o.dst with
  |none=>
   rw[hd]at h;obtain⟨aD,h1,h2,h3⟩:=SD rest fr k h;refine⟨aD,h1,h2,λt=>(h3 t).imp id λ⟨g1,g2⟩=>⟨g1,λj oj hj=>?_⟩⟩
   cases j with
   |zero=>simp at hj;subst hj;rw[hd];simp
   |succ j=>exact g2 j oj (by simpa using hj)
  |some d=>
   rw[hd]at h;obtain⟨aW,q1,q2⟩:=Fr.iN h;obtain⟨aD,h1,h2,h3⟩:=SD rest aW k q2;refine⟨aD,h1,h2.trans q1.1,λt=>?_⟩;rcases h3 t with g|⟨g1,g2⟩
   .exact .inl g
   .by_cases ht:some d=some t
    .left;rw[g1,q1.2.2 t,ay ht]
    .right
     refine⟨by rw[g1,q1.2.2 t,au ht],λj oj hj=>?_⟩
     cases j with
     |zero=>simp at hj;subst hj;rw[hd];exact ht
     |succ j=>exact g2 j oj (by simpa using hj)
end
end
end Go.Sx
