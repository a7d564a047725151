/-
  Evaluator, contracts, plain law.
-/
import Derived.Test.YtnkaepnblikcdaaGreatVC1
set_option maxRecDepth 100000
set_option linter.unusedVariables false
set_option linter.unusedSimpArgs false
open Go.IntKind (i64 u64 u8)
namespace Go.Sx
open Go.RowKit
section
variable {P:Program} {E:Env} {O:Type}
def zc1(P:Program)(Φ:Value->World->Prop):Result Next->Prop
 |.ok (.value v) w=>Φ v w
 |.ok .skip w=>Φ Go.undef w
 |.ok (.enter f args) w=>Calls P f args w λe w'=>∃v,e=.returned v/\Φ v w'
 |_=>False
theorem zc1.mono{Φ Ψ:Value->World->Prop}(h:∀v w,Φ v w->Ψ v w):∀{r:Result Next},zc1 P Φ r->zc1 P Ψ r
 |.ok (.value v) w,k=>h v w k
 |.ok .skip w,k=>h _ w k
 |.ok (.enter f args) w,k=>Calls.mono k λe w' ⟨v,he,hv⟩=>⟨v,he,h v w' hv⟩
def zd7(P:Program)(m:Mem)(v:SV)(m':Mem)(o:Oper)(ev:Operand->SV):Prop:=
 ∀w0 R0 I w (eb:Operand->Value),MRel w0 R0 I w m->(∀x∈o.op.operands,Rep (RO w0 R0 I w m) I m.next w (ev x) (eb x))->zc1 P (f5 w0 R0 I w m v m') ((Go.execOp eb o).run P w)
def zd6(P:Program)(m:Mem)(v:SV)(m':Mem)(f:FuncId)(args:List SV):Prop:=
 ∀w0 R0 I w (vs:List Value),MRel w0 R0 I w m->j7 (RO w0 R0 I w m) I m.next w args vs->zc1 P (f5 w0 R0 I w m v m') ((Go.callFunc f vs.toArray).run P w)
def za5(P:Program)(Q:Bool)(call:za4 O):Prop:=
 ∀f args p m (Z:r9 O) (L:O->Prop),(call f args p m Z).holds L->∃v p' m',(Z v p' m').holds L/\(Q=true->m'=m/\∀m2,zd6 P m2 v m2 f args)/\zd6 P m v m' f args
variable{w:World}
theorem yN8{Φ:Value->World->Prop}{s:Sem Value}{u:Value}{w':World}(h:s.run P w=.ok u w')(hΦ:Φ u w'):zc1 P Φ ((do pure (Next.value (<-s)):Sem Next).run P w):=by
 simp only[Sem.run_bind,h,Result.andThen_ok,Sem.run_pure];exact hΦ
theorem yu3(v:Value)(R:Nat->Prop)(I:Rho)(n:Nat)(w:World):Rep R I n w (yu2 v) v:=by
 unfold yu2
 split<;>rfl
theorem yu4(R:Nat->Prop)(I:Rho)(n:Nat)(w:World):∀vs:List Value,j7 R I n w (vs.map yu2) vs
 |[] =>rfl
 |v::vs=>⟨v,vs,rfl,yu3 v R I n w,yu4 R I n w vs⟩
theorem yu6(v:Value)(R:Nat->Prop)(I:Rho)(n:Nat)(w:World):Rep R I n w (yu5 v) v:=by
 unfold yu5
 split
 .rename_i cs
  exact⟨cs.toList,rfl,yu4 R I n w _⟩
 .rename_i f a c
  split
  .rename_i ha hc
   refine⟨[],[],?_,rfl,rfl⟩
   have h1:a=#[] :=by apply Array.ext';simpa using ha
   have h2:c=#[] :=by apply Array.ext';simpa using hc
   rw[h1,h2]
  .rfl
 .exact yu3 _ R I n w
variable{R:Nat->Prop}{I:Rho}{n:Nat}
theorem xM1:∀{x:SV} {v u:Value},xM0 x=some v->Rep R I n w x u->u=v
 |.int _ _,_,_,h,hr=>by injection h with h;subst h;exact hr
 |.bool _,_,_,h,hr=>by injection h with h;subst h;exact hr
 |.str _,_,_,h,hr=>by injection h with h;subst h;exact hr
theorem xM3:∀{xs:List SV} {vs us:List Value},xM2 xs=some vs->j7 R I n w xs us->us=vs
 |[],_,_,h,hr=>by injection h with h;subst h;exact hr
 |x::xs,vs,us,h,hr=>by
  obtain⟨u,us',rfl,h1,h2⟩:=hr;unfold xM2 at h
  split at h
  .rename_i v vs' e1 e2
   injection h with h;subst h;rw[xM1 e1 h1,xM3 e2 h2]
  .cases h
theorem xM5{x:SV}{v u:Value}(h:xM4 x=some v)(hr:Rep R I n w x u):u=v:=by
 unfold xM4 at h
 split at h
 .rename_i cs
  split at h
  .rename_i vs e
   injection h with h;subst h;obtain⟨us,rfl,h2⟩:=hr;rw[xM3 e h2]
  .cases h
 .exact xM1 h hr
theorem zC9{b:Bool}{p:Prop}(h:b=false)(k:b=true):p:=by rw[h]at k;cases k
structure Extra (P:Program) (Q:Bool) (m:Mem) (v:SV) (m':Mem) (o:Oper) (ev:Operand->SV):Prop where
 pure:yP0 o.op=true->∀m2,zd7 P m2 v m2 o ev
 shape:xF1 o.op=true->∀m2,zd9 m m2->zd7 P m2 v m2 o ev
 up:Q=true->xW4 o.op=true->∀m2,Up m m2->zd7 P m2 v m2 o ev
 store:qJ7 o.op=true->zd9 m m'/\zd9 m' m
 alloc:qJ1 o.op=true->m.get m.next=none->Up m m'
variable{Q:Bool}{m:Mem}{v:SV}{o:Oper}{ev:Operand->SV}
theorem Extra.ofPure{P:Program}(h1:xF1 o.op=false)(h2:xW4 o.op=false)(h3:qJ7 o.op=false)(h4:qJ1 o.op=false)(h:∀m2,zd7 P m2 v m2 o ev):zd7 P m v m o ev/\Extra P Q m v m o ev:=
 ⟨h m,λ_=>h,λk=>zC9 h1 k,λ_ k=>zC9 h2 k,λk=>zC9 h3 k,λk=>zC9 h4 k⟩
theorem Extra.none{P:Program}{m':Mem}(h0:yP0 o.op=false)(h1:xF1 o.op=false)(h2:xW4 o.op=false)(h3:qJ7 o.op=false)(h4:qJ1 o.op=false):Extra P Q m v m' o ev:=
 ⟨λk=>zC9 h0 k,λk=>zC9 h1 k,λ_ k=>zC9 h2 k,λk=>zC9 h3 k,λk=>zC9 h4 k⟩
theorem Extra.ofShape{P:Program}(h1:yP0 o.op=false)(h2:xW4 o.op=false)(h3:qJ7 o.op=false)(h4:qJ1 o.op=false)(h:∀m2,zd9 m m2->zd7 P m2 v m2 o ev):zd7 P m v m o ev/\Extra P Q m v m o ev:=
 ⟨h m (zd9.refl m),λk=>zC9 h1 k,λ_=>h,λ_ k=>zC9 h2 k,λk=>zC9 h3 k,λk=>zC9 h4 k⟩
theorem Extra.ofUp{P:Program}(h1:yP0 o.op=false)(h2:xF1 o.op=false)(h3:qJ7 o.op=false)(h4:qJ1 o.op=false)(h:∀m2,Up m m2->zd7 P m2 v m2 o ev):zd7 P m v m o ev/\Extra P Q m v m o ev:=
 ⟨h m (Up.refl m),λk=>zC9 h1 k,λk=>zC9 h2 k,λ_ _=>h,λk=>zC9 h3 k,λk=>zC9 h4 k⟩
theorem y76{P:Program}{xt t:TypeId}{d:TypeDesc}{z:Value}(hu:P.underlying t=some d)(hi:qJ3 d=false)(hz:∀w,(zeroValue t).run P w=.ok z w):(Instr.typeAssert .nilIface xt t true).run P w=.ok (.tuple #[z,.bool false]) w:=by
 unfold Instr.typeAssert;rw[Sem.run_bind,run_underlying hu,Result.andThen_ok]
 cases d<;>first|(cases hi;done)|(show Sem.run P (do let z <-zeroValue t;pure (Value.tuple #[z,.bool false])) w=_;rw[Sem.run_bind,hz,Result.andThen_ok,Sem.run_pure])
theorem y75{P:Program}{xt t:TypeId}{d:TypeDesc}{v:Value}(hu:P.underlying t=some d)(hi:qJ3 d=false):(Instr.typeAssert (.iface t v) xt t true).run P w=.ok (.tuple #[v,.bool true]) w:=by
 unfold Instr.typeAssert;rw[Sem.run_bind,run_underlying hu,Result.andThen_ok]
 cases d<;>first|(cases hi;done)|(show Sem.run P (if t=t then pure (Value.tuple #[v,.bool true])else _) w=_;rw[if_pos rfl,Sem.run_pure])
theorem zU4(hE:EOK P E){call:za4 O}(hcall:za5 P Q call){p:Plan}{Z:r9 O}{L:O->Prop}(h:(execOp E call ev o.op p m Z).holds L):
  ∃v p' m',(Z v p' m').holds L/\(Q=true->quiet E o.op=true->m'=m)/\(zd7 P m v m' o ev/\Extra P Q m v m' o ev):=by
 obtain⟨dst,op,ty,pos,after,guard⟩:=o
 cases op<;>dsimp only[execOp]at h<;>try exact h.elim
 case move x=>
  rw[qs6]at h;exact⟨_,p,m,h,λ_ _=>rfl,Extra.ofPure rfl rfl rfl rfl λm2 w0 R0 I w eb hm hev=>f5.same hm (hev x (by simp[Op.operands,Call.operands]))⟩
 case assign x=>
  rw[qs6]at h;exact⟨_,p,m,h,λ_ _=>rfl,Extra.ofPure rfl rfl rfl rfl λm2 w0 R0 I w eb hm hev=>f5.same hm (hev x (by simp[Op.operands,Call.operands]))⟩
 case pick c a b=>
  split at h
  .rename_i cb hc
   obtain⟨p',h⟩:=zK3 h;rw[qs6]at h;refine⟨_,p',m,h,λ_ _=>rfl,Extra.ofPure rfl rfl rfl rfl λm2 w0 R0 I w eb hm hev=>?_⟩;have h1:=hev c (by simp[Op.operands,Call.operands]);rw[hc]at h1;have h1':eb c=.bool cb:=h1;simp only[Go.execOp,h1',asBool,pure_bind,Sem.run_pure];refine f5.same hm ?_
   cases cb
   .exact hev b (by simp[Op.operands,Call.operands])
   .exact hev a (by simp[Op.operands,Call.operands])
  .exact h.elim
 case alloc t=>
  split at h
  .rename_i r hr
   split at h
   .rw[qs3]at h
    obtain⟨m',h1,h2⟩:=Mem.push_holds h;have hok:=hE.row _ _ hr;obtain⟨z,hz1,hz2,_⟩:=y78 hok;refine⟨_,p,m',h2,λ_ hq=>(by cases hq),⟨λw0 R0 I w eb hm hev=>?_,⟨(λk=>by cases k),(λk=>by cases k),(λ_ k=>by cases k),(λk=>by cases k),λ_ hn=>h1.up hn⟩⟩⟩;obtain⟨g1,g2⟩:=hm.alloc (o:=.cells z.cells t) h1 0 0 (λR n' I' e'=>⟨_,heap_alloc_new w _,hz2 _ _ _ _⟩);refine yN8 (u:=.pointer (some ⟨w.heap.size,0,none⟩)) (w':=w.alloc (.cells z.cells t)) ?_ ⟨_,g1,g2,by rw[h1.2];omega,by rw[t9]⟩;simp[Instr.alloc,hz1,newVar,newRow]
   .rw[qs3]at h
    obtain⟨m',h1,h2⟩:=Mem.push_holds h;have hok:=hE.row _ _ hr;obtain⟨z,hz1,hz2,_⟩:=y78 hok;refine⟨_,p,m',h2,λ_ hq=>(by cases hq),⟨λw0 R0 I w eb hm hev=>?_,⟨(λk=>by cases k),(λk=>by cases k),(λ_ k=>by cases k),(λk=>by cases k),λ_ hn=>h1.up hn⟩⟩⟩;obtain⟨g1,g2⟩:=hm.alloc (o:=.cells z.cells t) h1 0 0 (λR n' I' e'=>⟨_,t,(0,0),heap_alloc_new w _,xV9 _,hz2 _ _ _ _⟩);refine yN8 (u:=.pointer (some ⟨w.heap.size,0,none⟩)) (w':=w.alloc (.cells z.cells t)) ?_ ⟨_,g1,g2,by rw[h1.2];omega,by rw[t9]⟩;simp[Instr.alloc,hz1,newVar,newRow]
  .exact h.elim
 case box t x=>
  split at h
  .rename_i hone
   rw[qs3]at h;obtain⟨m',h1,h2⟩:=Mem.push_holds h;refine⟨_,p,m',h2,λ_ hq=>(by cases hq),⟨λw0 R0 I w eb hm hev=>?_,Extra.none rfl rfl rfl rfl rfl⟩⟩;obtain⟨k1,k2⟩:=(hev x (by simp[Op.operands,Call.operands])).cells hone;obtain⟨g1,g2⟩:=hm.alloc (o:=.cells (eb x).cells t) h1 0 0 (λR n' I' e'=>⟨_,t,(0,0),heap_alloc_new w _,xV9 _,j7.mono e' _ _ k1⟩);refine yN8 (u:=.pointer (some ⟨w.heap.size,0,none⟩)) (w':=w.alloc (.cells (eb x).cells t)) ?_ ⟨_,g1,g2,by rw[h1.2];omega,by rw[t9]⟩;simp[Instr.box,newVar,newRow]
  .exact h.elim
 case build t parts=>
  obtain⟨v,h1,h2⟩:=yz0 hE h;refine⟨v,p,m,h1,λ_ _=>rfl,Extra.ofPure rfl rfl rfl rfl λm2 w0 R0 I w eb hm hev=>?_⟩;obtain⟨u,h3,h4⟩:=h2 m2 w0 R0 I w (parts.toList.map λx=>(x.1,eb x.2)) (PR.map ev eb _ λx hx=>hev x.2 (by simp only[Op.operands];simpa using ⟨x.1,by simpa using hx⟩));refine yN8 (u:=u) (w':=w) ?_ (f5.same hm h4);rw[<-h3]
  congr 2
  apply Array.ext';simp
 case buildSlice t n parts=>
  obtain⟨v,m',h1,h2⟩:=yy9 hE h;refine⟨v,p,m',h1,λ_ hq=>(by cases hq),⟨λw0 R0 I w eb hm hev=>?_,Extra.none rfl rfl rfl rfl rfl⟩⟩;obtain⟨u,w',h3,h4⟩:=h2 w0 R0 I w (parts.toList.map λx=>(x.1,eb x.2)) hm (PR.map ev eb _ λx hx=>hev x.2 (by simp only[Op.operands];simpa using ⟨x.1,by simpa using hx⟩));refine yN8 (u:=u) (w':=w') ?_ h4;rw[<-h3]
  congr 2
  apply Array.ext';simp
 case load t a=>
  obtain⟨v,h1,h2⟩:=yB1 hE h;refine⟨v,p,m,h1,λ_ _=>rfl,Extra.ofUp rfl rfl rfl rfl λm2 hup w0 R0 I w eb hm hev=>?_⟩;obtain⟨u,h3,h4⟩:=h2 m2 hup w0 R0 I w _ hm (hev a (by simp[Op.operands,Call.operands]));exact yN8 h3 (f5.same hm h4)
 case store t a x=>
  obtain⟨m',h1,hsh,h2⟩:=yC2 hE h;refine⟨_,p,m',h1,λ_ hq=>(by cases hq),⟨λw0 R0 I w eb hm hev=>?_,⟨(λk=>by cases k),(λk=>by cases k),(λ_ k=>by cases k),λ_=>hsh,(λk=>by cases k)⟩⟩⟩;obtain⟨w',h3,h4,h5⟩:=h2 w0 R0 I w _ _ hm (hev a (by simp[Op.operands,Call.operands])) (hev x (by simp[Op.operands,Call.operands]));simp only[Go.execOp,Sem.run_bind,h3,Result.andThen_ok,Sem.run_pure];exact⟨I,h4,h5,rfl⟩
 case nilCheck x=>
  split at h<;>first
   |exact h.elim
   |(rename_i heq
     refine⟨_,p,m,h,λ_ _=>rfl,Extra.ofPure rfl rfl rfl rfl λm2 w0 R0 I w eb hm hev=>?_⟩;have h1:=hev x (by simp[Op.operands,Call.operands]);rw[heq]at h1
     first
      |(obtain⟨_,h2⟩:=h1
        have h3:=hev x (by simp[Op.operands,Call.operands]);rw[heq]at h3;simp only[Go.execOp,h2,Sem.run_pure];rw[h2]at h3
        exact f5.same hm h3)
      |(obtain⟨b,o,h2,h4⟩:=h1
        have h3:=hev x (by simp[Op.operands,Call.operands]);rw[heq]at h3;simp only[Go.execOp,h2,Sem.run_pure];rw[h2]at h3
        exact f5.same hm h3))
 case binOp op t x y ty'=>
  obtain⟨v,h1,h2⟩:=yy6 hE h;refine⟨v,p,m,h1,λ_ _=>rfl,Extra.ofPure rfl rfl rfl rfl λm2 w0 R0 I w eb hm hev=>?_⟩;obtain⟨u,h3,h4⟩:=h2 m2 w0 R0 I w _ _ x y (hev x (by simp[Op.operands,Call.operands])) (hev y (by simp[Op.operands,Call.operands]));exact yN8 h3 (f5.same hm h4)
 case unOp op t x=>
  obtain⟨v,h1,h2⟩:=yC4 (P:=P) h;refine⟨v,p,m,h1,λ_ _=>rfl,Extra.ofPure rfl rfl rfl rfl λm2 w0 R0 I w eb hm hev=>?_⟩;obtain⟨u,h3,h4⟩:=h2 m2 w0 R0 I w _ (hev x (by simp[Op.operands,Call.operands]));exact yN8 h3 (f5.same hm h4)
 case convert s d x=>
  obtain⟨v,m',h1,hq',h2⟩:=yz5 hE h;refine⟨v,p,m',h1,λ_ hq=>hq' λr e hr hd=>?_,⟨λw0 R0 I w eb hm hev=>?_,Extra.none rfl rfl rfl rfl rfl⟩⟩
  .simp only[quiet,hr]at hq
   obtain⟨de,sz,by_,ze,ty',eg,he⟩:=r;dsimp only at hd;subst hd
   cases hq
  .obtain⟨u,w',h3,h4⟩:=h2 w0 R0 I w _ hm (hev x (by simp[Op.operands,Call.operands]))
   exact yN8 h3 h4
 case makeFunc fn first cap=>
  cases fn<;>try exact h.elim
  case func f=>
   refine⟨_,p,m,h,λ_ _=>rfl,Extra.ofPure rfl rfl rfl rfl λm2 w0 R0 I w eb hm hev=>?_⟩;refine yN8 (u:=.func (.func f) (first.map eb) (cap.map eb)) (w':=w) (by rfl) (f5.same hm ⟨first.toList.map eb,cap.toList.map eb,?_,j7.map ev eb _ (λx hx=>hev x (by simp[Op.operands]at hx ⊢;simp[hx])),j7.map ev eb _ λx hx=>hev x (by simp[Op.operands]at hx ⊢;simp[hx])⟩)
   congr 1<;>(apply Array.ext';simp)
 case makeSlice t l c=>
  obtain⟨v,m',h1,h2⟩:=yB3 hE h;refine⟨v,p,m',h1,λ_ hq=>(by cases hq),⟨λw0 R0 I w eb hm hev=>?_,Extra.none rfl rfl rfl rfl rfl⟩⟩;obtain⟨u,w',h3,h4⟩:=h2 w0 R0 I w _ _ hm (hev l (by simp[Op.operands,Call.operands])) (hev c (by simp[Op.operands,Call.operands]));exact yN8 h3 h4
 case slice t x lo hi mx=>
  obtain⟨v,m',h1,hq',h2⟩:=yB9 hE h;refine⟨v,p,m',h1,λ_ hq=>hq' (by cases mx with|none=>rfl|some _=>cases hq),⟨λw0 R0 I w eb hm hev=>?_,Extra.none rfl rfl rfl rfl rfl⟩⟩
  have ho:∀y:Option Operand,(∀z,y=some z->z∈(Op.slice t x lo hi mx).operands)->zc4 (RO w0 R0 I w m) I m.next w (y.map ev) (y.map eb):=λy hy=>by
   cases y with
   |none=>trivial
   |some y=>exact hev y (hy y rfl)
  obtain⟨u,w',h3,h4⟩:=h2 w0 R0 I w _ (lo.map eb) (hi.map eb) (mx.map eb) hm (hev x (by simp[Op.operands,Call.operands])) (ho lo λz hz=>by simp[Op.operands,hz]) (ho hi λz hz=>by simp[Op.operands,hz]) (ho mx λz hz=>by simp[Op.operands,hz]);exact yN8 h3 h4
 case fieldAddr s x f=>
  obtain⟨v,h1,h2⟩:=yA2 hE h;refine⟨v,p,m,h1,λ_ _=>rfl,Extra.ofPure rfl rfl rfl rfl λm2 w0 R0 I w eb hm hev=>?_⟩;obtain⟨u,h3,h4⟩:=h2 m2 w0 R0 I w _ (hev x (by simp[Op.operands,Call.operands]));exact yN8 h3 (f5.same hm h4)
 case field s x f=>
  obtain⟨v,h1,h2⟩:=yA3 hE h;refine⟨v,p,m,h1,λ_ _=>rfl,Extra.ofPure rfl rfl rfl rfl λm2 w0 R0 I w eb hm hev=>?_⟩;obtain⟨u,h3,h4⟩:=h2 m2 w0 R0 I w _ (hev x (by simp[Op.operands,Call.operands]));exact yN8 h3 (f5.same hm h4)
 case indexAddr t x ix=>
  obtain⟨v,h1,h2⟩:=yA6 hE h;refine⟨v,p,m,h1,λ_ _=>rfl,Extra.ofShape rfl rfl rfl rfl λm2 hsh w0 R0 I w eb hm hev=>?_⟩;obtain⟨u,h3,h4⟩:=h2 m2 hsh w0 R0 I w _ _ hm (hev x (by simp[Op.operands,Call.operands])) (hev ix (by simp[Op.operands,Call.operands]));exact yN8 h3 (f5.same hm h4)
 case index t x ix=>
  obtain⟨v,h1,h2⟩:=yA7 hE h;refine⟨v,p,m,h1,λ_ _=>rfl,Extra.ofPure rfl rfl rfl rfl λm2 w0 R0 I w eb hm hev=>?_⟩;obtain⟨u,h3,h4⟩:=h2 m2 w0 R0 I w _ _ (hev x (by simp[Op.operands,Call.operands])) (hev ix (by simp[Op.operands,Call.operands]));exact yN8 h3 (f5.same hm h4)
 case range t x=>
  split at h
  .rename_i sz by_ ze ty' eg he hr
   obtain⟨v,m',h1,h2⟩:=yB7 (P:=P) h;refine⟨v,p,m',h1,λ_ hq=>(by cases hq),⟨λw0 R0 I w eb hm hev=>?_,Extra.none rfl rfl rfl rfl rfl⟩⟩;obtain⟨u,w',h3,h4⟩:=h2 t w0 R0 I w _ (hE.row _ _ hr).und hm (hev x (by simp[Op.operands,Call.operands]));exact yN8 h3 h4
  .exact h.elim
 case next x isString=>
  cases isString with
  |false=>exact h.elim
  |true=>
   obtain⟨v,p',m',h1,h2⟩:=yB5 (P:=P) h;refine⟨v,p',m',h1,λ_ hq=>(by cases hq),⟨λw0 R0 I w eb hm hev=>?_,Extra.none rfl rfl rfl rfl rfl⟩⟩;obtain⟨u,w',h3,h4⟩:=h2 ty w0 R0 I w _ hm (hev x (by simp[Op.operands,Call.operands]));exact yN8 h3 h4
 case extract x i=>
  obtain⟨v,h1,h2⟩:=yz9 (P:=P) h;refine⟨v,p,m,h1,λ_ _=>rfl,Extra.ofPure rfl rfl rfl rfl λm2 w0 R0 I w eb hm hev=>?_⟩;obtain⟨u,h3,h4⟩:=h2 m2 w0 R0 I w _ (hev x (by simp[Op.operands,Call.operands]));exact yN8 h3 (f5.same hm h4)
 case makeInterface t x=>
  split at h
  .rename_i r hr
   split at h
   .rename_i hi
    split at h
    .rename_i v hv
     refine⟨_,p,m,h,λ_ _=>rfl,λw0 R0 I w eb hm hev=>?_,Extra.none rfl rfl rfl rfl rfl⟩;have h1:=xM5 hv (hev x (by simp[Op.operands,Call.operands]));have hu:=(hE.row _ _ hr).und;refine yN8 (u:=.iface t v) (w':=w) ?_ ⟨I,hm,Ext.refl _ _ _ _,rfl⟩;simp only[Instr.makeInterface,Sem.run_bind,run_underlying hu,Result.andThen_ok,h1]
     cases hd:r.desc<;>first|rfl|(rw[hd]at hi;cases hi)
    .exact h.elim
   .exact h.elim
  .exact h.elim
 case typeAssert x xt t ok=>
  cases ok with
  |false=>exact h.elim
  |true=>
   dsimp only at h
   split at h
   .rename_i r hr
    have hok:=hE.row _ _ hr
    split at h
    .rename_i hi
     split at h
     .rename_i u hx
      split at h
      .split at h
       .rename_i z hzv
        obtain⟨i,g1,g2⟩:=hE.zv t z hzv
        have hz:∀w,(zeroValue t).run P w=.ok z w:=λw=>by simp only[zeroValue,typeInfo,Sem.run_bind,run_program,Result.andThen_ok,g1,Sem.run_pure,g2]
        refine⟨_,p,m,h,λ_ _=>rfl,λw0 R0 I w eb hm hev=>?_,Extra.none rfl rfl rfl rfl rfl⟩
        have h1:eb x=.nilIface:=by have:=hev x (by simp[Op.operands,Call.operands]);rw[hx]at this;exact this
        refine yN8 (u:=.tuple #[z,.bool false]) (w':=w) ?_ ⟨I,hm,Ext.refl _ _ _ _,_,rfl,_,_,rfl,yu6 _ _ _ _ _,_,_,rfl,rfl,rfl⟩;simp only[h1,Sem.run_bind,y76 hok.und hi hz,Result.andThen_ok,Sem.run_pure]
       .exact h.elim
      .rename_i t' v
       split at h
       .rename_i ht
        have ht:=Nat.eq_of_beq_eq_true ht;subst ht;refine⟨_,p,m,h,λ_ _=>rfl,λw0 R0 I w eb hm hev=>?_,Extra.none rfl rfl rfl rfl rfl⟩
        have h1:eb x=.iface t' v:=by have:=hev x (by simp[Op.operands,Call.operands]);rw[hx]at this;exact this
        refine yN8 (u:=.tuple #[v,.bool true]) (w':=w) ?_ ⟨I,hm,Ext.refl _ _ _ _,_,rfl,_,_,rfl,yu6 _ _ _ _ _,_,_,rfl,rfl,rfl⟩;simp only[h1,Sem.run_bind,y75 hok.und hi,Result.andThen_ok,Sem.run_pure]
       .exact h.elim
      .exact h.elim
     .exact h.elim
    .exact h.elim
   .exact h.elim
 case call c=>
  unfold yz3 at h
  split at h
  .rename_i b hb
   obtain⟨v,p',m',h1,hq',hsh,h2⟩:=yz2 hE h;refine⟨v,p',m',h1,λ_ hq=>hq' (λhb'=>by obtain⟨ca,aa,ta⟩:=c;dsimp only at hb;subst hb hb';cases hq) (λhb'=>by obtain⟨ca,aa,ta⟩:=c;dsimp only at hb;subst hb hb';cases hq),⟨λw0 R0 I w eb hm hev=>?_,?_⟩⟩
   .have key:∀cs,zc1 P (f5 w0 R0 I w m v m') ((Go.builtin b c.argTypes ty cs (c.args.map eb)).run P w):=λcs=>by
     obtain⟨u,w',h3,h4⟩:=h2 ty cs w0 R0 I w (c.args.toList.map eb) hm (j7.map ev eb _ λx hx=>hev x (by simp[Op.operands,Call.operands]at hx ⊢;simp[hx]))
     have e1:c.argTypes.toList.toArray=c.argTypes:=by simp
     have e2:(c.args.toList.map eb).toArray=c.args.map eb:=by apply Array.ext';simp
     rw[e1,e2]at h3;rw[h3];exact h4
    simp only[Go.execOp,resolve,hb,pure_bind,invoke];exact key _
   .obtain⟨ca,aa,ta⟩:=c
    dsimp only at hb;subst hb;refine⟨(λk=>by cases k),λk m2 hsh2 w0 R0 I w eb hm hev=>?_,(λ_ k=>by cases k),(λk=>by cases k),(λk=>by cases k)⟩
    have hlen:b=.len:=by cases b<;>first|rfl|(cases k;done)
    have key:∀cs,zc1 P (f5 w0 R0 I w m2 v m2) ((Go.builtin b ta ty cs (aa.map eb)).run P w):=λcs=>by
     obtain⟨u,w',h3,h4⟩:=hsh hlen m2 hsh2 ty cs w0 R0 I w (aa.toList.map eb) hm (j7.map ev eb _ λx hx=>hev x (by simp[Op.operands,Call.operands]at hx ⊢;simp[hx]))
     have e1:ta.toList.toArray=ta:=by simp
     have e2:(aa.toList.map eb).toArray=aa.map eb:=by apply Array.ext';simp
     rw[e1,e2]at h3;rw[h3];exact h4
    simp only[Go.execOp,resolve,pure_bind,invoke];exact key _
  .rename_i f hf
   split at h
   .rename_i k first cap hk
    obtain⟨v,p',m',h1,hq',h2⟩:=hcall _ _ _ _ _ _ h;have key:∀m1 m1',zd6 P m1 v m1' k (first++(c.args.toList.map ev++cap))->zd7 P m1 v m1' ⟨dst,.call c,ty,pos,after,guard⟩ ev:=?key;refine⟨v,p',m',h1,λhQ _=>(hq' hQ).1,key _ _ h2,⟨(λk=>by cases k),λk=>?_,λhQ _ m2 _=>key _ _ ((hq' hQ).2 m2),(λk=>by cases k),(λk=>by cases k)⟩⟩
    .obtain⟨ca,aa,ta⟩:=c
     dsimp only at hf;subst hf
     cases k
    intro m1 m1' h2 w0 R0 I w eb hm hev;have h3:=hev f (by simp[Op.operands,Call.operands,hf]);rw[hk]at h3;obtain⟨vs,us,h4,h5,h6⟩:=h3;have h7:=h2 w0 R0 I w (vs++(c.args.toList.map eb++us)) hm (h5.append ((j7.map ev eb _ λx hx=>hev x (by simp[Op.operands,Call.operands]at hx ⊢;simp[hx])).append h6));simp only[Go.execOp,resolve,hf,h4,Deferred.ofValue,pure_bind,invoke]
    have e:(vs++(c.args.toList.map eb++us)).toArray=(⟨vs⟩:Array Value)++c.args.map eb++⟨us⟩:=by apply Array.ext';simp
    rw[e]at h7;exact h7
   .exact h.elim
  .exact h.elim
end
section
variable {P:Program} {E:Env} {O:Type}
def zb4(R:Nat->Prop)(I:Rho)(n:Nat)(w:World)(fr:Fr)(tmps:Array Value):Prop:=
 fr.size=tmps.size/\∀t,Rep R I n w (fr.get t) (tmps.getD t Go.undef)
variable{R:Nat->Prop}{I:Rho}{n:Nat}{w:World}{fr:Fr}
theorem zb4.mono{R':Nat->Prop}{I':Rho}{n':Nat}{w':World}(e:Ext R I n w R' I' n' w'){tmps:Array Value}(h:zb4 R I n w fr tmps):zb4 R' I' n' w' fr tmps:=⟨h.1,λt=>Rep.mono e _ _ (h.2 t)⟩
def zb5(fr:Fr)(d:Option Tmp)(v:SV)(fr':Fr):Prop:=
 fr'.size=fr.size/\(∀t,d=some t->t<fr.size)/\∀t,fr'.get t=if d=some t then v else fr.get t
variable{v:SV}
theorem Fr.set_holds{t:Nat}{k:Fr->Tree O}{L:O->Prop}(h:(fr.set t v k).holds L):∃fr',zb5 fr (some t) v fr'/\(k fr').holds L:=by
 unfold Fr.set at h
 split at h
 .rename_i hlt
  obtain⟨tb,h1,h2⟩:=qD0 _ _ _ _ _ h;refine⟨⟨fr.size,tb⟩,⟨rfl,λu hu=>?_,λu=>?_⟩,h2⟩
  .injection hu with hu;subst hu;exact Nat.le_of_ble_eq_true hlt
  .unfold Fr.get
   rw[h1 u]
   by_cases hu:u=t
   .subst hu;simp
   .have:¬(some t=some u):=λh=>hu (by injection h with h;exact h.symm)
    rw[if_neg hu,if_neg this]
 .exact h.elim
theorem yP5{d:Option Tmp}{k:Fr->Tree O}{L:O->Prop}(h:(yP4 fr d v k).holds L):∃fr',zb5 fr d v fr'/\(k fr').holds L:=by
 cases d with
 |none=>exact⟨fr,⟨rfl,λt ht=>(by cases ht),λt=>by simp⟩,h⟩
 |some t=>exact Fr.set_holds h
variable{a:Act}
theorem zb4.put{fr':Fr}{d:Option Tmp}{u:Value}(h:zb4 R I n w fr a.tmps)(hf:zb5 fr d v fr')(hv:Rep R I n w v u):zb4 R I n w fr' (a.put d u).tmps:=by
 obtain⟨f1,f2,f3⟩:=hf
 cases d with
 |none=>exact⟨f1.trans h.1,λt=>by rw[f3 t];simpa[Act.put]using h.2 t⟩
 |some d=>
  refine⟨by simp[Act.put,f1,h.1],λt=>?_⟩;rw[f3 t]
  have hd:d<a.tmps.size:=by rw[<-h.1];exact f2 d rfl
  by_cases ht:d=t
  .subst ht
   simp[Act.put,Array.getElem?_setIfInBounds,hd];exact hv
  .have:¬(some d=some t):=λe=>ht (by injection e)
   rw[if_neg this];have h2:=h.2 t
   simpa[Act.put,Array.getElem?_setIfInBounds_ne ht]using h2
theorem zb4.eval(h:zb4 R I n w fr a.tmps)(x:Operand):Rep R I n w (o8 fr x) (a.eval x):=by
 cases x with
 |tmp t=>exact h.2 t
 |const v=>exact yu6 v _ _ _ _
 |global g=>rfl
 |func f=>exact⟨[],[],rfl,rfl,rfl⟩
def qz0(all:List Oper)(get:Nat->SV)(o:Oper):Option Bool:=
 match o.guard with
 |none=>some true
 |some (j,want)=>match(all[j]?).bind (·.dst)with
  |some d=>match get d with
   |.bool b=>some (b==want)
   |.undef=>some false
   |_=>none
  |none=>none
variable{o:Oper}
theorem x67{all:List Oper}{get:Nat->SV}{tmps:Array Value}{g:Bool}(h:∀j want d,o.guard=some (j,want)->(all[j]?).bind (·.dst)=some d->Rep R I n w (get d) (tmps.getD d Go.undef))(hg:qz0 all get o=some g):
  Region.wanted o (yielded all.toArray tmps)=g:=by
 unfold qz0 at hg;unfold Region.wanted
 cases ho:o.guard with
 |none=>rw[ho]at hg;injection hg
 |some jw=>
  obtain⟨j,want⟩:=jw;rw[ho]at hg;dsimp only at hg ⊢
  cases hd:(all[j]?).bind (·.dst)with
  |none=>rw[hd]at hg;cases hg
  |some d=>
   rw[hd]at hg;dsimp only at hg;have hr:=h j want d ho hd
   have e:yielded all.toArray tmps j=match tmps[d]? with|some (.bool b)=>some b|_=>none:=by
    unfold yielded
    have:(all.toArray[j]?).bind (·.dst)=some d:=by simpa using hd
    rw[this];rfl
   rw[e]
   split at hg
   .rename_i b hb
    injection hg with hg;rw[hb]at hr;have hr':tmps.getD d Go.undef=.bool b:=hr
    have:tmps[d]? =some (.bool b):=by
     rw[Array.getD_eq_getD_getElem?]at hr'
     cases ht:tmps[d]? with
     |none=>rw[ht]at hr';simp[Go.undef]at hr'
     |some x=>rw[ht]at hr';simpa using hr'
    rw[this,<-hg]
    cases b<;>cases want<;>rfl
   .rename_i hb
    injection hg with hg;rw[hb]at hr;have hr':tmps.getD d Go.undef=Go.undef:=hr
    have:(match tmps[d]? with|some (.bool b)=>some b|_=>none)=(none:Option Bool):=by
     rw[Array.getD_eq_getD_getElem?]at hr'
     cases ht:tmps[d]? with
     |none=>rfl
     |some x=>rw[ht]at hr';simp at hr';subst hr';rfl
    rw[this,<-hg];rfl
   .cases hg
variable{Q:Exit->Act->World->Prop}
theorem xW5{K:Act->World->Prop}{Φ:Value->World->Prop}(h:∀u w',Φ u w'->K (a.put o.dst u) w'):∀{r:Result Next},zc1 P Φ r->o.upon P a K Q r
 |.ok (.value v) w,k=>h v w k
 |.ok .skip w,k=>h _ w k
 |.ok (.enter f args) w,k=>Calls.mono k λe w' ⟨v,he,hv⟩=>by subst he;exact h v w' hv
def ze1(P:Program)(all:List Oper)(o:Oper)(fr:Fr)(m:Mem)(v:SV)(m':Mem):Prop:=
 (qz0 all fr.get o=some true/\zd7 P m v m' o (o8 fr))\/(qz0 all fr.get o=some false/\v=.undef/\m'=m)
inductive Chain (P:Program) (all:List Oper):List Oper->Fr->Mem->Fr->Mem->Prop where
 |nil (fr:Fr) (m:Mem):Chain P all [] fr m fr m
 |cons {o:Oper} {rest:List Oper} {fr fr1 fr':Fr} {m m1 m':Mem} {v:SV} (h:ze1 P all o fr m v m1) (hf:zb5 fr o.dst v fr1) (k:Chain P all rest fr1 m1 fr' m'):Chain P all (o::rest) fr m fr' m'
structure MoreOK (P:Program) (E:Env) (Q:Bool) (all:List Oper) (o:Oper) (fr:Fr) (m:Mem) (v:SV) (m':Mem):Prop where
 quiet:Q=true->quiet E o.op=true->m'=m
 more:qz0 all fr.get o=some true->Extra P Q m v m' o (o8 fr)
 store:qJ7 o.op=true->zd9 m m'/\zd9 m' m
 alloc:qJ1 o.op=true->m.get m.next=none->Up m m'
theorem yx1(hE:EOK P E){Q:Bool}{call:za4 O}(hcall:za5 P Q call){let_:Op->Bool}{all:List Oper}{ih:zc2 O}{p:Plan}{m:Mem}{L:O->Prop}(h:(yw5 E let_ call all o ih p fr m).holds L):
  ∃p' v fr1 m1,(ih p' fr1 m1).holds L/\ze1 P all o fr m v m1/\zb5 fr o.dst v fr1/\MoreOK P E Q all o fr m v m1:=by
 have run:∀ (p:Plan) (fr2:Fr),(∀t,fr2.get t=fr.get t)->fr2.size=fr.size->qz0 all fr.get o=some true->((match let_ o.op with
   |true=>execOp E call (o8 fr2) o.op p m λv p m=>yP4 fr2 o.dst v λfr=>ih p fr m
   |false=>.fail 133:Tree O)).holds L->∃p' v fr1 m1,(ih p' fr1 m1).holds L/\ze1 P all o fr m v m1/\zb5 fr o.dst v fr1/\MoreOK P E Q all o fr m v m1:=by
  intro p fr2 hg hs hgv h
  split at h
  .rename_i hlo
   obtain⟨v,p',m1,h1,h2,h3⟩:=zU4 hE hcall h;obtain⟨fr1,h4,h5⟩:=yP5 h1
   have he:o8 fr2=o8 fr:=funext λx=>by cases x<;>simp[o8,hg]
   rw[he]at h3;exact⟨p',v,fr1,m1,h5,.inl ⟨hgv,h3.1⟩,⟨h4.1.trans hs,λt ht=>by rw[<-hs];exact h4.2.1 t ht,λt=>by rw[h4.2.2 t,hg t]⟩,⟨h2,λ_=>h3.2,h3.2.store,h3.2.alloc⟩⟩
  .exact h.elim
 have skip:∀ (p:Plan) (fr2:Fr),(∀t,fr2.get t=fr.get t)->fr2.size=fr.size->qz0 all fr.get o=some false->(yP4 fr2 o.dst .undef λfr=>ih p fr m).holds L->∃p' v fr1 m1,(ih p' fr1 m1).holds L/\ze1 P all o fr m v m1/\zb5 fr o.dst v fr1/\MoreOK P E Q all o fr m v m1:=by
  intro p fr2 hg hs hgv h;obtain⟨fr1,h4,h5⟩:=yP5 h;exact⟨p,.undef,fr1,m,h5,.inr ⟨hgv,rfl,rfl⟩,⟨h4.1.trans hs,λt ht=>by rw[<-hs];exact h4.2.1 t ht,λt=>by rw[h4.2.2 t,hg t]⟩,⟨λ_ _=>rfl,λh=>(by rw[hgv]at h;cases h),λ_=>⟨zd9.refl m,zd9.refl m⟩,λ_ _=>Up.refl m⟩⟩
 unfold yw5 at h
 cases hg:o.guard with
 |none=>
  rw[hg]at h;exact run p fr (λ_=>rfl) rfl (by simp[qz0,hg]) h
 |some jw=>
  rw[hg]at h;dsimp only at h;rw[q60]at h
  split at h
  .rename_i oj hoj
   split at h
   .rename_i d hd
    have hb:(all[jw.1]?).bind (·.dst)=some d:=by rw[hoj];exact hd
    split at h
    .rename_i b hfr
     obtain⟨p',h⟩:=zK3 h;obtain⟨fr2,h1,h2⟩:=Fr.set_holds h
     have hget:∀t,fr2.get t=fr.get t:=λt=>by
      rw[h1.2.2 t]
      by_cases ht:some d=some t
      .injection ht with ht;subst ht;rw[if_pos rfl,hfr]
      .rw[if_neg ht]
     split at h2
     .rename_i hbw
      exact run p' fr2 hget h1.1 (by simp only[qz0,hg,hb,hfr];rw[hbw]) h2
     .rename_i hbw
      exact skip p' fr2 hget h1.1 (by simp only[qz0,hg,hb,hfr];rw[hbw]) h2
    .rename_i hfr
     exact skip p fr (λ_=>rfl) rfl (by simp only[qz0,hg,hb,hfr]) h
    .exact h.elim
   .exact h.elim
  .exact h.elim
def m8(ds:List Deferred)(w0:World)(R0:RSet)(I:Rho)(w:World)(fr:Fr)(m:Mem)(a:Act):Prop:=
 MRel w0 R0 I w m/\zb4 (RO w0 R0 I w m) I m.next w fr a.tmps/\a.defers=ds
abbrev zd5(w0:World)(R0:RSet)(I:Rho)(w:World)(fr:Fr)(m:Mem)(a:Act):Prop:=m8 [] w0 R0 I w fr m a
theorem yP6(a:Act)(d:Option Tmp)(v:Value):(a.put d v).defers=a.defers:=by cases d<;>rfl
variable{ds:List Deferred}{w0:World}{R0:RSet}
theorem xJ9{fr1:Fr}{m m1:Mem}{all:List Oper}(hs:m8 ds w0 R0 I w fr m a)(h:ze1 P all o fr m v m1)(hf:zb5 fr o.dst v fr1){K:Act->World->Prop}
  (hK:∀I' w' a',m8 ds w0 R0 I' w' fr1 m1 a'->b8 w0 R0 I w m I' w' m1->K a' w'):if Region.wanted o (yielded all.toArray a.tmps)then o.wp P a w K Q\/(o.asks P a w/\LetsOut Q)else K (a.put o.dst Go.undef) w:=by
 obtain⟨hm,hfr,hd⟩:=hs;rcases h with⟨hg,hsem⟩|⟨hg,rfl,rfl⟩
 .rw[x67 (λj want d _ _=>hfr.2 d) hg]
  refine .inl (xW5 (λu w' hu=>?_) (hsem w0 R0 I w a.eval hm (λx _=>hfr.eval x)));obtain⟨I',g1,g2,g3⟩:=hu;exact hK I' w' _ ⟨g1,(hfr.mono g2).put hf g3,by rw[yP6];exact hd⟩ g2
 .rw[x67 (λj want d _ _=>hfr.2 d) hg]
  exact hK I w _ ⟨hm,hfr.put hf rfl,by rw[yP6];exact hd⟩ (Ext.refl _ _ _ _)
theorem zC8{all:List Oper}:∀{ops:List Oper} {fr fr':Fr} {m m':Mem},Chain P all ops fr m fr' m'->∀ (i:Nat),all.drop i=ops->∀ (I:Rho) (w:World) (a:Act),m8 ds w0 R0 I w fr m a->
  (∀I' w' a',m8 ds w0 R0 I' w' fr' m' a'->b8 w0 R0 I w m I' w' m'->Q .normal a' w')->wpOps P all.toArray Q (List.range' i ops.length) a w:=by
 intro ops fr fr' m m' h
 induction h with
 |nil fr m=>intro i hi I w a hs hQ;exact hQ I w a hs (Ext.refl _ _ _ _)
 |@cons o rest fr fr1 fr' m m1 m' v hst hf k ih=>
  intro i hi I w a hs hQ
  have hoi:all[i]? =some o:=by
   have:(all.drop i)[0]? =some o:=by rw[hi];rfl
   simpa using this
  have hrest:all.drop (i+1)=rest:=by
   have:(all.drop i).drop 1=rest:=by rw[hi];rfl
   rw[List.drop_drop]at this;exact this
  rw[List.length_cons,List.range'_succ];unfold wpOps
  have hoi':all.toArray[i]? =some o:=by simpa using hoi
  rw[hoi']
  exact xJ9 hs hst hf λI' w' a' hs' he=>ih (i+1) hrest I' w' a' hs' λρ2 w2 a2 hs2 he2=>hQ ρ2 w2 a2 hs2 (he.trans he2)
def zc7(P:Program)(Φ:Value->World->Prop):Result Next->Prop
 |.halt (.panic u) w=>Φ u w
 |.ok (.enter f args) w=>Calls P f args w λe w'=>∃u,e=.panicked [{v:=u,recovered:=false}] /\Φ u w'
 |_=>False
def zd8(P:Program)(m:Mem)(v:SV)(m':Mem)(o:Oper)(ev:Operand->SV):Prop:=
 ∀w0 R0 I w (eb:Operand->Value),MRel w0 R0 I w m->(∀x∈o.op.operands,Rep (RO w0 R0 I w m) I m.next w (ev x) (eb x))->zc7 P (f5 w0 R0 I w m v m') ((Go.execOp eb o).run P w)
def zc6(P:Program)(m:Mem)(v:SV)(m':Mem)(f:FuncId)(args:List SV):Prop:=
 ∀w0 R0 I w (vs:List Value),MRel w0 R0 I w m->j7 (RO w0 R0 I w m) I m.next w args vs->zc7 P (f5 w0 R0 I w m v m') ((Go.callFunc f vs.toArray).run P w)
def ze6(P:Program)(f:FuncId)(args:List SV)(m:Mem):Ex->Prop
 |.ok v m'=>zd6 P m v m' f args
 |.pan v m'=>zc6 P m v m' f args
inductive ChainP (P:Program) (all:List Oper):List Oper->Fr->Mem->SV->Fr->Mem->Prop where
 |here {o:Oper} {rest:List Oper} {fr:Fr} {m m':Mem} {v:SV} (hg:o.guard=none) (h:zd8 P m v m' o (o8 fr)):ChainP P all (o::rest) fr m v fr m'
 |next {o:Oper} {rest:List Oper} {fr fr1 fr':Fr} {m m1 m':Mem} {v u:SV} (h:ze1 P all o fr m u m1) (hf:zb5 fr o.dst u fr1) (k:ChainP P all rest fr1 m1 v fr' m'):ChainP P all (o::rest) fr m v fr' m'
theorem zC6{all:List Oper}:∀{ops:List Oper} {fr fr':Fr} {m m':Mem} {v:SV},ChainP P all ops fr m v fr' m'->∀ (i:Nat),all.drop i=ops->∀ (I:Rho) (w:World) (a:Act),m8 ds w0 R0 I w fr m a->
  (∀I' w' a' u,m8 ds w0 R0 I' w' fr' m' a'->b8 w0 R0 I w m I' w' m'->Rep (RO w0 R0 I' w' m') I' m'.next w' v u->Q (.panic [{v:=u,recovered:=false}]) a' w')->wpOps P all.toArray Q (List.range' i ops.length) a w:=by
 intro ops fr fr' m m' v h
 induction h with
 |@here o rest fr m m' v hg hsem=>
  intro i hi I w a hs hQ
  have hoi:all[i]? =some o:=by
   have:(all.drop i)[0]? =some o:=by rw[hi];rfl
   simpa using this
  rw[List.length_cons,List.range'_succ];unfold wpOps
  have hoi':all.toArray[i]? =some o:=by simpa using hoi
  rw[hoi'];obtain⟨hm,hfr,hd⟩:=hs;have hw:Region.wanted o (yielded all.toArray a.tmps)=true:=x67 (get:=fr.get) (λj want d _ _=>hfr.2 d) (by simp[qz0,hg]);dsimp only;rw[hw];refine .inl ?_
  have h1:=hsem w0 R0 I w a.eval hm λx _=>hfr.eval x
  unfold Oper.wp;generalize (Go.execOp a.eval o).run P w=r at h1
  have out:∀u w',f5 w0 R0 I w m v m' u w'->Q (.panic [{v:=u,recovered:=false}]) a w':=λu w' ⟨I',g1,g2,g3⟩=>hQ I' w' a u ⟨g1,hfr.mono g2,hd⟩ g2 g3
  match r,h1 with
  |.halt (.panic u) w',h1=>exact out u w' h1
  |.ok (.enter f args) w',h1=>
   rw[Oper.upon_enter]
   exact Calls.mono h1 λe w'' ⟨u,he,hu⟩=>by subst he;exact out u w'' hu
 |@next o rest fr fr1 fr' m m1 m' v u hst hf k ih=>
  intro i hi I w a hs hQ
  have hoi:all[i]? =some o:=by
   have:(all.drop i)[0]? =some o:=by rw[hi];rfl
   simpa using this
  have hrest:all.drop (i+1)=rest:=by
   have:(all.drop i).drop 1=rest:=by rw[hi];rfl
   rw[List.drop_drop]at this;exact this
  rw[List.length_cons,List.range'_succ];unfold wpOps
  have hoi':all.toArray[i]? =some o:=by simpa using hoi
  rw[hoi']
  exact xJ9 hs hst hf λI' w' a' hs' he=>ih (i+1) hrest I' w' a' hs' λρ2 w2 a2 u2 hs2 he2 hr2=>hQ ρ2 w2 a2 u2 hs2 (he.trans he2) hr2
end
theorem zu5{a b:Nat}(h:Nat.beq a b=false):a≠b:=λe=>by subst e;simp at h
mutual
theorem Rep.bound{R:Nat->Prop}{I:Rho}{n:Nat}{w:World}{k:Nat}:∀ (x:SV) (v:Value),Rep R I n w x v->qX1 k x=true->k<n
 |.undef,_,_,h=>by cases h
 |.top,_,_,h=>by cases h
 |.int _ _,_,_,h=>by cases h
 |.bool _,_,_,h=>by cases h
 |.str _,_,_,h=>by cases h
 |.nilS,_,_,h=>by cases h
 |.list _ _,_,_,h=>by cases h
 |.row id,_,hr,h=>by rw[<-Nat.eq_of_beq_eq_true (show Nat.beq id k=true from h)];exact hr.1
 |.arr id _ _,_,hr,h=>by rw[<-Nat.eq_of_beq_eq_true (show Nat.beq id k=true from h)];exact hr.1
 |.ptr id _,_,hr,h=>by rw[<-Nat.eq_of_beq_eq_true (show Nat.beq id k=true from h)];exact hr.1
 |.nilP,_,_,h=>by cases h
 |.eptr _ _ _ _,_,_,h=>by cases h
 |.rptr id _ _ _,_,hr,h=>by rw[<-Nat.eq_of_beq_eq_true (show Nat.beq id k=true from h)];exact hr.1
 |.agg cs,_,hr,h=>by
  obtain⟨vs,_,h2⟩:=hr;exact j7.bound cs vs h2 h
 |.tuple cs,_,hr,h=>by
  obtain⟨vs,_,h2⟩:=hr;exact j7.bound cs vs h2 h
 |.fn f a b,_,hr,h=>by
  obtain⟨vs,us,_,h2,h3⟩:=hr;have h:(qX3 k a||qX3 k b)=true:=h;rcases Bool.or_eq_true _ _▸h with h|h
  .exact j7.bound a vs h2 h
  .exact j7.bound b us h3 h
 |.raw _,_,_,h=>by cases h
theorem j7.bound{R:Nat->Prop}{I:Rho}{n:Nat}{w:World}{k:Nat}:∀ (xs:List SV) (vs:List Value),j7 R I n w xs vs->qX3 k xs=true->k<n
 |[],_,_,h=>by cases h
 |x::xs,_,hr,h=>by
  obtain⟨u,us,_,h2,h3⟩:=hr;have h:(qX1 k x||qX3 k xs)=true:=h;rcases Bool.or_eq_true _ _▸h with h|h
  .exact Rep.bound x u h2 h
  .exact j7.bound xs us h3 h
end
mutual
theorem Rep.upd{R:Nat->Prop}{I:Rho}{n:Nat}{w:World}{k:Nat}{r:Nat×Nat×Nat}:∀ (x:SV) (v:Value),qX1 k x=false->Rep R I n w x v->Rep R (Go.Sx.upd I k r) n w x v
 |.undef,_,_,h=>h
 |.top,_,_,_=>trivial
 |.int _ _,_,_,h=>h
 |.bool _,_,_,h=>h
 |.str _,_,_,h=>h
 |.nilS,_,_,h=>h
 |.list _ _,_,_,h=>h
 |.row id,_,hm,h=>by
  have hne:=zu5 (show Nat.beq id k=false from hm);exact⟨h.1,by rw[t7 _ _ hne];exact h.2⟩
 |.arr id _ _,_,hm,h=>by
  have hne:=zu5 (show Nat.beq id k=false from hm);exact⟨h.1,by rw[t7 _ _ hne];exact h.2⟩
 |.ptr id _,_,hm,h=>by
  have hne:=zu5 (show Nat.beq id k=false from hm);exact⟨h.1,by rw[t7 _ _ hne];exact h.2⟩
 |.nilP,_,_,h=>h
 |.eptr _ _ _ _,_,_,h=>h
 |.rptr id _ _ _,_,hm,h=>by
  have hne:=zu5 (show Nat.beq id k=false from hm);exact⟨h.1,by rw[t7 _ _ hne];exact h.2⟩
 |.agg cs,_,hm,h=>by
  obtain⟨vs,h1,h2⟩:=h;exact⟨vs,h1,j7.upd cs vs hm h2⟩
 |.tuple cs,_,hm,h=>by
  obtain⟨vs,h1,h2⟩:=h;exact⟨vs,h1,j7.upd cs vs hm h2⟩
 |.fn f a b,_,hm,h=>by
  obtain⟨vs,us,h1,h2,h3⟩:=h;have hm:(qX3 k a||qX3 k b)=false:=hm;rw[Bool.or_eq_false_iff]at hm;exact⟨vs,us,h1,j7.upd a vs hm.1 h2,j7.upd b us hm.2 h3⟩
 |.raw _,_,_,h=>h
theorem j7.upd{R:Nat->Prop}{I:Rho}{n:Nat}{w:World}{k:Nat}{r:Nat×Nat×Nat}:∀ (xs:List SV) (vs:List Value),qX3 k xs=false->j7 R I n w xs vs->j7 R (Go.Sx.upd I k r) n w xs vs
 |[],_,_,h=>h
 |x::xs,_,hm,h=>by
  obtain⟨u,us,h1,h2,h3⟩:=h;have hm:(qX1 k x||qX3 k xs)=false:=hm;rw[Bool.or_eq_false_iff]at hm;exact⟨u,us,h1,Rep.upd x u hm.1 h2,j7.upd xs us hm.2 h3⟩
end
variable{I:Rho}{w:World}
theorem za2.upd{R:Nat->Prop}{n:Nat}{k:Nat}{r r':Nat×Nat×Nat}:∀ (B:Box),qX2 k (some B)=false->za2 R I n w r B->za2 R (Go.Sx.upd I k r') n w r B
 |.cells cs,hm,h=>by
  obtain⟨arr,e,fr,h1,h2,h3⟩:=h;exact⟨arr,e,fr,h1,h2,j7.upd cs _ hm h3⟩
 |.rows _ _,_,h=>h
 |.iter _ _,_,h=>h
 |.obj t cs,hm,h=>by
  obtain⟨arr,h1,h3⟩:=h;exact⟨arr,h1,j7.upd cs _ hm h3⟩
variable{w0:World}{R0:RSet}{m m':Mem}
theorem MRel.allocAt(hm:MRel w0 R0 I w m){k:Nat}(hk:k<m.next)(hn:m.get k=none)(hB:∀id B,m.get id=some B->qX2 k (some B)=false){cs:List SV}{arr:Array Value}{e:TypeId}
  (hg:∀id,m'.get id=if id=k then some (.cells cs)else m.get id) (hnx:m'.next=m.next) (hc:∀R I n w,j7 R I n w cs arr.toList):
  MRel w0 R0 (upd I k (w.heap.size,0,0)) (w.alloc (.cells arr e)) m'/\(∀b,RO w0 R0 I w m b->RO w0 R0 (upd I k (w.heap.size,0,0)) (w.alloc (.cells arr e)) m' b/\(w.alloc (.cells arr e)).heap[b]? =w.heap[b]?)/\
   ∀x v,qX1 k x=false->Rep (RO w0 R0 I w m) I m.next w x v->Rep (RO w0 R0 (upd I k (w.heap.size,0,0)) (w.alloc (.cells arr e)) m') (upd I k (w.heap.size,0,0)) m'.next (w.alloc (.cells arr e)) x v:=by
 have hle:=hm.size_le
 have hsz:(w.alloc (.cells arr e)).heap.size=w.heap.size+1:=by simp
 have hold:∀b,b<w.heap.size->(w.alloc (.cells arr e)).heap[b]? =w.heap[b]? :=λb hb=>Below.heap_alloc w _ b hb
 have hG:∀id C,m'.get id=some C->(id=k/\C=.cells cs)\/(id≠k/\m.get id=some C):=λid C hid=>by
  rw[hg id]at hid
  by_cases h:id=k
  .rw[if_pos h]at hid;injection hid with hid;exact .inl ⟨h,hid.symm⟩
  .rw[if_neg h]at hid;exact .inr ⟨h,hid⟩
 have hro:∀b,RO w0 R0 I w m b->RO w0 R0 (upd I k (w.heap.size,0,0)) (w.alloc (.cells arr e)) m' b:=λb hb=>by
  have hlt:=hm.ro_lt hb;rcases hb with hb|⟨h1,h2,h3,h4⟩
  .exact .inl hb
  .refine .inr ⟨h1,by omega,λid C hid hsol=>?_,h4⟩
   rcases hG id C hid with⟨rfl,rfl⟩|⟨hne,hx⟩
   .rw[t9];omega
   .rw[t7 _ _ hne]at hsol ⊢;exact h3 id C hx hsol
 have e1:Ext (RO w0 R0 I w m) (upd I k (w.heap.size,0,0)) m.next w (RO w0 R0 (upd I k (w.heap.size,0,0)) (w.alloc (.cells arr e)) m') (upd I k (w.heap.size,0,0)) m'.next (w.alloc (.cells arr e)):=
  ⟨by omega,λ_ _=>rfl,λb hb=>⟨hro b hb,hold b (hm.ro_lt hb)⟩⟩
 refine⟨⟨hm.below.trans ⟨rfl,rfl,rfl,by omega,λb hb=>hold b (by omega)⟩,λid C hid=>?_,λid C hid hsol=>?_,λid C hid hsol=>?_,λid id' C C' hid hid' hs1 hs2 he=>?_,λid C hid=>?_,λb hb=>⟨by have:=(hm.hid.1 b hb).1;omega,(hold b (hm.hid.1 b hb).1).trans (hm.hid.1 b hb).2⟩,λid C hid hsol=>?_⟩,λb hb=>⟨hro b hb,hold b (hm.ro_lt hb)⟩,λx v hx hr=>Rep.mono e1 x v (Rep.upd x v hx hr)⟩
 .rw[hnx]
  rcases hG id C hid with⟨rfl,_⟩|⟨_,hx⟩
  .exact hk
  .exact hm.lt id C hx
 .rcases hG id C hid with⟨rfl,rfl⟩|⟨hne,hx⟩
  .rw[t9];exact hle
  .rw[t7 _ _ hne]at hsol ⊢;exact hm.lo id C hx hsol
 .rcases hG id C hid with⟨rfl,rfl⟩|⟨hne,hx⟩
  .rw[t9];show w.heap.size<_;omega
  .rw[t7 _ _ hne]at hsol ⊢;have:=hm.hi id C hx hsol;omega
 .rcases hG id C hid with⟨rfl,rfl⟩|⟨hne,hx⟩<;>rcases hG id' C' hid' with⟨rfl,rfl⟩|⟨hne',hx'⟩
  .rfl
  .rw[t9]at he;rw[t7 _ _ hne']at hs2 he
   have:=hm.hi id' C' hx' hs2;have he:w.heap.size=(I id').1:=he;omega
  .rw[t9]at he;rw[t7 _ _ hne]at hs1 he
   have:=hm.hi id C hx hs1;have he:(I id).1=w.heap.size:=he;omega
  .rw[t7 _ _ hne]at hs1 he;rw[t7 _ _ hne']at hs2 he
   exact hm.inj id id' C C' hx hx' hs1 hs2 he
 .rcases hG id C hid with⟨rfl,rfl⟩|⟨hne,hx⟩
  .rw[t9]
   exact⟨arr,e,(0,0),heap_alloc_new w _,xV9 _,hc _ _ _ _⟩
  .rw[t7 _ _ hne]
   exact za2.mono e1 C (λhsol=>hold _ (hm.hi id C hx hsol)) (za2.upd C (hB id C hx) (hm.box id C hx))
 .rcases hG id C hid with⟨rfl,rfl⟩|⟨hne,hx⟩
  .rw[t9];exact λhr=>by have:=(hm.hid.1 _ hr).1;exact Nat.lt_irrefl _ this
  .rw[t7 _ _ hne]at hsol ⊢;exact hm.hid.2 id C hx hsol
def za0(P:Program)(o:Oper)(n0:Nat)(v:SV)(cur:Nat->SV)(m m':Mem):Prop:=
 ∃t k r,o.op=.alloc t/\o.guard=none/\RowOK P t r/\v=.ptr k 0/\n0<=k/\k<m.next/\m.get k=none/\(∀id,m'.get id=if id=k then some (.cells r.zero)else m.get id)/\m'.next=m.next/\(∀t,qX1 k (cur t)=false)/\∀id B,m.get id=some B->qX2 k (some B)=false
section
variable {P:Program} {E:Env} {O:Type}
inductive ChainW (P:Program) (E:Env) (all:List Oper):List Oper->Fr->Mem->Fr->Mem->Prop where
 |nil (fr:Fr) (m:Mem):ChainW P E all [] fr m fr m
 |cons {o:Oper} {rest:List Oper} {fr fr1 fr':Fr} {m m1 m':Mem} {v:SV} (h:ze1 P all o fr m v m1) (hx:MoreOK P E true all o fr m v m1) (hf:zb5 fr o.dst v fr1) (k:ChainW P E all rest fr1 m1 fr' m'):ChainW P E all (o::rest) fr m fr' m'
theorem zV3(hE:EOK P E){call:za4 O}(hcall:za5 P true call){let_:Op->Bool}{all:List Oper}{k:zc2 O}{L:O->Prop}:∀ (ops:List Oper) (p:Plan) (fr:Fr) (m:Mem),(zU5 E let_ call all ops k p fr m).holds L->
  ∃p' fr' m',(k p' fr' m').holds L/\ChainW P E all ops fr m fr' m'
 |[],p,fr,m,h=>⟨p,fr,m,h,.nil fr m⟩
 |o::rest,p,fr,m,h=>by
  change (yw5 E let_ call all o (zU5 E let_ call all rest k) p fr m).holds L at h
  obtain⟨p1,v,fr1,m1,h1,h2,h3,h4⟩:=yx1 hE hcall h;obtain⟨p',fr',m',h5,h6⟩:=zV3 hE hcall rest p1 fr1 m1 h1;exact⟨p',fr',m',h5,.cons h2 h4 h3 h6⟩
structure WalkM (P:Program) (E:Env) (all:List Oper) (m m':Mem) (fr fr':Fr) (frs:Nat->Fr) (vals:Nat->SV) (ms:Nat->Mem):Prop where
 first:frs 0=fr
 last:frs all.length=fr'
 mfirst:ms 0=m
 mlast:ms all.length=m'
 step:∀i o,all[i]? =some o->ze1 P all o (frs i) (ms i) (vals i) (ms (i+1))
 more:∀i o,all[i]? =some o->MoreOK P E true all o (frs i) (ms i) (vals i) (ms (i+1))
 next:∀i o,all[i]? =some o->zb5 (frs i) o.dst (vals i) (frs (i+1))
theorem ChainW.index{all:List Oper}:∀{ops:List Oper} {fr fr':Fr} {m m':Mem},ChainW P E all ops fr m fr' m'->∃ (frs:Nat->Fr) (vals:Nat->SV) (ms:Nat->Mem),frs 0=fr/\frs ops.length=fr'/\ms 0=m/\ms ops.length=m'/\
  (∀i o,ops[i]? =some o->ze1 P all o (frs i) (ms i) (vals i) (ms (i+1)))/\(∀i o,ops[i]? =some o->MoreOK P E true all o (frs i) (ms i) (vals i) (ms (i+1)))/\(∀i o,ops[i]? =some o->zb5 (frs i) o.dst (vals i) (frs (i+1))):=by
 intro ops fr fr' m m' h
 induction h with
 |nil fr m=>exact⟨λ_=>fr,λ_=>.undef,λ_=>m,rfl,rfl,rfl,rfl,λi o h=>by simp at h,λi o h=>by simp at h,λi o h=>by simp at h⟩
 |@cons o rest fr fr1 fr' m m1 m' v hst hx hf k ih=>
  obtain⟨frs,vals,ms,h1,h2,h1m,h2m,h3,hx3,h4⟩:=ih;refine⟨λi=>Nat.casesOn i fr frs,λi=>Nat.casesOn i v vals,λi=>Nat.casesOn i m ms,rfl,h2,rfl,h2m,λi o' hi=>?_,λi o' hi=>?_,λi o' hi=>?_⟩
  .cases i with
   |zero=>simp at hi;subst hi;dsimp only;rw[h1m];exact hst
   |succ i=>exact h3 i o' (by simpa using hi)
  .cases i with
   |zero=>simp at hi;subst hi;dsimp only;rw[h1m];exact hx
   |succ i=>exact hx3 i o' (by simpa using hi)
  .cases i with
   |zero=>simp at hi;subst hi;dsimp only;rw[h1];exact hf
   |succ i=>exact h4 i o' (by simpa using hi)
variable{m m':Mem}{fr fr':Fr}
theorem ChainW.toWalk{all:List Oper}(h:ChainW P E all all fr m fr' m'):∃frs vals ms,WalkM P E all m m' fr fr' frs vals ms:=
 let ⟨frs,vals,ms,h1,h2,h3,h4,h5,h6,h7⟩:=h.index
 ⟨frs,vals,ms,h1,h2,h3,h4,h5,h6,h7⟩
structure Walk (all:List Oper) (fr fr':Fr) (frs:Nat->Fr) (vals:Nat->SV):Prop where
 first:frs 0=fr
 last:frs all.length=fr'
 next:∀i o,all[i]? =some o->zb5 (frs i) o.dst (vals i) (frs (i+1))
noncomputable def cur(all:List Oper)(fr:Fr)(vals:Nat->SV)(S:Nat->Bool):Nat->Nat->SV
 |0,t=>fr.get t
 |n+1,t=>if S n=true/\(all[n]?).bind (·.dst)=some t then vals n else cur all fr vals S n t
variable{frs:Nat->Fr}
theorem zH7{all:List Oper}{vals:Nat->SV}(hw:Walk all fr fr' frs vals):∀ (i:Nat),i<=all.length->∀t,(frs i).get t=cur all fr vals (λ_=>true) i t
 |0,_,t=>by rw[hw.first];rfl
 |i+1,hi,t=>by
  have hlt:i<all.length:=hi;have ho:all[i]? =some all[i] :=List.getElem?_eq_getElem hlt;rw[(hw.next i _ ho).2.2 t,zH7 hw i (by omega) t];simp only[cur,ho,Option.bind_some,true_and]
theorem zH6{all:List Oper}{fr:Fr}{vals:Nat->SV}{S S':Nat->Bool}{t:Nat}:∀ (i:Nat),(∀j,j<i->(all[j]?).bind (·.dst)=some t->S j=S' j)->cur all fr vals S i t=cur all fr vals S' i t
 |0,_=>rfl
 |i+1,h=>by
  have ih:=zH6 (fr:=fr) (vals:=vals) i (λj hj=>h j (by omega));simp only[cur,ih]
  by_cases hd:(all[i]?).bind (·.dst)=some t
  .rw[h i (by omega) hd]
  .simp[hd]
theorem zH5{all:List Oper}{fr:Fr}{vals:Nat->SV}{S:Nat->Bool}{t i:Nat}:∀ (n:Nat),i<=n->(∀j,i<=j->j<n->(all[j]?).bind (·.dst)=some t->S j=false)->cur all fr vals S n t=cur all fr vals S i t
 |0,hi,_=>by rw[show i=0 by omega]
 |n+1,hi,h=>by
  by_cases he:i=n+1
  .rw[he]
  .have ih:=zH5 (fr:=fr) (vals:=vals) n (by omega) (λj h1 h2=>h j h1 (by omega))
   simp only[cur]
   by_cases hd:(all[n]?).bind (·.dst)=some t
   .rw[h n (by omega) (by omega) hd];simpa using ih
   .simp[hd];exact ih
structure Indep (all:List Oper):Prop where
 pair:∀i j oi oj,i<j->all[i]? =some oi->all[j]? =some oj->(∃e∈oj.after,Region.binds .any e=true/\e.on=i)\/oi.apart all.toArray oj=true
 back:∀j oj,all[j]? =some oj->∀e∈oj.after,Region.binds .any e=true->e.on<j
theorem qH2{all:List Oper}(h:Region.lexB .any all.toArray=true):Indep all:=by
 simp only[Region.lexB,Bool.and_eq_true]at h
 have key:∀ (f k:Nat) (listed:Array Bool),k+f=all.length->(∀i,i<all.length->listed.getD i true=decide (i<k))->listed.size=all.length->Region.lexFrom .any all.toArray f k listed=true->
   ∀i,k<=i->i<all.length->(∀oi,all[i]? =some oi->∀e∈oi.after,Region.binds .any e=true->e.on<i)/\∀j oi oj,i<j->all[i]? =some oi->all[j]? =some oj->(∃e∈oj.after,Region.binds .any e=true/\e.on=i)\/oi.apart all.toArray oj=true:=by
  intro f
  induction f with
  |zero=>intro k listed hk hl hsz h i h1 h2;omega
  |succ f ih=>
   intro k listed hk hl hsz h i h1 h2;simp only[Region.lexFrom,Bool.and_eq_true]at h;obtain⟨⟨hr,hf⟩,hB⟩:=h
   by_cases hik:i=k
   .subst hik
    have hr':i∈Region.ready .any all.toArray listed:=by simpa using hr
    obtain⟨_,o,ho,hall⟩:=mem_ready.1 hr'
    have hoi:all[i]? =some o:=by simpa using ho
    constructor
    .intro oi hi e he hb
     rw[hoi]at hi;injection hi with hi;subst hi;have:=hall e he hb
     have hlt:e.on<all.length:=by
      rcases Nat.lt_or_ge e.on all.length with h|h
      .exact h
      .rw[Array.getD_eq_getD_getElem?,Array.getElem?_eq_none (by omega)]at this;simp at this
     have h3:=hl e.on hlt
     have h4:listed.getD e.on true=true:=by
      rw[Array.getD_eq_getD_getElem?]at this ⊢;rw[Array.getElem?_eq_getElem (by omega)]at this ⊢
      simpa using this
     rw[h4]at h3
     simpa using h3.symm
    .intro j oi oj hij hi hj
     rw[hoi]at hi;injection hi with hi;subst hi;have hjl:j<all.length:=(List.getElem?_eq_some_iff.1 hj).1
     by_cases hw:∃e∈oj.after,Region.binds .any e=true/\e.on=i
     .exact .inl hw
     .refine .inr (Region.free_spec ho hf j oj (by simpa using hj) (by omega) ?_ (λe he hb heq=>hw ⟨e,he,hb,heq⟩))
      rw[hl j hjl];simp;omega
   .refine ih (k+1) _ (by omega) (λj hj=>?_) (by simpa using hsz) hB i (by omega) h2
    have h3:=hl j hj
    by_cases hjk:k=j
    .subst hjk
     rw[Array.getD_eq_getD_getElem?,Array.getElem?_setIfInBounds];simp[hsz,hj]
    .rw[getD_set_ne true hjk,h3]
     congr 1
     rw[eq_iff_iff];omega
 have hk:=key all.length 0 (Array.replicate all.length false) (by omega) (λi hi=>by simp[hi]) (by simp) (by simpa using h.2);refine⟨λi j oi oj hij hi hj=>?_,λj oj hj=>?_⟩
 .exact(hk i (Nat.zero_le _) (List.getElem?_eq_some_iff.1 hi).1).2 j oi oj hij hi hj
 .exact(hk j (Nat.zero_le _) (List.getElem?_eq_some_iff.1 hj).1).1 oj hj
def xW1(listed:Array Bool):Nat->Nat
 |0=>0
 |n+1=>xW1 listed n+if listed.getD n true=true then 0 else 1
theorem xW2{listed:Array Bool}{i:Nat}:∀ (n:Nat),i<n->listed.getD i true=false->i<listed.size->xW1 (listed.setIfInBounds i true) n+1=xW1 listed n
 |0,h,_,_=>by omega
 |n+1,h,hf,hs=>by
  by_cases hin:i=n
  .subst hin
   have h1:(listed.setIfInBounds i true).getD i true=true:=by simp[Array.getD_eq_getD_getElem?,Array.getElem?_setIfInBounds,hs]
   have h2:∀k,k<=i->xW1 (listed.setIfInBounds i true) k=xW1 listed k:=by
    intro k
    induction k with
    |zero=>intro _;rfl
    |succ k ih=>
     intro hk;simp only[xW1,ih (by omega)];rw[getD_set_ne true (by omega)]
   simp only[xW1,h1,hf,h2 i (Nat.le_refl _)];simp
  .have ih:=xW2 n (by omega) hf hs
   simp only[xW1];rw[getD_set_ne true hin];omega
theorem xW3{listed:Array Bool}:∀ (n:Nat),xW1 listed n=0->∀i,i<n->listed.getD i true=true
 |0,_,i,hi=>by omega
 |n+1,h,i,hi=>by
  simp only[xW1]at h
  by_cases hin:i=n
  .subst hin
   by_cases hc:listed.getD i true=true
   .exact hc
   .rw[if_neg hc]at h;omega
  .exact xW3 n (by omega) i (by omega)
theorem qT5{ops:Array Oper}{o:Oper}{t:Tmp}(h: .tmp t∈o.op.operands):t∈o.looksAt ops:=
 List.mem_append_left _ (List.mem_filterMap.2 ⟨.tmp t,by simpa using h,rfl⟩)
theorem qT4{ops:Array Oper}{o:Oper}{g:Nat}{want:Bool}{t:Tmp}(h:o.guard=some (g,want))(hd:(ops[g]?).bind (·.dst)=some t):t∈o.looksAt ops:=
 List.mem_append_right _ (by rw[h];dsimp only;rw[hd];simp)
theorem zn1{ds:List Deferred}{w0:World}{R0:RSet}{all:List Oper}{vals:Nat->SV}(n0:Nat)(hw:Walk all fr fr' frs vals)(hi:Indep all){M:(Nat->Bool)->Mem}(hMc:∀S S',(∀k,k<all.length->S k=S' k)->M S=M S')
  (hstep:∀ (S:Nat->Bool) i o,all[i]? =some o->S i=false->(∀j oj,all[j]? =some oj->S j=true->∀e∈oj.after,Region.binds .any e=true->S e.on=true)->(∀e∈o.after,Region.binds .any e=true->S e.on=true)->ze1 P all o (frs i) (M S) (vals i) (M λk=>if k=i then true else S k)\/za0 P o n0 (vals i) (cur all fr vals S all.length) (M S) (M λk=>if k=i then true else S k))
  (hns:Region.noSelect all.toArray=true) {Q:Exit->Act->World->Prop} {Ψ:Rho->World->Mem->Prop}
  (hΨa:∀I w m k r w' m',n0<=k->Ψ I w m->m'.next=m.next->(∀b,RO w0 R0 I w m b->RO w0 R0 (upd I k r) w' m' b/\w'.heap[b]? =w.heap[b]?)->Ψ (upd I k r) w' m')
  (hΨ:∀I w m I' w' m',Ψ I w m->b8 w0 R0 I w m I' w' m'->Ψ I' w' m') (hQ:∀I w a,m8 ds w0 R0 I w fr' (M λ_=>true) a->Ψ I w (M λ_=>true)->Q .normal a w):∀ (fuel:Nat) (listed:Array Bool) (I:Rho) (w:World) (a:Act),listed.size=all.length->xW1 listed all.length=fuel->
  (∀j oj,all[j]? =some oj->listed.getD j true=true->∀e∈oj.after,Region.binds .any e=true->listed.getD e.on false=true)->
  MRel w0 R0 I w (M λk=>listed.getD k true)->fr.size=a.tmps.size->a.defers=ds->(∀t,Rep (RO w0 R0 I w (M λk=>listed.getD k true)) I (M λk=>listed.getD k true).next w (cur all fr vals (λi=>listed.getD i true) all.length t) (a.tmps.getD t Go.undef))->Ψ I w (M λk=>listed.getD k true)->
  wpAny P .any all.toArray Q fuel listed a w:=by
 have hsize:∀i,i<=all.length->(frs i).size=fr.size:=by
  intro i
  induction i with
  |zero=>intro _;rw[hw.first]
  |succ i ih=>intro h;rw[(hw.next i _ (List.getElem?_eq_getElem (by omega))).1];exact ih (by omega)
 have done:∀ (listed:Array Bool) (I:Rho) (w:World) (a:Act),listed.size=all.length->MRel w0 R0 I w (M λk=>listed.getD k true)->fr.size=a.tmps.size->a.defers=ds->(∀t,Rep (RO w0 R0 I w (M λk=>listed.getD k true)) I (M λk=>listed.getD k true).next w (cur all fr vals (λi=>listed.getD i true) all.length t) (a.tmps.getD t Go.undef))->Ψ I w (M λk=>listed.getD k true)->(∀i,i<all.length->listed.getD i true=true)->Q .normal a w:=by
  intro listed I w a hsz hm hs hd hrep hps hall
  have eM:M (λk=>listed.getD k true)=M λ_=>true:=hMc _ _ λk hk=>hall k hk
  rw[eM]at hm hrep hps;refine hQ I w a ⟨hm,⟨by rw[<-hw.last,hsize _ (Nat.le_refl _)];exact hs,λt=>?_⟩,hd⟩ hps
  have e:fr'.get t=cur all fr vals (λi=>listed.getD i true) all.length t:=by
   rw[<-hw.last,zH7 hw _ (Nat.le_refl _)]
   exact zH6 _ λj hj _=>(hall j hj).symm
  rw[e];exact hrep t
 -- where none is ready all are listed
 have none_ready:∀ (listed:Array Bool),listed.size=all.length->Region.ready .any all.toArray listed=[] ->∀i,i<all.length->listed.getD i true=true:=by
  intro listed hsz hr i
  induction i using Nat.strongRecOn with
  |_ i ih=>
   intro hil;rcases Bool.eq_false_or_eq_true (listed.getD i true)with h|h
   .exact h
   .have:i∈Region.ready .any all.toArray listed:=by
     rw[mem_ready];refine⟨h,all[i],by simp[hil],λe he hb=>?_⟩;have hlt:=hi.back i _ (List.getElem?_eq_getElem hil) e he hb;have h1:=ih e.on hlt (by omega);rw[Array.getD_eq_getD_getElem?,Array.getElem?_eq_getElem (by omega)]at h1 ⊢
     simpa using h1
    rw[hr]at this
    cases this
 intro fuel
 induction fuel with
 |zero=>
  intro listed I w a hsz hun hcl hm hs hd hrep hps;have hall:=xW3 _ hun;refine⟨?_,done listed I w a hsz hm hs hd hrep hps hall⟩;apply List.eq_nil_iff_forall_not_mem.2;intro i hir;obtain⟨h1,o,ho,_⟩:=mem_ready.1 hir
  have hil:i<all.length:=by
   have:all[i]? =some o:=by simpa using ho
   exact(List.getElem?_eq_some_iff.1 this).1
  rw[hall i hil]at h1;cases h1
 |succ fuel ih=>
  intro listed I w a hsz hun hcl hm hs hd hrep hps;refine⟨λhr=>done listed I w a hsz hm hs hd hrep hps (none_ready listed hsz hr),λi hir=>?_⟩;obtain⟨hl,o,ho,hdeps⟩:=mem_ready.1 hir
  have hoi:all[i]? =some o:=by simpa using ho
  have hil:i<all.length:=(List.getElem?_eq_some_iff.1 hoi).1
  -- whoever writes a slot that i looks at, ahead of i, is listed; whoever writes it behind i is not
  have before:∀j oj,all[j]? =some oj->j<i->oj.apart all.toArray o=false->listed.getD j true=true:=by
   intro j oj hj hji hap;rcases hi.pair j i oj o hji hj hoi with⟨e,he,hb,heq⟩|h
   .have:=hdeps e he hb
    rw[heq,Array.getD_eq_getD_getElem?]at this
    have hjl:j<listed.size:=by rw[hsz];exact(List.getElem?_eq_some_iff.1 hj).1
    rw[Array.getElem?_eq_getElem hjl]at this;rw[Array.getD_eq_getD_getElem?,Array.getElem?_eq_getElem hjl]
    simpa using this
   .rw[hap]at h;cases h
  have behind:∀j oj,all[j]? =some oj->i<j->o.apart all.toArray oj=false->listed.getD j true=false:=by
   intro j oj hj hij hap;rcases hi.pair i j o oj hij hoi hj with⟨e,he,hb,heq⟩|h
   .rcases Bool.eq_false_or_eq_true (listed.getD j true)with hc|hc
    .have:=hcl j oj hj hc e he hb
     rw[heq,Array.getD_eq_getD_getElem?]at this;rw[Array.getD_eq_getD_getElem?]at hl;rw[Array.getElem?_eq_getElem (by omega)]at this hl;simp at this hl;rw[this]at hl;cases hl
    .exact hc
   .rw[hap]at h;cases h
  -- what i looks at
  have looks:∀t,t∈o.looksAt all.toArray->cur all fr vals (λk=>listed.getD k true) all.length t=(frs i).get t:=by
   intro t ht;rw[zH7 hw i (by omega),zH5 (i:=i) all.length (by omega) (λj h1 h2 hd'=>?_)]
   .refine zH6 i λj hj hd'=>?_
    have hjl:j<all.length:=by omega
    refine before j _ (List.getElem?_eq_getElem hjl) hj ?_
    have hd2:all[j].dst=some t:=by simpa[List.getElem?_eq_getElem hjl]using hd'
    simp[Oper.apart,hd2,ht]
   .by_cases hji:j=i
    .subst hji;exact hl
    .have hjl:j<all.length:=h2
     refine behind j _ (List.getElem?_eq_getElem hjl) (by omega) ?_
     have hd2:all[j].dst=some t:=by simpa[List.getElem?_eq_getElem hjl]using hd'
     simp[Oper.apart,hd2,ht]
  -- behind i
  have hset:∀k,k<all.length->(listed.setIfInBounds i true).getD k true=if k=i then true else listed.getD k true:=by
   intro k hk
   by_cases hki:k=i
   .subst hki;simp[Array.getD_eq_getD_getElem?,Array.getElem?_setIfInBounds,hsz,hil]
   .rw[getD_set_ne true (Ne.symm hki),if_neg hki]
  have hcur:∀t,cur all fr vals (λk=>(listed.setIfInBounds i true).getD k true) all.length t=if o.dst=some t then vals i else cur all fr vals (λk=>listed.getD k true) all.length t:=by
   intro t
   by_cases ht:o.dst=some t
   .rw[if_pos ht,zH5 (i:=i+1) all.length hil (λj h1 h2 hd'=>?_)]
    .simp only[cur,hoi,Option.bind_some]
     rw[if_pos ⟨by rw[hset i hil];simp,ht⟩]
    .rw[hset j h2,if_neg (by omega)]
     refine behind j _ (List.getElem?_eq_getElem h2) (by omega) ?_
     have hd2:all[j].dst=some t:=by simpa[List.getElem?_eq_getElem h2]using hd'
     simp[Oper.apart,hd2,ht]
   .rw[if_neg ht]
    refine zH6 _ λj hj hd'=>?_
    rw[hset j hj]
    by_cases hji:j=i
    .subst hji
     rw[hoi]at hd';exact absurd (by simpa using hd') ht
    .rw[if_neg hji]
  have hun':xW1 (listed.setIfInBounds i true) all.length=fuel:=by
   have:=xW2 all.length hil hl (by omega);omega
  have hcl':∀j oj,all[j]? =some oj->(listed.setIfInBounds i true).getD j true=true->∀e∈oj.after,Region.binds .any e=true->(listed.setIfInBounds i true).getD e.on false=true:=by
   intro j oj hj hlj e he hb;have hjl:j<all.length:=(List.getElem?_eq_some_iff.1 hj).1;rw[hset j hjl]at hlj
   by_cases hji:j=i
   .subst hji
    rw[hoi]at hj;injection hj with hj;subst hj;exact getD_set_true (hdeps e he hb)
   .rw[if_neg hji]at hlj
    exact getD_set_true (hcl j oj hj hlj e he hb)
  have hfs:=hw.next i o hoi
  -- the memory ahead of i and behind i
  have eM:M (λk=>(listed.setIfInBounds i true).getD k true)=M λk=>if k=i then true else listed.getD k true:=hMc _ _ λk hk=>hset k hk
  have up:∀k,listed.getD k false=true->listed.getD k true=true:=λk hk=>by
   rw[Array.getD_eq_getD_getElem?]at hk ⊢
   cases hx:listed[k]? with
   |none=>rfl
   |some b=>rw[hx]at hk;simpa using hk
  have hst:=hstep (λk=>listed.getD k true) i o hoi hl (λj oj hj hlj e he hb=>up _ (hcl j oj hj hlj e he hb)) (λe he hb=>up _ (hdeps e he hb));rw[<-eM]at hst;generalize hm1:M (λk=>listed.getD k true)=m at hst hm hrep hps;generalize hm2:M (λk=>(listed.setIfInBounds i true).getD k true)=m' at hst
  have putrep:∀ (I':Rho) (w':World) (u:Value),b8 w0 R0 I w m I' w' m'->Rep (RO w0 R0 I' w' m') I' m'.next w' (vals i) u->∀t,Rep (RO w0 R0 I' w' m') I' m'.next w' (cur all fr vals (λk=>(listed.setIfInBounds i true).getD k true) all.length t) ((a.put o.dst u).tmps.getD t Go.undef):=by
   intro I' w' u he hu t;rw[hcur t]
   have h1:∀d,o.dst=some d->d<a.tmps.size:=λd hd'=>by rw[<-hs,<-hsize i (by omega)];exact hfs.2.1 d hd'
   cases hdst:o.dst with
   |none=>simpa[Act.put]using Rep.mono he _ _ (hrep t)
   |some d=>
    have hlt:=h1 d hdst
    by_cases ht:d=t
    .subst ht
     simp[Act.put,Array.getElem?_setIfInBounds,hlt];exact hu
    .have:¬(some d=some t):=λe=>ht (by injection e)
     rw[if_neg this];have h2:=Rep.mono he _ _ (hrep t)
     simpa[Act.put,Array.getElem?_setIfInBounds_ne ht]using h2
  have putsize:∀u,fr.size=(a.put o.dst u).tmps.size:=λu=>by rw[hs];cases o.dst<;>simp[Act.put]
  -- the operation itself
  unfold wpOp;rw[ho];dsimp only
  have hyield:∀g,qz0 all (frs i).get o=some g->Region.wanted o (yielded all.toArray a.tmps)=g:=λg hg=>
   x67 (R:=RO w0 R0 I w m) (I:=I) (n:=m.next) (w:=w) (λj want d hgd hdd=>by rw[<-looks d (qT4 hgd (by simpa using hdd))];exact hrep d) hg
  rcases hst with(⟨hg,hsem⟩|⟨hg,hv,hmm⟩)|⟨t,k,r,hop,hgd,hrow,hvk,hk0,hk1,hk2,hk3,hk4,hk5,hk6⟩
  .rw[hyield _ hg,if_pos rfl]
   -- its operands agree with the text's frame
   have heb2:∀x∈o.op.operands,Rep (RO w0 R0 I w m) I m.next w (o8 (frs i) x) (a.eval x):=by
    intro x hx
    cases x with
    |tmp t=>
     show Rep _ _ _ _ ((frs i).get t) _;rw[<-looks t (qT5 hx)];exact hrep t
    |const v=>exact yu6 v _ _ _ _
    |global g=>exact rfl
    |func f=>exact⟨[],[],rfl,rfl,rfl⟩
   refine .inl ?_;unfold Oper.wp;refine xW5 (λu w' hu=>?_) (hsem w0 R0 I w a.eval hm heb2);obtain⟨I',g1,g2,g3⟩:=hu;exact ih _ I' w' _ (by simpa using hsz) hun' hcl' (by rw[hm2];exact g1) (putsize u) (by rw[yP6];exact hd) (by rw[hm2];exact putrep I' w' u g2 g3) (by rw[hm2];exact hΨ _ _ _ _ _ _ hps g2)
  .rw[hyield _ hg]
   subst hmm;simp only[Bool.false_eq_true,if_false];exact ih _ I w _ (by simpa using hsz) hun' hcl' (by rw[hm2];exact hm) (putsize _) (by rw[yP6];exact hd) (by rw[hm2];exact putrep I w Go.undef (Ext.refl _ _ _ _) (by rw[hv];rfl)) (by rw[hm2];exact hps)
  . -- a new variable
    rw[hyield true (by unfold qz0;rw[hgd]),if_pos rfl];obtain⟨z,hz1,hz2,_⟩:=y78 hrow;obtain⟨b1,b2,b3⟩:=hm.allocAt hk1 hk2 hk6 (arr:=z.cells) (e:=t) hk3 hk4 hz2;refine .inl ?_;unfold Oper.wp
    have hpost:zc1 P (λu w'=>u=.pointer (some ⟨w.heap.size,0,none⟩)/\w'=w.alloc (.cells z.cells t)) ((Go.execOp a.eval o).run P w):=by
     obtain⟨dst,op,ty,pos,after,guard⟩:=o;dsimp only at hop;subst hop;exact yN8 (u:=.pointer (some ⟨w.heap.size,0,none⟩)) (w':=w.alloc (.cells z.cells t)) (by simp[Instr.alloc,hz1,newVar,newRow]) ⟨rfl,rfl⟩
    refine xW5 (λu w' hu=>?_) hpost;obtain⟨rfl,rfl⟩:=hu;refine ih _ (upd I k (w.heap.size,0,0)) _ _ (by simpa using hsz) hun' hcl' (by rw[hm2];exact b1) (putsize _) (by rw[yP6];exact hd) (λt'=>?_) (by rw[hm2];exact hΨa _ _ _ _ _ _ _ hk0 hps hk4 b2);rw[hm2,hcur t']
    have h1:∀d,o.dst=some d->d<a.tmps.size:=λd hd'=>by rw[<-hs,<-hsize i (by omega)];exact hfs.2.1 d hd'
    have old:=λt'=>b3 _ _ (hk5 t') (hrep t')
    cases hdst:o.dst with
    |none=>simpa[Act.put]using old t'
    |some d=>
     have hlt:=h1 d hdst
     by_cases ht:d=t'
     .subst ht
      simp[Act.put,Array.getElem?_setIfInBounds,hlt];rw[hvk];exact⟨by rw[hk4];exact hk1,by rw[t9]⟩
     .have:¬(some d=some t'):=λe=>ht (by injection e)
      rw[if_neg this]
      simpa[Act.put,Array.getElem?_setIfInBounds_ne ht]using old t'
variable{o:Op}
theorem yP1(h:yP0 o=true):quiet E o=true:=by cases o<;>first|rfl|(cases h;done)
theorem xF3(h:xF1 o=true):quiet E o=true:=by
 cases o<;>first
  |rfl
  |(cases h;done)
  |(rename_i c;obtain⟨ca,aa,ta⟩:=c;cases ca<;>first|(cases h;done)|(rename_i b;cases b<;>first|rfl|(cases h;done)))
theorem yP2(h:yP0 o=true):x44 o=false:=by cases o<;>first|rfl|(cases h;done)
theorem xF4(h:xF1 o=true):x44 o=false:=by cases o<;>first|rfl|(cases h;done)
theorem xK8(h:qJ7 o=true):x44 o=true:=by simp[x44,h]
structure Wet (E:Env) (all:List Oper) (al:Bool) (a:Nat):Prop where
 pre:∀ (i:Nat) (o:Oper),i<a->all[i]? =some o->x44 o.op=false/\x27 E al o.op=true
 head:∀ (o:Oper),all[a]? =some o->x44 o.op=true/\qJ1 o.op=al
 post:∀ (i:Nat) (o:Oper),a<i->all[i]? =some o->x26 al o.op=true
 pairs:∀ (j:Nat) (oj:Oper),all[j]? =some oj->qJ7 oj.op=true->∀ (i:Nat) (oi:Oper),i<j->all[i]? =some oi->yP0 oi.op=true\/xF1 oi.op=true\/zx4 all 3 oj i=true
variable{al:Bool}
theorem x24:∀ (l:List Oper),x23 E al l=true->∃a,(∀ (i:Nat) (o:Oper),i<a->l[i]? =some o->x44 o.op=false/\x27 E al o.op=true)/\(∀ (o:Oper),l[a]? =some o->x44 o.op=true/\qJ1 o.op=al)/\∀ (i:Nat) (o:Oper),a<i->l[i]? =some o->x26 al o.op=true
 |[],_=>⟨0,λi o h=>absurd h (Nat.not_lt_zero _),λo h=>(by cases h),λi o _ h=>(by cases h)⟩
 |o::os,h=>by
  change (match x44 o.op with|true=>(qJ1 o.op==al)&&os.all λo=>x26 al o.op|false=>x27 E al o.op&&x23 E al os)=true at h
  split at h
  .rename_i hw
   simp only[Bool.and_eq_true,beq_iff_eq,List.all_eq_true]at h;refine⟨0,λi o h=>absurd h (Nat.not_lt_zero _),λo' h'=>?_,λi o' hi h'=>?_⟩
   .simp at h';subst h';exact⟨hw,h.1⟩
   .cases i with
    |zero=>cases hi
    |succ i=>exact h.2 o' (List.mem_of_getElem? (by simpa using h'))
  .rename_i hw
   simp only[Bool.and_eq_true]at h;obtain⟨a,h1,h2,h3⟩:=x24 os h.2;refine⟨a+1,λi o' hi h'=>?_,λo' h'=>h2 o' (by simpa using h'),λi o' hi h'=>?_⟩
   .cases i with
    |zero=>simp at h';subst h';exact⟨hw,h.1⟩
    |succ i=>exact h1 i o' (by omega) (by simpa using h')
   .cases i with
    |zero=>omega
    |succ i=>exact h3 i o' (by omega) (by simpa using h')
theorem x22{all:List Oper}(h:x21 E all=true):∃al a,Wet E all al a:=by
 simp only[x21,Bool.and_eq_true,Bool.or_eq_true]at h
 have hp:∀ (j:Nat) (oj:Oper),all[j]? =some oj->qJ7 oj.op=true->∀ (i:Nat) (oi:Oper),i<j->all[i]? =some oi->yP0 oi.op=true\/xF1 oi.op=true\/zx4 all 3 oj i=true:=by
  intro j oj hj hs i oi hij hi;have h2:=h.2;simp only[x25,List.all_eq_true]at h2;have h3:=h2 (oj,j) (List.mem_zipIdx_iff_getElem?.2 hj);simp only[hs,Bool.not_true,Bool.false_or,List.all_eq_true]at h3;have h4:=h3 (oi,i) (List.mem_zipIdx_iff_getElem?.2 hi)
  have hb:Nat.blt i j=true:=by rw[Nat.blt_eq];exact hij
  simp only[hb,Bool.not_true,Bool.false_or,Bool.or_eq_true]at h4;rcases h4 with h4|h4|h4
  .exact .inl h4
  .exact .inr (.inl h4)
  .exact .inr (.inr h4)
 rcases h.1 with h1|h1<;>obtain⟨a,g1,g2,g3⟩:=x24 all h1
 .exact⟨false,a,g1,g2,g3,hp⟩
 .exact⟨true,a,g1,g2,g3,hp⟩
noncomputable def zG9(all:List Oper)(ms:Nat->Mem)(S:Nat->Bool):Nat->Mem
 |0=>ms 0
 |n+1=>if S n=true/\(all[n]?).any (λo=>x44 o.op)=true then ms (n+1)else zG9 all ms S n
theorem zH1{all:List Oper}{ms:Nat->Mem}{S S':Nat->Bool}:∀ (n:Nat),(∀k,k<n->(all[k]?).any (λo=>x44 o.op)=true->S k=S' k)->zG9 all ms S n=zG9 all ms S' n
 |0,_=>rfl
 |n+1,h=>by
  have ih:=zH1 (ms:=ms) n (λk hk=>h k (by omega));simp only[zG9,ih]
  by_cases hw:(all[n]?).any (λo=>x44 o.op)=true
  .rw[h n (by omega) hw]
  .simp[hw]
theorem zH2{all:List Oper}{ms:Nat->Mem}{S:Nat->Bool}{i:Nat}:∀ (n:Nat),i<=n->(∀k,i<=k->k<n->(all[k]?).any (λo=>x44 o.op)=true->S k=false)->zG9 all ms S n=zG9 all ms S i
 |0,h,_=>by rw[show i=0 by omega]
 |n+1,h,hk=>by
  by_cases he:i=n+1
  .rw[he]
  .have ih:=zH2 (ms:=ms) n (by omega) (λk h1 h2=>hk k h1 (by omega))
   simp only[zG9]
   by_cases hw:(all[n]?).any (λo=>x44 o.op)=true
   .rw[hk n (by omega) (by omega) hw];simpa using ih
   .simp[hw];exact ih
theorem zH3{all:List Oper}{ms:Nat->Mem}{S:Nat->Bool}:∀ (n:Nat),n<=all.length->∃k,k<=n/\zG9 all ms S n=ms k/\(k=0\/∃j o,k=j+1/\S j=true/\all[j]? =some o/\x44 o.op=true)
 |0,_=>⟨0,Nat.le_refl _,rfl,.inl rfl⟩
 |n+1,h=>by
  simp only[zG9]
  split
  .rename_i hc
   refine⟨n+1,Nat.le_refl _,rfl,.inr ⟨n,all[n],rfl,hc.1,List.getElem?_eq_getElem h,?_⟩⟩;have:=hc.2;rw[List.getElem?_eq_getElem h]at this
   simpa using this
  .obtain⟨k,h1,h2,h3⟩:=zH3 (all:=all) (ms:=ms) (S:=S) n (by omega)
   exact⟨k,by omega,h2,h3⟩
theorem zH0{all:List Oper}{ms:Nat->Mem}(hk:∀ (i:Nat) (o:Oper),all[i]? =some o->x44 o.op=false->ms (i+1)=ms i){S:Nat->Bool}:∀ (n:Nat),n<=all.length->(∀k,k<n->(all[k]?).any (λo=>x44 o.op)=true->S k=true)->zG9 all ms S n=ms n
 |0,_,_=>rfl
 |n+1,h,hS=>by
  simp only[zG9];have ho:all[n]? =some all[n] :=List.getElem?_eq_getElem h
  by_cases hw:x44 all[n].op=true
  .rw[if_pos ⟨hS n (by omega) (by rw[ho];simpa using hw),by rw[ho];simpa using hw⟩]
  .rw[if_neg (λhc=>hw (by have:=hc.2;rw[ho]at this;simpa using this)),zH0 (all:=all) hk n (by omega) (λk hk=>hS k (by omega)),hk n _ ho (by simpa using hw)]
theorem zx5{all:List Oper}{S:Nat->Bool}(hcl:∀ (j:Nat) (oj:Oper),all[j]? =some oj->S j=true->∀e∈oj.after,Region.binds .any e=true->S e.on=true):
  ∀ (n:Nat) (o:Oper) (i:Nat),(∀e∈o.after,Region.binds .any e=true->S e.on=true)->zx4 all n o i=true->S i=true
 |0,o,i,ho,h=>by
  simp only[zx4,List.any_eq_true,Bool.and_eq_true]at h;obtain⟨e,he,hb,hon⟩:=h;have:=ho e (by simpa using he) hb;rw[Nat.eq_of_beq_eq_true hon]at this;exact this
 |n+1,o,i,ho,h=>by
  unfold zx4 at h;rcases Bool.or_eq_true _ _▸h with h|h
  .exact zx5 hcl n o i ho h
  .simp only[List.any_eq_true,Bool.and_eq_true]at h
   obtain⟨e,he,hb,hx⟩:=h
   split at hx
   .rename_i o' ho'
    rw[q60]at ho';have hS:=ho e (by simpa using he) hb;exact zx5 hcl n o' i (λe' he' hb'=>hcl e.on o' ho' hS e' he' hb') hx
   .cases hx
theorem x28{all:List Oper}{vals:Nat->SV}{ms:Nat->Mem}(hw:WalkM P E all m m' fr fr' frs vals ms){a:Nat}(hwet:Wet E all al a)(k:Nat)(o:Oper)(ho:all[k]? =some o)(hwr:x44 o.op=false):ms (k+1)=ms k:=by
 refine(hw.more k o ho).quiet rfl ?_;rcases Nat.lt_trichotomy k a with h|h|h
 .have:=(hwet.pre k o h ho).2
  simp only[x27,Bool.and_eq_true]at this;exact this.1
 .subst h;rw[(hwet.head o ho).1]at hwr;cases hwr
 .have:=hwet.post k o h ho
  simp only[x26,Bool.or_eq_true,Bool.and_eq_true]at this;rcases this with h1|h1|h1
  .exact yP1 h1
  .rw[xK8 h1]at hwr;cases hwr
  .exact xF3 h1.1
theorem x29{all:List Oper}{vals:Nat->SV}{ms:Nat->Mem}(hw:WalkM P E all m m' fr fr' frs vals ms){a:Nat}(hwet:Wet E all al a)(hfresh:m.get m.next=none)
  (S:Nat->Bool) (i:Nat) (o:Oper) (hoi:all[i]? =some o) (hSi:S i=false) (hcl:∀ (j:Nat) (oj:Oper),all[j]? =some oj->S j=true->∀e∈oj.after,Region.binds .any e=true->S e.on=true) (hready:∀e∈o.after,Region.binds .any e=true->S e.on=true):
  ze1 P all o (frs i) (zG9 all ms S all.length) (vals i) (zG9 all ms (λk=>if k=i then true else S k) all.length):=by
 have hil:i<all.length:=(List.getElem?_eq_some_iff.1 hoi).1
 have hkeep:∀ (k:Nat) (o:Oper),all[k]? =some o->x44 o.op=false->ms (k+1)=ms k:=λk o ho hwr=>x28 hw hwet k o ho hwr
 have hisw:∀{k:Nat} {o:Oper},all[k]? =some o->((all[k]?).any (λo=>x44 o.op)=true↔x44 o.op=true):=λ{k o} ho=>by rw[ho];simp
 -- the memory ahead of the first x44 is the first one
 have hms0:∀k,k<=a->k<=all.length->ms k=m:=by
  intro k
  induction k with
  |zero=>intro _ _;exact hw.mfirst
  |succ k ih=>
   intro h1 h2;have ho:all[k]? =some all[k] :=List.getElem?_eq_getElem h2;rw[hkeep k _ ho (hwet.pre k _ (by omega) ho).1];exact ih (by omega) (by omega)
 -- a x44 behind the first is a store
 have hstore:∀ (k:Nat) (o:Oper),a<k->all[k]? =some o->x44 o.op=true->qJ7 o.op=true:=by
  intro k o h ho hwr;have:=hwet.post k o h ho;simp only[x26,Bool.or_eq_true,Bool.and_eq_true]at this;rcases this with h1|h1|h1
  .rw[yP2 h1]at hwr;cases hwr
  .exact h1
  .rw[xF4 h1.1]at hwr;cases hwr
 have notps:∀{o:Oper},x44 o.op=true->¬(yP0 o.op=true\/xF1 o.op=true):=λ{o} hwr h=>by
  rcases h with h|h
  .rw[yP2 h]at hwr;cases hwr
  .rw[xF4 h]at hwr;cases hwr
 -- whatever is no reader of nothing waits ahead of a store that is listed
 have hwait:∀ (j:Nat) (oj:Oper) (k:Nat) (ok:Oper),all[j]? =some oj->qJ7 oj.op=true->S j=true->k<j->all[k]? =some ok->¬(yP0 ok.op=true\/xF1 ok.op=true)->S k=true:=by
  intro j oj k ok hj hs hSj hkj hk hn;rcases hwet.pairs j oj hj hs k ok hkj hk with h|h|h
  .exact absurd (.inl h) hn
  .exact absurd (.inr h) hn
  .exact zx5 hcl 3 oj k (λe he hb=>hcl j oj hj hSj e he hb) h
 by_cases hwr:x44 o.op=true
 . -- a x44: those ahead of it are listed, those behind it are not
   have hahead:∀k,k<i->(all[k]?).any (λo=>x44 o.op)=true->S k=true:=by
    intro k hk hkw
    have hkl:k<all.length:=by omega
    have ho:all[k]? =some all[k] :=List.getElem?_eq_getElem hkl;have hkw':=(hisw ho).1 hkw
    have hia:a<i:=by
     rcases Nat.lt_or_ge k a with h|h
     .rw[(hwet.pre k _ h ho).1]at hkw';cases hkw'
     .omega
    rcases hwet.pairs i o hoi (hstore i o hia hoi hwr) k _ hk ho with h|h|h
    .exact absurd (.inl h) (notps hkw')
    .exact absurd (.inr h) (notps hkw')
    .exact zx5 hcl 3 o k hready h
   have hbehind:∀k,i<k->k<all.length->(all[k]?).any (λo=>x44 o.op)=true->S k=false:=by
    intro k hk hkl hkw;have ho:all[k]? =some all[k] :=List.getElem?_eq_getElem hkl;have hkw':=(hisw ho).1 hkw
    have hai:a<=i:=by
     rcases Nat.lt_or_ge i a with h|h
     .rw[(hwet.pre i _ h hoi).1]at hwr;cases hwr
     .exact h
    rcases Bool.eq_false_or_eq_true (S k)with h|h
    .have:=hwait k _ i o ho (hstore k _ (by omega) ho hkw') h hk hoi (notps hwr)
     rw[hSi]at this;cases this
    .exact h
   have e1:zG9 all ms S all.length=ms i:=by
    rw[zH2 (i:=i) all.length (by omega) (λk h1 h2 h3=>?_),zH0 hkeep i (by omega) hahead]
    by_cases hki:k=i
    .rw[hki];exact hSi
    .exact hbehind k (by omega) h2 h3
   have e2:zG9 all ms (λk=>if k=i then true else S k) all.length=ms (i+1):=by
    rw[zH2 (i:=i+1) all.length (by omega) (λk h1 h2 h3=>?_),zH0 hkeep (i+1) (by omega) (λk h1 h2=>?_)]
    .by_cases hki:k=i
     .rw[if_pos hki]
     .rw[if_neg hki];exact hahead k (by omega) h2
    .rw[if_neg (by omega)];exact hbehind k (by omega) h2 h3
   rw[e1,e2];exact hw.step i o hoi
 . -- no x44: the memory stays
   have hwr':x44 o.op=false:=by simpa using hwr
   have e2:zG9 all ms (λk=>if k=i then true else S k) all.length=zG9 all ms S all.length:=by
    refine zH1 _ λk hk hkw=>?_
    by_cases hki:k=i
    .subst hki;exact absurd ((hisw hoi).1 hkw) hwr
    .simp[hki]
   rw[e2];rcases hw.step i o hoi with⟨hg,hsem⟩|⟨hg,hv,_⟩
   .refine .inl ⟨hg,?_⟩
    have hx:=(hw.more i o hoi).more hg;obtain⟨k,hkl,hkm,hk0⟩:=zH3 (all:=all) (ms:=ms) (S:=S) all.length (Nat.le_refl _);rw[hkm]
    by_cases hp:yP0 o.op=true
    .exact hx.pure hp _
    -- how the memories look
    have fwd:∀k,k<=all.length->zd9 m (ms k):=by
     intro k
     induction k with
     |zero=>intro _;rw[hw.mfirst];exact zd9.refl m
     |succ k ih=>
      intro hk;have ho:all[k]? =some all[k] :=List.getElem?_eq_getElem hk;refine(ih (by omega)).trans ?_
      by_cases hkw:x44 all[k].op=true
      .by_cases hka:k=a
       .subst hka
        by_cases hst:qJ7 all[k].op=true
        .exact((hw.more k _ ho).store hst).1
        .have hal:qJ1 all[k].op=true:=by
          simp only[x44,Bool.or_eq_true]at hkw;exact hkw.resolve_left hst
         refine((hw.more k _ ho).alloc hal ?_).shape;rw[hms0 k (Nat.le_refl _) (by omega)];exact hfresh
       .have hak:a<k:=by
         rcases Nat.lt_or_ge k a with h|h
         .rw[(hwet.pre k _ h ho).1]at hkw;cases hkw
         .omega
        exact((hw.more k _ ho).store (hstore k _ hak ho hkw)).1
      .rw[hkeep k _ ho (by simpa using hkw)];exact zd9.refl _
    by_cases hs:xF1 o.op=true
    .refine hx.shape hs _ ?_
     by_cases hia:i<=a
     .rw[hms0 i hia (by omega)];exact fwd k hkl
     . -- behind the first x44 there is no allocation
       have hpo:=hwet.post i o (by omega) hoi;simp only[x26,Bool.or_eq_true,Bool.and_eq_true]at hpo
       have hal:al=false:=by
        rcases hpo with h1|h1|h1
        .exact absurd h1 hp
        .rw[xK8 h1]at hwr';cases hwr'
        .simpa using h1.2
       have bwd:∀k,k<=all.length->zd9 (ms k) m:=by
        intro k
        induction k with
        |zero=>intro _;rw[hw.mfirst];exact zd9.refl m
        |succ k ih=>
         intro hk;have ho:all[k]? =some all[k] :=List.getElem?_eq_getElem hk;refine zd9.trans ?_ (ih (by omega))
         by_cases hkw:x44 all[k].op=true
         .have hst:qJ7 all[k].op=true:=by
           rcases Nat.lt_trichotomy k a with h|h|h
           .rw[(hwet.pre k _ h ho).1]at hkw;cases hkw
           .subst h
            have:=(hwet.head _ ho).2;rw[hal]at this;simp only[x44,Bool.or_eq_true,this]at hkw;exact hkw.resolve_right (by simp)
           .exact hstore k _ h ho hkw
          exact((hw.more k _ ho).store hst).2
         .rw[hkeep k _ ho (by simpa using hkw)];exact zd9.refl _
       exact(bwd i (by omega)).trans (fwd k hkl)
    -- a reader: no store is listed
    have hia:i<a:=by
     rcases Nat.lt_trichotomy i a with h|h|h
     .exact h
     .subst h;rw[(hwet.head o hoi).1]at hwr';cases hwr'
     .have hpo:=hwet.post i o h hoi
      simp only[x26,Bool.or_eq_true,Bool.and_eq_true]at hpo;rcases hpo with h1|h1|h1
      .exact absurd h1 hp
      .rw[xK8 h1]at hwr';cases hwr'
      .exact absurd h1.1 hs
    have hmi:=hms0 i (by omega) (by omega)
    have nostore:∀ (j:Nat) (oj:Oper),all[j]? =some oj->S j=true->qJ7 oj.op=true->False:=by
     intro j oj hj hSj hst
     have hij:i<j:=by
      rcases Nat.lt_or_ge j a with h|h
      .have h1:=(hwet.pre j oj h hj).1
       rw[xK8 hst]at h1;cases h1
      .omega
     have:=hwait j oj i o hj hst hSj hij hoi (λh=>h.elim hp hs);rw[hSi]at this;cases this
    rcases hk0 with rfl|⟨j,oj,rfl,hSj,hj,hjw⟩
    .rw[hw.mfirst,<-hmi]
     have hst2:ms (i+1)=ms i:=hkeep i o hoi hwr';rw[hst2]at hsem;exact hsem
    .have hja:j=a:=by
      rcases Nat.lt_trichotomy j a with h|h|h
      .rw[(hwet.pre j oj h hj).1]at hjw;cases hjw
      .exact h
      .exact(nostore j oj hj hSj (hstore j oj h hj hjw)).elim
     subst hja
     have hal:qJ1 oj.op=true:=by
      simp only[x44,Bool.or_eq_true]at hjw
      exact hjw.resolve_left λh=>nostore j oj hj hSj h
     have halt:al=true:=by rw[<-(hwet.head oj hj).2];exact hal
     have hpre:=(hwet.pre i o hia hoi).2;simp only[x27,halt,Bool.and_eq_true,Bool.not_true,Bool.false_or,Bool.or_eq_true]at hpre
     have hup:xW4 o.op=true:=by
      rcases hpre.2 with h|h|h
      .exact absurd h hp
      .exact absurd h hs
      .exact h
     refine hx.up rfl hup _ ?_;have hmj:=hms0 j (Nat.le_refl _) (by omega);rw[hmi,<-hmj];refine(hw.more j oj hj).alloc hal ?_;rw[hmj];exact hfresh
   .exact .inr ⟨hg,hv,rfl⟩
end
section
variable {P:Program} {E:Env} {O:Type}
theorem zJ3(cs:List SV):(SV.agg cs).data=f6 cs:=by
 induction cs with
 |nil=>rfl
 |cons x xs ih=>
  show(match x.data with|true=>(SV.agg xs).data|false=>false)=(match x.data with|true=>f6 xs|false=>false);rw[ih]
theorem zJ5(cs:List SV):(SV.tuple cs).data=f6 cs:=zJ3 cs
theorem zJ4(f:Nat)(a c:List SV):(SV.fn f a c).data=match f6 a with|true=>f6 c|false=>false:=by
 rw[<-zJ3 a,<-zJ3 c];rfl
theorem zI9(x:SV)(xs:List SV):f6 (x::xs)=match x.data with|true=>f6 xs|false=>false:=rfl
mutual
theorem Rep.data{R R':Nat->Prop}{I I':Rho}{n n':Nat}{w:World}(hR:∀b,R b->R' b):∀ (x:SV) (v:Value),x.data=true->Rep R I n w x v->Rep R' I' n' w x v
 |.undef,_,_,h=>h
 |.top,_,_,_=>trivial
 |.int _ _,_,_,h=>h
 |.bool _,_,_,h=>h
 |.str _,_,_,h=>h
 |.nilS,_,_,h=>h
 |.list t l,v,_,h=>r8.mono (λb hb=>⟨hR b hb,rfl⟩) (.list t) l [v] h
 |.row _,_,hd,_=>by cases hd
 |.arr _ _ _,_,hd,_=>by cases hd
 |.ptr _ _,_,hd,_=>by cases hd
 |.nilP,_,_,h=>h
 |.eptr t l i off,v,_,h=>by
  obtain⟨b,o,h1,h2,h3⟩:=h;exact⟨b,o,h1,h2,h3.mono λb hb=>⟨hR b hb,rfl⟩⟩
 |.rptr _ _ _ _,_,hd,_=>by cases hd
 |.agg cs,v,hd,h=>by
  obtain⟨vs,h1,h2⟩:=h;exact⟨vs,h1,j7.data hR cs vs (by rw[<-zJ3];exact hd) h2⟩
 |.tuple cs,v,hd,h=>by
  obtain⟨vs,h1,h2⟩:=h;exact⟨vs,h1,j7.data hR cs vs (by rw[<-zJ5];exact hd) h2⟩
 |.fn f first cap,v,hd,h=>by
  obtain⟨vs,us,h1,h2,h3⟩:=h;rw[zJ4]at hd
  cases h4:f6 first with
  |false=>rw[h4]at hd;cases hd
  |true=>
   rw[h4]at hd;exact⟨vs,us,h1,j7.data hR first vs h4 h2,j7.data hR cap us hd h3⟩
 |.raw _,_,_,h=>h
theorem j7.data{R R':Nat->Prop}{I I':Rho}{n n':Nat}{w:World}(hR:∀b,R b->R' b):∀ (xs:List SV) (vs:List Value),f6 xs=true->j7 R I n w xs vs->j7 R' I' n' w xs vs
 |[],_,_,h=>h
 |x::xs,vs,hd,h=>by
  obtain⟨u,us,h1,h2,h3⟩:=h;rw[zI9]at hd
  cases h4:x.data with
  |false=>rw[h4]at hd;cases hd
  |true=>
   rw[h4]at hd;exact⟨u,us,h1,Rep.data hR x u h4 h2,j7.data hR xs us hd h3⟩
end
theorem qV0:∀ (args:List SV) (i:Nat) (fr:Fr) (k:Fr->Tree O) (L:O->Prop),(List.rec (motive:=λ_=>Nat->Fr->(Fr->Tree O)->Tree O) (λ_ fr k=>k fr) (λx _ ih i fr k=>frc x λx=>fr.set i x λfr=>ih (i+1) fr k) args i fr k).holds L->
  ∃fr',(k fr').holds L/\fr'.size=fr.size/\(args=[] \/i+args.length<=fr.size)/\∀t,fr'.get t=if i<=t/\t<i+args.length then args.getD (t-i) .undef else fr.get t
 |[],i,fr,k,L,h=>⟨fr,h,rfl,.inl rfl,λt=>by rw[if_neg (by simp)]⟩
 |x::args,i,fr,k,L,h=>by
  change (frc x λx=>fr.set i x λfr=>List.rec (motive:=λ_=>Nat->Fr->(Fr->Tree O)->Tree O) (λ_ fr k=>k fr) (λx _ ih i fr k=>frc x λx=>fr.set i x λfr=>ih (i+1) fr k) args (i+1) fr k).holds L at h
  rw[qs6]at h;obtain⟨fr1,h1,h2⟩:=Fr.set_holds h;obtain⟨fr',h3,h4,h5,h6⟩:=qV0 args (i+1) fr1 k L h2;have hlt:=h1.2.1 i rfl;refine⟨fr',h3,h4.trans h1.1,.inr ?_,λt=>?_⟩
  .rcases h5 with rfl|h5
   .exact hlt
   .rw[h1.1]at h5;simp only[List.length_cons];omega
  .rw[h6 t]
   simp only[List.length_cons]
   by_cases h7:i+1<=t/\t<i+1+args.length
   .rw[if_pos h7,if_pos ⟨by omega,by omega⟩,show t-i=(t-(i+1))+1 by omega,List.getD_cons_succ]
   .rw[if_neg h7,h1.2.2 t]
    by_cases h8:i=t
    .subst h8
     rw[if_pos rfl,if_pos ⟨by omega,by omega⟩];simp
    .have:¬(some i=some t):=λe=>h8 (by injection e)
     rw[if_neg this,if_neg (by omega)]
theorem qV1{size:Nat}{args:List SV}{k:Fr->Tree O}{L:O->Prop}(h:(Fr.make size args k).holds L):∃fr,(k fr).holds L/\fr.size=size/\(args=[] \/args.length<=size)/\∀t,fr.get t=args.getD t .undef:=by
 obtain⟨fr,h1,h2,h3,h4⟩:=qV0 args 0 ⟨size,.e⟩ k L h;refine⟨fr,h1,h2,h3.imp id (λh=>by simpa using h),λt=>?_⟩;rw[h4 t]
 by_cases ht:t<args.length
 .rw[if_pos ⟨Nat.zero_le _,by omega⟩];simp
 .rw[if_neg (by omega)]
  have:args.getD t .undef=.undef:=by simp[List.getD,List.getElem?_eq_none (show args.length<=t by omega)]
  rw[this];rfl
variable{I:Rho}{w:World}{fr:Fr}
theorem qs1{R:Nat->Prop}{n:Nat}{size:Nat}{args:List SV}{vs:List Value}(h1:fr.size=size)(h2:args=[] \/args.length<=size)(h3:∀t,fr.get t=args.getD t .undef)(h:j7 R I n w args vs):
  zb4 R I n w fr (vs.toArray++Array.replicate (size-vs.toArray.size) Go.undef):=by
 have hl:=h.length
 have hle:args.length<=size:=by
  rcases h2 with rfl|h2
  .simp
  .exact h2
 refine⟨by rw[h1];simp;omega,λt=>?_⟩;rw[h3 t]
 by_cases ht:t<args.length
 .obtain⟨c,hc⟩:∃c,args[t]? =some c:=⟨_,List.getElem?_eq_getElem ht⟩
  obtain⟨v,hv,hr⟩:=h.get hc
  have e1:args.getD t .undef=c:=by simp[List.getD,hc]
  have e2:(vs.toArray++Array.replicate (size-vs.toArray.size) Go.undef).getD t Go.undef=v:=by
   rw[Array.getD_eq_getD_getElem?,Array.getElem?_append_left (by simp;omega)];simp[hv]
  rw[e1,e2];exact hr
 .have e1:args.getD t .undef=.undef:=by simp[List.getD,List.getElem?_eq_none (show args.length<=t by omega)]
  have e2:(vs.toArray++Array.replicate (size-vs.toArray.size) Go.undef).getD t Go.undef=Go.undef:=by
   rw[Array.getD_eq_getD_getElem?,Array.getElem?_append_right (by simp;omega),Array.getElem?_replicate]
   split<;>rfl
  rw[e1,e2];rfl
def yY8(tmps:Array Value):ResultVar->Sem Value
 |.tmp t=>pure (tmps.getD t Go.undef)
 |.cell a t=>do loadVar t (<-asAddr (tmps.getD a Go.undef))
theorem yZ7(fn:Func)(tmps:Array Value):Go.results fn tmps=(do
  let vs <-fn.results.mapM (yY8 tmps)
  pure (if h:vs.size=1 then vs[0]else .tuple vs)):=by
 unfold Go.results
 congr 1
variable{m:Mem}
theorem yY0(hE:EOK P E){r:ResultVar}{k:SV->Tree O}{L:O->Prop}(h:(yX9 E m fr r k).holds L):∃v,(k v).holds L/\∀⦃ds:List Deferred⦄ w0 R0 I w a,m8 ds w0 R0 I w fr m a->
  ∃u,(yY8 a.tmps r).run P w=.ok u w/\Rep (RO w0 R0 I w m) I m.next w v u:=by
 cases r with
 |tmp t=>
  change (frc (fr.get t) k).holds L at h
  rw[qs6]at h;exact⟨_,h,λds w0 R0 I w a hs=>⟨_,rfl,hs.2.1.2 t⟩⟩
 |cell a' t=>
  change (yB0 E t (fr.get a') .auto m λv _ _=>k v).holds L at h
  obtain⟨v,h1,h2⟩:=yB1 hE h;refine⟨v,h1,λds w0 R0 I w a hs=>?_⟩;obtain⟨u,h3,h4⟩:=h2 m (Up.refl m) w0 R0 I w _ hs.1 (hs.2.1.2 a');refine⟨u,?_,h4⟩;show((do loadVar t (<-asAddr (a.tmps.getD a' Go.undef)):Sem Value)).run P w=_;generalize a.tmps.getD a' Go.undef=av at h3 ⊢
  cases av<;>try(simp[Instr.loadAt,Instr.sureAddr]at h3;done)
  rename_i o
  cases o with
  |none=>simp[Instr.loadAt,Instr.sureAddr]at h3
  |some ad=>simpa[Instr.loadAt,Instr.sureAddr,asAddr]using h3
theorem yX7(hE:EOK P E):∀ (rs:List ResultVar) (k:List SV->Tree O) (L:O->Prop),(yX6 E m fr rs k).holds L->∃vs,(k vs).holds L/\vs.length=rs.length/\∀⦃ds:List Deferred⦄ w0 R0 I w a,m8 ds w0 R0 I w fr m a->
  ∃us,(rs.mapM (yY8 a.tmps)).run P w=.ok us w/\j7 (RO w0 R0 I w m) I m.next w vs us
 |[],k,L,h=>⟨[],h,rfl,λds w0 R0 I w a hs=>⟨[],rfl,rfl⟩⟩
 |r::rs,k,L,h=>by
  change (yX9 E m fr r λv=>yX6 E m fr rs λvs=>k (v::vs)).holds L at h
  obtain⟨v,h1,h2⟩:=yY0 hE h;obtain⟨vs,h3,h4,h5⟩:=yX7 hE rs _ L h1;refine⟨v::vs,h3,by simp[h4],λds w0 R0 I w a hs=>?_⟩;obtain⟨u,h6,h7⟩:=h2 w0 R0 I w a hs;obtain⟨us,h8,h9⟩:=h5 w0 R0 I w a hs;refine⟨u::us,?_,u,us,rfl,h7,h9⟩;rw[List.mapM_cons];simp only[Sem.run_bind,h6,h8,Result.andThen_ok,Sem.run_pure]
theorem yZ8(hE:EOK P E){fn:Func}{k:SV->Tree O}{L:O->Prop}(h:(results E fn m fr k).holds L):∃v,(k v).holds L/\∀⦃ds:List Deferred⦄ w0 R0 I w a,m8 ds w0 R0 I w fr m a->∃u,(Go.results fn a.tmps).run P w=.ok u w/\Rep (RO w0 R0 I w m) I m.next w v u:=by
 obtain⟨vs,h1,h2,h3⟩:=yX7 hE fn.results.toList _ L h
 have run:∀ (a:Act) (w:World) (us:List Value),(fn.results.toList.mapM (yY8 a.tmps)).run P w=.ok us w->(Go.results fn a.tmps).run P w=.ok (if h:us.toArray.size=1 then us.toArray[0]else .tuple us.toArray) w:=by
  intro a w us hu;rw[yZ7,Array.mapM_eq_mapM_toList];simp only[Sem.run_bind,Sem.run_map,hu];rfl
 split at h1
 .rename_i v
  refine⟨v,h1,λds w0 R0 I w a hs=>?_⟩;obtain⟨us,h4,u,us',rfl,h5,h6⟩:=h3 w0 R0 I w a hs;rw[show us'=[]from h6]at h4;exact⟨u,by rw[run a w _ h4];rfl,h5⟩
 .rename_i hne
  refine⟨_,h1,λds w0 R0 I w a hs=>?_⟩;obtain⟨us,h4,h5⟩:=h3 w0 R0 I w a hs;have hl:=h5.length;refine⟨.tuple us.toArray,?_,us,rfl,h5⟩;rw[run a w _ h4,dif_neg];intro h6
  have:vs.length=1:=by simp at h6;omega
  obtain⟨v,hv⟩:=List.length_eq_one_iff.1 this;exact hne v hv
def Tree.says{β:Type}(Φ:β->Prop):Tree β->Prop
 |.leaf a=>Φ a
 |.node b t f=>(b=true->t.says Φ)/\(b=false->f.says Φ)
 |.req b t=>b=true->t.says Φ
 |.fail _=>True
theorem zv7{Φ:SV->Prop}{Z:r9 O}{L:O->Prop}:∀ (t:Tree SV) (p:Plan),(zv6 m Z t p).holds L->t.says Φ->∃v p',(Z v p' m).holds L/\Φ v
 |.leaf v,p,h,hs=>⟨v,p,h,hs⟩
 |.node b t f,p,h,hs=>by
  obtain⟨p',h⟩:=zK3 (k:=λb p=>match b with
   |true=>zv6 m Z t p
   |false=>zv6 m Z f p) h
  cases b with
  |true=>exact zv7 t p' h (hs.1 rfl)
  |false=>exact zv7 f p' h (hs.2 rfl)
 |.req b t,p,h,hs=>zv7 t p h.2 (hs h.1)
 |.fail _,_,h,_=>h.elim
def SCall(P:Program)(f:FuncId)(args:List SV)(v:SV):Prop:=∀m,zd6 P m v m f args
def ze4(P:Program)(f:FuncId)(args:List SV)(m:Mem)(x:SV×Mem):Prop:=zd6 P m x.1 x.2 f args
def za1(P:Program)(f:FuncId)(args:List SV)(B:Box)(x:Bool×SV×Box):Prop:=
 ∀m m' id,m.get id=some B->zc0 m id (some x.2.2) m'->ze6 P f (.ptr id 0::args) m (match x.1 with|true=>.pan x.2.1 m'|false=>.ok x.2.1 m')
def zc5(P:Program)(f:FuncId)(args:List SV)(x:SV×Mem):Prop:=
 ∀m v' m',(zk5 x.1 x.2 m λv m=>Tree.leaf (v,m)).holds (λy=>y=(v',m'))->zd6 P m v' m' f args
def ze2(P:Program)(E:Env):Prop:=(∀f s args t,E.sum f=some s->s args=some t->t.says (SCall P f args))/\(∀f s args m t,E.wr f=some s->s args m=some t->t.says (ze4 P f args m))/\(∀f s args m t,E.pn f=some s->s args m=some t->t.says (ze6 P f args m))/\(∀f s args B t,E.bx f=some s->s args B=some t->t.says (za1 P f args B))/\∀f s args t,E.ow f=some s->s args=some t->t.says (zc5 P f args)
theorem zv3{Φ:SV×Mem->Prop}{Z:r9 O}{L:O->Prop}:∀ (t:Tree (SV×Mem)) (p:Plan),(zv2 Z t p).holds L->t.says Φ->∃x p',(Z x.1 p' x.2).holds L/\Φ x
 |.leaf x,p,h,hs=>⟨x,p,h,hs⟩
 |.node b t f,p,h,hs=>by
  unfold zv2 at h;obtain⟨p',h⟩:=zK3 h
  cases b with
  |true=>exact zv3 t p' h (hs.1 rfl)
  |false=>exact zv3 f p' h (hs.2 rfl)
 |.req b t,p,h,hs=>zv3 t p h.2 (hs h.1)
 |.fail _,_,h,_=>h.elim
theorem zv1{Φ:Bool×SV×Box->Prop}{Z:SV->Plan->Box->Tree O}{L:O->Prop}:∀ (t:Tree (Bool×SV×Box)) (p:Plan),(zv0 Z t p).holds L->t.says Φ->∃v B p',(Z v p' B).holds L/\Φ (false,v,B)
 |.leaf (false,v,B),p,h,hs=>⟨v,B,p,h,hs⟩
 |.leaf (true,v,B),p,h,hs=>h.elim
 |.node b t f,p,h,hs=>by
  unfold zv0 at h;obtain⟨p',h⟩:=zK3 h
  cases b with
  |true=>exact zv1 t p' h (hs.1 rfl)
  |false=>exact zv1 f p' h (hs.2 rfl)
 |.req b t,p,h,hs=>zv1 t p h.2 (hs h.1)
 |.fail _,_,h,_=>h.elim
theorem zv5{Φ:SV×Mem->Prop}{Z:r9 O}{L:O->Prop}:∀ (t:Tree (SV×Mem)) (p:Plan),(zv4 m Z t p).holds L->t.says Φ->∃x p',(zk5 x.1 x.2 m λv m=>Z v p' m).holds L/\Φ x
 |.leaf x,p,h,hs=>⟨x,p,h,hs⟩
 |.node b t f,p,h,hs=>by
  unfold zv4 at h;obtain⟨p',h⟩:=zK3 h
  cases b with
  |true=>exact zv5 t p' h (hs.1 rfl)
  |false=>exact zv5 f p' h (hs.2 rfl)
 |.req b t,p,h,hs=>zv5 t p h.2 (hs h.1)
 |.fail _,_,h,_=>h.elim
theorem bindX_holds{Φ:Ex->Prop}{Z:r9 O}{esc:SV->Mem->Tree O}{L:O->Prop}:∀ (t:Tree Ex) (p:Plan),(zv8 Z esc t p).holds L->t.says Φ->(∃v m p',(Z v p' m).holds L/\Φ (.ok v m))\/∃v m,(esc v m).holds L/\Φ (.pan v m)
 |.leaf (.ok v m),p,h,hs=>.inl ⟨v,m,p,h,hs⟩
 |.leaf (.pan v m),p,h,hs=>.inr ⟨v,m,h,hs⟩
 |.node b t f,p,h,hs=>by
  unfold zv8 at h;obtain⟨p',h⟩:=zK3 h
  cases b with
  |true=>exact bindX_holds t p' h (hs.1 rfl)
  |false=>exact bindX_holds f p' h (hs.2 rfl)
 |.req b t,p,h,hs=>bindX_holds t p h.2 (hs h.1)
 |.fail _,_,h,_=>h.elim
abbrev RR(w0:World)(R0:RSet)(ρ0:Rho)(w:World)(m0:Mem)(ρc:Rho)(mc0:Mem)(w':World)(b:Nat):Prop:=
 RO w0 R0 ρ0 w m0 b\/RO w (RS w0 R0 ρ0 w m0) ρc w' mc0 b
structure Hand (w0:World) (R0:RSet) (ρ0:Rho) (w:World) (m0:Mem) (ρc:Rho) (mc0:Mem) (w':World) (I:Rho) (m mc:Mem):Prop where
 le:m0.next<=m.next
 same:∀id,id<m0.next->I id=ρ0 id
 lt:∀id B,m.get id=some B->id<m.next
 lo:∀id B,m.get id=some B->xG1 (I id) B->w0.heap.size<=(I id).1
 hi:∀id B,m.get id=some B->xG1 (I id) B->(I id).1<w'.heap.size
 nh:∀id B,m.get id=some B->xG1 (I id) B->¬R0 (I id).1
 inj:∀id id' B B',m.get id=some B->m.get id'=some B'->xG1 (I id) B->xG1 (I id') B'->(I id).1=(I id').1->id=id'
 box:∀id B,m.get id=some B->za2 (RR w0 R0 ρ0 w m0 ρc mc0 w') I m.next w' (I id) B
 sub:∀k B,mc.get k=some B->mc0.get k=some B
 apart:∀k B,mc.get k=some B->xG1 (ρc k) B->∀id C,m.get id=some C->xG1 (I id) C->(I id).1≠(ρc k).1
 ro:∀b,RR w0 R0 ρ0 w m0 ρc mc0 w' b->RO w0 R0 I w' m b
variable{w0:World}{R0:RSet}
theorem Hand.start{ρ0:Rho}{m0:Mem}{ρc:Rho}{mc0:Mem}{w':World}(hm:MRel w0 R0 ρ0 w m0)(hc:MRel w (RS w0 R0 ρ0 w m0) ρc w' mc0):Hand w0 R0 ρ0 w m0 ρc mc0 w' ρ0 m0 mc0:=by
 have hsz:=hc.below.size
 have hkeep:∀b,RO w0 R0 ρ0 w m0 b->RO w0 R0 ρ0 w' m0 b:=λb hb=>by
  rcases hb with hb|⟨h1,h2,h3⟩
  .exact .inl hb
  .exact .inr ⟨h1,by omega,h3⟩
 have e:Ext (RO w0 R0 ρ0 w m0) ρ0 m0.next w (RR w0 R0 ρ0 w m0 ρc mc0 w') ρ0 m0.next w':=⟨Nat.le_refl _,λ_ _=>rfl,λb hb=>⟨.inl hb,hc.below.block b (hm.ro_lt hb)⟩⟩;refine⟨Nat.le_refl _,λ_ _=>rfl,hm.lt,hm.lo,λid B h1 h2=>?_,hm.hid.2,hm.inj,λid B h1=>za2.mono e B (λhs=>hc.below.block _ (hm.hi id B h1 hs)) (hm.box id B h1),λ_ _ h=>h,λk B h1 h2 id C h3 h4=>?_,λb hb=>?_⟩
 .have:=hm.hi id B h1 h2;omega
 .have:=hm.hi id C h3 h4;have:=hc.lo k B h1 h2;omega
 .rcases hb with hb|⟨hb,_⟩|⟨h1,h2,_⟩
  .exact hkeep b hb
  .exact hkeep b hb
  .have:=hm.size_le
   exact .inr ⟨by omega,h2,λid C h3 h4=>by have:=hm.hi id C h3 h4;omega,λhr=>by have:=(hm.hid.1 b hr).1;omega⟩
variable{mc:Mem}
theorem Hand.finish{ρ0:Rho}{m0:Mem}{ρc:Rho}{mc0:Mem}{w':World}(hm:MRel w0 R0 ρ0 w m0)(hc:MRel w (RS w0 R0 ρ0 w m0) ρc w' mc0)(h:Hand w0 R0 ρ0 w m0 ρc mc0 w' I m mc):
  MRel w0 R0 I w' m/\b8 w0 R0 ρ0 w m0 I w' m:=by
 have e:Ext (RR w0 R0 ρ0 w m0 ρc mc0 w') I m.next w' (RO w0 R0 I w' m) I m.next w':=⟨Nat.le_refl _,λ_ _=>rfl,λb hb=>⟨h.ro b hb,rfl⟩⟩;refine⟨⟨hm.below.trans (hc.below.mono hm.size_le),h.lt,h.lo,h.hi,h.inj,λid B h1=>za2.mono e B (λ_=>rfl) (h.box id B h1),λb hb=>⟨Nat.lt_of_lt_of_le (hm.hid.1 b hb).1 hc.below.size,(hc.below.block b (hm.hid.1 b hb).1).trans (hm.hid.1 b hb).2⟩,h.nh⟩,h.le,h.same,λb hb=>⟨h.ro b (.inl hb),hc.below.block b (hm.ro_lt hb)⟩⟩
theorem zk8{v:SV}{k:SV->Mem->Mem->Tree O}{L:O->Prop}(h:(zk6 v mc m k).holds L):∃v' mc' m',(k v' mc' m').holds L/\∀w0 R0 ρ0 w m0 ρc mc0 w' I (u:Value),MRel w0 R0 ρ0 w m0->MRel w (RS w0 R0 ρ0 w m0) ρc w' mc0->Hand w0 R0 ρ0 w m0 ρc mc0 w' I m mc->Rep (RO w (RS w0 R0 ρ0 w m0) ρc w' mc0) ρc mc0.next w' v u->
  ∃I',Hand w0 R0 ρ0 w m0 ρc mc0 w' I' m' mc'/\Ext (RR w0 R0 ρ0 w m0 ρc mc0 w') I m.next w' (RR w0 R0 ρ0 w m0 ρc mc0 w') I' m'.next w'/\Rep (RR w0 R0 ρ0 w m0 ρc mc0 w') I' m'.next w' v' u:=by
 have plain:∀v:SV,v.data=true->(k v mc m).holds L->∃v' mc' m',(k v' mc' m').holds L/\∀w0 R0 ρ0 w m0 ρc mc0 w' I (u:Value),MRel w0 R0 ρ0 w m0->MRel w (RS w0 R0 ρ0 w m0) ρc w' mc0->Hand w0 R0 ρ0 w m0 ρc mc0 w' I m mc->Rep (RO w (RS w0 R0 ρ0 w m0) ρc w' mc0) ρc mc0.next w' v u->
   ∃I',Hand w0 R0 ρ0 w m0 ρc mc0 w' I' m' mc'/\Ext (RR w0 R0 ρ0 w m0 ρc mc0 w') I m.next w' (RR w0 R0 ρ0 w m0 ρc mc0 w') I' m'.next w'/\Rep (RR w0 R0 ρ0 w m0 ρc mc0 w') I' m'.next w' v' u:=
  λv hd h=>⟨v,mc,m,h,λw0 R0 ρ0 w m0 ρc mc0 w' I u hm hc hh hr=>⟨I,hh,Ext.refl _ _ _ _,Rep.data (λb hb=>.inr hb) v u hd hr⟩⟩
 cases v with
 |row id=>
  dsimp only[zk6]at h
  split at h
  .rename_i t l hg
   obtain⟨mc',h1,h2⟩:=Mem.set_holds h;obtain⟨m',h3,h4⟩:=Mem.push_holds h2;refine⟨_,mc',m',h4,λw0 R0 ρ0 w m0 ρc mc0 w' I u hm hc hh hr=>?_⟩;have hg0:=hh.sub id _ hg
   have hmc':∀j B,mc'.get j=some B->j≠id/\mc.get j=some B:=λj B hj=>by
    rw[h1.1 j]at hj
    by_cases e:j=id
    .rw[if_pos e]at hj;cases hj
    .rw[if_neg e]at hj;exact⟨e,hj⟩
   have hm':∀j B,m'.get j=some B->(j=m.next/\B=.rows t l)\/(j≠m.next/\m.get j=some B):=λj B hj=>by
    rw[h3.1 j]at hj
    by_cases e:j=m.next
    .rw[if_pos e]at hj;injection hj with hj;exact .inl ⟨e,hj.symm⟩
    .rw[if_neg e]at hj;exact .inr ⟨e,hj⟩
   have hle:=hh.le;have hwsz:=hm.size_le;have e:Ext (RR w0 R0 ρ0 w m0 ρc mc0 w') I m.next w' (RR w0 R0 ρ0 w m0 ρc mc0 w') (upd I m.next (ρc id)) m'.next w':=⟨by rw[h3.2];omega,λj hj=>t7 _ _ (by omega),λb hb=>⟨hb,rfl⟩⟩;refine⟨upd I m.next (ρc id),⟨by rw[h3.2];omega,λj hj=>by rw[t7 _ _ (by omega)];exact hh.same j hj,λj B hj=>?_,λj B hj hs=>?_,λj B hj hs=>?_,λj B hj hs=>?_,λj j' B B' hj hj' hs hs' he=>?_,λj B hj=>?_,λj B hj=>hh.sub j B (hmc' j B hj).2,λj B hj hs id' C hid' hs'=>?_,λb hb=>?_⟩,e,?_⟩
   .rw[h3.2]
    rcases hm' j B hj with⟨rfl,_⟩|⟨_,n2⟩
    .omega
    .have:=hh.lt j B n2;omega
   .rcases hm' j B hj with⟨rfl,rfl⟩|⟨n1,n2⟩
    .rw[t9]at hs ⊢;have:=hc.lo id _ hg0 hs;omega
    .rw[t7 _ _ n1]at hs ⊢;exact hh.lo j B n2 hs
   .rcases hm' j B hj with⟨rfl,rfl⟩|⟨n1,n2⟩
    .rw[t9]at hs ⊢;exact hc.hi id _ hg0 hs
    .rw[t7 _ _ n1]at hs ⊢;exact hh.hi j B n2 hs
   .rcases hm' j B hj with⟨rfl,rfl⟩|⟨n1,n2⟩
    .rw[t9]at hs ⊢;exact λhr=>by have:=(hm.hid.1 _ hr).1;have:=hc.lo id _ hg0 hs;omega
    .rw[t7 _ _ n1]at hs ⊢;exact hh.nh j B n2 hs
   .rcases hm' j B hj with⟨rfl,rfl⟩|⟨n1,n2⟩<;>rcases hm' j' B' hj' with⟨rfl,rfl⟩|⟨n1',n2'⟩
    .rfl
    .rw[t9]at hs he;rw[t7 _ _ n1']at hs' he
     exact absurd he.symm (hh.apart id _ hg hs j' B' n2' hs')
    .rw[t9]at hs' he;rw[t7 _ _ n1]at hs he
     exact absurd he (hh.apart id _ hg hs' j B n2 hs)
    .rw[t7 _ _ n1]at hs he;rw[t7 _ _ n1']at hs' he
     exact hh.inj j j' B B' n2 n2' hs hs' he
   .rcases hm' j B hj with⟨rfl,rfl⟩|⟨n1,n2⟩
    .rw[t9]
     obtain⟨b1,b2,b3⟩:=hc.box id _ hg0;refine⟨b1,b2,λhp=>?_⟩;obtain⟨arr,el,fr,q1,q2,q3,q4⟩:=b3 hp;refine⟨arr,el,fr,q1,q2,q3,λi hi=>?_⟩;obtain⟨cs,c1,c2,c3⟩:=q4 i hi;exact⟨cs,c1,c2,r8.mono (λb hb=>⟨.inr hb,rfl⟩) _ _ _ c3⟩
    .rw[t7 _ _ n1]
     exact za2.mono e B (λ_=>rfl) (hh.box j B n2)
   .obtain⟨n1,n2⟩:=hmc' j B hj
    rcases hm' id' C hid' with⟨rfl,rfl⟩|⟨k1,k2⟩
    .rw[t9]at hs' ⊢
     exact λhe=>n1 (hc.inj id j _ B hg0 (hh.sub j B n2) hs' hs he).symm
    .rw[t7 _ _ k1]at hs' ⊢
     exact hh.apart j B n2 hs id' C k2 hs'
   .have hne:xG1 (ρc id) (.rows t l)->(ρc id).1≠b:=λhs=>by
     rcases hb with hb|hb
     .have:=hm.ro_lt hb;have:=hc.lo id _ hg0 hs;omega
     .exact hc.ro_ne hb hg0 hs
    rcases hh.ro b hb with hb|⟨g1,g2,g3,g4⟩
    .exact .inl hb
    .refine .inr ⟨g1,g2,λj B hj hs=>?_,g4⟩
     rcases hm' j B hj with⟨rfl,rfl⟩|⟨n1,n2⟩
     .rw[t9]at hs ⊢;exact hne hs
     .rw[t7 _ _ n1]at hs ⊢;exact g3 j B n2 hs
   .obtain⟨_,a,hu,ha⟩:=hr
    exact⟨by rw[h3.2];omega,a,by rw[t9];exact hu,by rw[t9];exact ha⟩
  .exact h.elim
 |undef=>exact plain _ rfl h
 |top=>exact h.elim
 |int a b=>exact plain _ rfl h
 |bool a=>exact plain _ rfl h
 |str a=>exact plain _ rfl h
 |nilS=>exact plain _ rfl h
 |list a b=>exact plain _ rfl h
 |arr a b c=>exact h.elim
 |ptr a b=>exact h.elim
 |nilP=>exact plain _ rfl h
 |eptr a b c d=>exact plain _ rfl h
 |rptr a b c d=>exact h.elim
 |agg cs=>
  dsimp only[zk6]at h
  split at h
  .rename_i hd;exact plain _ hd h
  .exact h.elim
 |tuple cs=>
  dsimp only[zk6]at h
  split at h
  .rename_i hd;exact plain _ hd h
  .exact h.elim
 |fn f a c=>
  dsimp only[zk6]at h
  split at h
  .rename_i hd;exact plain _ hd h
  .exact h.elim
 |raw u=>exact plain _ rfl h
theorem zl1:∀ (vs:List SV) (mc m:Mem) (k:List SV->Mem->Mem->Tree O) (L:O->Prop),(zk9 vs mc m k).holds L->∃vs' mc' m',(k vs' mc' m').holds L/\∀w0 R0 ρ0 w m0 ρc mc0 w' I (us:List Value),MRel w0 R0 ρ0 w m0->MRel w (RS w0 R0 ρ0 w m0) ρc w' mc0->Hand w0 R0 ρ0 w m0 ρc mc0 w' I m mc->j7 (RO w (RS w0 R0 ρ0 w m0) ρc w' mc0) ρc mc0.next w' vs us->
  ∃I',Hand w0 R0 ρ0 w m0 ρc mc0 w' I' m' mc'/\Ext (RR w0 R0 ρ0 w m0 ρc mc0 w') I m.next w' (RR w0 R0 ρ0 w m0 ρc mc0 w') I' m'.next w'/\j7 (RR w0 R0 ρ0 w m0 ρc mc0 w') I' m'.next w' vs' us
 |[],mc,m,k,L,h=>⟨[],mc,m,h,λw0 R0 ρ0 w m0 ρc mc0 w' I us hm hc hh hr=>⟨I,hh,Ext.refl _ _ _ _,hr⟩⟩
 |v::vs,mc,m,k,L,h=>by
  change (zk6 v mc m λv mc m=>zk9 vs mc m λvs mc m=>k (v::vs) mc m).holds L at h
  obtain⟨v',mc1,m1,h1,h2⟩:=zk8 h;obtain⟨vs',mc',m',h3,h4⟩:=zl1 vs mc1 m1 _ L h1;refine⟨v'::vs',mc',m',h3,λw0 R0 ρ0 w m0 ρc mc0 w' I us hm hc hh hr=>?_⟩;obtain⟨u,us',rfl,r1,r2⟩:=hr;obtain⟨ρ1,g1,g2,g3⟩:=h2 w0 R0 ρ0 w m0 ρc mc0 w' I u hm hc hh r1;obtain⟨I',g4,g5,g6⟩:=h4 w0 R0 ρ0 w m0 ρc mc0 w' ρ1 us' hm hc g1 r2;exact⟨I',g4,g2.trans g5,u,us',rfl,Rep.mono g5 _ _ g3,g6⟩
theorem zl3{v:SV}{k:SV->Mem->Tree O}{L:O->Prop}(h:(zk5 v mc m k).holds L):∃v' m',(k v' m').holds L/\∀w0 R0 I w ρc w' (u:Value),MRel w0 R0 I w m->MRel w (RS w0 R0 I w m) ρc w' mc->Rep (RO w (RS w0 R0 I w m) ρc w' mc) ρc mc.next w' v u->f5 w0 R0 I w m v' m' u w':=by
 have one:∀v:SV,(zk6 v mc m λv _ m=>k v m).holds L->∃v' m',(k v' m').holds L/\∀w0 R0 I w ρc w' (u:Value),MRel w0 R0 I w m->MRel w (RS w0 R0 I w m) ρc w' mc->Rep (RO w (RS w0 R0 I w m) ρc w' mc) ρc mc.next w' v u->f5 w0 R0 I w m v' m' u w':=by
  intro v h;obtain⟨v',mc',m',h1,h2⟩:=zk8 h;refine⟨v',m',h1,λw0 R0 I w ρc w' u hm hc hr=>?_⟩;obtain⟨I',g1,g2,g3⟩:=h2 w0 R0 I w m ρc mc w' I u hm hc (Hand.start hm hc) hr;obtain⟨g4,g5⟩:=g1.finish hm hc;exact⟨I',g4,g5,Rep.mono ⟨Nat.le_refl _,λ_ _=>rfl,λb hb=>⟨g1.ro b hb,rfl⟩⟩ _ _ g3⟩
 have many:∀ (vs:List SV) (mk:List SV->SV) (mkv:List Value->Value),(∀ (R:Nat->Prop) (I:Rho) (n:Nat) (w:World) cs u,Rep R I n w (mk cs) u↔∃us,u=mkv us/\j7 R I n w cs us)->(zk9 vs mc m λvs _ m=>k (mk vs) m).holds L->∃v' m',(k v' m').holds L/\∀w0 R0 I w ρc w' (u:Value),MRel w0 R0 I w m->MRel w (RS w0 R0 I w m) ρc w' mc->Rep (RO w (RS w0 R0 I w m) ρc w' mc) ρc mc.next w' (mk vs) u->f5 w0 R0 I w m v' m' u w':=by
  intro vs mk mkv hmk h;obtain⟨vs',mc',m',h1,h2⟩:=zl1 vs mc m _ L h;refine⟨_,m',h1,λw0 R0 I w ρc w' u hm hc hr=>?_⟩;obtain⟨us,rfl,hr'⟩:=(hmk _ _ _ _ _ _).1 hr;obtain⟨I',g1,g2,g3⟩:=h2 w0 R0 I w m ρc mc w' I us hm hc (Hand.start hm hc) hr';obtain⟨g4,g5⟩:=g1.finish hm hc;exact⟨I',g4,g5,(hmk _ _ _ _ _ _).2 ⟨us,rfl,j7.mono ⟨Nat.le_refl _,λ_ _=>rfl,λb hb=>⟨g1.ro b hb,rfl⟩⟩ _ _ g3⟩⟩
 cases v with
 |tuple vs=>exact many vs .tuple (λus=>.tuple ⟨us⟩) (λ_ _ _ _ _ _=>Iff.rfl) h
 |agg vs=>exact many vs .agg (λus=>.agg ⟨us⟩) (λ_ _ _ _ _ _=>Iff.rfl) h
 |_=>exact one _ h
theorem yF6(hm:MRel w0 R0 I w m)(ρc:Rho):MRel w (RS w0 R0 I w m) ρc w ⟨0,.e⟩/\∀b,RO w0 R0 I w m b->RO w (RS w0 R0 I w m) ρc w ⟨0,.e⟩ b:=
 ⟨⟨⟨Below.refl _ _,hm.gnd⟩,λid B h=>(by cases h),λid B h=>(by cases h),λid B h=>(by cases h),λid id' B B' h=>(by cases h),λid B h=>(by cases h),λb hb=>⟨hm.ro_lt hb,rfl⟩,λid B h=>(by cases h)⟩,λb hb=>.inl ⟨hb,hm.ro_lt hb⟩⟩
end
theorem MRel.bare(h:MRel w0 R0 I w m):MRel w0 R0 I w ⟨0,.e⟩/\∀b,RO w0 R0 I w m b->RO w0 R0 I w ⟨0,.e⟩ b:=
 ⟨⟨h.below,λid B h=>(by cases h),λid B h=>(by cases h),λid B h=>(by cases h),λid id' B B' h=>(by cases h),λid B h=>(by cases h),h.hid.1,λid B h=>(by cases h)⟩,λb hb=>by
   rcases hb with hb|⟨k1,k2,_,k4⟩
   .exact .inl hb
   .exact .inr ⟨k1,k2,(λid B hB=>by cases hB),k4⟩⟩
theorem zo2(h:MRel w0 R0 I w m){id off n:Nat}{cs:List SV}(hg:m.get id=some (.cells cs)){u:Ty}{l:List u.T}(hl:xV4 u n ((cs.drop off).take (n*u.sz))=some l){v:Value}
  (hu:v=.slice (some ⟨(I id).1,off,none⟩) n n):Rep (RO w0 R0 I w ⟨0,.e⟩) I 0 w (.list u l) v:=by
 have hro:=h.bare.2;obtain⟨arr,e,fr,k1,k2,k3⟩:=h.box id _ hg;obtain⟨hd1,hlen⟩:=xV5 hl ((k3.drop off).take (n*u.sz));refine⟨some ⟨(I id).1,off,none⟩,n,by rw[hu,hlen],by omega,λh0=>⟨(I id).1,off,rfl,.inr ⟨h.lo id _ hg trivial,h.hi id _ hg trivial,(λid B hB=>by cases hB),h.hid.2 id _ hg trivial⟩,λi hi=>?_⟩⟩;obtain⟨ds,d1,d2,d3⟩:=hd1.elems i hi;refine⟨ds,d1,λj hj=>?_,r8.mono (λb hb=>⟨hro b hb,rfl⟩) _ _ _ d3⟩;rw[cell_of_row w _ _ arr e fr k1,<-d2 j hj]
 have hb:i*u.sz+j<n*u.sz:=by
  have:(i+1)*u.sz<=n*u.sz:=Nat.mul_le_mul_right _ (by omega);rw[Nat.succ_mul]at this;omega
 dsimp only;rw[List.getElem?_take,if_pos hb,List.getElem?_drop];simp
variable{hint:Ty}{v:SV}{u:Value}
theorem qv6(h:MRel w0 R0 I w m)(hv:Rep (RO w0 R0 I w m) I m.next w v u)(hd:(qv5 hint m v).data=true):Rep (RO w0 R0 I w ⟨0,.e⟩) I 0 w (qv5 hint m v) u:=by
 have hro:=h.bare.2;unfold qv5 at hd ⊢
 split at hd
 .split at hd
  .exact Rep.data hro _ _ hd hv
  .exact⟨none,0,by rw[show u=_ from hv];rfl,Nat.le_refl _,λh=>absurd h (Nat.lt_irrefl _)⟩
 .rename_i id
  split at hd
  .rename_i t l hg
   obtain⟨_,a,hu,ha⟩:=hv;obtain⟨b1,b2,hp⟩:=h.box id _ hg;refine⟨a,(I id).2.2,by rw[hu,b1],b2,λh0=>?_⟩;have h0:0< (I id).2.2:=Nat.lt_of_lt_of_le h0 b2;obtain⟨arr,e,fr,k1,k2,k3,k4⟩:=hp h0;refine⟨(I id).1,0,ha h0,.inr ⟨h.lo id _ hg h0,h.hi id _ hg h0,(λid B hB=>by cases hB),h.hid.2 id _ hg h0⟩,λi hi=>?_⟩;obtain⟨cs,c1,c2,c3⟩:=k4 i hi;refine⟨cs,c1,λj hj=>?_,r8.mono (λb hb=>⟨hro b hb,rfl⟩) _ _ _ c3⟩;rw[cell_of_row w _ _ arr e fr k1,Nat.zero_add];exact c2 j hj
  .cases hd
 .rename_i id off n
  split at hd
  .rename_i cs hg
   split at hd
   .rename_i l hl
    exact zo2 h hg hl hv.2
   .cases hd
  .cases hd
 .exact Rep.data hro _ _ hd hv
theorem qw0(h:MRel w0 R0 I w m):∀{cs:List SV} {us:List Value},j7 (RO w0 R0 I w m) I m.next w cs us->f6 (qv9 hint m cs)=true->j7 (RO w0 R0 I w ⟨0,.e⟩) I 0 w (qv9 hint m cs) us
 |[],_,hr,_=>hr
 |x::xs,us,hr,hd=>by
  obtain⟨u,us',rfl,h2,h3⟩:=hr;unfold qv9 at hd ⊢;rw[zI9]at hd
  cases h4:(qv5 hint m x).data with
  |false=>rw[h4]at hd;cases hd
  |true=>rw[h4]at hd;exact⟨u,us',rfl,qv6 h h2 h4,qw0 h h3 hd⟩
theorem qv8(h:MRel w0 R0 I w m)(hv:Rep (RO w0 R0 I w m) I m.next w v u)(hd:(qv7 hint m v).data=true):Rep (RO w0 R0 I w ⟨0,.e⟩) I 0 w (qv7 hint m v) u:=by
 unfold qv7 at hd ⊢
 split at hd
 .obtain⟨vs,h1,h2⟩:=hv
  exact⟨vs,h1,qw0 h h2 (by rw[<-zJ3];exact hd)⟩
 .exact qv6 h hv hd
theorem qw2(h:MRel w0 R0 I w m):∀{cs:List SV} {us:List Value},j7 (RO w0 R0 I w m) I m.next w cs us->f6 (qw1 hint m cs)=true->j7 (RO w0 R0 I w ⟨0,.e⟩) I 0 w (qw1 hint m cs) us
 |[],_,hr,_=>hr
 |x::xs,us,hr,hd=>by
  obtain⟨u,us',rfl,h2,h3⟩:=hr;unfold qw1 at hd ⊢;rw[zI9]at hd
  cases h4:(qv7 hint m x).data with
  |false=>rw[h4]at hd;cases hd
  |true=>rw[h4]at hd;exact⟨u,us',rfl,qv8 h h2 h4,qw2 h h3 hd⟩
theorem qw3(h:MRel w0 R0 I w m)(hv:Rep (RO w0 R0 I w m) I m.next w v u)(hd:(qv4 hint m v).data=true):Rep (RO w0 R0 I w ⟨0,.e⟩) I 0 w (qv4 hint m v) u:=by
 unfold qv4 at hd ⊢
 split at hd
 .obtain⟨vs,h1,h2⟩:=hv
  exact⟨vs,h1,qw2 h h2 (by rw[<-zJ5];exact hd)⟩
 .exact qv8 h hv hd
section
variable {P:Program} {E:Env} {O:Type}
theorem zJ0{l:List SV}(h:f6 l=true):∀x∈l,x.data=true:=by
 induction l with
 |nil=>intro x hx;cases hx
 |cons y ys ih=>
  rw[zI9]at h;intro x hx
  cases hy:y.data with
  |false=>rw[hy]at h;cases h
  |true=>
   rw[hy]at h;rcases List.mem_cons.1 hx with rfl|hx
   .exact hy
   .exact ih h x hx
theorem xD4{o:Oper}{ev:Operand->SV}{hint:Ty}{v:SV}{mc:Mem}(hd:f6 (o.op.operands.toList.map ev)=true)(hv:(qv4 hint mc v).data=true)(h:zd7 P ⟨0,.e⟩ v mc o ev)(m:Mem):zd7 P m (qv4 hint mc v) m o ev:=by
 intro w0 R0 I w eb hm hev;obtain⟨o1,o2⟩:=yF6 hm I
 have h1:=h w (RS w0 R0 I w m) I w eb o1 λx hx=>Rep.data o2 _ _ (zJ0 hd _ (List.mem_map.2 ⟨x,by simpa using hx,rfl⟩)) (hev x hx)
 refine zc1.mono (λu w' ⟨I',g1,g2,g3⟩=>?_) h1;have hst:=Hand.start hm g1.bare.1;obtain⟨k1,k2⟩:=hst.finish hm g1.bare.1;exact⟨I,k1,k2,Rep.data (λb hb=>hst.ro b (.inr hb)) _ u hv (qw3 g1 g3 hv)⟩
def zb6(P:Program)(E:Env)(all:List Oper)(o:Oper)(fr:Fr)(m:Mem)(v:SV)(m':Mem):Prop:=
 isW E o.op=true\/(m'=m/\∀m2,ze1 P all o fr m2 v m2)
variable{fr:Fr}{m:Mem}
theorem yw7(hE:EOK P E){call:za4 O}(hcall:za5 P false call){all:List Oper}{o:Oper}{ih:zc2 O}{p:Plan}{L:O->Prop}(h:(yw6 E call o ih p fr m).holds L):
  ∃p' v fr1 m1,(ih p' fr1 m1).holds L/\ze1 P all o fr m v m1/\zb5 fr o.dst v fr1/\zb6 P E all o fr m v m1:=by
 unfold yw6 at h
 split at h
 .rename_i hg
  have hgv:qz0 all fr.get o=some true:=by unfold qz0;rw[hg]
  split at h
  .rename_i hw
   obtain⟨v,p',m1,h1,_,h3,h4⟩:=zU4 hE hcall h;obtain⟨fr1,h5,h6⟩:=yP5 h1;exact⟨p',v,fr1,m1,h6,.inl ⟨hgv,h3⟩,h5,.inl hw⟩
  .split at h
   .rename_i hp
    obtain⟨v,p',m1,h1,_,h3,h4⟩:=zU4 hE hcall h;obtain⟨fr1,h5,h6⟩:=yP5 h1;exact⟨p',v,fr1,m,h6,.inl ⟨hgv,h4.pure hp m⟩,h5,.inr ⟨rfl,λm2=>.inl ⟨hgv,h4.pure hp m2⟩⟩⟩
   .split at h
    .rename_i hd
     obtain⟨v,p',mc,h1,_,h3,h4⟩:=zU4 hE hcall h
     split at h1
     .rename_i hv
      rw[qs6]at h1;obtain⟨fr1,h5,h6⟩:=yP5 h1;have key:=xD4 hd hv h3;exact⟨p',_,fr1,m,h6,.inl ⟨hgv,key m⟩,h5,.inr ⟨rfl,λm2=>.inl ⟨hgv,key m2⟩⟩⟩
     .exact h1.elim
    .exact h.elim
 .exact h.elim
inductive ChainF (P:Program) (E:Env) (all:List Oper):List Oper->Fr->Mem->Fr->Mem->Prop where
 |nil (fr:Fr) (m:Mem):ChainF P E all [] fr m fr m
 |cons {o:Oper} {rest:List Oper} {fr fr1 fr':Fr} {m m1 m':Mem} {v:SV} (h:ze1 P all o fr m v m1) (hx:zb6 P E all o fr m v m1) (hf:zb5 fr o.dst v fr1) (k:ChainF P E all rest fr1 m1 fr' m'):ChainF P E all (o::rest) fr m fr' m'
theorem zU7(hE:EOK P E){call:za4 O}(hcall:za5 P false call){all:List Oper}{k:zc2 O}{L:O->Prop}:∀ (ops:List Oper) (p:Plan) (fr:Fr) (m:Mem),(zU6 E call ops k p fr m).holds L->
  ∃p' fr' m',(k p' fr' m').holds L/\ChainF P E all ops fr m fr' m'
 |[],p,fr,m,h=>⟨p,fr,m,h,.nil fr m⟩
 |o::rest,p,fr,m,h=>by
  change (yw6 E call o (zU6 E call rest k) p fr m).holds L at h
  obtain⟨p1,v,fr1,m1,h1,h2,h3,h4⟩:=yw7 (all:=all) hE hcall h;obtain⟨p',fr',m',h5,h6⟩:=zU7 hE hcall rest p1 fr1 m1 h1;exact⟨p',fr',m',h5,.cons h2 h4 h3 h6⟩
structure WalkF (P:Program) (E:Env) (all:List Oper) (m m':Mem) (fr fr':Fr) (frs:Nat->Fr) (vals:Nat->SV) (ms:Nat->Mem):Prop where
 first:frs 0=fr
 last:frs all.length=fr'
 mfirst:ms 0=m
 mlast:ms all.length=m'
 step:∀i o,all[i]? =some o->ze1 P all o (frs i) (ms i) (vals i) (ms (i+1))
 more:∀i o,all[i]? =some o->zb6 P E all o (frs i) (ms i) (vals i) (ms (i+1))
 next:∀i o,all[i]? =some o->zb5 (frs i) o.dst (vals i) (frs (i+1))
theorem ChainF.index{all:List Oper}:∀{ops:List Oper} {fr fr':Fr} {m m':Mem},ChainF P E all ops fr m fr' m'->∃ (frs:Nat->Fr) (vals:Nat->SV) (ms:Nat->Mem),frs 0=fr/\frs ops.length=fr'/\ms 0=m/\ms ops.length=m'/\
  (∀i o,ops[i]? =some o->ze1 P all o (frs i) (ms i) (vals i) (ms (i+1)))/\(∀i o,ops[i]? =some o->zb6 P E all o (frs i) (ms i) (vals i) (ms (i+1)))/\(∀i o,ops[i]? =some o->zb5 (frs i) o.dst (vals i) (frs (i+1))):=by
 intro ops fr fr' m m' h
 induction h with
 |nil fr m=>exact⟨λ_=>fr,λ_=>.undef,λ_=>m,rfl,rfl,rfl,rfl,λi o h=>by simp at h,λi o h=>by simp at h,λi o h=>by simp at h⟩
 |@cons o rest fr fr1 fr' m m1 m' v hst hx hf k ih=>
  obtain⟨frs,vals,ms,h1,h2,h1m,h2m,h3,hx3,h4⟩:=ih;refine⟨λi=>Nat.casesOn i fr frs,λi=>Nat.casesOn i v vals,λi=>Nat.casesOn i m ms,rfl,h2,rfl,h2m,λi o' hi=>?_,λi o' hi=>?_,λi o' hi=>?_⟩
  .cases i with
   |zero=>simp at hi;subst hi;dsimp only;rw[h1m];exact hst
   |succ i=>exact h3 i o' (by simpa using hi)
  .cases i with
   |zero=>simp at hi;subst hi;dsimp only;rw[h1m];exact hx
   |succ i=>exact hx3 i o' (by simpa using hi)
  .cases i with
   |zero=>simp at hi;subst hi;dsimp only;rw[h1];exact hf
   |succ i=>exact h4 i o' (by simpa using hi)
variable{m':Mem}{fr':Fr}
theorem ChainF.toWalk{all:List Oper}(h:ChainF P E all all fr m fr' m'):∃frs vals ms,WalkF P E all m m' fr fr' frs vals ms:=
 let ⟨frs,vals,ms,h1,h2,h3,h4,h5,h6,h7⟩:=h.index
 ⟨frs,vals,ms,h1,h2,h3,h4,h5,h6,h7⟩
noncomputable def zG5(E:Env)(all:List Oper)(ms:Nat->Mem)(S:Nat->Bool):Nat->Mem
 |0=>ms 0
 |n+1=>if S n=true/\(all[n]?).any (λo=>isW E o.op)=true then ms (n+1)else zG5 E all ms S n
variable{ms:Nat->Mem}{S:Nat->Bool}
theorem zG7{all:List Oper}{S':Nat->Bool}:∀ (n:Nat),(∀k,k<n->(all[k]?).any (λo=>isW E o.op)=true->S k=S' k)->zG5 E all ms S n=zG5 E all ms S' n
 |0,_=>rfl
 |n+1,h=>by
  simp only[zG5];rw[zG7 n λk hk=>h k (by omega)]
  by_cases hw:(all[n]?).any (λo=>isW E o.op)=true
  .rw[h n (by omega) hw]
  .rw[if_neg (λc=>hw c.2),if_neg (λc=>hw c.2)]
theorem zG8{all:List Oper}{i:Nat}:∀ (n:Nat),i<=n->(∀k,i<=k->k<n->(all[k]?).any (λo=>isW E o.op)=true->S k=false)->zG5 E all ms S n=zG5 E all ms S i
 |0,hi,_=>by rw[Nat.le_zero.1 hi]
 |n+1,hi,h=>by
  rcases Nat.lt_or_ge n i with h1|h1
  .rw[show i=n+1 by omega]
  .simp only[zG5]
   rw[if_neg (λc=>by have:=h n h1 (by omega) c.2;rw[c.1]at this;cases this),zG8 n h1 λk h1 h2=>h k h1 (by omega)]
theorem zG6{all:List Oper}(hk:∀ (i:Nat) (o:Oper),all[i]? =some o->isW E o.op=false->ms (i+1)=ms i):∀ (n:Nat),n<=all.length->(∀k,k<n->(all[k]?).any (λo=>isW E o.op)=true->S k=true)->zG5 E all ms S n=ms n
 |0,_,_=>rfl
 |n+1,hn,h=>by
  simp only[zG5];have ho:all[n]? =some all[n] :=List.getElem?_eq_getElem (by omega)
  by_cases hw:(all[n]?).any (λo=>isW E o.op)=true
  .rw[if_pos ⟨h n (by omega) hw,hw⟩]
  .rw[if_neg (λc=>hw c.2),zG6 hk n (by omega) λk h1=>h k (by omega)]
   refine(hk n _ ho ?_).symm;rw[ho]at hw;simpa using hw
theorem zC7{all:List Oper}(h:zC5 E all=true):∀ (j:Nat) (oj:Oper),all[j]? =some oj->isW E oj.op=true->∀ (i:Nat) (oi:Oper),i<j->all[i]? =some oi->isW E oi.op=true->zx4 all 3 oj i=true:=by
 intro j oj hj hs i oi hij hi hwi;simp only[zC5,List.all_eq_true]at h;have h3:=h (oj,j) (List.mem_zipIdx_iff_getElem?.2 hj);simp only[hs,Bool.not_true,Bool.false_or,List.all_eq_true]at h3;have h4:=h3 (oi,i) (List.mem_zipIdx_iff_getElem?.2 hi)
 have hb:Nat.blt i j=true:=by rw[Nat.blt_eq];exact hij
 simpa only[hb,hwi,Bool.not_true,Bool.false_or]using h4
theorem qs7{all:List Oper}{frs:Nat->Fr}{vals:Nat->SV}(hw:WalkF P E all m m' fr fr' frs vals ms)(k:Nat)(o:Oper)(ho:all[k]? =some o)(hwr:isW E o.op=false):ms (k+1)=ms k:=by
 rcases hw.more k o ho with h|h
 .rw[hwr]at h;cases h
 .exact h.1
theorem qs8{all:List Oper}{frs:Nat->Fr}{vals:Nat->SV}(hw:WalkF P E all m m' fr fr' frs vals ms)(hch:zC5 E all=true)
  (S:Nat->Bool) (i:Nat) (o:Oper) (hoi:all[i]? =some o) (hSi:S i=false) (hcl:∀ (j:Nat) (oj:Oper),all[j]? =some oj->S j=true->∀e∈oj.after,Region.binds .any e=true->S e.on=true) (hready:∀e∈o.after,Region.binds .any e=true->S e.on=true):
  ze1 P all o (frs i) (zG5 E all ms S all.length) (vals i) (zG5 E all ms (λk=>if k=i then true else S k) all.length):=by
 have hil:i<all.length:=(List.getElem?_eq_some_iff.1 hoi).1
 have hkeep:∀ (k:Nat) (o:Oper),all[k]? =some o->isW E o.op=false->ms (k+1)=ms k:=λk o ho hwr=>qs7 hw k o ho hwr
 have hisw:∀{k:Nat} {o:Oper},all[k]? =some o->((all[k]?).any (λo=>isW E o.op)=true↔isW E o.op=true):=λ{k o} ho=>by rw[ho];simp
 by_cases hwr:isW E o.op=true
 .have hahead:∀k,k<i->(all[k]?).any (λo=>isW E o.op)=true->S k=true:=by
   intro k hk hkw;have ho:all[k]? =some all[k] :=List.getElem?_eq_getElem (by omega);exact zx5 hcl 3 o k hready (zC7 hch i o hoi hwr k _ hk ho ((hisw ho).1 hkw))
  have hbehind:∀k,i<k->k<all.length->(all[k]?).any (λo=>isW E o.op)=true->S k=false:=by
   intro k hk hkl hkw;have ho:all[k]? =some all[k] :=List.getElem?_eq_getElem hkl;rcases Bool.eq_false_or_eq_true (S k)with h|h
   .have:=zx5 hcl 3 _ i (λe he hb=>hcl k _ ho h e he hb) (zC7 hch k _ ho ((hisw ho).1 hkw) i o hk hoi hwr)
    rw[hSi]at this;cases this
   .exact h
  have e1:zG5 E all ms S all.length=ms i:=by
   rw[zG8 (i:=i) all.length (by omega) (λk h1 h2 h3=>?_),zG6 hkeep i (by omega) hahead]
   by_cases hki:k=i
   .rw[hki];exact hSi
   .exact hbehind k (by omega) h2 h3
  have e2:zG5 E all ms (λk=>if k=i then true else S k) all.length=ms (i+1):=by
   rw[zG8 (i:=i+1) all.length (by omega) (λk h1 h2 h3=>?_),zG6 hkeep (i+1) (by omega) (λk h1 h2=>?_)]
   .by_cases hki:k=i
    .rw[if_pos hki]
    .rw[if_neg hki];exact hahead k (by omega) h2
   .rw[if_neg (by omega)];exact hbehind k (by omega) h2 h3
  rw[e1,e2];exact hw.step i o hoi
 .have e2:zG5 E all ms (λk=>if k=i then true else S k) all.length=zG5 E all ms S all.length:=by
   refine zG7 _ λk hk hkw=>?_
   by_cases hki:k=i
   .subst hki;exact absurd ((hisw hoi).1 hkw) hwr
   .simp[hki]
  rw[e2];rcases hw.more i o hoi with h|h
  .exact absurd h hwr
  .exact h.2 _
end
variable{m2:Mem}
theorem RO.congr(hg:∀id,m2.get id=m.get id):RO w0 R0 I w m2=RO w0 R0 I w m:=by
 funext b;unfold RO;simp only[hg]
theorem MRel.congr(hg:∀id,m2.get id=m.get id)(hn:m2.next=m.next)(h:MRel w0 R0 I w m):MRel w0 R0 I w m2:=by
 refine⟨h.below,λid B hB=>?_,λid B hB=>h.lo id B (by rw[<-hg];exact hB),λid B hB=>h.hi id B (by rw[<-hg];exact hB),λid id' B B' hB hB'=>h.inj id id' B B' (by rw[<-hg];exact hB) (by rw[<-hg];exact hB'),λid B hB=>?_,h.hid.1,λid B hB=>h.hid.2 id B (by rw[<-hg];exact hB)⟩
 .rw[hn];exact h.lt id B (by rw[<-hg];exact hB)
 .rw[RO.congr hg,hn];exact h.box id B (by rw[<-hg];exact hB)
theorem f5.congr{m2':Mem}{w':World}(hg:∀id,m2.get id=m.get id)(hn:m2.next=m.next)(hg':∀id,m2'.get id=m'.get id)(hn':m2'.next=m'.next)(h:f5 w0 R0 I w m v m' u w'):f5 w0 R0 I w m2 v m2' u w':=by
 obtain⟨I',g1,g2,g3⟩:=h;refine⟨I',g1.congr hg' hn',?_,?_⟩
 .unfold b8
  rw[RO.congr hg,RO.congr hg',hn,hn'];exact g2
 .rw[RO.congr hg',hn'];exact g3
theorem zd7.congr{P:Program}{m2':Mem}{o:Oper}{ev:Operand->SV}(hg:∀id,m2.get id=m.get id)(hn:m2.next=m.next)(hg':∀id,m2'.get id=m'.get id)(hn':m2'.next=m'.next)(h:zd7 P m v m' o ev):zd7 P m2 v m2' o ev:=by
 intro w0 R0 I w eb hm hev;have h1:=h w0 R0 I w eb (hm.congr (λid=>(hg id).symm) hn.symm) (λx hx=>by rw[<-RO.congr hg,<-hn];exact hev x hx);exact zc1.mono (λu w' hu=>hu.congr hg hn hg' hn') h1
theorem xD8{β V O:Type}{L:O->Prop}:∀ (d:Nat) (t:Tb β) (i:Nat) (v:Option β) (k:Tb β->Tree O),(f8 d t i v k).holds L->∀ (t2:Tb V) (v2:Option V),∃t2',∀ (δ:Type) (k2:Tb V->Tree δ),f8 d t2 i v2 k2=k2 t2'
 |0,_,_,_,_,h=>h.elim
 |d+1,t,0,v,k,h=>λt2 v2=>by
  cases t2 with
  |e=>exact⟨_,λ_ _=>rfl⟩
  |n l u r=>exact⟨_,λ_ _=>rfl⟩
 |d+1,t,j+1,v,k,h=>λt2 v2=>by
  have down:∃ (t':Tb β) (O':Type) (L':O'->Prop) (k':Tb β->Tree O'),(f8 d t' (j / 2) v k').holds L':=by
   cases t with
   |e=>
    change (Tb.pick j (λi=>f8 d .e i v λl=>k (.n l none .e)) (λi=>f8 d .e i v λr=>k (.n .e none r))).holds L at h
    by_cases hj:j % 2=0
    .rw[Tb.pick_even hj]at h;exact⟨_,_,_,_,h⟩
    .rw[Tb.pick_odd hj]at h;exact⟨_,_,_,_,h⟩
   |n l u r=>
    change (Tb.pick j (λi=>f8 d l i v λl=>k (.n l u r)) (λi=>f8 d r i v λr=>k (.n l u r))).holds L at h
    by_cases hj:j % 2=0
    .rw[Tb.pick_even hj]at h;exact⟨_,_,_,_,h⟩
    .rw[Tb.pick_odd hj]at h;exact⟨_,_,_,_,h⟩
  obtain⟨t',O',L',k',h'⟩:=down
  cases t2 with
  |e=>
   obtain⟨t3,h3⟩:=xD8 d t' (j / 2) v k' h' (.e:Tb V) v2
   by_cases hj:j % 2=0
   .exact⟨_,λδ k2=>by
     change Tb.pick j (λi=>f8 d .e i v2 λl=>k2 (.n l none .e)) (λi=>f8 d .e i v2 λr=>k2 (.n .e none r))=_
     rw[Tb.pick_even hj,h3]⟩
   .exact⟨_,λδ k2=>by
     change Tb.pick j (λi=>f8 d .e i v2 λl=>k2 (.n l none .e)) (λi=>f8 d .e i v2 λr=>k2 (.n .e none r))=_
     rw[Tb.pick_odd hj,h3]⟩
  |n l u r=>
   by_cases hj:j % 2=0
   .obtain⟨t3,h3⟩:=xD8 d t' (j / 2) v k' h' l v2
    exact⟨_,λδ k2=>by
     change Tb.pick j (λi=>f8 d l i v2 λl=>k2 (.n l u r)) (λi=>f8 d r i v2 λr=>k2 (.n l u r))=_
     rw[Tb.pick_even hj,h3]⟩
   .obtain⟨t3,h3⟩:=xD8 d t' (j / 2) v k' h' r v2
    exact⟨_,λδ k2=>by
     change Tb.pick j (λi=>f8 d l i v2 λl=>k2 (.n l u r)) (λi=>f8 d r i v2 λr=>k2 (.n l u r))=_
     rw[Tb.pick_odd hj,h3]⟩
theorem xD9{β:Type}{d:Nat}{t t':Tb β}{i:Nat}{v:Option β}(h:∀ (δ:Type) (k2:Tb β->Tree δ),f8 d t i v k2=k2 t'):ze3 t i v t':=by
 obtain⟨t2,g1,g2⟩:=qD0 (L:=λx=>x=t') d t i v .leaf (by rw[h];exact rfl);obtain rfl:t2=t':=g2;exact g1
theorem Mem.set_any{O:Type}{L:O->Prop}{id:Nat}{b:Option Box}{k:Mem->Tree O}(h:(m.set id b k).holds L)(m2:Mem)(b2:Option Box):∃m2',zc0 m2 id b2 m2'/\∀ (δ:Type) (k2:Mem->Tree δ),m2.set id b2 k2=k2 m2':=by
 obtain⟨t',ht⟩:=xD8 40 m.tb id b (λtb=>k ⟨m.next,tb⟩) h m2.tb b2;exact⟨⟨m2.next,t'⟩,⟨xD9 ht,rfl⟩,λδ k2=>ht δ _⟩
theorem Mem.push_any{O:Type}{L:O->Prop}{B:Box}{k:Mem->Nat->Tree O}(h:(m.push B k).holds L)(m2:Mem)(B2:Box)(hn:m2.next=m.next):∃m2',zb9 m2 B2 m2'/\∀ (δ:Type) (k2:Mem->Nat->Tree δ),m2.push B2 k2=k2 m2' m2.next:=by
 unfold Mem.push at h;rw[qs5]at h;obtain⟨t',ht⟩:=xD8 40 m.tb m.next (some B) (λtb=>k ⟨m.next+1,tb⟩ m.next) h m2.tb (some B2);rw[<-hn]at ht;refine⟨⟨m2.next+1,t'⟩,⟨xD9 ht,rfl⟩,λδ k2=>?_⟩;unfold Mem.push;rw[qs5];exact ht δ _
theorem yE2{O:Type}{L:O->Prop}:∀ (cs:List SV) (off:Nat) (vs:List SV) (k:List SV->Tree O),(yE1 cs off vs k).holds L->∃r,(k r).holds L/\∀ (δ:Type) (k2:List SV->Tree δ),yE1 cs off vs k2=k2 r
 |[],off,[],k,h=>⟨[],h,λ_ _=>rfl⟩
 |[],off,_::_,k,h=>h.elim
 |c::cs,off,[],k,h=>⟨_,h,λ_ _=>rfl⟩
 |c::cs,0,v::vs,k,h=>by
  change (frc v λv=>yE1 cs 0 vs λys=>k (v::ys)).holds L at h
  rw[qs6]at h;obtain⟨r,h1,h2⟩:=yE2 cs 0 vs _ h;refine⟨_,h1,λδ k2=>?_⟩
  change (frc v λv=>yE1 cs 0 vs λys=>k2 (v::ys))=_
  rw[qs6,h2]
 |c::cs,off+1,v::vs,k,h=>by
  change (yE1 cs off (v::vs) λys=>k (c::ys)).holds L at h
  obtain⟨r,h1,h2⟩:=yE2 cs off (v::vs) _ h
  exact⟨_,h1,λδ k2=>by
   change (yE1 cs off (v::vs) λys=>k2 (c::ys))=_
   rw[h2]⟩
theorem yx7{O:Type}{L:O->Prop}:∀ (ids:List Nat) (mF:Mem) (k:Mem->Tree O),(m.only ids mF k).holds L->∃mF',(k mF').holds L/\mF'.next=mF.next/\∀id,mF'.get id=if id∈ids/\(m.get id).isSome=true then m.get id else mF.get id
 |[],mF,k,h=>⟨mF,h,rfl,λid=>by simp⟩
 |i::ids,mF,k,h=>by
  change ((match m.get i with
   |some B=>mF.set i (some B) λmF=>m.only ids mF k
   |none=>m.only ids mF k:Tree O)).holds L at h
  cases hi:m.get i with
  |none=>
   rw[hi]at h;obtain⟨mF',h1,h2,h3⟩:=yx7 ids mF k h;refine⟨mF',h1,h2,λid=>?_⟩;rw[h3 id]
   by_cases e:id=i
   .subst e;rw[hi];simp
   .simp[e]
  |some B=>
   rw[hi]at h;obtain⟨m1,g1,g2⟩:=Mem.set_holds h;obtain⟨mF',h1,h2,h3⟩:=yx7 ids m1 k g2;refine⟨mF',h1,h2.trans g1.2,λid=>?_⟩;rw[h3 id,g1.1 id]
   by_cases e:id=i
   .subst e;rw[hi];simp
   .simp[e]
theorem yx6{O:Type}{L:O->Prop}{ids:List Nat}{k:Mem->Tree O}(h:(m.only ids ⟨m.next,.e⟩ k).holds L):∃mF,(k mF).holds L/\mF.next=m.next/\(∀id∈ids,mF.get id=m.get id)/\∀id,id∉ids->mF.get id=none:=by
 obtain⟨mF,h1,h2,h3⟩:=yx7 ids _ k h;refine⟨mF,h1,h2,λid hid=>?_,λid hid=>?_⟩
 .rw[h3 id]
  cases hx:m.get id with
  |none=>simp;exact emptyMem_get' _ id
  |some B=>simp[hid]
 .rw[h3 id,if_neg (λc=>hid c.1)];exact emptyMem_get' _ id
where emptyMem_get' (n k:Nat):(⟨n,.e⟩:Mem).get k=none:=rfl
theorem yJ8{O:Type}{L:O->Prop}{mF:Mem}:∀ (ids:List Nat) (m:Mem) (k:Mem->Tree O),(Mem.patch mF ids m k).holds L->∃m',(k m').holds L/\m'.next=m.next/\∀id,m'.get id=if id∈ids then mF.get id else m.get id
 |[],m,k,h=>⟨m,h,rfl,λid=>by simp⟩
 |i::ids,m,k,h=>by
  change (m.set i (mF.get i) λm=>Mem.patch mF ids m k).holds L at h
  obtain⟨m1,g1,g2⟩:=Mem.set_holds h;obtain⟨m',h1,h2,h3⟩:=yJ8 ids m1 k g2;refine⟨m',h1,h2.trans g1.2,λid=>?_⟩;rw[h3 id,g1.1 id]
  by_cases e:id=i
  .subst e;simp
  .simp[e]
section
variable {P:Program} {E:Env} {O:Type} {L:O->Prop}
theorem q54{Q:Bool}:za5 P Q (λ_ _ _ _ _=>.fail 0:za4 O):=λf args p m Z L h=>h.elim
variable{p:Plan}{m:Mem}{v:SV}
theorem xD5(hE:EOK P E){call:za4 (SV×Mem)}(hcall:za5 P false call){ev:Operand->SV}{o:Oper}{m':Mem}
  (h:(execOp E call ev o.op p m λv _ m=>.leaf (v,m)).holds λy=>y.1=v/\(∀id,y.2.get id=m'.get id)/\y.2.next=m'.next):zd7 P m v m' o ev:=by
 obtain⟨v1,p1,m1,h1,_,h2,_⟩:=zU4 hE hcall h;obtain⟨rfl,h3,h4⟩:=h1;exact h2.congr (λ_=>rfl) rfl (λid=>(h3 id).symm) h4.symm
theorem yC1{t:TypeId}{a:SV}{Z:r9 O}(h:(yC0 E t a v p m Z).holds L):
  ∃m',(Z .undef p m').holds L/\∀ (m2 m2':Mem) (p2:Plan),(∀id∈qG1 a [],m2.get id=m.get id)->(∀id,m2'.get id=if id∈qG1 a []then m'.get id else m2.get id)->m2'.next=m2.next->
   (yC0 E t a v p2 m2 λv _ m=>.leaf (v,m)).holds λy=>y.1=.undef/\(∀id,y.2.get id=m2'.get id)/\y.2.next=m2'.next:=by
 unfold yC0 at h
 cases hr:E.row t with
 |none=>rw[hr]at h;exact h.elim
 |some r=>
  rw[hr]at h;dsimp only at h
  split at h
  .exact h.elim
  .rename_i hs
   cases a<;>try exact h.elim
   case ptr id off=>
    dsimp only at h
    cases hg:m.get id with
    |none=>rw[hg]at h;exact h.elim
    |some B=>
     rw[hg]at h
     cases B<;>try exact h.elim
     case cells cs=>
      dsimp only at h;obtain⟨cs',h1,h2⟩:=yE2 _ _ _ _ h;obtain⟨m',h3,h4⟩:=Mem.set_holds h1;refine⟨m',h4,λm2 m2' p2 ha hp hn=>?_⟩;have ha:=ha id (by simp[qG1,zi7,idx]);obtain⟨m3,h5,h6⟩:=Mem.set_any h1 m2 (some (.cells cs'));unfold yC0;rw[hr];dsimp only;rw[hs];dsimp only;rw[ha,hg];dsimp only;rw[h2,h6];refine⟨rfl,λid'=>?_,h5.2.trans hn.symm⟩;rw[h5.1 id',hp id',h3.1 id']
      by_cases e:id'=id
      .subst e;simp[qG1,zi7,idx]
      .simp[qG1,zi7,idx,e]
     case obj u cs=>
      dsimp only at h;obtain⟨cs',h1,h2⟩:=yE2 _ _ _ _ h;obtain⟨m',h3,h4⟩:=Mem.set_holds h1;refine⟨m',h4,λm2 m2' p2 ha hp hn=>?_⟩;have ha:=ha id (by simp[qG1,zi7,idx]);obtain⟨m3,h5,h6⟩:=Mem.set_any h1 m2 (some (.obj u cs'));unfold yC0;rw[hr];dsimp only;rw[hs];dsimp only;rw[ha,hg];dsimp only;rw[h2,h6];refine⟨rfl,λid'=>?_,h5.2.trans hn.symm⟩;rw[h5.1 id',hp id',h3.1 id']
      by_cases e:id'=id
      .subst e;simp[qG1,zi7,idx]
      .simp[qG1,zi7,idx,e]
   case rptr id sz i off=>
    dsimp only at h
    cases hg:m.get id with
    |none=>rw[hg]at h;exact h.elim
    |some B=>
     rw[hg]at h
     cases B<;>try exact h.elim
     case rows u l=>
      dsimp only at h
      split at h
      .rename_i hsz
       obtain⟨hi0,h⟩:=h;obtain⟨cs',h1,h2⟩:=yE2 _ _ _ _ h
       split at h1
       .rename_i x hx
        obtain⟨m',h3,h4⟩:=Mem.set_holds h1;refine⟨m',h4,λm2 m2' p2 ha hp hn=>?_⟩;have ha:=ha id (by simp[qG1,zi7,idx]);obtain⟨m3,h5,h6⟩:=Mem.set_any h1 m2 (some (.rows u (l.set i x)));unfold yC0;rw[hr];dsimp only;rw[hs];dsimp only;rw[ha,hg];dsimp only;rw[hsz];dsimp only;refine⟨hi0,?_⟩;rw[h2,hx];dsimp only;rw[h6];refine⟨rfl,λid'=>?_,h5.2.trans hn.symm⟩;rw[h5.1 id',hp id',h3.1 id']
        by_cases e:id'=id
        .subst e;simp[qG1,zi7,idx]
        .simp[qG1,zi7,idx,e]
       .exact h1.elim
      .exact h.elim
theorem zQ4{u:Ty}{m2:Mem}{x:SV}(h:∀id,qX1 id x=true->m2.get id=m.get id):zQ3 u m2 x=zQ3 u m x:=by
 cases x<;>try rfl
 case row id=>
  have:=h id (by simp[qX1]);simp only[zQ3,this]
 case arr id off n=>
  have:=h id (by simp[qX1]);simp only[zQ3,this]
theorem qW9{id n k:Nat}:id∈List.range' n k↔n<=id/\id<n+k:=by simp[List.mem_range'_1]
theorem yy3{t:TypeId}{s x:SV}{Z:r9 O}(h:(yy2 E t s x p m Z).holds L):
  ∃v p' m',(Z v p' m').holds L/\m.next<=m'.next/\∀ (F:List Nat) (m2 m2':Mem),(∀id,qX1 id s=true\/qX1 id x=true->id∈F)->(∀id∈F,m2.get id=m.get id)->m2.next=m.next->
   (∀id,m2'.get id=if id∈F++List.range' m.next (m'.next-m.next)then m'.get id else m2.get id)->m2'.next=m'.next->
   (yy2 E t s x .auto m2 λv _ m=>.leaf (v,m)).holds λy=>y.1=v/\(∀id,y.2.get id=m2'.get id)/\y.2.next=m2'.next:=by
 unfold yy2 at h
 split at h
 .rename_i e sz by_ ze ty0 eg he hrow
  split at h
  .rename_i de size bytes ze' u eg' he' hre
   split at h
   .rename_i hs
    split at h
    .rename_i xs hxs
     split at h
     . -- nil
       obtain⟨hb,h⟩:=h;obtain⟨m',h1,h2⟩:=Mem.push_holds h;refine⟨_,p,m',h2,by rw[h1.2];omega,λF m2 m2' hF ha hn hp hn'=>?_⟩;obtain⟨m3,h5,h6⟩:=Mem.push_any h m2 (.rows u xs) hn;unfold yy2;rw[hrow];dsimp only;rw[hre];dsimp only;rw[hs];dsimp only;rw[zQ4 (λid hid=>ha id (hF id (.inr hid))),hxs];dsimp only;refine⟨hb,?_⟩;rw[h6];refine⟨by rw[hn],λid=>?_,by rw[h5.2,hn,hn',h1.2]⟩;rw[h5.1 id,hp id,h1.1 id,hn];simp only[List.mem_append,qW9,h1.2]
       by_cases e1:id=m.next
       .subst e1;simp
       .rw[if_neg e1,if_neg e1]
        by_cases e2:id∈F
        .rw[if_pos (.inl e2)];exact ha id e2
        .rw[if_neg (λc=>c.elim e2 λc=>by omega)]
     . -- a row
       rename_i id
       split at h
       .rename_i v l hg
        split at h
        .rename_i hv
         obtain⟨hb,h⟩:=h;obtain⟨m1,h1,h2⟩:=Mem.set_holds h;obtain⟨m',h3,h4⟩:=Mem.push_holds h2;refine⟨_,p,m',h4,by rw[h3.2,h1.2];omega,λF m2 m2' hF ha hn hp hn'=>?_⟩;have hid:id∈F:=hF id (.inl (by simp[qX1]));obtain⟨m4,h5,h6⟩:=Mem.set_any h m2 none;obtain⟨m5,h7,h8⟩:=Mem.push_any h2 m4 (.rows u ((hv▸l:List u.T)++xs)) (by rw[h5.2,h1.2,hn]);unfold yy2;rw[hrow];dsimp only;rw[hre];dsimp only;rw[hs];dsimp only;rw[zQ4 (λid hid=>ha id (hF id (.inr hid))),hxs];dsimp only;rw[ha id hid,hg];dsimp only;rw[dif_pos hv];refine⟨hb,?_⟩;rw[h6,h8];refine⟨by rw[h5.2,h1.2,hn],λj=>?_,by rw[h7.2,h5.2,hn,hn',h3.2,h1.2]⟩;rw[h7.1 j,hp j,h3.1 j,h5.2,h1.2,hn];simp only[List.mem_append,qW9,h3.2,h1.2]
         by_cases e1:j=m.next
         .subst e1;simp
         .rw[if_neg e1,if_neg e1,h5.1 j,h1.1 j]
          by_cases e3:j=id
          .subst e3;rw[if_pos rfl,if_pos rfl];simp[hid]
          .rw[if_neg e3,if_neg e3]
           by_cases e2:j∈F
           .rw[if_pos (.inl e2)];exact ha j e2
           .rw[if_neg (λc=>c.elim e2 λc=>by omega)]
        .exact h.elim
       .exact h.elim
     . -- an array's slice
       rename_i id off n
       split at h
       .rename_i l hl
        obtain⟨p',h⟩:=zK3 h
        cases hxe:xs.isEmpty with
        |true=>
         rw[hxe]at h;refine⟨_,p',m,h,Nat.le_refl _,λF m2 m2' hF ha hn hp hn'=>?_⟩;unfold yy2;rw[hrow];dsimp only;rw[hre];dsimp only;rw[hs];dsimp only;rw[zQ4 (λid hid=>ha id (hF id (.inr hid))),hxs];dsimp only;rw[zQ4 (λid hid=>ha id (hF id (.inl hid))),hl];dsimp only;rw[hxe];refine⟨rfl,λj=>?_,by rw[hn,hn']⟩;rw[hp j]
         by_cases e2:j∈F
         .rw[if_pos (List.mem_append_left _ e2)];exact ha j e2
         .rw[if_neg (by simp[e2])]
        |false=>
         rw[hxe]at h;obtain⟨hb,h⟩:=h;obtain⟨m',h1,h2⟩:=Mem.push_holds h;refine⟨_,p',m',h2,by rw[h1.2];omega,λF m2 m2' hF ha hn hp hn'=>?_⟩;obtain⟨m3,h5,h6⟩:=Mem.push_any h m2 (.rows u (l++xs)) hn;unfold yy2;rw[hrow];dsimp only;rw[hre];dsimp only;rw[hs];dsimp only;rw[zQ4 (λid hid=>ha id (hF id (.inr hid))),hxs];dsimp only;rw[zQ4 (λid hid=>ha id (hF id (.inl hid))),hl];dsimp only;rw[hxe];refine⟨hb,?_⟩;rw[h6];refine⟨by rw[hn],λid=>?_,by rw[h5.2,hn,hn',h1.2]⟩;rw[h5.1 id,hp id,h1.1 id,hn];simp only[List.mem_append,qW9,h1.2]
         by_cases e1:id=m.next
         .subst e1;simp
         .rw[if_neg e1,if_neg e1]
          by_cases e2:id∈F
          .rw[if_pos (.inl e2)];exact ha id e2
          .rw[if_neg (λc=>c.elim e2 λc=>by omega)]
       .exact h.elim
     .exact h.elim
    .exact h.elim
   .exact h.elim
  .exact h.elim
 .exact h.elim
theorem zk7{mc:Mem}{k:SV->Mem->Mem->Tree O}(h:(zk6 v mc m k).holds L):∃v' mc' m',(k v' mc' m').holds L/\m.next<=m'.next/\(∀id,¬(m.next<=id/\id<m'.next)->m'.get id=m.get id)/\
  ∀m2:Mem,m2.next=m.next->∃m2',m2'.next=m'.next/\(∀id,m2'.get id=if m.next<=id/\id<m'.next then m'.get id else m2.get id)/\∀ (δ:Type) (k2:SV->Mem->Mem->Tree δ),zk6 v mc m2 k2=k2 v' mc' m2':=by
 have plain:∀v:SV,(∀ (m:Mem) (δ:Type) (k:SV->Mem->Mem->Tree δ),zk6 v mc m k=k v mc m)->(k v mc m).holds L->∃v' mc' m',(k v' mc' m').holds L/\m.next<=m'.next/\(∀id,¬(m.next<=id/\id<m'.next)->m'.get id=m.get id)/\
   ∀m2:Mem,m2.next=m.next->∃m2',m2'.next=m'.next/\(∀id,m2'.get id=if m.next<=id/\id<m'.next then m'.get id else m2.get id)/\∀ (δ:Type) (k2:SV->Mem->Mem->Tree δ),zk6 v mc m2 k2=k2 v' mc' m2':=
  λv he h=>⟨v,mc,m,h,Nat.le_refl _,λ_ _=>rfl,λm2 hn=>⟨m2,hn,λid=>by rw[if_neg (by omega)],λδ k2=>he m2 δ k2⟩⟩
 cases v with
 |row id=>
  dsimp only[zk6]at h
  split at h
  .rename_i t l hg
   obtain⟨mc',_,h6⟩:=Mem.set_any h mc none;rw[h6]at h;obtain⟨m',h3,h4⟩:=Mem.push_any h m (.rows t l) rfl;rw[h4]at h;refine⟨_,mc',m',h,by rw[h3.2];omega,λj hj=>by rw[h3.1 j,if_neg (by rw[h3.2]at hj;omega)],λm2 hn=>?_⟩
   have h0:(m.push (.rows t l) λm id=>k (.row id) mc' m).holds L:=by rw[h4];exact h
   obtain⟨m3,h7,h8⟩:=Mem.push_any h0 m2 (.rows t l) hn;refine⟨m3,by rw[h7.2,h3.2,hn],λj=>?_,λδ k2=>?_⟩
   .rw[h7.1 j,h3.1 j,h3.2,hn]
    by_cases e1:j=m.next
    .subst e1;simp
    .rw[if_neg e1,if_neg e1,if_neg (by omega)]
   .simp only[zk6,hg]
    rw[h6,h8,hn]
  .exact h.elim
 |undef=>exact plain _ (λ_ _ _=>rfl) h
 |top=>exact h.elim
 |int a b=>exact plain _ (λ_ _ _=>rfl) h
 |bool a=>exact plain _ (λ_ _ _=>rfl) h
 |str a=>exact plain _ (λ_ _ _=>rfl) h
 |nilS=>exact plain _ (λ_ _ _=>rfl) h
 |list a b=>exact plain _ (λ_ _ _=>rfl) h
 |arr a b c=>exact h.elim
 |ptr a b=>exact h.elim
 |nilP=>exact plain _ (λ_ _ _=>rfl) h
 |eptr a b c d=>exact plain _ (λ_ _ _=>rfl) h
 |rptr a b c d=>exact h.elim
 |agg cs=>
  dsimp only[zk6]at h
  split at h
  .rename_i hd;exact plain _ (λ_ _ _=>by dsimp only[zk6];rw[hd]) h
  .exact h.elim
 |tuple cs=>
  dsimp only[zk6]at h
  split at h
  .rename_i hd;exact plain _ (λ_ _ _=>by dsimp only[zk6];rw[hd]) h
  .exact h.elim
 |fn f a c=>
  dsimp only[zk6]at h
  split at h
  .rename_i hd;exact plain _ (λ_ _ _=>by dsimp only[zk6];rw[hd]) h
  .exact h.elim
 |raw u=>exact plain _ (λ_ _ _=>rfl) h
theorem zl0:∀ (vs:List SV) (mc m:Mem) (k:List SV->Mem->Mem->Tree O),(zk9 vs mc m k).holds L->∃vs' mc' m',(k vs' mc' m').holds L/\m.next<=m'.next/\(∀id,¬(m.next<=id/\id<m'.next)->m'.get id=m.get id)/\
  ∀m2:Mem,m2.next=m.next->∃m2',m2'.next=m'.next/\(∀id,m2'.get id=if m.next<=id/\id<m'.next then m'.get id else m2.get id)/\∀ (δ:Type) (k2:List SV->Mem->Mem->Tree δ),zk9 vs mc m2 k2=k2 vs' mc' m2'
 |[],mc,m,k,h=>⟨[],mc,m,h,Nat.le_refl _,λ_ _=>rfl,λm2 hn=>⟨m2,hn,λid=>by rw[if_neg (by omega)],λδ k2=>rfl⟩⟩
 |v::vs,mc,m,k,h=>by
  change (zk6 v mc m λv mc m=>zk9 vs mc m λvs mc m=>k (v::vs) mc m).holds L at h
  obtain⟨v',mc1,m1,h1,l1,g1,a1⟩:=zk7 h;obtain⟨vs',mc',m',h2,l2,g2,a2⟩:=zl0 vs mc1 m1 _ h1;refine⟨v'::vs',mc',m',h2,Nat.le_trans l1 l2,λid hid=>by rw[g2 id (by omega),g1 id (by omega)],λm2 hn=>?_⟩;obtain⟨m3,n3,e3,k3⟩:=a1 m2 hn;obtain⟨m4,n4,e4,k4⟩:=a2 m3 n3;refine⟨m4,n4,λid=>?_,λδ k2=>?_⟩
  .rw[e4 id,e3 id]
   by_cases c2:m1.next<=id/\id<m'.next
   .rw[if_pos c2,if_pos (by omega)]
   .rw[if_neg c2]
    by_cases c1:m.next<=id/\id<m1.next
    .rw[if_pos c1,if_pos (by omega),g2 id c2]
    .rw[if_neg c1,if_neg (by omega)]
  .change (zk6 v mc m2 λv mc m=>zk9 vs mc m λvs mc m=>k2 (v::vs) mc m)=_
   rw[k3,k4]
theorem zl2{mc:Mem}{k:SV->Mem->Tree O}(h:(zk5 v mc m k).holds L):∃v' m',(k v' m').holds L/\m.next<=m'.next/\(∀id,¬(m.next<=id/\id<m'.next)->m'.get id=m.get id)/\
  ∀m2:Mem,m2.next=m.next->∃m2',m2'.next=m'.next/\(∀id,m2'.get id=if m.next<=id/\id<m'.next then m'.get id else m2.get id)/\∀ (δ:Type) (k2:SV->Mem->Tree δ),zk5 v mc m2 k2=k2 v' m2':=by
 have one:∀v:SV,(∀ (m:Mem) (δ:Type) (k:SV->Mem->Tree δ),zk5 v mc m k=zk6 v mc m λv _ m=>k v m)->(zk6 v mc m λv _ m=>k v m).holds L->∃v' m',(k v' m').holds L/\m.next<=m'.next/\(∀id,¬(m.next<=id/\id<m'.next)->m'.get id=m.get id)/\
   ∀m2:Mem,m2.next=m.next->∃m2',m2'.next=m'.next/\(∀id,m2'.get id=if m.next<=id/\id<m'.next then m'.get id else m2.get id)/\∀ (δ:Type) (k2:SV->Mem->Tree δ),zk5 v mc m2 k2=k2 v' m2':=by
  intro v he h;obtain⟨v',mc',m',h1,l1,g1,a1⟩:=zk7 h;refine⟨v',m',h1,l1,g1,λm2 hn=>?_⟩;obtain⟨m3,n3,e3,k3⟩:=a1 m2 hn;exact⟨m3,n3,e3,λδ k2=>by rw[he,k3]⟩
 cases v with
 |tuple vs=>
  obtain⟨v',mc',m',h1,l1,g1,a1⟩:=zl0 vs mc m _ h;refine⟨_,m',h1,l1,g1,λm2 hn=>?_⟩;obtain⟨m3,n3,e3,k3⟩:=a1 m2 hn;exact⟨m3,n3,e3,λδ k2=>k3 _ _⟩
 |agg vs=>
  obtain⟨v',mc',m',h1,l1,g1,a1⟩:=zl0 vs mc m _ h;refine⟨_,m',h1,l1,g1,λm2 hn=>?_⟩;obtain⟨m3,n3,e3,k3⟩:=a1 m2 hn;exact⟨m3,n3,e3,λδ k2=>k3 _ _⟩
 |_=>exact one _ (λ_ _ _=>rfl) h
end
section
variable {P:Program} {E:Env} {O:Type} {L:O->Prop}
def za3(P:Program)(call:za4 O):Prop:=
 ∀f args p m (Z:r9 O) (L:O->Prop),(call f args p m Z).holds L->∃v p' m',(Z v p' m').holds L/\m.next<=m'.next/\∀ (F:List Nat) (m2 m2':Mem),(∀id,qX3 id args=true->id∈F)->(∀id∈F,m2.get id=m.get id)->m2.next=m.next->
  (∀id,m2'.get id=if id∈F++List.range' m.next (m'.next-m.next)then m'.get id else m2.get id)->m2'.next=m'.next->zd6 P m2 v m2' f args
theorem qX4{id:Nat}:∀{l:List SV} {x:SV},x∈l->qX1 id x=true->qX3 id l=true
 |y::l,x,h,hm=>by
  show(qX1 id y||qX3 id l)=true;rcases List.mem_cons.1 h with rfl|h
  .rw[hm];rfl
  .rw[qX4 h hm];simp
theorem qG4:∀{l:List Nat} {k j:Nat},idx l k=some j->k∈l
 |x::l,k,j,h=>by
  unfold idx at h
  split at h
  .rename_i hx
   rw[Nat.eq_of_beq_eq_true hx];exact List.mem_cons_self
  .split at h
   .rename_i j' hj
    exact List.mem_cons_of_mem _ (qG4 hj)
   .cases h
theorem zi8{id:Nat}{l:List Nat}:id∈zi7 id l/\∀k∈l,k∈zi7 id l:=by
 unfold zi7
 split
 .rename_i j hj;exact⟨qG4 hj,λk hk=>hk⟩
 .exact⟨by simp,λk hk=>by simp[hk]⟩
mutual
theorem qG2{k:Nat}:∀ (x:SV) (l:List Nat),(qX1 k x=true->k∈qG1 x l)/\∀j∈l,j∈qG1 x l
 |.undef,l=>⟨λh=>(by cases h),λj hj=>hj⟩
 |.top,l=>⟨λh=>(by cases h),λj hj=>hj⟩
 |.int _ _,l=>⟨λh=>(by cases h),λj hj=>hj⟩
 |.bool _,l=>⟨λh=>(by cases h),λj hj=>hj⟩
 |.str _,l=>⟨λh=>(by cases h),λj hj=>hj⟩
 |.nilS,l=>⟨λh=>(by cases h),λj hj=>hj⟩
 |.list _ _,l=>⟨λh=>(by cases h),λj hj=>hj⟩
 |.row id,l=>⟨λh=>by rw[<-Nat.eq_of_beq_eq_true (show Nat.beq id k=true from h)];exact zi8.1,zi8.2⟩
 |.arr id _ _,l=>⟨λh=>by rw[<-Nat.eq_of_beq_eq_true (show Nat.beq id k=true from h)];exact zi8.1,zi8.2⟩
 |.ptr id _,l=>⟨λh=>by rw[<-Nat.eq_of_beq_eq_true (show Nat.beq id k=true from h)];exact zi8.1,zi8.2⟩
 |.nilP,l=>⟨λh=>(by cases h),λj hj=>hj⟩
 |.eptr _ _ _ _,l=>⟨λh=>(by cases h),λj hj=>hj⟩
 |.rptr id _ _ _,l=>⟨λh=>by rw[<-Nat.eq_of_beq_eq_true (show Nat.beq id k=true from h)];exact zi8.1,zi8.2⟩
 |.agg cs,l=>qF9 cs l
 |.tuple cs,l=>qF9 cs l
 |.fn _ a b,l=>by
  obtain⟨a1,a2⟩:=qF9 (k:=k) a l;obtain⟨b1,b2⟩:=qF9 (k:=k) b (qF8 a l);refine⟨λh=>?_,λj hj=>b2 j (a2 j hj)⟩;have h:(qX3 k a||qX3 k b)=true:=h;rcases Bool.or_eq_true _ _▸h with h|h
  .exact b2 k (a1 h)
  .exact b1 h
 |.raw _,l=>⟨λh=>(by cases h),λj hj=>hj⟩
theorem qF9{k:Nat}:∀ (xs:List SV) (l:List Nat),(qX3 k xs=true->k∈qF8 xs l)/\∀j∈l,j∈qF8 xs l
 |[],l=>⟨λh=>(by cases h),λj hj=>hj⟩
 |x::xs,l=>by
  obtain⟨a1,a2⟩:=qG2 (k:=k) x l;obtain⟨b1,b2⟩:=qF9 (k:=k) xs (qG1 x l);refine⟨λh=>?_,λj hj=>b2 j (a2 j hj)⟩;have h:(qX1 k x||qX3 k xs)=true:=h;rcases Bool.or_eq_true _ _▸h with h|h
  .exact b2 k (a1 h)
  .exact b1 h
end
variable{o:Oper}{p:Plan}{m:Mem}
theorem yU4(hE:EOK P E){call:za4 O}(hcall:za5 P true call){ev:Operand->SV}{Z:r9 O}(hk:(yP0 o.op||(xF1 o.op||qJ4 o.op))=true)(h:(execOp E call ev o.op p m Z).holds L):
  ∃v p' m',(Z v p' m').holds L/\∀m2,(∀id B,m.get id=some B->m2.get id=some B)->zd7 P m2 v m2 o ev:=by
 obtain⟨v,p',m',h1,_,_,hx⟩:=zU4 hE hcall h;refine⟨v,p',m',h1,λm2 hm2=>?_⟩;rcases Bool.or_eq_true _ _▸hk with hk|hk
 .exact hx.pure hk m2
 .rcases Bool.or_eq_true _ _▸hk with hk|hk
  .exact hx.shape hk m2 (Up.shape hm2)
  .refine hx.up rfl ?_ m2 hm2
   generalize o.op=op at hk
   cases op<;>first|rfl|cases hk
theorem xK7(hE:EOK P E){call:za4 O}{ev:Operand->SV}{Z:r9 O}(hk:qJ7 o.op=true)(h:(execOp E call ev o.op p m Z).holds L):
  ∃m',(Z .undef p m').holds L/\∀ (m2 m2':Mem),(∀id∈qr4 ev o.op,m2.get id=m.get id)->(∀id,m2'.get id=if id∈qr4 ev o.op then m'.get id else m2.get id)->m2'.next=m2.next->zd7 P m2 .undef m2' o ev:=by
 obtain⟨dst,op,ty,pos,after,guard⟩:=o
 cases op<;>try cases hk
 rename_i t a x;obtain⟨m',h1,h2⟩:=yC1 (E:=E) (O:=O) (L:=L) (Z:=Z) h;exact⟨m',h1,λm2 m2' ha hp hn=>xD5 hE (call:=λ_ _ _ _ _=>.fail 0) q54 (p:=p) (h2 m2 m2' p ha hp hn)⟩
open Classical in
/-- A call that is known to hand on this. -/
noncomputable def yx4(f:FuncId)(args:List SV)(m m':Mem)(v:SV):za4 (SV×Mem):=λf' args' p m1 Z=>if f'=f/\args'=args/\m1=m then Z v p m' else .fail 0
theorem yx5{f:FuncId}{args:List SV}{m':Mem}{v:SV}(h:zd6 P m v m' f args):za5 P false (yx4 f args m m' v):=by
 intro f' args' p m1 Z L hh;unfold yx4 at hh
 split at hh
 .rename_i hc
  obtain⟨rfl,rfl,rfl⟩:=hc;exact⟨v,p,m',hh,λhq=>(by cases hq),h⟩
 .exact hh.elim
theorem qV2(hE:EOK P E){call:za4 O}(hcall:za3 P call){fr:Fr}{Z:r9 O}(hk:isG E o.op=true)(h:(execOp E call (o8 fr) o.op p m Z).holds L):
  ∃v p' m',(Z v p' m').holds L/\m.next<=m'.next/\∀ (m2 m2':Mem),(∀id∈qr4 (o8 fr) o.op,m2.get id=m.get id)->m2.next=m.next->(∀id,m2'.get id=if id∈qr4 (o8 fr) o.op++List.range' m.next (m'.next-m.next)then m'.get id else m2.get id)->m2'.next=m'.next->zd7 P m2 v m2' o (o8 fr):=by
 obtain⟨dst,op,ty,pos,after,guard⟩:=o
 cases op<;>try cases hk
 . -- a slice without elements
   rename_i t n parts
   have hn0:n=0/\parts.toList=[] :=by
    cases n with
    |zero=>cases hp:parts.toList with
     |nil=>exact⟨rfl,rfl⟩
     |cons x l=>simp[isG,hp]at hk
    |succ n=>simp[isG]at hk
   obtain⟨rfl,hp0⟩:=hn0
   .clear hk
    have hpe:parts.toList.map (λx=>(x.1,o8 fr x.2))=[] :=by rw[hp0];rfl
    have h:(yy8 E t 0 (parts.toList.map λx=>(x.1,o8 fr x.2)) p m Z).holds L:=h;rw[hpe]at h;have h0:=h;unfold yy8 at h
    split at h
    .rename_i e sz by_ ze ty0 eg he hrow
     split at h
     .rename_i re hre
      split at h
      .rename_i hs
       have h:(m.push (.cells []) λm id=>Z (.arr id 0 0) p m).holds L:=h;obtain⟨m',h1,h2⟩:=Mem.push_holds h;refine⟨_,p,m',h2,by rw[h1.2];omega,λm2 m2' ha hn hp hn'=>?_⟩;refine xD5 hE (call:=λ_ _ _ _ _=>.fail 0) q54 (p:=.auto) ?_;obtain⟨m3,h5,h6⟩:=Mem.push_any h m2 (.cells []) hn;dsimp only[execOp];rw[hpe];unfold yy8;rw[hrow];dsimp only;rw[hre];dsimp only;rw[hs];dsimp only;show((m2.push (.cells []) λm id=>Tree.leaf (SV.arr id 0 0,m):Tree (SV×Mem))).holds _;rw[h6];refine⟨by rw[hn],λid=>?_,by rw[h5.2,hn,hn',h1.2]⟩;rw[h5.1 id,hp id,h1.1 id,hn];simp only[List.mem_append,qW9,h1.2]
       by_cases e1:id=m.next
       .subst e1;simp
       .rw[if_neg e1,if_neg e1]
        by_cases e2:id∈qr4 (o8 fr) (.buildSlice t 0 parts)
        .rw[if_pos (.inl e2)];exact ha id e2
        .rw[if_neg (λc=>c.elim e2 λc=>by omega)]
      .exact h.elim
     .exact h.elim
    .exact h.elim
 rename_i c;obtain⟨callee,args,argTypes⟩:=c;dsimp only at hk h ⊢
 have hops:∀x∈args.toList,∀id,qX1 id (o8 fr x)=true->id∈qr4 (o8 fr) (.call ⟨callee,args,argTypes⟩):=by
  intro x hx id hid;refine(qF9 (k:=id) _ []).1 (qX4 (List.mem_map.2 ⟨x,?_,rfl⟩) hid)
  cases callee<;>simp[Op.operands,Call.operands]<;>simp_all
 cases callee with
 |builtin b=>
  cases b<;>try cases hk
  -- append
  have h:(yz1 E .append argTypes.toList (args.toList.map (o8 fr)) p m Z).holds L:=h
  have shape:∃t t1 a b,argTypes.toList=[t,t1] /\args.toList=[a,b] :=by
   rcases hl:args.toList with _|⟨a,_|⟨b,_|⟨c,l⟩⟩⟩<;>rcases hts:argTypes.toList with _|⟨t,_|⟨t1,_|⟨t2,l'⟩⟩⟩<;>rw[hl,hts]at h<;>first
    |exact h.elim
    |exact⟨t,t1,a,b,rfl,rfl⟩
  obtain⟨t,t1,a,b,hts,hab⟩:=shape
  have hvs:args.toList.map (o8 fr)=[o8 fr a,o8 fr b] :=by rw[hab];rfl
  rw[hts,hvs]at h
  have run:∀ (h:(yy2 E t (o8 fr a) (o8 fr b) p m Z).holds L),(∀ (β:Type) (κ2:r9 β) (m2:Mem),(yz1 E .append argTypes.toList (args.toList.map (o8 fr)) .auto m2 κ2)=yy2 E t (o8 fr a) (o8 fr b) .auto m2 κ2)->∃v p' m',(Z v p' m').holds L/\m.next<=m'.next/\∀ (m2 m2':Mem),(∀id∈qr4 (o8 fr) (.call ⟨.builtin .append,args,argTypes⟩),m2.get id=m.get id)->m2.next=m.next->(∀id,m2'.get id=if id∈qr4 (o8 fr) (.call ⟨.builtin .append,args,argTypes⟩)++List.range' m.next (m'.next-m.next)then m'.get id else m2.get id)->m2'.next=m'.next->zd7 P m2 v m2' ⟨dst,.call ⟨.builtin .append,args,argTypes⟩,ty,pos,after,guard⟩ (o8 fr):=by
   intro h he;obtain⟨v,p',m',h1,h2,h3⟩:=yy3 h;refine⟨v,p',m',h1,h2,λm2 m2' ha hn hp hn'=>?_⟩;refine xD5 hE (call:=λ_ _ _ _ _=>.fail 0) q54 (p:=.auto) ?_;dsimp only[execOp,yz3];rw[he];exact h3 _ m2 m2' (λid hid=>hid.elim (hops a (by rw[hab];simp) id) (hops b (by rw[hab];simp) id)) ha hn hp hn'
  have h:((match E.row t1 with
   |some {desc:=.slice _, ..}=>yy2 E t (o8 fr a) (o8 fr b) p m Z
   |some {desc:=.string, ..}=>yy2 E t (o8 fr a) (o8 fr b) p m Z
   |_=>.fail 89:Tree O)).holds L:=h
  split at h
  .rename_i e sz by_ ze ty0 eg he hrow
   refine run h λβ κ2 m2=>?_
   rw[hts,hvs]
   show(match E.row t1 with
    |some {desc:=.slice _, ..}=>yy2 E t (o8 fr a) (o8 fr b) .auto m2 κ2
    |some {desc:=.string, ..}=>yy2 E t (o8 fr a) (o8 fr b) .auto m2 κ2
    |_=>.fail 89:Tree β)=_
   rw[hrow]
  .rename_i sz by_ ze ty0 eg he hrow
   refine run h λβ κ2 m2=>?_
   rw[hts,hvs]
   show(match E.row t1 with
    |some {desc:=.slice _, ..}=>yy2 E t (o8 fr a) (o8 fr b) .auto m2 κ2
    |some {desc:=.string, ..}=>yy2 E t (o8 fr a) (o8 fr b) .auto m2 κ2
    |_=>.fail 89:Tree β)=_
   rw[hrow]
  .exact h.elim
 |value f=>
  cases f<;>try cases hk
  rename_i k;dsimp only[execOp,yz3,o8]at h;simp only[List.nil_append,List.append_nil]at h;obtain⟨v,p',m',h1,h2,h3⟩:=hcall _ _ _ _ _ _ h;refine⟨v,p',m',h1,h2,λm2 m2' ha hn hp hn'=>?_⟩;have hsem:=h3 _ m2 m2' (λid hid=>?_) ha hn hp hn'
  .refine xD5 hE (yx5 hsem) (p:=.auto) ?_
   dsimp only[execOp,yz3,o8];simp only[List.nil_append,List.append_nil];unfold yx4;rw[if_pos ⟨rfl,rfl,rfl⟩];exact⟨rfl,λ_=>rfl,rfl⟩
  . -- an argument mentions it
    have:∃x∈args.toList.map (o8 fr),qX1 id x=true:=by
     revert hid
     generalize args.toList.map (o8 fr)=l
     induction l with
     |nil=>intro h;cases h
     |cons y l ih=>
      intro h;have h:(qX1 id y||qX3 id l)=true:=h;rcases Bool.or_eq_true _ _▸h with h|h
      .exact⟨y,List.mem_cons_self,h⟩
      .obtain⟨x,h1,h2⟩:=ih h
       exact⟨x,List.mem_cons_of_mem _ h1,h2⟩
    obtain⟨x,hx,hm⟩:=this;obtain⟨a,ha',rfl⟩:=List.mem_map.1 hx;exact hops a ha' id hm
 |invoke a b=>cases hk
end
theorem xN6{β:Type}:∀ (i:Nat) (t:Tb β) (v:Option β),∃t',ze3 t i v t':=by
 intro i
 induction i using Nat.strongRecOn with
 |ind i ih=>
  intro t v
  obtain⟨l,x,r,hg⟩:∃l x r,∀k,t.get k=(Tb.n l x r).get k:=by
   cases t with
   |n l x r=>exact⟨l,x,r,λ_=>rfl⟩
   |e=>
    refine⟨.e,none,.e,λk=>?_⟩
    cases k with
    |zero=>rfl
    |succ j=>
     rw[Tb.get_n_succ]
     by_cases h:j % 2=0
     .rw[Tb.pick_even h];rfl
     .rw[Tb.pick_odd h];rfl
  cases i with
  |zero=>
   refine⟨.n l v r,λk=>?_⟩
   cases k with
   |zero=>rfl
   |succ j=>rw[if_neg (by omega),hg];rfl
  |succ i=>
   by_cases hi:i % 2=0
   .obtain⟨l',hl⟩:=ih (i / 2) (by omega) l v
    refine⟨.n l' x r,λk=>?_⟩
    cases k with
    |zero=>rw[if_neg (by omega),hg];rfl
    |succ j=>
     rw[hg,Tb.get_n_succ,Tb.get_n_succ]
     by_cases h:j % 2=0
     .rw[Tb.pick_even h,Tb.pick_even h,hl]
      by_cases e:j=i
      .subst e;simp
      .rw[if_neg (by omega),if_neg (by omega)]
     .rw[Tb.pick_odd h,Tb.pick_odd h,if_neg (by omega)]
   .obtain⟨r',hr⟩:=ih (i / 2) (by omega) r v
    refine⟨.n l x r',λk=>?_⟩
    cases k with
    |zero=>rw[if_neg (by omega),hg];rfl
    |succ j=>
     rw[hg,Tb.get_n_succ,Tb.get_n_succ]
     by_cases h:j % 2=0
     .rw[Tb.pick_even h,Tb.pick_even h,if_neg (by omega)]
     .rw[Tb.pick_odd h,Tb.pick_odd h,hr]
      by_cases e:j=i
      .subst e;simp
      .rw[if_neg (by omega),if_neg (by omega)]
section
variable {P:Program} {E:Env} {O:Type} {L:O->Prop}
theorem qz8{l:List Nat}{k:Nat}:qz6 l k=true↔k∈l:=by
 simp only[qz6,List.any_eq_true];exact⟨λ⟨x,h1,h2⟩=>by rw[<-Nat.eq_of_beq_eq_true h2];exact h1,λh=>⟨k,h,by simp⟩⟩
theorem qW0{l k:List Nat}:qV9 l k=true↔∃x,x∈l/\x∈k:=by
 simp only[qV9,List.any_eq_true];exact⟨λ⟨x,h1,h2⟩=>⟨x,h1,qz8.1 h2⟩,λ⟨x,h1,h2⟩=>⟨x,h1,qz8.2 h2⟩⟩
structure StepT (P:Program) (all:List Oper) (refs:List (Nat×Nat)) (i:Nat) (o:Oper) (fr:Fr) (m:Mem) (v:SV) (m1:Mem) (s:Rec):Prop where
 keep:∀id,id∉s.wt->m1.get id=m.get id
 le:m.next<=m1.next
 same:s.g=false->m1.next=m.next
 step:(qz0 all fr.get o=some false/\v=.undef/\s.wt=[] /\s.g=false)\/
  (qz0 all fr.get o=some true/\∀m2 m2':Mem,(∀id,id∈s.rd\/id∈s.wt->m2.get id=m.get id)->(s.g=true->m2.next=m.next)->(∀id,m2'.get id=if id∈s.wt then m1.get id else m2.get id)->(m2'.next=if s.g=true then m1.next else m2.next)->zd7 P m2 v m2' o (o8 fr))\/
  (∃t k r,o.op=.alloc t/\o.guard=none/\qF3 refs i=some k/\RowOK P t r/\v=.ptr k 0/\s.wt=[k] /\s.g=false/\m1.get k=some (.cells r.zero))
inductive ChainT (P:Program) (all:List Oper) (refs:List (Nat×Nat)):Nat->List Oper->List Rec->Fr->Mem->Fr->Mem->Prop where
 |nil (i:Nat) (acc:List Rec) (fr:Fr) (m:Mem):ChainT P all refs i [] acc fr m fr m
 |cons {i:Nat} {o:Oper} {rest:List Oper} {acc:List Rec} {fr fr1 fr':Fr} {m m1 m':Mem} {v:SV} {s:Rec} (hs:s.i=i) (hst:StepT P all refs i o fr m v m1 s) (hf:zb5 fr o.dst v fr1)
   (hacc:yu8 all o acc s=true) (href:yw0 all refs o i v s.wt (s.wt.map m1.get)=true) (k:ChainT P all refs (i+1) rest (s::acc) fr1 m1 fr' m'):ChainT P all refs i (o::rest) acc fr m fr' m'
variable{o:Oper}{acc:List Rec}{p:Plan}{fr:Fr}
theorem qp3{refs:List (Nat×Nat)}{all:List Oper}{ih:zc3 O}{v:SV}{mN:Mem}{s:Rec}(h:(qp2 refs all o acc ih v p fr mN s).holds L):
  ∃fr1,(ih (s::acc) p fr1 mN).holds L/\zb5 fr o.dst v fr1/\yu8 all o acc s=true/\yw0 all refs o s.i v s.wt (s.wt.map mN.get)=true:=by
 unfold qp2 at h
 split at h
 .rename_i hc
  rw[Bool.and_eq_true]at hc;obtain⟨fr1,h1,h2⟩:=yP5 h;exact⟨fr1,h2,h1,hc.2,hc.1⟩
 .exact h.elim
variable{m:Mem}
theorem y66(hE:EOK P E){call m9 zz3:za4 O}(hcall:za5 P false call)(hcallQ:za5 P true m9)(hcallG:za3 P zz3){refs:List (Nat×Nat)}{all:List Oper}{i:Nat}{ih:zc3 O}
  (hg:qz0 all fr.get o=some true) (h:(y65 E call m9 zz3 refs all i o ih acc p fr m).holds L):
  ∃p' fr1 m1 v s,(ih (s::acc) p' fr1 m1).holds L/\s.i=i/\StepT P all refs i o fr m v m1 s/\zb5 fr o.dst v fr1/\yu8 all o acc s=true/\yw0 all refs o i v s.wt (s.wt.map m1.get)=true:=by
 unfold y65 at h
 split at h
 . -- a new variable
   split at h<;>try exact h.elim
   rename_i t hop
   split at h<;>try exact h.elim
   rename_i k hk
   split at h<;>try exact h.elim
   rename_i r hr
   have hgd:o.guard=none/\E.row t=some r:=by
    split at hr
    .rename_i hgd;exact⟨hgd,hr⟩
    .cases hr
   rw[qs3]at h;obtain⟨mN,h1,h2⟩:=Mem.set_holds h;obtain⟨fr1,g1,g2,g3,g4⟩:=qp3 h2;refine⟨p,fr1,mN,_,_,g1,rfl,⟨λid hid=>?_,by rw[h1.2];exact Nat.le_refl _,λ_=>h1.2,.inr (.inr ⟨t,k,r,hop,hgd.1,hk,hE.row _ _ hgd.2,rfl,rfl,rfl,by rw[h1.1 k,if_pos rfl]⟩)⟩,g2,g3,g4⟩;rw[h1.1 id,if_neg (λe=>hid (by rw[e];exact List.mem_cons_self))]
 .split at h
  .rename_i hk
   obtain⟨mF,h1,hn,ha,hb⟩:=yx6 h;obtain⟨v,p',mx,h2,h3⟩:=yU4 hE hcallQ hk h1;obtain⟨fr1,g1,g2,g3,g4⟩:=qp3 h2;refine⟨p',fr1,m,v,_,g1,rfl,⟨λ_ _=>rfl,Nat.le_refl _,λ_=>rfl,.inr (.inl ⟨hg,λm2 m2' e1 _ e3 e4=>?_⟩)⟩,g2,g3,g4⟩;refine(h3 m2 λid B hB=>?_).congr (λ_=>rfl) rfl (λid=>by simpa using e3 id) (by simpa using e4)
   by_cases hid:id∈qr5 (o8 fr) o.op
   .rw[e1 id (.inl hid),<-ha id hid];exact hB
   .rw[hb id hid]at hB;cases hB
  .split at h
   .rename_i hk
    obtain⟨mF,h1,hn,ha,hb⟩:=yx6 h;obtain⟨mF',h2,h3⟩:=xK7 hE hk h1;obtain⟨mN,h4,h5,h6⟩:=yJ8 _ _ _ h2;obtain⟨fr1,g1,g2,g3,g4⟩:=qp3 h4;refine⟨p,fr1,mN,_,_,g1,rfl,⟨λid hid=>by rw[h6 id,if_neg hid],by rw[h5];exact Nat.le_refl _,λ_=>h5,.inr (.inl ⟨hg,λm2 m2' e1 _ e3 e4=>?_⟩)⟩,g2,g3,g4⟩;refine h3 m2 m2' (λid hid=>by rw[e1 id (.inr hid),ha id hid]) (λid=>?_) (by simpa using e4);rw[e3 id]
    by_cases hid:id∈qr4 (o8 fr) o.op
    .have hid':id∈(Rec.mk i [] (qr4 (o8 fr) o.op) false).wt:=hid
     rw[if_pos hid',if_pos hid,h6 id,if_pos hid]
    .have hid':id∉ (Rec.mk i [] (qr4 (o8 fr) o.op) false).wt:=hid
     rw[if_neg hid',if_neg hid]
   .split at h
    .rename_i hk
     obtain⟨mF,h1,hn,ha,hb⟩:=yx6 h;obtain⟨v,p',mF',h2,hle,h3⟩:=qV2 hE hcallG hk h1;obtain⟨mN,h4,h5,h6⟩:=yJ8 _ _ _ h2;obtain⟨fr1,g1,g2,g3,g4⟩:=qp3 h4;have h5:mN.next=mF'.next:=h5
     have h6:∀id,mN.get id=if id∈qr4 (o8 fr) o.op++List.range' m.next (mF'.next-m.next)then mF'.get id else m.get id:=h6
     refine⟨p',fr1,mN,v,_,g1,rfl,⟨λid hid=>?_,by rw[h5,<-hn];exact hle,(by intro hc;cases hc),.inr (.inl ⟨hg,λm2 m2' e1 e2 e3 e4=>?_⟩)⟩,g2,g3,g4⟩
     .have hid':id∉qr4 (o8 fr) o.op++List.range' m.next (mF'.next-m.next):=hid
      rw[h6 id,if_neg hid']
     .have e1:∀id,id∈([] :List Nat)\/id∈qr4 (o8 fr) o.op++List.range' m.next (mF'.next-m.next)->m2.get id=m.get id:=e1
      have e3:∀id,m2'.get id=if id∈qr4 (o8 fr) o.op++List.range' m.next (mF'.next-m.next)then mN.get id else m2.get id:=e3
      have e4:m2'.next=mN.next:=by simpa using e4
      refine h3 m2 m2' (λid hid=>by rw[e1 id (.inr (List.mem_append_left _ hid)),ha id hid]) (by rw[e2 rfl,hn]) (λid=>?_) (by rw[e4,h5]);rw[e3 id,hn]
      by_cases hid:id∈qr4 (o8 fr) o.op++List.range' m.next (mF'.next-m.next)
      .rw[if_pos hid,if_pos hid,h6 id,if_pos hid]
      .rw[if_neg hid,if_neg hid]
    .split at h
     .rename_i hd
      obtain⟨v,p',mc,h1,_,h3,_⟩:=zU4 hE hcall h
      split at h1
      .rename_i hv
       rw[qs6]at h1;obtain⟨fr1,g1,g2,g3,g4⟩:=qp3 h1;refine⟨p',fr1,m,_,_,g1,rfl,⟨λ_ _=>rfl,Nat.le_refl _,λ_=>rfl,.inr (.inl ⟨hg,λm2 m2' e1 _ e3 e4=>?_⟩)⟩,g2,g3,g4⟩;exact(xD4 hd hv h3 m2).congr (λ_=>rfl) rfl (λid=>by simpa using e3 id) (by simpa using e4)
      .exact h1.elim
     .exact h.elim
theorem yx0(hE:EOK P E){call m9 zz3:za4 O}(hcall:za5 P false call)(hcallQ:za5 P true m9)(hcallG:za3 P zz3){refs:List (Nat×Nat)}{all:List Oper}{i:Nat}{ih:zc3 O}
  (h:(yw9 E call m9 zz3 refs all i o ih acc p fr m).holds L):
  ∃p' fr1 m1 v s,(ih (s::acc) p' fr1 m1).holds L/\s.i=i/\StepT P all refs i o fr m v m1 s/\zb5 fr o.dst v fr1/\yu8 all o acc s=true/\yw0 all refs o i v s.wt (s.wt.map m1.get)=true:=by
 have run:∀ (p:Plan) (fr2:Fr),(∀t,fr2.get t=fr.get t)->fr2.size=fr.size->qz0 all fr.get o=some true->(y65 E call m9 zz3 refs all i o ih acc p fr2 m).holds L->
   ∃p' fr1 m1 v s,(ih (s::acc) p' fr1 m1).holds L/\s.i=i/\StepT P all refs i o fr m v m1 s/\zb5 fr o.dst v fr1/\yu8 all o acc s=true/\yw0 all refs o i v s.wt (s.wt.map m1.get)=true:=by
  intro p fr2 hg hs hgv h;have hgf:fr2.get=fr.get:=funext hg
  have he:o8 fr2=o8 fr:=funext λx=>by cases x<;>simp[o8,hg]
  obtain⟨p',fr1,m1,v,s,h1,h2,⟨k1,k2,k3,k4⟩,h4,h5,h6⟩:=y66 hE hcall hcallQ hcallG (by rw[hgf];exact hgv) h;rw[he,hgf]at k4;exact⟨p',fr1,m1,v,s,h1,h2,⟨k1,k2,k3,k4⟩,⟨h4.1.trans hs,λt ht=>by rw[<-hs];exact h4.2.1 t ht,λt=>by rw[h4.2.2 t,hg t]⟩,h5,h6⟩
 have skip:∀ (p:Plan) (fr2:Fr),(∀t,fr2.get t=fr.get t)->fr2.size=fr.size->qz0 all fr.get o=some false->(yP4 fr2 o.dst .undef λfr=>ih (⟨i,[],[],false⟩::acc) p fr m).holds L->
   ∃p' fr1 m1 v s,(ih (s::acc) p' fr1 m1).holds L/\s.i=i/\StepT P all refs i o fr m v m1 s/\zb5 fr o.dst v fr1/\yu8 all o acc s=true/\yw0 all refs o i v s.wt (s.wt.map m1.get)=true:=by
  intro p fr2 hg hs hgv h;obtain⟨fr1,h4,h5⟩:=yP5 h;refine⟨p,fr1,m,.undef,⟨i,[],[],false⟩,h5,rfl,⟨λ_ _=>rfl,Nat.le_refl _,λ_=>rfl,.inl ⟨hgv,rfl,rfl,rfl⟩⟩,⟨h4.1.trans hs,λt ht=>by rw[<-hs];exact h4.2.1 t ht,λt=>by rw[h4.2.2 t,hg t]⟩,?_,?_⟩
  .unfold yu8
   rw[List.all_eq_true];intro r _;simp[Rec.conf,qV9,qz6]
  .unfold yw0
   rw[List.all_eq_true];intro ck _;simp[qX1,qz6]
 unfold yw9 at h
 cases hg:o.guard with
 |none=>
  rw[hg]at h;exact run p fr (λ_=>rfl) rfl (by simp[qz0,hg]) h
 |some jw=>
  rw[hg]at h;dsimp only at h;rw[q60]at h
  split at h
  .rename_i oj hoj
   split at h
   .rename_i d hd
    have hb:(all[jw.1]?).bind (·.dst)=some d:=by rw[hoj];exact hd
    split at h
    .rename_i b hfr
     obtain⟨p',h⟩:=zK3 h;obtain⟨fr2,h1,h2⟩:=Fr.set_holds h
     have hget:∀t,fr2.get t=fr.get t:=λt=>by
      rw[h1.2.2 t]
      by_cases ht:some d=some t
      .injection ht with ht;subst ht;rw[if_pos rfl,hfr]
      .rw[if_neg ht]
     split at h2
     .rename_i hbw
      exact run p' fr2 hget h1.1 (by simp only[qz0,hg,hb,hfr];rw[hbw]) h2
     .rename_i hbw
      exact skip p' fr2 hget h1.1 (by simp only[qz0,hg,hb,hfr];rw[hbw]) h2
    .rename_i hfr
     exact skip p fr (λ_=>rfl) rfl (by simp only[qz0,hg,hb,hfr]) h
    .exact h.elim
   .exact h.elim
  .exact h.elim
theorem zV2(hE:EOK P E){call m9 zz3:za4 O}(hcall:za5 P false call)(hcallQ:za5 P true m9)(hcallG:za3 P zz3){refs:List (Nat×Nat)}{all:List Oper}{k:zc2 O}:∀ (ops:List Oper) (i:Nat) (acc:List Rec) (p:Plan) (fr:Fr) (m:Mem),
  (zV1 E call m9 zz3 refs all ops k i acc p fr m).holds L->∃p' fr' m',(k p' fr' m').holds L/\ChainT P all refs i ops acc fr m fr' m'
 |[],i,acc,p,fr,m,h=>⟨p,fr,m,h,.nil i acc fr m⟩
 |o::rest,i,acc,p,fr,m,h=>by
  change (yw9 E call m9 zz3 refs all i o (zV1 E call m9 zz3 refs all rest k (i+1)) acc p fr m).holds L at h
  obtain⟨p1,fr1,m1,v,s,h1,h2,h3,h4,h5,h6⟩:=yx0 hE hcall hcallQ hcallG h;obtain⟨p',fr',m',h7,h8⟩:=zV2 hE hcall hcallQ hcallG rest (i+1) (s::acc) p1 fr1 m1 h1;exact⟨p',fr',m',h7,.cons h2 h3 h4 h5 h6 h8⟩
structure WalkT (P:Program) (all:List Oper) (refs:List (Nat×Nat)) (m m':Mem) (fr fr':Fr) (frs:Nat->Fr) (vals:Nat->SV) (ms:Nat->Mem) (rs:Nat->Rec):Prop where
 first:frs 0=fr
 last:frs all.length=fr'
 mfirst:ms 0=m
 mlast:ms all.length=m'
 step:∀i o,all[i]? =some o->StepT P all refs i o (frs i) (ms i) (vals i) (ms (i+1)) (rs i)
 next:∀i o,all[i]? =some o->zb5 (frs i) o.dst (vals i) (frs (i+1))
 conf:∀i j o,all[j]? =some o->i<j->(rs i).conf (rs j)=true->zx4 all 3 o i=true
 refs:∀i o,all[i]? =some o->yw0 all refs o i (vals i) (rs i).wt ((rs i).wt.map (ms (i+1)).get)=true
theorem ChainT.index{all:List Oper}{refs:List (Nat×Nat)}:∀{i:Nat} {ops:List Oper} {acc:List Rec} {fr fr':Fr} {m m':Mem},ChainT P all refs i ops acc fr m fr' m'->∃ (frs:Nat->Fr) (vals:Nat->SV) (ms:Nat->Mem) (rs:Nat->Rec),frs 0=fr/\frs ops.length=fr'/\ms 0=m/\ms ops.length=m'/\
  (∀j o,ops[j]? =some o->StepT P all refs (i+j) o (frs j) (ms j) (vals j) (ms (j+1)) (rs j))/\(∀j o,ops[j]? =some o->zb5 (frs j) o.dst (vals j) (frs (j+1)))/\
  (∀j o,ops[j]? =some o->(rs j).i=i+j)/\(∀j o r,ops[j]? =some o->r∈acc->r.conf (rs j)=true->zx4 all 3 o r.i=true)/\(∀j k o,ops[k]? =some o->j<k->(rs j).conf (rs k)=true->zx4 all 3 o (i+j)=true)/\
  (∀j o,ops[j]? =some o->yw0 all refs o (i+j) (vals j) (rs j).wt ((rs j).wt.map (ms (j+1)).get)=true):=by
 intro i ops acc fr fr' m m' h
 induction h with
 |nil i acc fr m=>exact⟨λ_=>fr,λ_=>.undef,λ_=>m,λ_=>⟨0,[],[],false⟩,rfl,rfl,rfl,rfl,λj o h=>by simp at h,λj o h=>by simp at h,λj o h=>by simp at h,λj o r h=>by simp at h,λj k o h=>by simp at h,λj o h=>by simp at h⟩
 |@cons i o rest acc fr fr1 fr' m m1 m' v s hs hst hf hacc href k ih=>
  obtain⟨frs,vals,ms,rs,h1,h2,h1m,h2m,h3,h4,h5,h6,h7,h8⟩:=ih;refine⟨λi=>Nat.casesOn i fr frs,λi=>Nat.casesOn i v vals,λi=>Nat.casesOn i m ms,λi=>Nat.casesOn i s rs,rfl,h2,rfl,h2m,λj o' hj=>?_,λj o' hj=>?_,λj o' hj=>?_,λj o' r hj hr hc=>?_,λj k o' hk hjk hc=>?_,λj o' hj=>?_⟩
  .cases j with
   |zero=>simp at hj;subst hj;dsimp only;rw[h1m];exact hst
   |succ j=>have:=h3 j o' (by simpa using hj);rwa [show i+(j+1)=i+1+j by omega]
  .cases j with
   |zero=>simp at hj;subst hj;dsimp only;rw[h1];exact hf
   |succ j=>exact h4 j o' (by simpa using hj)
  .cases j with
   |zero=>exact hs
   |succ j=>have:=h5 j o' (by simpa using hj);dsimp only;omega
  .cases j with
   |zero=>
    simp at hj;subst hj;unfold yu8 at hacc;rw[List.all_eq_true]at hacc;have:=hacc r hr;have hc:r.conf s=true:=hc;rw[hc]at this
    simpa using this
   |succ j=>exact h6 j o' r (by simpa using hj) (List.mem_cons_of_mem _ hr) hc
  .cases k with
   |zero=>omega
   |succ k=>
    cases j with
    |zero=>
     have:=h6 k o' s (by simpa using hk) List.mem_cons_self hc;rw[hs]at this;simpa using this
    |succ j=>
     have:=h7 j k o' (by simpa using hk) (by omega) hc
     rwa [show i+(j+1)=i+1+j by omega]
  .cases j with
   |zero=>simp at hj;subst hj;dsimp only;rw[h1m];exact href
   |succ j=>have:=h8 j o' (by simpa using hj);rwa [show i+(j+1)=i+1+j by omega]
theorem ChainT.toWalk{all:List Oper}{refs:List (Nat×Nat)}{m':Mem}{fr':Fr}(h:ChainT P all refs 0 all [] fr m fr' m'):∃frs vals ms rs,WalkT P all refs m m' fr fr' frs vals ms rs:=by
 obtain⟨frs,vals,ms,rs,h1,h2,h3,h4,h5,h6,h7,h8,h9,h10⟩:=h.index;refine⟨frs,vals,ms,rs,h1,h2,h3,h4,λi o ho=>?_,h6,λi j o ho hij hc=>?_,λi o ho=>?_⟩
 .have:=h5 i o ho;rwa [Nat.zero_add]at this
 .have:=h9 i j o ho hij hc;rwa [Nat.zero_add]at this
 .have:=h10 i o ho;rwa [Nat.zero_add]at this
noncomputable def qu9(ms:Nat->Mem)(rs:Nat->Rec)(S:Nat->Bool):Nat->Nat->Option Box
 |0,id=>(ms 0).get id
 |n+1,id=>if S n=true/\id∈(rs n).wt then(ms (n+1)).get id else qu9 ms rs S n id
noncomputable def q41(ms:Nat->Mem)(rs:Nat->Rec)(S:Nat->Bool):Nat->Nat
 |0=>(ms 0).next
 |n+1=>if S n=true/\(rs n).g=true then(ms (n+1)).next else q41 ms rs S n
theorem yE4(f:Nat->Option Box):∀ (l:List Nat) (t:Tb Box),∃t':Tb Box,∀id,t'.get id=if id∈l then f id else t.get id
 |[],t=>⟨t,λid=>by simp⟩
 |i::l,t=>by
  obtain⟨t1,h1⟩:=xN6 i t (f i);obtain⟨t2,h2⟩:=yE4 f l t1;refine⟨t2,λid=>?_⟩;rw[h2 id,h1 id]
  by_cases e:id=i
  .subst e;simp
  .simp[e]
theorem qv2(ms:Nat->Mem)(rs:Nat->Rec)(S:Nat->Bool):∀n,∃t:Tb Box,∀id,t.get id=qu9 ms rs S n id
 |0=>⟨(ms 0).tb,λid=>rfl⟩
 |n+1=>by
  obtain⟨t,h⟩:=qv2 ms rs S n
  by_cases hS:S n=true
  .obtain⟨t',h'⟩:=yE4 (λid=>(ms (n+1)).get id) (rs n).wt t
   refine⟨t',λid=>?_⟩;rw[h' id,h id];simp only[qu9,hS,true_and]
  .exact⟨t,λid=>by rw[h id];simp only[qu9];rw[if_neg (λc=>hS c.1)]⟩
open Classical in
noncomputable def mkM(g:Nat->Option Box)(n:Nat):Mem:=if h:∃t:Tb Box,∀id,t.get id=g id then⟨n,Classical.choose h⟩else⟨n,.e⟩
theorem qX9(g:Nat->Option Box)(n:Nat):(mkM g n).next=n:=by unfold mkM;split<;>rfl
theorem qX8{g:Nat->Option Box}(n:Nat)(h:∃t:Tb Box,∀id,t.get id=g id)(id:Nat):(mkM g n).get id=g id:=by
 unfold mkM;rw[dif_pos h];exact Classical.choose_spec h id
noncomputable def qW5(all:List Oper)(ms:Nat->Mem)(rs:Nat->Rec)(S:Nat->Bool):Mem:=mkM (qu9 ms rs S all.length) (q41 ms rs S all.length)
theorem qW6(all:List Oper)(ms:Nat->Mem)(rs:Nat->Rec)(S:Nat->Bool)(id:Nat):(qW5 all ms rs S).get id=qu9 ms rs S all.length id:=qX8 _ (qv2 ms rs S _) id
theorem qW7(all:List Oper)(ms:Nat->Mem)(rs:Nat->Rec)(S:Nat->Bool):(qW5 all ms rs S).next=q41 ms rs S all.length:=qX9 _ _
section
variable {ms:Nat->Mem} {rs:Nat->Rec} {S S':Nat->Bool}
variable{id:Nat}
theorem qv1:∀n,(∀j,j<n->id∈(rs j).wt->S j=S' j)->qu9 ms rs S n id=qu9 ms rs S' n id
 |0,_=>rfl
 |n+1,h=>by
  simp only[qu9];rw[qv1 n λj hj=>h j (by omega)]
  by_cases hw:id∈(rs n).wt
  .rw[h n (by omega) hw]
  .rw[if_neg (λc=>hw c.2),if_neg (λc=>hw c.2)]
theorem q43:∀n,(∀j,j<n->(rs j).g=true->S j=S' j)->q41 ms rs S n=q41 ms rs S' n
 |0,_=>rfl
 |n+1,h=>by
  simp only[q41];rw[q43 n λj hj=>h j (by omega)]
  by_cases hw:(rs n).g=true
  .rw[h n (by omega) hw]
  .rw[if_neg (λc=>hw c.2),if_neg (λc=>hw c.2)]
theorem qv3{i:Nat}:∀n,i<=n->(∀j,i<=j->j<n->id∈(rs j).wt->S j=false)->qu9 ms rs S n id=qu9 ms rs S i id
 |0,h,_=>by rw[Nat.le_zero.1 h]
 |n+1,h,hS=>by
  rcases Nat.lt_or_ge n i with h1|h1
  .rw[show i=n+1 by omega]
  .simp only[qu9]
   rw[if_neg (λc=>by have:=hS n h1 (by omega) c.2;rw[c.1]at this;cases this),qv3 n h1 λj a b=>hS j a (by omega)]
theorem q45{i:Nat}:∀n,i<=n->(∀j,i<=j->j<n->(rs j).g=true->S j=false)->q41 ms rs S n=q41 ms rs S i
 |0,h,_=>by rw[Nat.le_zero.1 h]
 |n+1,h,hS=>by
  rcases Nat.lt_or_ge n i with h1|h1
  .rw[show i=n+1 by omega]
  .simp only[q41]
   rw[if_neg (λc=>by have:=hS n h1 (by omega) c.2;rw[c.1]at this;cases this),q45 n h1 λj a b=>hS j a (by omega)]
theorem qv0:∀n,(∀j,j<n->id∉ (rs j).wt->(ms (j+1)).get id=(ms j).get id)->(∀j,j<n->id∈(rs j).wt->S j=true)->qu9 ms rs S n id=(ms n).get id
 |0,_,_=>rfl
 |n+1,hk,hS=>by
  simp only[qu9]
  by_cases hw:id∈(rs n).wt
  .rw[if_pos ⟨hS n (by omega) hw,hw⟩]
  .rw[if_neg (λc=>hw c.2),hk n (by omega) hw,qv0 n (λj hj=>hk j (by omega)) λj hj=>hS j (by omega)]
theorem q42:∀n,(∀j,j<n->(rs j).g=false->(ms (j+1)).next=(ms j).next)->(∀j,j<n->(rs j).g=true->S j=true)->q41 ms rs S n=(ms n).next
 |0,_,_=>rfl
 |n+1,hk,hS=>by
  simp only[q41]
  by_cases hw:(rs n).g=true
  .rw[if_pos ⟨hS n (by omega) hw,hw⟩]
  .rw[if_neg (λc=>hw c.2),hk n (by omega) (by simpa using hw),q42 n (λj hj=>hk j (by omega)) λj hj=>hS j (by omega)]
theorem q44:∀n,(∀j,j<n->(ms j).next<=(ms (j+1)).next)->(ms 0).next<=q41 ms rs S n
 |0,_=>Nat.le_refl _
 |n+1,h=>by
  simp only[q41]
  split
  .have:∀k,k<=n+1->(ms 0).next<=(ms k).next:=by
    intro k
    induction k with
    |zero=>intro _;exact Nat.le_refl _
    |succ k ih=>intro hk;exact Nat.le_trans (ih (by omega)) (h k (by omega))
   exact this _ (Nat.le_refl _)
  .exact q44 n λj hj=>h j (by omega)
theorem getS_cases{id:Nat}:∀n,(∃j,j<n/\S j=true/\id∈(rs j).wt/\qu9 ms rs S n id=(ms (j+1)).get id)\/qu9 ms rs S n id=(ms 0).get id
 |0=>.inr rfl
 |n+1=>by
  simp only[qu9]
  split
  .rename_i hc;exact .inl ⟨n,by omega,hc.1,hc.2,rfl⟩
  .rcases getS_cases (id:=id) n with⟨j,h1,h2⟩|h
   .exact .inl ⟨j,by omega,h2⟩
   .exact .inr h
end
theorem xS6{all:List Oper}{refs:List (Nat×Nat)}{m':Mem}{fr':Fr}{frs:Nat->Fr}{vals:Nat->SV}{ms:Nat->Mem}{rs:Nat->Rec}(hw:WalkT P all refs m m' fr fr' frs vals ms rs)(n0:Nat)
  (hrefs:∀c k,qF3 refs c=some k->(c,k)∈refs/\n0<=k/\k<m.next) (hm0:∀id B,m.get id=some B->id<n0/\∀k,n0<=k->qX2 k (some B)=false) (hfr:∀t k,n0<=k->qX1 k (fr.get t)=false)
  (S:Nat->Bool) (i:Nat) (o:Oper) (hoi:all[i]? =some o) (hSi:S i=false) (hcl:∀ (j:Nat) (oj:Oper),all[j]? =some oj->S j=true->∀e∈oj.after,Region.binds .any e=true->S e.on=true) (hready:∀e∈o.after,Region.binds .any e=true->S e.on=true):
  ze1 P all o (frs i) (qW5 all ms rs S) (vals i) (qW5 all ms rs λk=>if k=i then true else S k)\/za0 P o n0 (vals i) (cur all fr vals S all.length) (qW5 all ms rs S) (qW5 all ms rs λk=>if k=i then true else S k):=by
 have hil:i<all.length:=(List.getElem?_eq_some_iff.1 hoi).1
 have get:∀j,j<all.length->all[j]? =some (all.getD j o):=λj hj=>by
  rw[List.getD_eq_getElem?_getD,List.getElem?_eq_getElem hj];rfl
 have ahead:∀j,j<i->(rs j).conf (rs i)=true->S j=true:=λj hj hc=>zx5 hcl 3 o j hready (hw.conf j i o hoi hj hc)
 have behind:∀j,i<j->j<all.length->(rs i).conf (rs j)=true->S j=false:=λj hj hjl hc=>by
  rcases Bool.eq_false_or_eq_true (S j)with h|h
  .have:=zx5 hcl 3 _ i (λe he hb=>hcl j _ (get j hjl) h e he hb) (hw.conf i j _ (get j hjl) hj hc)
   rw[hSi]at this;cases this
  .exact h
 have keep:∀id j,j<all.length->id∉ (rs j).wt->(ms (j+1)).get id=(ms j).get id:=λid j hj hid=>(hw.step j _ (get j hj)).keep id hid
 have same:∀j,j<all.length->(rs j).g=false->(ms (j+1)).next=(ms j).next:=λj hj=>(hw.step j _ (get j hj)).same
 have conf1:∀id j k,id∈(rs j).wt->(id∈(rs k).rd\/id∈(rs k).wt)->(rs j).conf (rs k)=true:=λid j k h1 h2=>by
  unfold Rec.conf;rcases h2 with h2|h2
  .rw[qW0.2 ⟨id,h1,h2⟩];rfl
  .rw[qW0.2 ⟨id,h1,h2⟩];simp
 have conf2:∀id j k,(id∈(rs j).rd\/id∈(rs j).wt)->id∈(rs k).wt->(rs j).conf (rs k)=true:=λid j k h1 h2=>by
  unfold Rec.conf;rcases h1 with h1|h1
  .rw[qW0.2 ⟨id,h1,h2⟩];simp
  .rw[show qV9 (rs j).wt (rs k).wt=true from qW0.2 ⟨id,h1,h2⟩];simp
 have conf3:∀j k,(rs j).g=true->(rs k).g=true->(rs j).conf (rs k)=true:=λj k h1 h2=>by unfold Rec.conf;rw[h1,h2];simp
 -- what the operation looks at is as in the text
 have now:∀id,id∈(rs i).rd\/id∈(rs i).wt->qu9 ms rs S all.length id=(ms i).get id:=by
  intro id hid;rw[qv3 (i:=i) _ (by omega) (λj h1 h2 h3=>?_),qv0 i (λj hj=>keep id j (by omega)) (λj hj h3=>ahead j hj (conf1 id j i h3 hid))];rcases Nat.lt_or_ge i j with h4|h4
  .exact behind j h4 h2 (conf2 id i j hid h3)
  .rw[show j=i by omega];exact hSi
 have nown:(rs i).g=true->q41 ms rs S all.length=(ms i).next:=by
  intro hg;rw[q45 (i:=i) _ (by omega) (λj h1 h2 h3=>?_),q42 i (λj hj=>same j (by omega)) (λj hj h3=>ahead j hj (conf3 j i h3 hg))];rcases Nat.lt_or_ge i j with h4|h4
  .exact behind j h4 h2 (conf3 i j hg h3)
  .rw[show j=i by omega];exact hSi
 -- and what it leaves
 have then_:∀id,qu9 ms rs (λk=>if k=i then true else S k) all.length id=if id∈(rs i).wt then(ms (i+1)).get id else qu9 ms rs S all.length id:=by
  intro id
  by_cases hid:id∈(rs i).wt
  .rw[if_pos hid,qv3 (i:=i+1) _ (by omega) (λj h1 h2 h3=>?_)]
   .simp only[qu9]
    rw[if_pos ⟨by simp,hid⟩]
   .rw[if_neg (by omega)];exact behind j (by omega) h2 (conf2 id i j (.inr hid) h3)
  .rw[if_neg hid]
   refine qv1 _ λj hj h3=>?_
   by_cases e:j=i
   .subst e;exact absurd h3 hid
   .rw[if_neg e]
 have nthen:q41 ms rs (λk=>if k=i then true else S k) all.length=if(rs i).g=true then(ms (i+1)).next else q41 ms rs S all.length:=by
  by_cases hg:(rs i).g=true
  .rw[if_pos hg,q45 (i:=i+1) _ (by omega) (λj h1 h2 h3=>?_)]
   .simp only[q41]
    rw[if_pos ⟨by simp,hg⟩]
   .rw[if_neg (by omega)];exact behind j (by omega) h2 (conf3 i j hg h3)
  .rw[if_neg hg]
   refine q43 _ λj hj h3=>?_
   by_cases e:j=i
   .subst e;exact absurd h3 hg
   .rw[if_neg e]
 rcases(hw.step i o hoi).step with⟨h1,h2,h3,h4⟩|⟨h1,h2⟩|⟨t,k,r,h1,h2,h3,h4,h5,h6,h7,h8⟩
 .refine .inl (.inr ⟨h1,h2,?_⟩)
  have e1:qu9 ms rs (λk=>if k=i then true else S k) all.length=qu9 ms rs S all.length:=funext λid=>by rw[then_ id,h3,if_neg (by simp)]
  have e2:q41 ms rs (λk=>if k=i then true else S k) all.length=q41 ms rs S all.length:=by rw[nthen,h4,if_neg (by simp)]
  unfold qW5;rw[e1,e2]
 .refine .inl (.inl ⟨h1,h2 _ _ (λid hid=>?_) (λhg=>?_) (λid=>?_) ?_⟩)
  .rw[qW6];exact now id hid
  .rw[qW7];exact nown hg
  .rw[qW6,qW6];exact then_ id
  .rw[qW7,qW7];exact nthen
 .obtain⟨hk1,hk2,hk3⟩:=hrefs i k h3
  -- whoever mentions the new box waits for it
  have waits:∀j,j<all.length->S j=true->(qX1 k (vals j)=true\/k∈(rs j).wt\/∃id∈(rs j).wt,qX2 k ((ms (j+1)).get id)=true)->False:=by
   intro j hj hSj hc;have hr:=hw.refs j _ (get j hj);unfold yw0 at hr;rw[List.all_eq_true]at hr;have hr:=hr (i,k) hk1
   have hc':(qX1 k (vals j)||(qz6 (rs j).wt k||((rs j).wt.map (ms (j+1)).get).any (qX2 k)))=true:=by
    rcases hc with hc|hc|⟨id,hc,hd⟩
    .rw[hc];rfl
    .rw[qz8.2 hc];simp
    .have:((rs j).wt.map (ms (j+1)).get).any (qX2 k)=true:=List.any_eq_true.2 ⟨_,List.mem_map.2 ⟨id,hc,rfl⟩,hd⟩
     rw[this];simp
   rw[hc']at hr;simp only[Bool.not_true,Bool.false_or,Bool.or_eq_true]at hr;rcases hr with hr|hr
   .have:=Nat.eq_of_beq_eq_true hr
    subst this;rw[hSi]at hSj;cases hSj
   .have:=zx5 hcl 3 _ i (λe he hb=>hcl j _ (get j hj) hSj e he hb) hr
    rw[hSi]at this;cases this
  have hms0:ms 0=m:=hw.mfirst;refine .inr ⟨t,k,r,h1,h2,h4,h5,hk2,?_,?_,λid=>?_,?_,λt'=>?_,λid B hB=>?_⟩
  .rw[qW7]
   refine Nat.lt_of_lt_of_le hk3 ?_;rw[<-hms0]
   exact q44 _ λj hj=>(hw.step j _ (get j hj)).le
  .rw[qW6]
   rcases getS_cases (ms:=ms) (rs:=rs) (S:=S) (id:=k) all.length with⟨j,hj,hSj,hwj,_⟩|h
   .exact(waits j hj hSj (.inr (.inl hwj))).elim
   .rw[h,hms0]
    cases hx:m.get k with
    |none=>rfl
    |some B=>have:=(hm0 k B hx).1;omega
  .rw[qW6,qW6,then_ id,h6]
   by_cases e:id=k
   .subst e;rw[if_pos (by simp),if_pos rfl,h8]
   .rw[if_neg (by simp[e]),if_neg e]
  .rw[qW7,qW7,nthen,h7,if_neg (by simp)]
  .have:∀n,n<=all.length->qX1 k (cur all fr vals S n t')=false:=by
    intro n
    induction n with
    |zero=>intro _;exact hfr t' k hk2
    |succ n ih=>
     intro hn;simp only[cur]
     split
     .rename_i hc
      rcases Bool.eq_false_or_eq_true (qX1 k (vals n))with h|h
      .exact(waits n (by omega) hc.1 (.inl h)).elim
      .exact h
     .exact ih (by omega)
   exact this _ (Nat.le_refl _)
  .rw[qW6]at hB
   rcases getS_cases (ms:=ms) (rs:=rs) (S:=S) (id:=id) all.length with⟨j,hj,hSj,hwj,he⟩|h
   .rcases Bool.eq_false_or_eq_true (qX2 k (some B))with h|h
    .exact(waits j hj hSj (.inr (.inr ⟨id,hwj,by rw[<-he,hB];exact h⟩))).elim
    .exact h
   .rw[h,hms0]at hB
    exact(hm0 id B hB).2 k hk2
end
section
variable {P:Program} {E:Env} {O:Type}
inductive ChainL (P:Program) (all:List Oper):List Oper->Fr->Mem->Fr->Mem->Prop where
 |last {o:Oper} {fr fr1:Fr} {m m1:Mem} {v:SV} (h:ze1 P all o fr m v m1) (hf:zb5 fr o.dst v fr1):ChainL P all [o] fr m fr1 m1
 |cons {o o2:Oper} {rest:List Oper} {fr fr1 fr':Fr} {m m':Mem} {v:SV} (h:ze1 P all o fr m v m) (hf:zb5 fr o.dst v fr1) (k:ChainL P all (o2::rest) fr1 m fr' m'):ChainL P all (o::o2::rest) fr m fr' m'
theorem zU9(hE:EOK P E){m9 call:za4 O}(hcallQ:za5 P true m9)(hcall:za5 P false call){all:List Oper}{k:zc2 O}{L:O->Prop}:∀ (ops:List Oper) (p:Plan) (fr:Fr) (m:Mem),ops≠[] ->(zU8 E m9 call all ops k p fr m).holds L->
  ∃p' fr' m',(k p' fr' m').holds L/\ChainL P all ops fr m fr' m'
 |[],p,fr,m,hn,_=>absurd rfl hn
 |[o],p,fr,m,_,h=>by
  change (yw5 E (λ_=>true) call all o k p fr m).holds L at h
  obtain⟨p1,v,fr1,m1,h1,h2,h3,_⟩:=yx1 hE hcall h;exact⟨p1,fr1,m1,h1,.last h2 h3⟩
 |o::o2::rest,p,fr,m,_,h=>by
  change (yw5 E (quiet E) m9 all o (zU8 E m9 call all (o2::rest) k) p fr m).holds L at h
  have hq:quiet E o.op=true\/qz0 all fr.get o=some false:=by
   unfold yw5 at h
   cases hg:o.guard with
   |none=>
    rw[hg]at h;dsimp only at h
    split at h
    .rename_i hq;exact .inl hq
    .exact h.elim
   |some jw=>
    cases hq:quiet E o.op with
    |true=>exact .inl rfl
    |false=>
     right;rw[hg]at h;dsimp only at h;rw[q60]at h
     split at h
     .rename_i oj hoj
      split at h
      .rename_i d hd
       have hb:(all[jw.1]?).bind (·.dst)=some d:=by rw[hoj];exact hd
       split at h
       .rename_i b hfr
        obtain⟨p',h⟩:=zK3 h;obtain⟨fr2,h1,h2⟩:=Fr.set_holds h
        split at h2
        .rw[hq]at h2;exact h2.elim
        .rename_i hbw
         simp only[qz0,hg,hb,hfr];rw[hbw]
       .rename_i hfr
        simp only[qz0,hg,hb,hfr]
       .exact h.elim
      .exact h.elim
     .exact h.elim
  obtain⟨p1,v,fr1,m1,h1,h2,h3,h4⟩:=yx1 hE hcallQ h
  have hm:m1=m:=by
   rcases hq with hq|hq
   .exact h4.quiet rfl hq
   .rcases h2 with⟨hg,_⟩|⟨_,_,hm⟩
    .rw[hq]at hg;cases hg
    .exact hm
  subst hm;obtain⟨p',fr',m',h5,h6⟩:=zU9 hE hcallQ hcall (o2::rest) p1 fr1 m1 (by simp) h1;exact⟨p',fr',m',h5,.cons h2 h3 h6⟩
theorem ChainL.index{all:List Oper}:∀{ops:List Oper} {fr fr':Fr} {m m':Mem},ChainL P all ops fr m fr' m'->∃ (frs:Nat->Fr) (vals:Nat->SV),frs 0=fr/\frs ops.length=fr'/\
  (∀i o,ops[i]? =some o->zb5 (frs i) o.dst (vals i) (frs (i+1)))/\(∀i o,ops[i]? =some o->i+1<ops.length->ze1 P all o (frs i) m (vals i) m)/\∀i o,ops[i]? =some o->i+1=ops.length->ze1 P all o (frs i) m (vals i) m':=by
 intro ops fr fr' m m' h
 induction h with
 |@last o fr fr1 m m1 v hst hf=>
  refine⟨λi=>Nat.casesOn i fr λ_=>fr1,λ_=>v,rfl,rfl,λi o' hi=>?_,λi o' hi hl=>?_,λi o' hi hl=>?_⟩
  .cases i with
   |zero=>simp at hi;subst hi;exact hf
   |succ i=>simp at hi
  .simp at hl
  .cases i with
   |zero=>simp at hi;subst hi;exact hst
   |succ i=>simp at hi
 |@cons o o2 rest fr fr1 fr' m m' v hst hf k ih=>
  obtain⟨frs,vals,h1,h2,h3,h4,h5⟩:=ih;refine⟨λi=>Nat.casesOn i fr frs,λi=>Nat.casesOn i v vals,rfl,h2,λi o' hi=>?_,λi o' hi hl=>?_,λi o' hi hl=>?_⟩
  .cases i with
   |zero=>simp at hi;subst hi;dsimp only;rw[h1];exact hf
   |succ i=>exact h3 i o' (by simpa using hi)
  .cases i with
   |zero=>simp at hi;subst hi;exact hst
   |succ i=>exact h4 i o' (by simpa using hi) (by simp at hl ⊢;omega)
  .cases i with
   |zero=>simp at hl
   |succ i=>exact h5 i o' (by simpa using hi) (by simp at hl ⊢;omega)
theorem qP2{all:List Oper}(h:qP1 all=true){S:Nat->Bool}(hcl:∀ (j:Nat) (oj:Oper),all[j]? =some oj->S j=true->∀e∈oj.after,Region.binds .any e=true->S e.on=true)(hl:S (all.length-1)=true):∀i,i<all.length->S i=true:=by
 have:∀d i,i+1+d=all.length->S i=true:=by
  intro d
  induction d using Nat.strongRecOn with
  |_ d ih=>
   intro i hi
   by_cases h0:i+1=all.length
   .rw[show i=all.length-1 by omega];exact hl
   .simp only[qP1,List.all_eq_true]at h
    have hoi:all[i]? =some all[i] :=List.getElem?_eq_getElem (by omega);have h1:=h (all[i],i) (List.mem_zipIdx_iff_getElem?.2 hoi)
    have hb:Nat.beq (i+1) all.length=false:=by
     rw[<-Bool.not_eq_true,Nat.beq_eq];exact h0
    simp only[hb,Bool.false_or,List.any_eq_true,Bool.and_eq_true]at h1;obtain⟨⟨oj,j⟩,hj,h2,e,he,h3,h4⟩:=h1;have hj:=List.mem_zipIdx_iff_getElem?.1 hj
    have hlt:i<j:=by rw[Nat.blt_eq]at h2;exact h2
    have hjl:=(List.getElem?_eq_some_iff.1 hj).1;have:=hcl j oj hj (ih (all.length-(j+1)) (by omega) j (by omega)) e (by simpa using he) h3
    rwa [Nat.eq_of_beq_eq_true h4]at this
 exact λi hi=>this (all.length-(i+1)) i (by omega)
variable{m:Mem}{frs:Nat->Fr}
theorem qQ2{all:List Oper}{m':Mem}{vals:Nat->SV}(hlb:qP1 all=true)
  (h4:∀i o,all[i]? =some o->i+1<all.length->ze1 P all o (frs i) m (vals i) m) (h5:∀i o,all[i]? =some o->i+1=all.length->ze1 P all o (frs i) m (vals i) m')
  (S:Nat->Bool) (i:Nat) (o:Oper) (hoi:all[i]? =some o) (hSi:S i=false) (hcl:∀ (j:Nat) (oj:Oper),all[j]? =some oj->S j=true->∀e∈oj.after,Region.binds .any e=true->S e.on=true):
  ze1 P all o (frs i) (if S (all.length-1)=true then m' else m) (vals i) (if(if all.length-1=i then true else S (all.length-1))=true then m' else m):=by
 have hil:=(List.getElem?_eq_some_iff.1 hoi).1
 have hS:S (all.length-1)=false:=by
  rcases Bool.eq_false_or_eq_true (S (all.length-1))with h|h
  .rw[qP2 hlb hcl h i hil]at hSi;cases hSi
  .exact h
 rw[hS]
 by_cases hl:i+1=all.length
 .rw[if_neg (by simp),if_pos (by rw[if_pos (by omega)])]
  exact h5 i o hoi hl
 .rw[if_neg (by simp),if_neg (by rw[if_neg (by omega)];simp)]
  exact h4 i o hoi (by omega)
theorem qz7{x k:Nat}{l:List Nat}:qz6 (x::l) k=(Nat.beq x k||qz6 l k):=rfl
theorem x20{c:Nat}:∀ (l:List Oper) (i:Nat) (acc:List Nat),
  (∀k,qz6 acc k=true->qz6 (x19 c l i acc) k=true)/\(∀k,qz6 (x19 c l i acc) k=true->qz6 acc k=true\/i<=k)/\
  (∀j o,l[j]? =some o->i+j=c->qz6 (x19 c l i acc) (i+j)=true)/\
  (∀j o,l[j]? =some o->qz6 (x19 c l i acc) (i+j)=true->qz6 acc (i+j)=true\/i+j=c\/∃e∈o.after,Region.binds .any e=true/\qz6 (x19 c l i acc) e.on=true)/\
  (∀j o,l[j]? =some o->(∃e∈o.after,Region.binds .any e=true/\qz6 (x19 c l i acc) e.on=true/\e.on<i+j)->qz6 (x19 c l i acc) (i+j)=true)
 |[],i,acc=>⟨λ_ h=>h,λ_ h=>.inl h,λj o h=>by simp at h,λj o h=>by simp at h,λj o h=>by simp at h⟩
 |o::l,i,acc=>by
  have e:x19 c (o::l) i acc=(match Nat.beq i c||o.after.toList.any (λe=>Region.binds .any e&&qz6 acc e.on)with
   |true=>x19 c l (i+1) (i::acc)
   |false=>x19 c l (i+1) acc):=rfl
  cases hb:Nat.beq i c||o.after.toList.any (λe=>Region.binds .any e&&qz6 acc e.on)with
  |true=>
   rw[hb]at e;dsimp only at e;rw[e];obtain⟨q1,q2,q3,q4,q5⟩:=x20 l (i+1) (i::acc);have hi:qz6 (x19 c l (i+1) (i::acc)) i=true:=q1 i (by rw[qz7];simp);refine⟨λk hk=>q1 k (by rw[qz7,hk];simp),λk hk=>?_,λj o' hj hc=>?_,λj o' hj hk=>?_,λj o' hj hk=>?_⟩
   .rcases q2 k hk with h|h
    .rw[qz7,Bool.or_eq_true]at h
     rcases h with h|h
     .exact .inr (Nat.le_of_eq (Nat.eq_of_beq_eq_true h))
     .exact .inl h
    .exact .inr (by omega)
   .cases j with
    |zero=>exact hi
    |succ j=>rw[show i+(j+1)=i+1+j by omega]at hc ⊢;exact q3 j o' (by simpa using hj) hc
   .cases j with
    |zero=>
     simp at hj;subst hj;rw[Bool.or_eq_true]at hb;rcases hb with hb|hb
     .exact .inr (.inl (Nat.eq_of_beq_eq_true hb))
     .simp only[List.any_eq_true,Bool.and_eq_true]at hb
      obtain⟨e',he,h1,h2⟩:=hb;exact .inr (.inr ⟨e',by simpa using he,h1,q1 _ (by rw[qz7,h2];simp)⟩)
    |succ j=>
     rw[show i+(j+1)=i+1+j by omega]at hk ⊢;rcases q4 j o' (by simpa using hj) hk with h|h|h
     .rw[qz7,Bool.or_eq_true]at h
      rcases h with h|h
      .have:=Nat.eq_of_beq_eq_true h;omega
      .exact .inl h
     .exact .inr (.inl h)
     .exact .inr (.inr h)
   .cases j with
    |zero=>exact hi
    |succ j=>
     rw[show i+(j+1)=i+1+j by omega]at hk ⊢;exact q5 j o' (by simpa using hj) hk
  |false=>
   rw[hb]at e;dsimp only at e;rw[e];obtain⟨q1,q2,q3,q4,q5⟩:=x20 l (i+1) acc;rw[Bool.or_eq_false_iff]at hb;refine⟨q1,λk hk=>?_,λj o' hj hc=>?_,λj o' hj hk=>?_,λj o' hj hk=>?_⟩
   .rcases q2 k hk with h|h
    .exact .inl h
    .exact .inr (by omega)
   .cases j with
    |zero=>have:=hb.1;rw[show i=c by omega]at this;simp at this
    |succ j=>rw[show i+(j+1)=i+1+j by omega]at hc ⊢;exact q3 j o' (by simpa using hj) hc
   .cases j with
    |zero=>
     rcases q2 _ hk with h|h
     .exact .inl h
     .omega
    |succ j=>
     rw[show i+(j+1)=i+1+j by omega]at hk ⊢;exact q4 j o' (by simpa using hj) hk
   .cases j with
    |zero=>
     simp at hj;subst hj;obtain⟨e',he,h1,h2,h3⟩:=hk
     have h4:qz6 acc e'.on=true:=by
      rcases q2 _ h2 with h|h
      .exact h
      .omega
     have:=hb.2;rw[<-Bool.not_eq_true,List.any_eq_true]at this;exact absurd ⟨e',by simpa using he,by rw[h1,h4];rfl⟩ this
    |succ j=>
     rw[show i+(j+1)=i+1+j by omega]at hk ⊢;exact q5 j o' (by simpa using hj) hk
structure WalkD (all:List Oper) (D:Nat->Bool) (fr:Fr) (frs:Nat->Fr) (vals:Nat->SV):Prop where
 first:frs 0=fr
 next:∀i o,all[i]? =some o->(D i=true->zb5 (frs i) o.dst (vals i) (frs (i+1)))/\(D i=false->frs (i+1)=frs i)
variable{D:Nat->Bool}{fr:Fr}
theorem zH8{all:List Oper}{vals:Nat->SV}(hw:WalkD all D fr frs vals):∀ (i:Nat),i<=all.length->∀t,(frs i).get t=cur all fr vals D i t
 |0,_,t=>by rw[hw.first];rfl
 |i+1,hi,t=>by
  have hlt:i<all.length:=hi;have ho:all[i]? =some all[i] :=List.getElem?_eq_getElem hlt;have h:=hw.next i _ ho;simp only[cur,ho,Option.bind_some];rcases Bool.eq_false_or_eq_true (D i)with hD|hD
  .rw[(h.1 hD).2.2 t,zH8 hw i (by omega) t]
   simp only[hD,true_and]
  .rw[h.2 hD,zH8 hw i (by omega) t]
   simp[hD]
theorem WalkD.size{all:List Oper}{vals:Nat->SV}(hw:WalkD all D fr frs vals):∀ (i:Nat),i<=all.length->(frs i).size=fr.size
 |0,_=>by rw[hw.first]
 |i+1,hi=>by
  have ho:all[i]? =some all[i] :=List.getElem?_eq_getElem hi;have h:=hw.next i _ ho;rcases Bool.eq_false_or_eq_true (D i)with hD|hD
  .rw[(h.1 hD).1];exact WalkD.size hw i (by omega)
  .rw[h.2 hD];exact WalkD.size hw i (by omega)
theorem zH4{all:List Oper}{vals:Nat->SV}{S:Nat->Bool}{t:Nat}(ht:∀ (j:Nat) (oj:Oper),all[j]? =some oj->oj.dst≠some t):∀n,cur all fr vals S n t=fr.get t
 |0=>rfl
 |n+1=>by
  simp only[cur];rw[if_neg,zH4 ht n]
  rintro ⟨_,h⟩
  cases ho:all[n]? with
  |none=>rw[ho]at h;simp at h
  |some o=>rw[ho]at h;exact ht n o ho (by simpa using h)
theorem zn2{ds:List Deferred}{w0:World}{R0:RSet}{all:List Oper}{vals:Nat->SV}{m':Mem}{v:SV}{c:Nat}{oc:Oper}(hw:WalkD all D fr frs vals)(hi:Indep all)
  (hstep:∀i o,all[i]? =some o->D i=true->ze1 P all o (frs i) m (vals i) m) (hc:all[c]? =some oc) (hcg:oc.guard=none) (hDc:D c=false) (hpan:zd8 P m v m' oc (o8 (frs all.length)))
  (hdef:∀i o,all[i]? =some o->D i=false->i≠c->∃e∈o.after,Region.binds .any e=true/\D e.on=false) (hDcl:∀j oj,all[j]? =some oj->D j=true->∀e∈oj.after,Region.binds .any e=true->D e.on=true)
  {Q:Exit->Act->World->Prop} {ρ0:Rho} {wa:World}
  (hQ:∀I' w' a u,MRel w0 R0 I' w' m'->fr.size=a.tmps.size->a.defers=ds->(∀t,(∀ (j:Nat) (oj:Oper),all[j]? =some oj->oj.dst≠some t)->Rep (RO w0 R0 I' w' m') I' m'.next w' (fr.get t) (a.tmps.getD t Go.undef))->b8 w0 R0 ρ0 wa m I' w' m'->Rep (RO w0 R0 I' w' m') I' m'.next w' v u->Q (.panic [{v:=u,recovered:=false}]) a w'):
  ∀ (fuel:Nat) (listed:Array Bool) (I:Rho) (w:World) (a:Act),listed.size=all.length->xW1 listed all.length=fuel->
  (∀j oj,all[j]? =some oj->listed.getD j true=true->∀e∈oj.after,Region.binds .any e=true->listed.getD e.on false=true)->(∀k,k<all.length->listed.getD k true=true->D k=true)->
  MRel w0 R0 I w m->fr.size=a.tmps.size->a.defers=ds->(∀t,Rep (RO w0 R0 I w m) I m.next w (cur all fr vals (λi=>listed.getD i true) all.length t) (a.tmps.getD t Go.undef))->b8 w0 R0 ρ0 wa m I w m->
  wpAny P .any all.toArray Q fuel listed a w:=by
 have hcl0:=(List.getElem?_eq_some_iff.1 hc).1
 have none_ready:∀ (listed:Array Bool),listed.size=all.length->Region.ready .any all.toArray listed=[] ->∀i,i<all.length->listed.getD i true=true:=by
  intro listed hsz hr i
  induction i using Nat.strongRecOn with
  |_ i ih=>
   intro hil;rcases Bool.eq_false_or_eq_true (listed.getD i true)with h|h
   .exact h
   .have:i∈Region.ready .any all.toArray listed:=by
     rw[mem_ready];refine⟨h,all[i],by simp[hil],λe he hb=>?_⟩;have hlt:=hi.back i _ (List.getElem?_eq_getElem hil) e he hb;have h1:=ih e.on hlt (by omega);rw[Array.getD_eq_getD_getElem?,Array.getElem?_eq_getElem (by omega)]at h1 ⊢
     simpa using h1
    rw[hr]at this
    cases this
 have never:∀ (listed:Array Bool),(∀k,k<all.length->listed.getD k true=true->D k=true)->(∀i,i<all.length->listed.getD i true=true)->False:=by
  intro listed h1 h2;have:=h1 c hcl0 (h2 c hcl0);rw[hDc]at this;cases this
 intro fuel
 induction fuel with
 |zero=>
  intro listed I w a hsz hun hcl hD hm hs hd hrep hps;exact(never listed hD (xW3 _ hun)).elim
 |succ fuel ih=>
  intro listed I w a hsz hun hcl hD hm hs hd hrep hps;refine⟨λhr=>(never listed hD (none_ready listed hsz hr)).elim,λi hir=>?_⟩;obtain⟨hl,o,ho,hdeps⟩:=mem_ready.1 hir
  have hoi:all[i]? =some o:=by simpa using ho
  have hil:i<all.length:=(List.getElem?_eq_some_iff.1 hoi).1
  have before:∀j oj,all[j]? =some oj->j<i->oj.apart all.toArray o=false->listed.getD j true=true:=by
   intro j oj hj hji hap;rcases hi.pair j i oj o hji hj hoi with⟨e,he,hb,heq⟩|h
   .have:=hdeps e he hb
    rw[heq,Array.getD_eq_getD_getElem?]at this
    have hjl:j<listed.size:=by rw[hsz];exact(List.getElem?_eq_some_iff.1 hj).1
    rw[Array.getElem?_eq_getElem hjl]at this;rw[Array.getD_eq_getD_getElem?,Array.getElem?_eq_getElem hjl]
    simpa using this
   .rw[hap]at h;cases h
  have behind:∀j oj,all[j]? =some oj->i<j->o.apart all.toArray oj=false->listed.getD j true=false:=by
   intro j oj hj hij hap;rcases hi.pair i j o oj hij hoi hj with⟨e,he,hb,heq⟩|h
   .rcases Bool.eq_false_or_eq_true (listed.getD j true)with hc|hc
    .have:=hcl j oj hj hc e he hb
     rw[heq,Array.getD_eq_getD_getElem?]at this;rw[Array.getD_eq_getD_getElem?]at hl;rw[Array.getElem?_eq_getElem (by omega)]at this hl;simp at this hl;rw[this]at hl;cases hl
    .exact hc
   .rw[hap]at h;cases h
  have up:∀k,listed.getD k false=true->listed.getD k true=true:=λk hk=>by
   rw[Array.getD_eq_getD_getElem?]at hk ⊢
   cases hx:listed[k]? with
   |none=>rfl
   |some b=>rw[hx]at hk;simpa using hk
  -- nothing that waits for the call is ready
  have hcase:i=c\/D i=true:=by
   by_cases hic:i=c
   .exact .inl hic
   .right
    rcases Bool.eq_false_or_eq_true (D i)with h|h
    .exact h
    .obtain⟨e,he,hb,h2⟩:=hdef i o hoi h hic
     have h3:=hD e.on (Nat.lt_trans (hi.back i o hoi e he hb) hil) (up _ (hdeps e he hb));rw[h2]at h3;cases h3
  have hyieldG:∀ (F:Fr),(∀t,t∈o.looksAt all.toArray->cur all fr vals (λk=>listed.getD k true) all.length t=F.get t)->∀g,qz0 all F.get o=some g->Region.wanted o (yielded all.toArray a.tmps)=g:=λF hF g hg=>
   x67 (R:=RO w0 R0 I w m) (I:=I) (n:=m.next) (w:=w) (λj want d hgd hdd=>by rw[<-hF d (qT4 hgd (by simpa using hdd))];exact hrep d) hg
  have hebG:∀ (F:Fr),(∀t,t∈o.looksAt all.toArray->cur all fr vals (λk=>listed.getD k true) all.length t=F.get t)->∀x∈o.op.operands,Rep (RO w0 R0 I w m) I m.next w (o8 F x) (a.eval x):=by
   intro F hF x hx
   cases x with
   |tmp t=>
    show Rep _ _ _ _ (F.get t) _;rw[<-hF t (qT5 hx)];exact hrep t
   |const v=>exact yu6 v _ _ _ _
   |global g=>exact rfl
   |func f=>exact⟨[],[],rfl,rfl,rfl⟩
  unfold wpOp;rw[ho];dsimp only
  by_cases hic:i=c
  .subst hic
   rw[hc]at hoi;injection hoi with hoi;subst hoi
   have looks:∀t,t∈oc.looksAt all.toArray->cur all fr vals (λk=>listed.getD k true) all.length t=(frs all.length).get t:=by
    intro t ht;rw[zH8 hw _ (Nat.le_refl _)]
    refine zH6 _ λj hj hd'=>?_
    have hd2:all[j].dst=some t:=by simpa[List.getElem?_eq_getElem hj]using hd'
    rcases Nat.lt_trichotomy j i with h|h|h
    .have h1:=before j _ (List.getElem?_eq_getElem hj) h (by simp[Oper.apart,hd2,ht])
     rw[h1,hD j hj h1]
    .subst h;rw[hl,hDc]
    .have h1:=behind j _ (List.getElem?_eq_getElem hj) h (by simp[Oper.apart,hd2,ht])
     rw[h1];rcases hi.pair i j oc _ h hc (List.getElem?_eq_getElem hj)with⟨e,he,hb,heq⟩|h2
     .rcases Bool.eq_false_or_eq_true (D j)with h3|h3
      .have:=hDcl j _ (List.getElem?_eq_getElem hj) h3 e he hb
       rw[heq,hDc]at this;cases this
      .exact h3.symm
     .have:oc.apart all.toArray all[j] =false:=by simp[Oper.apart,hd2,ht]
      rw[this]at h2;cases h2
   rw[hyieldG _ looks true (by unfold qz0;rw[hcg]),if_pos rfl];refine .inl ?_;have h1:=hpan w0 R0 I w a.eval hm (hebG _ looks);unfold Oper.wp;generalize (Go.execOp a.eval oc).run P w=r at h1
   have out:∀u w',f5 w0 R0 I w m v m' u w'->Q (.panic [{v:=u,recovered:=false}]) a w':=λu w' ⟨I',g1,g2,g3⟩=>
    hQ I' w' a u g1 hs hd (λt ht=>by
     have:=Rep.mono g2 _ _ (hrep t)
     rwa [zH4 ht]at this) (hps.trans g2) g3
   match r,h1 with
   |.halt (.panic u) w',h1=>exact out u w' h1
   |.ok (.enter f args) w',h1=>
    rw[Oper.upon_enter]
    exact Calls.mono h1 λe w'' ⟨u,he,hu⟩=>by subst he;exact out u w'' hu
  .have hDi:=hcase.resolve_left hic
   have looks:∀t,t∈o.looksAt all.toArray->cur all fr vals (λk=>listed.getD k true) all.length t=(frs i).get t:=by
    intro t ht;rw[zH8 hw i (by omega),zH5 (i:=i) all.length (by omega) (λj h1 h2 hd'=>?_)]
    .refine zH6 i λj hj hd'=>?_
     have hjl:j<all.length:=by omega
     have hd2:all[j].dst=some t:=by simpa[List.getElem?_eq_getElem hjl]using hd'
     have h1:=before j _ (List.getElem?_eq_getElem hjl) hj (by simp[Oper.apart,hd2,ht]);rw[h1,hD j hjl h1]
    .by_cases hji:j=i
     .subst hji;exact hl
     .have hjl:j<all.length:=h2
      refine behind j _ (List.getElem?_eq_getElem hjl) (by omega) ?_
      have hd2:all[j].dst=some t:=by simpa[List.getElem?_eq_getElem hjl]using hd'
      simp[Oper.apart,hd2,ht]
   have hset:∀k,k<all.length->(listed.setIfInBounds i true).getD k true=if k=i then true else listed.getD k true:=by
    intro k hk
    by_cases hki:k=i
    .subst hki;simp[Array.getD_eq_getD_getElem?,Array.getElem?_setIfInBounds,hsz,hil]
    .rw[getD_set_ne true (Ne.symm hki),if_neg hki]
   have hcur:∀t,cur all fr vals (λk=>(listed.setIfInBounds i true).getD k true) all.length t=if o.dst=some t then vals i else cur all fr vals (λk=>listed.getD k true) all.length t:=by
    intro t
    by_cases ht:o.dst=some t
    .rw[if_pos ht,zH5 (i:=i+1) all.length hil (λj h1 h2 hd'=>?_)]
     .simp only[cur,hoi,Option.bind_some]
      rw[if_pos ⟨by rw[hset i hil];simp,ht⟩]
     .rw[hset j h2,if_neg (by omega)]
      refine behind j _ (List.getElem?_eq_getElem h2) (by omega) ?_
      have hd2:all[j].dst=some t:=by simpa[List.getElem?_eq_getElem h2]using hd'
      simp[Oper.apart,hd2,ht]
    .rw[if_neg ht]
     refine zH6 _ λj hj hd'=>?_
     rw[hset j hj]
     by_cases hji:j=i
     .subst hji
      rw[hoi]at hd';exact absurd (by simpa using hd') ht
     .rw[if_neg hji]
   have hun':xW1 (listed.setIfInBounds i true) all.length=fuel:=by
    have:=xW2 all.length hil hl (by omega);omega
   have hcl':∀j oj,all[j]? =some oj->(listed.setIfInBounds i true).getD j true=true->∀e∈oj.after,Region.binds .any e=true->(listed.setIfInBounds i true).getD e.on false=true:=by
    intro j oj hj hlj e he hb;have hjl:j<all.length:=(List.getElem?_eq_some_iff.1 hj).1;rw[hset j hjl]at hlj
    by_cases hji:j=i
    .subst hji
     rw[hoi]at hj;injection hj with hj;subst hj;exact getD_set_true (hdeps e he hb)
    .rw[if_neg hji]at hlj
     exact getD_set_true (hcl j oj hj hlj e he hb)
   have hD':∀k,k<all.length->(listed.setIfInBounds i true).getD k true=true->D k=true:=λk hk h=>by
    rw[hset k hk]at h
    by_cases hki:k=i
    .subst hki;exact hDi
    .rw[if_neg hki]at h;exact hD k hk h
   have hfs:=(hw.next i o hoi).1 hDi
   have putrep:∀ (I':Rho) (w':World) (u:Value),b8 w0 R0 I w m I' w' m->Rep (RO w0 R0 I' w' m) I' m.next w' (vals i) u->∀t,Rep (RO w0 R0 I' w' m) I' m.next w' (cur all fr vals (λk=>(listed.setIfInBounds i true).getD k true) all.length t) ((a.put o.dst u).tmps.getD t Go.undef):=by
    intro I' w' u he hu t;rw[hcur t]
    have h1:∀d,o.dst=some d->d<a.tmps.size:=λd hd'=>by rw[<-hs,<-hw.size i (by omega)];exact hfs.2.1 d hd'
    cases hdst:o.dst with
    |none=>simpa[Act.put]using Rep.mono he _ _ (hrep t)
    |some d=>
     have hlt:=h1 d hdst
     by_cases ht:d=t
     .subst ht
      simp[Act.put,Array.getElem?_setIfInBounds,hlt];exact hu
     .have:¬(some d=some t):=λe=>ht (by injection e)
      rw[if_neg this];have h2:=Rep.mono he _ _ (hrep t)
      simpa[Act.put,Array.getElem?_setIfInBounds_ne ht]using h2
   have putsize:∀u,fr.size=(a.put o.dst u).tmps.size:=λu=>by rw[hs];cases o.dst<;>simp[Act.put]
   rcases hstep i o hoi hDi with⟨hg,hsem⟩|⟨hg,hv,_⟩
   .rw[hyieldG _ looks _ hg,if_pos rfl]
    refine .inl ?_;unfold Oper.wp;refine xW5 (λu w' hu=>?_) (hsem w0 R0 I w a.eval hm (hebG _ looks));obtain⟨I',g1,g2,g3⟩:=hu;exact ih _ I' w' _ (by simpa using hsz) hun' hcl' hD' g1 (putsize u) (by rw[yP6];exact hd) (putrep I' w' u g2 g3) (hps.trans g2)
   .rw[hyieldG _ looks _ hg]
    simp only[Bool.false_eq_true,if_false];exact ih _ I w _ (by simpa using hsz) hun' hcl' hD' hm (putsize _) (by rw[yP6];exact hd) (putrep I w Go.undef (Ext.refl _ _ _ _) (by rw[hv];rfl)) hps
theorem yx2(hE:EOK P E){m9:za4 O}(hcallQ:za5 P true m9){all:List Oper}{o:Oper}{ih:zc2 O}{p:Plan}{L:O->Prop}(h:(yw5 E (quiet E) m9 all o ih p fr m).holds L):
  ∃p' v fr1,(ih p' fr1 m).holds L/\ze1 P all o fr m v m/\zb5 fr o.dst v fr1:=by
 have hq:quiet E o.op=true\/qz0 all fr.get o=some false:=by
  unfold yw5 at h
  cases hg:o.guard with
  |none=>
   rw[hg]at h;dsimp only at h
   split at h
   .rename_i hq;exact .inl hq
   .exact h.elim
  |some jw=>
   cases hq:quiet E o.op with
   |true=>exact .inl rfl
   |false=>
    right;rw[hg]at h;dsimp only at h;rw[q60]at h
    split at h
    .rename_i oj hoj
     split at h
     .rename_i d hd
      have hb:(all[jw.1]?).bind (·.dst)=some d:=by rw[hoj];exact hd
      split at h
      .rename_i b hfr
       obtain⟨p',h⟩:=zK3 h;obtain⟨fr2,h1,h2⟩:=Fr.set_holds h
       split at h2
       .rw[hq]at h2;exact h2.elim
       .rename_i hbw
        simp only[qz0,hg,hb,hfr];rw[hbw]
      .rename_i hfr
       simp only[qz0,hg,hb,hfr]
      .exact h.elim
     .exact h.elim
    .exact h.elim
 obtain⟨p1,v,fr1,m1,h1,h2,h3,h4⟩:=yx1 hE hcallQ h
 have hm:m1=m:=by
  rcases hq with hq|hq
  .exact h4.quiet rfl hq
  .rcases h2 with⟨hg,_⟩|⟨_,_,hm⟩
   .rw[hq]at hg;cases hg
   .exact hm
 subst hm;exact⟨p1,v,fr1,h1,h2,h3⟩
theorem zV5(hE:EOK P E){m9:za4 O}(hcallQ:za5 P true m9){W:List Nat}{all:List Oper}{k:zc2 O}{L:O->Prop}:∀ (ops:List Oper) (i:Nat) (p:Plan) (fr:Fr) (m:Mem),(zV4 E m9 W all ops k i p fr m).holds L->
  ∃p' fr',(k p' fr' m).holds L/\∃ (frs:Nat->Fr) (vals:Nat->SV),frs 0=fr/\frs ops.length=fr'/\∀j o,ops[j]? =some o->(qz6 W (i+j)=false->zb5 (frs j) o.dst (vals j) (frs (j+1))/\ze1 P all o (frs j) m (vals j) m)/\(qz6 W (i+j)=true->frs (j+1)=frs j)
 |[],i,p,fr,m,h=>⟨p,fr,h,λ_=>fr,λ_=>.undef,rfl,rfl,λj o h=>by simp at h⟩
 |o::rest,i,p,fr,m,h=>by
  have e:zV4 E m9 W all (o::rest) k i=(match qz6 W i with
   |true=>zV4 E m9 W all rest k (i+1)
   |false=>yw5 E (quiet E) m9 all o (zV4 E m9 W all rest k (i+1))):=rfl
  rw[e]at h
  cases hW:qz6 W i with
  |true=>
   rw[hW]at h;obtain⟨p',fr',h1,frs,vals,h2,h3,h4⟩:=zV5 hE hcallQ rest (i+1) p fr m h;refine⟨p',fr',h1,λj=>Nat.casesOn j fr frs,λj=>Nat.casesOn j .undef vals,rfl,h3,λj o' hj=>?_⟩
   cases j with
   |zero=>exact⟨λhc=>(by rw[Nat.add_zero,hW]at hc;cases hc),λ_=>h2⟩
   |succ j=>rw[show i+(j+1)=i+1+j by omega];exact h4 j o' (by simpa using hj)
  |false=>
   rw[hW]at h;obtain⟨p1,v,fr1,g1,g2,g3⟩:=yx2 hE hcallQ h;obtain⟨p',fr',h1,frs,vals,h2,h3,h4⟩:=zV5 hE hcallQ rest (i+1) p1 fr1 m g1;refine⟨p',fr',h1,λj=>Nat.casesOn j fr frs,λj=>Nat.casesOn j v vals,rfl,h3,λj o' hj=>?_⟩
   cases j with
   |zero=>
    simp at hj;subst hj;exact⟨λ_=>⟨(by dsimp only;rw[h2];exact g3),g2⟩,λhc=>by rw[Nat.add_zero,hW]at hc;cases hc⟩
   |succ j=>rw[show i+(j+1)=i+1+j by omega];exact h4 j o' (by simpa using hj)
theorem xS3{L:O->Prop}:∀ (ops:List Oper) (fr:Fr) (k:Fr->Tree O),(xS2 ops fr k).holds L->∃fr',(k fr').holds L/\fr'.size=fr.size/\∀t,fr'.get t=.top\/(fr'.get t=fr.get t/\∀ (j:Nat) (oj:Oper),ops[j]? =some oj->oj.dst≠some t)
 |[],fr,k,h=>⟨fr,h,rfl,λt=>.inr ⟨rfl,λj oj h=>by simp at h⟩⟩
 |o::rest,fr,k,h=>by
  have e:xS2 (o::rest) fr k=(match o.dst with
   |some d=>fr.set d .top λfr=>xS2 rest fr k
   |none=>xS2 rest fr k):=rfl
  rw[e]at h
  cases hd:o.dst with
  |none=>
   rw[hd]at h;obtain⟨fr',h1,h2,h3⟩:=xS3 rest fr k h;refine⟨fr',h1,h2,λt=>(h3 t).imp id λ⟨g1,g2⟩=>⟨g1,λj oj hj=>?_⟩⟩
   cases j with
   |zero=>simp at hj;subst hj;rw[hd];simp
   |succ j=>exact g2 j oj (by simpa using hj)
  |some d=>
   rw[hd]at h;obtain⟨fr1,q1,q2⟩:=Fr.set_holds h;obtain⟨fr',h1,h2,h3⟩:=xS3 rest fr1 k q2;refine⟨fr',h1,h2.trans q1.1,λt=>?_⟩;rcases h3 t with g|⟨g1,g2⟩
   .exact .inl g
   .by_cases ht:some d=some t
    .left;rw[g1,q1.2.2 t,if_pos ht]
    .right
     refine⟨by rw[g1,q1.2.2 t,if_neg ht],λj oj hj=>?_⟩
     cases j with
     |zero=>simp at hj;subst hj;rw[hd];exact ht
     |succ j=>exact g2 j oj (by simpa using hj)
end
end Go.Sx
