/-
  Evaluator, contracts, plain law.
-/
import Derived.Test.YtnkaepnblikcdaaGreatVS1
set_option maxRecDepth 100000
set_option linter.unusedVariables false
set_option linter.unusedSimpArgs false
open Go.IntKind (i64 u64 u8)
namespace Go.Sx
open Go.RowKit
section
variable {P:Program} {E:Env} {α:Type}
def zc1(P:Program)(Φ:Value→World→Prop):Result Next→Prop
 |.ok (.value v) w=>Φ v w
 |.ok .skip w=>Φ Go.undef w
 |.ok (.enter f args) w=>Calls P f args w fun e w'=>∃v,e=.returned v∧Φ v w'
 |_=>False
theorem zc1.mono{Φ Ψ:Value→World→Prop}(h:∀v w,Φ v w→Ψ v w):∀{r:Result Next},zc1 P Φ r→zc1 P Ψ r
 |.ok (.value v) w,k=>h v w k
 |.ok .skip w,k=>h _ w k
 |.ok (.enter f args) w,k=>Calls.mono k fun e w' ⟨v,he,hv⟩=>⟨v,he,h v w' hv⟩
def zd7(P:Program)(m:Mem)(v:SV)(m':Mem)(o:Oper)(ev:Operand→SV):Prop:=
 ∀w0 R0 ρ w (eb:Operand→Value),MRel w0 R0 ρ w m→(∀x∈o.op.operands,Rep (RO w0 R0 ρ w m) ρ m.next w (ev x) (eb x))→zc1 P (n9 w0 R0 ρ w m v m') ((Go.execOp eb o).run P w)
def zd6(P:Program)(m:Mem)(v:SV)(m':Mem)(f:FuncId)(args:List SV):Prop:=
 ∀w0 R0 ρ w (vs:List Value),MRel w0 R0 ρ w m→j7 (RO w0 R0 ρ w m) ρ m.next w args vs→zc1 P (n9 w0 R0 ρ w m v m') ((Go.callFunc f vs.toArray).run P w)
def za5(P:Program)(Q:Bool)(call:za4 α):Prop:=
 ∀f args p m (κ:p9 α) (L:α→Prop),(call f args p m κ).holds L→∃v p' m',(κ v p' m').holds L∧(Q=true→m'=m∧∀m2,zd6 P m2 v m2 f args)∧zd6 P m v m' f args
theorem yR4{Φ:Value→World→Prop}{s:Sem Value}{w:World}{u:Value}{w':World}(h:s.run P w=.ok u w')(hΦ:Φ u w'):zc1 P Φ ((do pure (Next.value (←s)):Sem Next).run P w):=by
 simp only[Sem.run_bind,h,Result.andThen_ok,Sem.run_pure];exact hΦ
theorem yx6(v:Value)(R:Nat→Prop)(ρ:Rho)(n:Nat)(w:World):Rep R ρ n w (yx5 v) v:=by
 unfold yx5
 split<;>rfl
theorem yx7(R:Nat→Prop)(ρ:Rho)(n:Nat)(w:World):∀vs:List Value,j7 R ρ n w (vs.map yx5) vs
 |[] =>rfl
 |v::vs=>⟨v,vs,rfl,yx6 v R ρ n w,yx7 R ρ n w vs⟩
theorem yx9(v:Value)(R:Nat→Prop)(ρ:Rho)(n:Nat)(w:World):Rep R ρ n w (yx8 v) v:=by
 unfold yx8
 split
 ·rename_i cs
  exact⟨cs.toList,rfl,yx7 R ρ n w _⟩
 ·rename_i f a c
  split
  ·rename_i ha hc
   refine⟨[],[],?_,rfl,rfl⟩
   have h1:a=#[] :=by apply Array.ext';simpa using ha
   have h2:c=#[] :=by apply Array.ext';simpa using hc
   rw[h1,h2]
  ·rfl
 ·exact yx6 _ R ρ n w
theorem xJ1{R:Nat→Prop}{ρ:Rho}{n:Nat}{w:World}:∀{x:SV} {v u:Value},xJ0 x=some v→Rep R ρ n w x u→u=v
 |.int _ _,_,_,h,hr=>by injection h with h;subst h;exact hr
 |.bool _,_,_,h,hr=>by injection h with h;subst h;exact hr
 |.str _,_,_,h,hr=>by injection h with h;subst h;exact hr
theorem xJ3{R:Nat→Prop}{ρ:Rho}{n:Nat}{w:World}:∀{xs:List SV} {vs us:List Value},xJ2 xs=some vs→j7 R ρ n w xs us→us=vs
 |[],_,_,h,hr=>by injection h with h;subst h;exact hr
 |x::xs,vs,us,h,hr=>by
  obtain⟨u,us',rfl,h1,h2⟩:=hr;unfold xJ2 at h
  split at h
  ·rename_i v vs' e1 e2
   injection h with h;subst h;rw[xJ1 e1 h1,xJ3 e2 h2]
  ·cases h
theorem xJ5{R:Nat→Prop}{ρ:Rho}{n:Nat}{w:World}{x:SV}{v u:Value}(h:xJ4 x=some v)(hr:Rep R ρ n w x u):u=v:=by
 unfold xJ4 at h
 split at h
 ·rename_i cs
  split at h
  ·rename_i vs e
   injection h with h;subst h;obtain⟨us,rfl,h2⟩:=hr;rw[xJ3 e h2]
  ·cases h
 ·exact xJ1 h hr
theorem zI3{b:Bool}{p:Prop}(h:b=false)(k:b=true):p:=by rw[h]at k;cases k
structure Extra (P:Program) (Q:Bool) (m:Mem) (v:SV) (m':Mem) (o:Oper) (ev:Operand→SV):Prop where
 pure:yS5 o.op=true→∀m2,zd7 P m2 v m2 o ev
 shape:xz1 o.op=true→∀m2,zd9 m m2→zd7 P m2 v m2 o ev
 up:Q=true→xY8 o.op=true→∀m2,Up m m2→zd7 P m2 v m2 o ev
 store:qP2 o.op=true→zd9 m m'∧zd9 m' m
 alloc:qO6 o.op=true→m.get m.next=none→Up m m'
theorem Extra.ofPure{P:Program}{Q:Bool}{m:Mem}{v:SV}{o:Oper}{ev:Operand→SV}(h1:xz1 o.op=false)(h2:xY8 o.op=false)(h3:qP2 o.op=false)(h4:qO6 o.op=false)(h:∀m2,zd7 P m2 v m2 o ev):zd7 P m v m o ev∧Extra P Q m v m o ev:=
 ⟨h m,fun _=>h,fun k=>zI3 h1 k,fun _ k=>zI3 h2 k,fun k=>zI3 h3 k,fun k=>zI3 h4 k⟩
theorem Extra.none{P:Program}{Q:Bool}{m m':Mem}{v:SV}{o:Oper}{ev:Operand→SV}(h0:yS5 o.op=false)(h1:xz1 o.op=false)(h2:xY8 o.op=false)(h3:qP2 o.op=false)(h4:qO6 o.op=false):Extra P Q m v m' o ev:=
 ⟨fun k=>zI3 h0 k,fun k=>zI3 h1 k,fun _ k=>zI3 h2 k,fun k=>zI3 h3 k,fun k=>zI3 h4 k⟩
theorem Extra.ofShape{P:Program}{Q:Bool}{m:Mem}{v:SV}{o:Oper}{ev:Operand→SV}(h1:yS5 o.op=false)(h2:xY8 o.op=false)(h3:qP2 o.op=false)(h4:qO6 o.op=false)(h:∀m2,zd9 m m2→zd7 P m2 v m2 o ev):zd7 P m v m o ev∧Extra P Q m v m o ev:=
 ⟨h m (zd9.refl m),fun k=>zI3 h1 k,fun _=>h,fun _ k=>zI3 h2 k,fun k=>zI3 h3 k,fun k=>zI3 h4 k⟩
theorem Extra.ofUp{P:Program}{Q:Bool}{m:Mem}{v:SV}{o:Oper}{ev:Operand→SV}(h1:yS5 o.op=false)(h2:xz1 o.op=false)(h3:qP2 o.op=false)(h4:qO6 o.op=false)(h:∀m2,Up m m2→zd7 P m2 v m2 o ev):zd7 P m v m o ev∧Extra P Q m v m o ev:=
 ⟨h m (Up.refl m),fun k=>zI3 h1 k,fun k=>zI3 h2 k,fun _ _=>h,fun k=>zI3 h3 k,fun k=>zI3 h4 k⟩
theorem y81{P:Program}{xt t:TypeId}{d:TypeDesc}{z:Value}{w:World}(hu:P.underlying t=some d)(hi:qO8 d=false)(hz:∀w,(zeroValue t).run P w=.ok z w):(Instr.typeAssert .nilIface xt t true).run P w=.ok (.tuple #[z,.bool false]) w:=by
 unfold Instr.typeAssert;rw[Sem.run_bind,run_underlying hu,Result.andThen_ok]
 cases d<;>first|(cases hi;done)|(show Sem.run P (do let z ←zeroValue t;pure (Value.tuple #[z,.bool false])) w=_;rw[Sem.run_bind,hz,Result.andThen_ok,Sem.run_pure])
theorem y80{P:Program}{xt t:TypeId}{d:TypeDesc}{v:Value}{w:World}(hu:P.underlying t=some d)(hi:qO8 d=false):(Instr.typeAssert (.iface t v) xt t true).run P w=.ok (.tuple #[v,.bool true]) w:=by
 unfold Instr.typeAssert;rw[Sem.run_bind,run_underlying hu,Result.andThen_ok]
 cases d<;>first|(cases hi;done)|(show Sem.run P (if t=t then pure (Value.tuple #[v,.bool true])else _) w=_;rw[if_pos rfl,Sem.run_pure])
theorem z17(hE:EOK P E){Q:Bool}{call:za4 α}(hcall:za5 P Q call){ev:Operand→SV}{o:Oper}{p:Plan}{m:Mem}{κ:p9 α}{L:α→Prop}(h:(execOp E call ev o.op p m κ).holds L):
  ∃v p' m',(κ v p' m').holds L∧(Q=true→quiet E o.op=true→m'=m)∧(zd7 P m v m' o ev∧Extra P Q m v m' o ev):=by
 obtain⟨dst,op,ty,pos,after,guard⟩:=o
 cases op<;>dsimp only[execOp]at h<;>try exact h.elim
 case move x=>
  rw[qw1]at h;exact⟨_,p,m,h,fun _ _=>rfl,Extra.ofPure rfl rfl rfl rfl fun m2 w0 R0 ρ w eb hm hev=>n9.same hm (hev x (by simp[Op.operands,Call.operands]))⟩
 case assign x=>
  rw[qw1]at h;exact⟨_,p,m,h,fun _ _=>rfl,Extra.ofPure rfl rfl rfl rfl fun m2 w0 R0 ρ w eb hm hev=>n9.same hm (hev x (by simp[Op.operands,Call.operands]))⟩
 case pick c a b=>
  split at h
  ·rename_i cb hc
   obtain⟨p',h⟩:=zQ8 h;rw[qw1]at h;refine⟨_,p',m,h,fun _ _=>rfl,Extra.ofPure rfl rfl rfl rfl fun m2 w0 R0 ρ w eb hm hev=>?_⟩;have h1:=hev c (by simp[Op.operands,Call.operands]);rw[hc]at h1;have h1':eb c=.bool cb:=h1;simp only[Go.execOp,h1',asBool,pure_bind,Sem.run_pure];refine n9.same hm ?_
   cases cb
   ·exact hev b (by simp[Op.operands,Call.operands])
   ·exact hev a (by simp[Op.operands,Call.operands])
  ·exact h.elim
 case alloc t=>
  split at h
  ·rename_i r hr
   split at h
   ·rw[qv8]at h
    obtain⟨m',h1,h2⟩:=Mem.push_holds h;have hok:=hE.row _ _ hr;obtain⟨z,hz1,hz2,_⟩:=y85 hok;refine⟨_,p,m',h2,fun _ hq=>(by cases hq),⟨fun w0 R0 ρ w eb hm hev=>?_,⟨(fun k=>by cases k),(fun k=>by cases k),(fun _ k=>by cases k),(fun k=>by cases k),fun _ hn=>h1.up hn⟩⟩⟩;obtain⟨g1,g2⟩:=hm.alloc (o:=.cells z.cells t) h1 0 0 (fun R n' ρ' e'=>⟨_,heap_alloc_new w _,hz2 _ _ _ _⟩);refine yR4 (u:=.pointer (some ⟨w.heap.size,0,none⟩)) (w':=w.alloc (.cells z.cells t)) ?_ ⟨_,g1,g2,by rw[h1.2];omega,by rw[p7]⟩;simp[Instr.alloc,hz1,newVar,newRow]
   ·rw[qv8]at h
    obtain⟨m',h1,h2⟩:=Mem.push_holds h;have hok:=hE.row _ _ hr;obtain⟨z,hz1,hz2,_⟩:=y85 hok;refine⟨_,p,m',h2,fun _ hq=>(by cases hq),⟨fun w0 R0 ρ w eb hm hev=>?_,⟨(fun k=>by cases k),(fun k=>by cases k),(fun _ k=>by cases k),(fun k=>by cases k),fun _ hn=>h1.up hn⟩⟩⟩;obtain⟨g1,g2⟩:=hm.alloc (o:=.cells z.cells t) h1 0 0 (fun R n' ρ' e'=>⟨_,t,(0,0),heap_alloc_new w _,xY2 _,hz2 _ _ _ _⟩);refine yR4 (u:=.pointer (some ⟨w.heap.size,0,none⟩)) (w':=w.alloc (.cells z.cells t)) ?_ ⟨_,g1,g2,by rw[h1.2];omega,by rw[p7]⟩;simp[Instr.alloc,hz1,newVar,newRow]
  ·exact h.elim
 case box t x=>
  split at h
  ·rename_i hone
   rw[qv8]at h;obtain⟨m',h1,h2⟩:=Mem.push_holds h;refine⟨_,p,m',h2,fun _ hq=>(by cases hq),⟨fun w0 R0 ρ w eb hm hev=>?_,Extra.none rfl rfl rfl rfl rfl⟩⟩;obtain⟨k1,k2⟩:=(hev x (by simp[Op.operands,Call.operands])).cells hone;obtain⟨g1,g2⟩:=hm.alloc (o:=.cells (eb x).cells t) h1 0 0 (fun R n' ρ' e'=>⟨_,t,(0,0),heap_alloc_new w _,xY2 _,j7.mono e' _ _ k1⟩);refine yR4 (u:=.pointer (some ⟨w.heap.size,0,none⟩)) (w':=w.alloc (.cells (eb x).cells t)) ?_ ⟨_,g1,g2,by rw[h1.2];omega,by rw[p7]⟩;simp[Instr.box,newVar,newRow]
  ·exact h.elim
 case build t parts=>
  obtain⟨v,h1,h2⟩:=yC2 hE h;refine⟨v,p,m,h1,fun _ _=>rfl,Extra.ofPure rfl rfl rfl rfl fun m2 w0 R0 ρ w eb hm hev=>?_⟩;obtain⟨u,h3,h4⟩:=h2 m2 w0 R0 ρ w (parts.toList.map fun x=>(x.1,eb x.2)) (PR.map ev eb _ fun x hx=>hev x.2 (by simp only[Op.operands];simpa using ⟨x.1,by simpa using hx⟩));refine yR4 (u:=u) (w':=w) ?_ (n9.same hm h4);rw[←h3]
  congr 2
  apply Array.ext';simp
 case buildSlice t n parts=>
  obtain⟨v,m',h1,h2⟩:=yC1 hE h;refine⟨v,p,m',h1,fun _ hq=>(by cases hq),⟨fun w0 R0 ρ w eb hm hev=>?_,Extra.none rfl rfl rfl rfl rfl⟩⟩;obtain⟨u,w',h3,h4⟩:=h2 w0 R0 ρ w (parts.toList.map fun x=>(x.1,eb x.2)) hm (PR.map ev eb _ fun x hx=>hev x.2 (by simp only[Op.operands];simpa using ⟨x.1,by simpa using hx⟩));refine yR4 (u:=u) (w':=w') ?_ h4;rw[←h3]
  congr 2
  apply Array.ext';simp
 case load t a=>
  obtain⟨v,h1,h2⟩:=yE3 hE h;refine⟨v,p,m,h1,fun _ _=>rfl,Extra.ofUp rfl rfl rfl rfl fun m2 hup w0 R0 ρ w eb hm hev=>?_⟩;obtain⟨u,h3,h4⟩:=h2 m2 hup w0 R0 ρ w _ hm (hev a (by simp[Op.operands,Call.operands]));exact yR4 h3 (n9.same hm h4)
 case store t a x=>
  obtain⟨m',h1,hsh,h2⟩:=yF4 hE h;refine⟨_,p,m',h1,fun _ hq=>(by cases hq),⟨fun w0 R0 ρ w eb hm hev=>?_,⟨(fun k=>by cases k),(fun k=>by cases k),(fun _ k=>by cases k),fun _=>hsh,(fun k=>by cases k)⟩⟩⟩;obtain⟨w',h3,h4,h5⟩:=h2 w0 R0 ρ w _ _ hm (hev a (by simp[Op.operands,Call.operands])) (hev x (by simp[Op.operands,Call.operands]));simp only[Go.execOp,Sem.run_bind,h3,Result.andThen_ok,Sem.run_pure];exact⟨ρ,h4,h5,rfl⟩
 case nilCheck x=>
  split at h<;>first
   |exact h.elim
   |(rename_i heq
     refine⟨_,p,m,h,fun _ _=>rfl,Extra.ofPure rfl rfl rfl rfl fun m2 w0 R0 ρ w eb hm hev=>?_⟩;have h1:=hev x (by simp[Op.operands,Call.operands]);rw[heq]at h1
     first
      |(obtain⟨_,h2⟩:=h1
        have h3:=hev x (by simp[Op.operands,Call.operands]);rw[heq]at h3;simp only[Go.execOp,h2,Sem.run_pure];rw[h2]at h3
        exact n9.same hm h3)
      |(obtain⟨b,o,h2,h4⟩:=h1
        have h3:=hev x (by simp[Op.operands,Call.operands]);rw[heq]at h3;simp only[Go.execOp,h2,Sem.run_pure];rw[h2]at h3
        exact n9.same hm h3))
 case binOp op t x y ty'=>
  obtain⟨v,h1,h2⟩:=yB8 hE h;refine⟨v,p,m,h1,fun _ _=>rfl,Extra.ofPure rfl rfl rfl rfl fun m2 w0 R0 ρ w eb hm hev=>?_⟩;obtain⟨u,h3,h4⟩:=h2 m2 w0 R0 ρ w _ _ x y (hev x (by simp[Op.operands,Call.operands])) (hev y (by simp[Op.operands,Call.operands]));exact yR4 h3 (n9.same hm h4)
 case unOp op t x=>
  obtain⟨v,h1,h2⟩:=yF6 (P:=P) h;refine⟨v,p,m,h1,fun _ _=>rfl,Extra.ofPure rfl rfl rfl rfl fun m2 w0 R0 ρ w eb hm hev=>?_⟩;obtain⟨u,h3,h4⟩:=h2 m2 w0 R0 ρ w _ (hev x (by simp[Op.operands,Call.operands]));exact yR4 h3 (n9.same hm h4)
 case convert s d x=>
  obtain⟨v,m',h1,hq',h2⟩:=yC7 hE h;refine⟨v,p,m',h1,fun _ hq=>hq' fun r e hr hd=>?_,⟨fun w0 R0 ρ w eb hm hev=>?_,Extra.none rfl rfl rfl rfl rfl⟩⟩
  ·simp only[quiet,hr]at hq
   obtain⟨de,sz,by_,ze,ty',eg,he⟩:=r;dsimp only at hd;subst hd
   cases hq
  ·obtain⟨u,w',h3,h4⟩:=h2 w0 R0 ρ w _ hm (hev x (by simp[Op.operands,Call.operands]))
   exact yR4 h3 h4
 case makeFunc fn first cap=>
  cases fn<;>try exact h.elim
  case func f=>
   refine⟨_,p,m,h,fun _ _=>rfl,Extra.ofPure rfl rfl rfl rfl fun m2 w0 R0 ρ w eb hm hev=>?_⟩;refine yR4 (u:=.func (.func f) (first.map eb) (cap.map eb)) (w':=w) (by rfl) (n9.same hm ⟨first.toList.map eb,cap.toList.map eb,?_,j7.map ev eb _ (fun x hx=>hev x (by simp[Op.operands]at hx ⊢;simp[hx])),j7.map ev eb _ fun x hx=>hev x (by simp[Op.operands]at hx ⊢;simp[hx])⟩)
   congr 1<;>(apply Array.ext';simp)
 case makeSlice t l c=>
  obtain⟨v,m',h1,h2⟩:=yE5 hE h;refine⟨v,p,m',h1,fun _ hq=>(by cases hq),⟨fun w0 R0 ρ w eb hm hev=>?_,Extra.none rfl rfl rfl rfl rfl⟩⟩;obtain⟨u,w',h3,h4⟩:=h2 w0 R0 ρ w _ _ hm (hev l (by simp[Op.operands,Call.operands])) (hev c (by simp[Op.operands,Call.operands]));exact yR4 h3 h4
 case slice t x lo hi mx=>
  obtain⟨v,m',h1,hq',h2⟩:=yF1 hE h;refine⟨v,p,m',h1,fun _ hq=>hq' (by cases mx with|none=>rfl|some _=>cases hq),⟨fun w0 R0 ρ w eb hm hev=>?_,Extra.none rfl rfl rfl rfl rfl⟩⟩
  have ho:∀y:Option Operand,(∀z,y=some z→z∈(Op.slice t x lo hi mx).operands)→zc4 (RO w0 R0 ρ w m) ρ m.next w (y.map ev) (y.map eb):=fun y hy=>by
   cases y with
   |none=>trivial
   |some y=>exact hev y (hy y rfl)
  obtain⟨u,w',h3,h4⟩:=h2 w0 R0 ρ w _ (lo.map eb) (hi.map eb) (mx.map eb) hm (hev x (by simp[Op.operands,Call.operands])) (ho lo fun z hz=>by simp[Op.operands,hz]) (ho hi fun z hz=>by simp[Op.operands,hz]) (ho mx fun z hz=>by simp[Op.operands,hz]);exact yR4 h3 h4
 case fieldAddr s x f=>
  obtain⟨v,h1,h2⟩:=yD4 hE h;refine⟨v,p,m,h1,fun _ _=>rfl,Extra.ofPure rfl rfl rfl rfl fun m2 w0 R0 ρ w eb hm hev=>?_⟩;obtain⟨u,h3,h4⟩:=h2 m2 w0 R0 ρ w _ (hev x (by simp[Op.operands,Call.operands]));exact yR4 h3 (n9.same hm h4)
 case field s x f=>
  obtain⟨v,h1,h2⟩:=yD5 hE h;refine⟨v,p,m,h1,fun _ _=>rfl,Extra.ofPure rfl rfl rfl rfl fun m2 w0 R0 ρ w eb hm hev=>?_⟩;obtain⟨u,h3,h4⟩:=h2 m2 w0 R0 ρ w _ (hev x (by simp[Op.operands,Call.operands]));exact yR4 h3 (n9.same hm h4)
 case indexAddr t x ix=>
  obtain⟨v,h1,h2⟩:=yD8 hE h;refine⟨v,p,m,h1,fun _ _=>rfl,Extra.ofShape rfl rfl rfl rfl fun m2 hsh w0 R0 ρ w eb hm hev=>?_⟩;obtain⟨u,h3,h4⟩:=h2 m2 hsh w0 R0 ρ w _ _ hm (hev x (by simp[Op.operands,Call.operands])) (hev ix (by simp[Op.operands,Call.operands]));exact yR4 h3 (n9.same hm h4)
 case index t x ix=>
  obtain⟨v,h1,h2⟩:=yD9 hE h;refine⟨v,p,m,h1,fun _ _=>rfl,Extra.ofPure rfl rfl rfl rfl fun m2 w0 R0 ρ w eb hm hev=>?_⟩;obtain⟨u,h3,h4⟩:=h2 m2 w0 R0 ρ w _ _ (hev x (by simp[Op.operands,Call.operands])) (hev ix (by simp[Op.operands,Call.operands]));exact yR4 h3 (n9.same hm h4)
 case range t x=>
  split at h
  ·rename_i sz by_ ze ty' eg he hr
   obtain⟨v,m',h1,h2⟩:=yE9 (P:=P) h;refine⟨v,p,m',h1,fun _ hq=>(by cases hq),⟨fun w0 R0 ρ w eb hm hev=>?_,Extra.none rfl rfl rfl rfl rfl⟩⟩;obtain⟨u,w',h3,h4⟩:=h2 t w0 R0 ρ w _ (hE.row _ _ hr).und hm (hev x (by simp[Op.operands,Call.operands]));exact yR4 h3 h4
  ·exact h.elim
 case next x isString=>
  cases isString with
  |false=>exact h.elim
  |true=>
   obtain⟨v,p',m',h1,h2⟩:=yE7 (P:=P) h;refine⟨v,p',m',h1,fun _ hq=>(by cases hq),⟨fun w0 R0 ρ w eb hm hev=>?_,Extra.none rfl rfl rfl rfl rfl⟩⟩;obtain⟨u,w',h3,h4⟩:=h2 ty w0 R0 ρ w _ hm (hev x (by simp[Op.operands,Call.operands]));exact yR4 h3 h4
 case extract x i=>
  obtain⟨v,h1,h2⟩:=yD1 (P:=P) h;refine⟨v,p,m,h1,fun _ _=>rfl,Extra.ofPure rfl rfl rfl rfl fun m2 w0 R0 ρ w eb hm hev=>?_⟩;obtain⟨u,h3,h4⟩:=h2 m2 w0 R0 ρ w _ (hev x (by simp[Op.operands,Call.operands]));exact yR4 h3 (n9.same hm h4)
 case makeInterface t x=>
  split at h
  ·rename_i r hr
   split at h
   ·rename_i hi
    split at h
    ·rename_i v hv
     refine⟨_,p,m,h,fun _ _=>rfl,fun w0 R0 ρ w eb hm hev=>?_,Extra.none rfl rfl rfl rfl rfl⟩;have h1:=xJ5 hv (hev x (by simp[Op.operands,Call.operands]));have hu:=(hE.row _ _ hr).und;refine yR4 (u:=.iface t v) (w':=w) ?_ ⟨ρ,hm,Ext.refl _ _ _ _,rfl⟩;simp only[Instr.makeInterface,Sem.run_bind,run_underlying hu,Result.andThen_ok,h1]
     cases hd:r.desc<;>first|rfl|(rw[hd]at hi;cases hi)
    ·exact h.elim
   ·exact h.elim
  ·exact h.elim
 case typeAssert x xt t ok=>
  cases ok with
  |false=>exact h.elim
  |true=>
   dsimp only at h
   split at h
   ·rename_i r hr
    have hok:=hE.row _ _ hr
    split at h
    ·rename_i hi
     split at h
     ·rename_i u hx
      split at h
      ·split at h
       ·rename_i z hzv
        obtain⟨i,g1,g2⟩:=hE.zv t z hzv
        have hz:∀w,(zeroValue t).run P w=.ok z w:=fun w=>by simp only[zeroValue,typeInfo,Sem.run_bind,run_program,Result.andThen_ok,g1,Sem.run_pure,g2]
        refine⟨_,p,m,h,fun _ _=>rfl,fun w0 R0 ρ w eb hm hev=>?_,Extra.none rfl rfl rfl rfl rfl⟩
        have h1:eb x=.nilIface:=by have:=hev x (by simp[Op.operands,Call.operands]);rw[hx]at this;exact this
        refine yR4 (u:=.tuple #[z,.bool false]) (w':=w) ?_ ⟨ρ,hm,Ext.refl _ _ _ _,_,rfl,_,_,rfl,yx9 _ _ _ _ _,_,_,rfl,rfl,rfl⟩;simp only[h1,Sem.run_bind,y81 hok.und hi hz,Result.andThen_ok,Sem.run_pure]
       ·exact h.elim
      ·rename_i t' v
       split at h
       ·rename_i ht
        have ht:=Nat.eq_of_beq_eq_true ht;subst ht;refine⟨_,p,m,h,fun _ _=>rfl,fun w0 R0 ρ w eb hm hev=>?_,Extra.none rfl rfl rfl rfl rfl⟩
        have h1:eb x=.iface t' v:=by have:=hev x (by simp[Op.operands,Call.operands]);rw[hx]at this;exact this
        refine yR4 (u:=.tuple #[v,.bool true]) (w':=w) ?_ ⟨ρ,hm,Ext.refl _ _ _ _,_,rfl,_,_,rfl,yx9 _ _ _ _ _,_,_,rfl,rfl,rfl⟩;simp only[h1,Sem.run_bind,y80 hok.und hi,Result.andThen_ok,Sem.run_pure]
       ·exact h.elim
      ·exact h.elim
     ·exact h.elim
    ·exact h.elim
   ·exact h.elim
 case call c=>
  unfold yC5 at h
  split at h
  ·rename_i b hb
   obtain⟨v,p',m',h1,hq',hsh,h2⟩:=yC4 hE h;refine⟨v,p',m',h1,fun _ hq=>hq' (fun hb'=>by obtain⟨ca,aa,ta⟩:=c;dsimp only at hb;subst hb hb';cases hq) (fun hb'=>by obtain⟨ca,aa,ta⟩:=c;dsimp only at hb;subst hb hb';cases hq),⟨fun w0 R0 ρ w eb hm hev=>?_,?_⟩⟩
   ·have key:∀cs,zc1 P (n9 w0 R0 ρ w m v m') ((Go.builtin b c.argTypes ty cs (c.args.map eb)).run P w):=fun cs=>by
     obtain⟨u,w',h3,h4⟩:=h2 ty cs w0 R0 ρ w (c.args.toList.map eb) hm (j7.map ev eb _ fun x hx=>hev x (by simp[Op.operands,Call.operands]at hx ⊢;simp[hx]))
     have e1:c.argTypes.toList.toArray=c.argTypes:=by simp
     have e2:(c.args.toList.map eb).toArray=c.args.map eb:=by apply Array.ext';simp
     rw[e1,e2]at h3;rw[h3];exact h4
    simp only[Go.execOp,resolve,hb,pure_bind,invoke];exact key _
   ·obtain⟨ca,aa,ta⟩:=c
    dsimp only at hb;subst hb;refine⟨(fun k=>by cases k),fun k m2 hsh2 w0 R0 ρ w eb hm hev=>?_,(fun _ k=>by cases k),(fun k=>by cases k),(fun k=>by cases k)⟩
    have hlen:b=.len:=by cases b<;>first|rfl|(cases k;done)
    have key:∀cs,zc1 P (n9 w0 R0 ρ w m2 v m2) ((Go.builtin b ta ty cs (aa.map eb)).run P w):=fun cs=>by
     obtain⟨u,w',h3,h4⟩:=hsh hlen m2 hsh2 ty cs w0 R0 ρ w (aa.toList.map eb) hm (j7.map ev eb _ fun x hx=>hev x (by simp[Op.operands,Call.operands]at hx ⊢;simp[hx]))
     have e1:ta.toList.toArray=ta:=by simp
     have e2:(aa.toList.map eb).toArray=aa.map eb:=by apply Array.ext';simp
     rw[e1,e2]at h3;rw[h3];exact h4
    simp only[Go.execOp,resolve,pure_bind,invoke];exact key _
  ·rename_i f hf
   split at h
   ·rename_i k first cap hk
    obtain⟨v,p',m',h1,hq',h2⟩:=hcall _ _ _ _ _ _ h;have key:∀m1 m1',zd6 P m1 v m1' k (first++(c.args.toList.map ev++cap))→zd7 P m1 v m1' ⟨dst,.call c,ty,pos,after,guard⟩ ev:=?key;refine⟨v,p',m',h1,fun hQ _=>(hq' hQ).1,key _ _ h2,⟨(fun k=>by cases k),fun k=>?_,fun hQ _ m2 _=>key _ _ ((hq' hQ).2 m2),(fun k=>by cases k),(fun k=>by cases k)⟩⟩
    ·obtain⟨ca,aa,ta⟩:=c
     dsimp only at hf;subst hf
     cases k
    intro m1 m1' h2 w0 R0 ρ w eb hm hev;have h3:=hev f (by simp[Op.operands,Call.operands,hf]);rw[hk]at h3;obtain⟨vs,us,h4,h5,h6⟩:=h3;have h7:=h2 w0 R0 ρ w (vs++(c.args.toList.map eb++us)) hm (h5.append ((j7.map ev eb _ fun x hx=>hev x (by simp[Op.operands,Call.operands]at hx ⊢;simp[hx])).append h6));simp only[Go.execOp,resolve,hf,h4,Deferred.ofValue,pure_bind,invoke]
    have e:(vs++(c.args.toList.map eb++us)).toArray=(⟨vs⟩:Array Value)++c.args.map eb++⟨us⟩:=by apply Array.ext';simp
    rw[e]at h7;exact h7
   ·exact h.elim
  ·exact h.elim
end
section
variable {P:Program} {E:Env} {α:Type}
def zb4(R:Nat→Prop)(ρ:Rho)(n:Nat)(w:World)(fr:Fr)(tmps:Array Value):Prop:=
 fr.size=tmps.size∧∀t,Rep R ρ n w (fr.get t) (tmps.getD t Go.undef)
theorem zb4.mono{R R':Nat→Prop}{ρ ρ':Rho}{n n':Nat}{w w':World}(e:Ext R ρ n w R' ρ' n' w'){fr:Fr}{tmps:Array Value}(h:zb4 R ρ n w fr tmps):zb4 R' ρ' n' w' fr tmps:=⟨h.1,fun t=>Rep.mono e _ _ (h.2 t)⟩
def zb5(fr:Fr)(d:Option Tmp)(v:SV)(fr':Fr):Prop:=
 fr'.size=fr.size∧(∀t,d=some t→t<fr.size)∧∀t,fr'.get t=if d=some t then v else fr.get t
theorem Fr.set_holds{fr:Fr}{t:Nat}{v:SV}{k:Fr→Tree α}{L:α→Prop}(h:(fr.set t v k).holds L):∃fr',zb5 fr (some t) v fr'∧(k fr').holds L:=by
 unfold Fr.set at h
 split at h
 ·rename_i hlt
  obtain⟨tb,h1,h2⟩:=qG7 _ _ _ _ _ h;refine⟨⟨fr.size,tb⟩,⟨rfl,fun u hu=>?_,fun u=>?_⟩,h2⟩
  ·injection hu with hu;subst hu;exact Nat.le_of_ble_eq_true hlt
  ·unfold Fr.get
   rw[h1 u]
   by_cases hu:u=t
   ·subst hu;simp
   ·have:¬(some t=some u):=fun h=>hu (by injection h with h;exact h.symm)
    rw[if_neg hu,if_neg this]
 ·exact h.elim
theorem yT0{fr:Fr}{d:Option Tmp}{v:SV}{k:Fr→Tree α}{L:α→Prop}(h:(yS9 fr d v k).holds L):∃fr',zb5 fr d v fr'∧(k fr').holds L:=by
 cases d with
 |none=>exact⟨fr,⟨rfl,fun t ht=>(by cases ht),fun t=>by simp⟩,h⟩
 |some t=>exact Fr.set_holds h
theorem zb4.put{R:Nat→Prop}{ρ:Rho}{n:Nat}{w:World}{fr fr':Fr}{a:Act}{d:Option Tmp}{v:SV}{u:Value}(h:zb4 R ρ n w fr a.tmps)(hf:zb5 fr d v fr')(hv:Rep R ρ n w v u):zb4 R ρ n w fr' (a.put d u).tmps:=by
 obtain⟨f1,f2,f3⟩:=hf
 cases d with
 |none=>exact⟨f1.trans h.1,fun t=>by rw[f3 t];simpa[Act.put]using h.2 t⟩
 |some d=>
  refine⟨by simp[Act.put,f1,h.1],fun t=>?_⟩;rw[f3 t]
  have hd:d<a.tmps.size:=by rw[←h.1];exact f2 d rfl
  by_cases ht:d=t
  ·subst ht
   simp[Act.put,Array.getElem?_setIfInBounds,hd];exact hv
  ·have:¬(some d=some t):=fun e=>ht (by injection e)
   rw[if_neg this];have h2:=h.2 t
   simpa[Act.put,Array.getElem?_setIfInBounds_ne ht]using h2
theorem zb4.eval{R:Nat→Prop}{ρ:Rho}{n:Nat}{w:World}{fr:Fr}{a:Act}(h:zb4 R ρ n w fr a.tmps)(x:Operand):Rep R ρ n w (o7 fr x) (a.eval x):=by
 cases x with
 |tmp t=>exact h.2 t
 |const v=>exact yx9 v _ _ _ _
 |global g=>rfl
 |func f=>exact⟨[],[],rfl,rfl,rfl⟩
def qC3(all:List Oper)(get:Nat→SV)(o:Oper):Option Bool:=
 match o.guard with
 |none=>some true
 |some (j,want)=>match(all[j]?).bind (·.dst)with
  |some d=>match get d with
   |.bool b=>some (b==want)
   |.undef=>some false
   |_=>none
  |none=>none
theorem jc6{R:Nat→Prop}{ρ:Rho}{n:Nat}{w:World}{all:List Oper}{get:Nat→SV}{tmps:Array Value}{o:Oper}{g:Bool}(h:∀j want d,o.guard=some (j,want)→(all[j]?).bind (·.dst)=some d→Rep R ρ n w (get d) (tmps.getD d Go.undef))(hg:qC3 all get o=some g):
  Region.wanted o (yielded all.toArray tmps)=g:=by
 unfold qC3 at hg;unfold Region.wanted
 cases ho:o.guard with
 |none=>rw[ho]at hg;injection hg
 |some jw=>
  obtain⟨j,want⟩:=jw;rw[ho]at hg;dsimp only at hg ⊢
  cases hd:(all[j]?).bind (·.dst)with
  |none=>rw[hd]at hg;cases hg
  |some d=>
   rw[hd]at hg;dsimp only at hg;have hr:=h j want d ho hd
   have e:yielded all.toArray tmps j=match tmps[d]? with|some (.bool b)=>some b|_=>none:=by
    unfold yielded
    have:(all.toArray[j]?).bind (·.dst)=some d:=by simpa using hd
    rw[this];rfl
   rw[e]
   split at hg
   ·rename_i b hb
    injection hg with hg;rw[hb]at hr;have hr':tmps.getD d Go.undef=.bool b:=hr
    have:tmps[d]? =some (.bool b):=by
     rw[Array.getD_eq_getD_getElem?]at hr'
     cases ht:tmps[d]? with
     |none=>rw[ht]at hr';simp[Go.undef]at hr'
     |some x=>rw[ht]at hr';simpa using hr'
    rw[this,←hg]
    cases b<;>cases want<;>rfl
   ·rename_i hb
    injection hg with hg;rw[hb]at hr;have hr':tmps.getD d Go.undef=Go.undef:=hr
    have:(match tmps[d]? with|some (.bool b)=>some b|_=>none)=(none:Option Bool):=by
     rw[Array.getD_eq_getD_getElem?]at hr'
     cases ht:tmps[d]? with
     |none=>rfl
     |some x=>rw[ht]at hr';simp at hr';subst hr';rfl
    rw[this,←hg];rfl
   ·cases hg
theorem xY9{o:Oper}{a:Act}{K:Act→World→Prop}{Q:Exit→Act→World→Prop}{Φ:Value→World→Prop}(h:∀u w',Φ u w'→K (a.put o.dst u) w'):∀{r:Result Next},zc1 P Φ r→o.upon P a K Q r
 |.ok (.value v) w,k=>h v w k
 |.ok .skip w,k=>h _ w k
 |.ok (.enter f args) w,k=>Calls.mono k fun e w' ⟨v,he,hv⟩=>by subst he;exact h v w' hv
def ze1(P:Program)(all:List Oper)(o:Oper)(fr:Fr)(m:Mem)(v:SV)(m':Mem):Prop:=
 (qC3 all fr.get o=some true∧zd7 P m v m' o (o7 fr))∨(qC3 all fr.get o=some false∧v=.undef∧m'=m)
inductive Chain (P:Program) (all:List Oper):List Oper→Fr→Mem→Fr→Mem→Prop where
 |nil (fr:Fr) (m:Mem):Chain P all [] fr m fr m
 |cons {o:Oper} {rest:List Oper} {fr fr1 fr':Fr} {m m1 m':Mem} {v:SV} (h:ze1 P all o fr m v m1) (hf:zb5 fr o.dst v fr1) (k:Chain P all rest fr1 m1 fr' m'):Chain P all (o::rest) fr m fr' m'
structure MoreOK (P:Program) (E:Env) (Q:Bool) (all:List Oper) (o:Oper) (fr:Fr) (m:Mem) (v:SV) (m':Mem):Prop where
 quiet:Q=true→quiet E o.op=true→m'=m
 more:qC3 all fr.get o=some true→Extra P Q m v m' o (o7 fr)
 store:qP2 o.op=true→zd9 m m'∧zd9 m' m
 alloc:qO6 o.op=true→m.get m.next=none→Up m m'
theorem yA2(hE:EOK P E){Q:Bool}{call:za4 α}(hcall:za5 P Q call){let_:Op→Bool}{all:List Oper}{o:Oper}{ih:zc2 α}{p:Plan}{fr:Fr}{m:Mem}{L:α→Prop}(h:(yz6 E let_ call all o ih p fr m).holds L):
  ∃p' v fr1 m1,(ih p' fr1 m1).holds L∧ze1 P all o fr m v m1∧zb5 fr o.dst v fr1∧MoreOK P E Q all o fr m v m1:=by
 have run:∀ (p:Plan) (fr2:Fr),(∀t,fr2.get t=fr.get t)→fr2.size=fr.size→qC3 all fr.get o=some true→((match let_ o.op with
   |true=>execOp E call (o7 fr2) o.op p m fun v p m=>yS9 fr2 o.dst v fun fr=>ih p fr m
   |false=>.fail 133:Tree α)).holds L→∃p' v fr1 m1,(ih p' fr1 m1).holds L∧ze1 P all o fr m v m1∧zb5 fr o.dst v fr1∧MoreOK P E Q all o fr m v m1:=by
  intro p fr2 hg hs hgv h
  split at h
  ·rename_i hlo
   obtain⟨v,p',m1,h1,h2,h3⟩:=z17 hE hcall h;obtain⟨fr1,h4,h5⟩:=yT0 h1
   have he:o7 fr2=o7 fr:=funext fun x=>by cases x<;>simp[o7,hg]
   rw[he]at h3;exact⟨p',v,fr1,m1,h5,.inl ⟨hgv,h3.1⟩,⟨h4.1.trans hs,fun t ht=>by rw[←hs];exact h4.2.1 t ht,fun t=>by rw[h4.2.2 t,hg t]⟩,⟨h2,fun _=>h3.2,h3.2.store,h3.2.alloc⟩⟩
  ·exact h.elim
 have skip:∀ (p:Plan) (fr2:Fr),(∀t,fr2.get t=fr.get t)→fr2.size=fr.size→qC3 all fr.get o=some false→(yS9 fr2 o.dst .undef fun fr=>ih p fr m).holds L→∃p' v fr1 m1,(ih p' fr1 m1).holds L∧ze1 P all o fr m v m1∧zb5 fr o.dst v fr1∧MoreOK P E Q all o fr m v m1:=by
  intro p fr2 hg hs hgv h;obtain⟨fr1,h4,h5⟩:=yT0 h;exact⟨p,.undef,fr1,m,h5,.inr ⟨hgv,rfl,rfl⟩,⟨h4.1.trans hs,fun t ht=>by rw[←hs];exact h4.2.1 t ht,fun t=>by rw[h4.2.2 t,hg t]⟩,⟨fun _ _=>rfl,fun h=>(by rw[hgv]at h;cases h),fun _=>⟨zd9.refl m,zd9.refl m⟩,fun _ _=>Up.refl m⟩⟩
 unfold yz6 at h
 cases hg:o.guard with
 |none=>
  rw[hg]at h;exact run p fr (fun _=>rfl) rfl (by simp[qC3,hg]) h
 |some jw=>
  rw[hg]at h;dsimp only at h;rw[yd7]at h
  split at h
  ·rename_i oj hoj
   split at h
   ·rename_i d hd
    have hb:(all[jw.1]?).bind (·.dst)=some d:=by rw[hoj];exact hd
    split at h
    ·rename_i b hfr
     obtain⟨p',h⟩:=zQ8 h;obtain⟨fr2,h1,h2⟩:=Fr.set_holds h
     have hget:∀t,fr2.get t=fr.get t:=fun t=>by
      rw[h1.2.2 t]
      by_cases ht:some d=some t
      ·injection ht with ht;subst ht;rw[if_pos rfl,hfr]
      ·rw[if_neg ht]
     split at h2
     ·rename_i hbw
      exact run p' fr2 hget h1.1 (by simp only[qC3,hg,hb,hfr];rw[hbw]) h2
     ·rename_i hbw
      exact skip p' fr2 hget h1.1 (by simp only[qC3,hg,hb,hfr];rw[hbw]) h2
    ·rename_i hfr
     exact skip p fr (fun _=>rfl) rfl (by simp only[qC3,hg,hb,hfr]) h
    ·exact h.elim
   ·exact h.elim
  ·exact h.elim
def zd5(ds:List Deferred)(w0:World)(R0:RSet)(ρ:Rho)(w:World)(fr:Fr)(m:Mem)(a:Act):Prop:=
 MRel w0 R0 ρ w m∧zb4 (RO w0 R0 ρ w m) ρ m.next w fr a.tmps∧a.defers=ds
abbrev zd4(w0:World)(R0:RSet)(ρ:Rho)(w:World)(fr:Fr)(m:Mem)(a:Act):Prop:=zd5 [] w0 R0 ρ w fr m a
theorem yT1(a:Act)(d:Option Tmp)(v:Value):(a.put d v).defers=a.defers:=by cases d<;>rfl
theorem xF6{ds:List Deferred}{w0:World}{R0:RSet}{ρ:Rho}{w:World}{fr fr1:Fr}{m m1:Mem}{a:Act}{all:List Oper}{o:Oper}{v:SV}(hs:zd5 ds w0 R0 ρ w fr m a)(h:ze1 P all o fr m v m1)(hf:zb5 fr o.dst v fr1){K:Act→World→Prop}{Q:Exit→Act→World→Prop}
  (hK:∀ρ' w' a',zd5 ds w0 R0 ρ' w' fr1 m1 a'→n7 w0 R0 ρ w m ρ' w' m1→K a' w'):if Region.wanted o (yielded all.toArray a.tmps)then o.wp P a w K Q∨(o.asks P a w∧LetsOut Q)else K (a.put o.dst Go.undef) w:=by
 obtain⟨hm,hfr,hd⟩:=hs;rcases h with⟨hg,hsem⟩|⟨hg,rfl,rfl⟩
 ·rw[jc6 (fun j want d _ _=>hfr.2 d) hg]
  refine .inl (xY9 (fun u w' hu=>?_) (hsem w0 R0 ρ w a.eval hm (fun x _=>hfr.eval x)));obtain⟨ρ',g1,g2,g3⟩:=hu;exact hK ρ' w' _ ⟨g1,(hfr.mono g2).put hf g3,by rw[yT1];exact hd⟩ g2
 ·rw[jc6 (fun j want d _ _=>hfr.2 d) hg]
  exact hK ρ w _ ⟨hm,hfr.put hf rfl,by rw[yT1];exact hd⟩ (Ext.refl _ _ _ _)
theorem zI1{ds:List Deferred}{w0:World}{R0:RSet}{all:List Oper}{Q:Exit→Act→World→Prop}:∀{ops:List Oper} {fr fr':Fr} {m m':Mem},Chain P all ops fr m fr' m'→∀ (i:Nat),all.drop i=ops→∀ (ρ:Rho) (w:World) (a:Act),zd5 ds w0 R0 ρ w fr m a→
  (∀ρ' w' a',zd5 ds w0 R0 ρ' w' fr' m' a'→n7 w0 R0 ρ w m ρ' w' m'→Q .normal a' w')→wpOps P all.toArray Q (List.range' i ops.length) a w:=by
 intro ops fr fr' m m' h
 induction h with
 |nil fr m=>intro i hi ρ w a hs hQ;exact hQ ρ w a hs (Ext.refl _ _ _ _)
 |@cons o rest fr fr1 fr' m m1 m' v hst hf k ih=>
  intro i hi ρ w a hs hQ
  have hoi:all[i]? =some o:=by
   have:(all.drop i)[0]? =some o:=by rw[hi];rfl
   simpa using this
  have hrest:all.drop (i+1)=rest:=by
   have:(all.drop i).drop 1=rest:=by rw[hi];rfl
   rw[List.drop_drop]at this;exact this
  rw[List.length_cons,List.range'_succ];unfold wpOps
  have hoi':all.toArray[i]? =some o:=by simpa using hoi
  rw[hoi']
  exact xF6 hs hst hf fun ρ' w' a' hs' he=>ih (i+1) hrest ρ' w' a' hs' fun ρ2 w2 a2 hs2 he2=>hQ ρ2 w2 a2 hs2 (he.trans he2)
def zc7(P:Program)(Φ:Value→World→Prop):Result Next→Prop
 |.halt (.panic u) w=>Φ u w
 |.ok (.enter f args) w=>Calls P f args w fun e w'=>∃u,e=.panicked [{v:=u,recovered:=false}] ∧Φ u w'
 |_=>False
def zd8(P:Program)(m:Mem)(v:SV)(m':Mem)(o:Oper)(ev:Operand→SV):Prop:=
 ∀w0 R0 ρ w (eb:Operand→Value),MRel w0 R0 ρ w m→(∀x∈o.op.operands,Rep (RO w0 R0 ρ w m) ρ m.next w (ev x) (eb x))→zc7 P (n9 w0 R0 ρ w m v m') ((Go.execOp eb o).run P w)
def zc6(P:Program)(m:Mem)(v:SV)(m':Mem)(f:FuncId)(args:List SV):Prop:=
 ∀w0 R0 ρ w (vs:List Value),MRel w0 R0 ρ w m→j7 (RO w0 R0 ρ w m) ρ m.next w args vs→zc7 P (n9 w0 R0 ρ w m v m') ((Go.callFunc f vs.toArray).run P w)
def ze6(P:Program)(f:FuncId)(args:List SV)(m:Mem):Ex→Prop
 |.ok v m'=>zd6 P m v m' f args
 |.pan v m'=>zc6 P m v m' f args
inductive ChainP (P:Program) (all:List Oper):List Oper→Fr→Mem→SV→Fr→Mem→Prop where
 |here {o:Oper} {rest:List Oper} {fr:Fr} {m m':Mem} {v:SV} (hg:o.guard=none) (h:zd8 P m v m' o (o7 fr)):ChainP P all (o::rest) fr m v fr m'
 |next {o:Oper} {rest:List Oper} {fr fr1 fr':Fr} {m m1 m':Mem} {v u:SV} (h:ze1 P all o fr m u m1) (hf:zb5 fr o.dst u fr1) (k:ChainP P all rest fr1 m1 v fr' m'):ChainP P all (o::rest) fr m v fr' m'
theorem zH9{ds:List Deferred}{w0:World}{R0:RSet}{all:List Oper}{Q:Exit→Act→World→Prop}:∀{ops:List Oper} {fr fr':Fr} {m m':Mem} {v:SV},ChainP P all ops fr m v fr' m'→∀ (i:Nat),all.drop i=ops→∀ (ρ:Rho) (w:World) (a:Act),zd5 ds w0 R0 ρ w fr m a→
  (∀ρ' w' a' u,zd5 ds w0 R0 ρ' w' fr' m' a'→n7 w0 R0 ρ w m ρ' w' m'→Rep (RO w0 R0 ρ' w' m') ρ' m'.next w' v u→Q (.panic [{v:=u,recovered:=false}]) a' w')→wpOps P all.toArray Q (List.range' i ops.length) a w:=by
 intro ops fr fr' m m' v h
 induction h with
 |@here o rest fr m m' v hg hsem=>
  intro i hi ρ w a hs hQ
  have hoi:all[i]? =some o:=by
   have:(all.drop i)[0]? =some o:=by rw[hi];rfl
   simpa using this
  rw[List.length_cons,List.range'_succ];unfold wpOps
  have hoi':all.toArray[i]? =some o:=by simpa using hoi
  rw[hoi'];obtain⟨hm,hfr,hd⟩:=hs;have hw:Region.wanted o (yielded all.toArray a.tmps)=true:=jc6 (get:=fr.get) (fun j want d _ _=>hfr.2 d) (by simp[qC3,hg]);dsimp only;rw[hw];refine .inl ?_
  have h1:=hsem w0 R0 ρ w a.eval hm fun x _=>hfr.eval x
  unfold Oper.wp;generalize (Go.execOp a.eval o).run P w=r at h1
  have out:∀u w',n9 w0 R0 ρ w m v m' u w'→Q (.panic [{v:=u,recovered:=false}]) a w':=fun u w' ⟨ρ',g1,g2,g3⟩=>hQ ρ' w' a u ⟨g1,hfr.mono g2,hd⟩ g2 g3
  match r,h1 with
  |.halt (.panic u) w',h1=>exact out u w' h1
  |.ok (.enter f args) w',h1=>
   rw[Oper.upon_enter]
   exact Calls.mono h1 fun e w'' ⟨u,he,hu⟩=>by subst he;exact out u w'' hu
 |@next o rest fr fr1 fr' m m1 m' v u hst hf k ih=>
  intro i hi ρ w a hs hQ
  have hoi:all[i]? =some o:=by
   have:(all.drop i)[0]? =some o:=by rw[hi];rfl
   simpa using this
  have hrest:all.drop (i+1)=rest:=by
   have:(all.drop i).drop 1=rest:=by rw[hi];rfl
   rw[List.drop_drop]at this;exact this
  rw[List.length_cons,List.range'_succ];unfold wpOps
  have hoi':all.toArray[i]? =some o:=by simpa using hoi
  rw[hoi']
  exact xF6 hs hst hf fun ρ' w' a' hs' he=>ih (i+1) hrest ρ' w' a' hs' fun ρ2 w2 a2 u2 hs2 he2 hr2=>hQ ρ2 w2 a2 u2 hs2 (he.trans he2) hr2
end
theorem zz1{a b:Nat}(h:Nat.beq a b=false):a≠b:=fun e=>by subst e;simp at h
mutual
theorem Rep.bound{R:Nat→Prop}{ρ:Rho}{n:Nat}{w:World}{k:Nat}:∀ (x:SV) (v:Value),Rep R ρ n w x v→q46 k x=true→k<n
 |.undef,_,_,h=>by cases h
 |.top,_,_,h=>by cases h
 |.int _ _,_,_,h=>by cases h
 |.bool _,_,_,h=>by cases h
 |.str _,_,_,h=>by cases h
 |.nilS,_,_,h=>by cases h
 |.list _ _,_,_,h=>by cases h
 |.row id,_,hr,h=>by rw[←Nat.eq_of_beq_eq_true (show Nat.beq id k=true from h)];exact hr.1
 |.arr id _ _,_,hr,h=>by rw[←Nat.eq_of_beq_eq_true (show Nat.beq id k=true from h)];exact hr.1
 |.ptr id _,_,hr,h=>by rw[←Nat.eq_of_beq_eq_true (show Nat.beq id k=true from h)];exact hr.1
 |.nilP,_,_,h=>by cases h
 |.eptr _ _ _ _,_,_,h=>by cases h
 |.rptr id _ _ _,_,hr,h=>by rw[←Nat.eq_of_beq_eq_true (show Nat.beq id k=true from h)];exact hr.1
 |.agg cs,_,hr,h=>by
  obtain⟨vs,_,h2⟩:=hr;exact j7.bound cs vs h2 h
 |.tuple cs,_,hr,h=>by
  obtain⟨vs,_,h2⟩:=hr;exact j7.bound cs vs h2 h
 |.fn f a b,_,hr,h=>by
  obtain⟨vs,us,_,h2,h3⟩:=hr;have h:(q48 k a||q48 k b)=true:=h;rcases Bool.or_eq_true _ _▸h with h|h
  ·exact j7.bound a vs h2 h
  ·exact j7.bound b us h3 h
 |.raw _,_,_,h=>by cases h
theorem j7.bound{R:Nat→Prop}{ρ:Rho}{n:Nat}{w:World}{k:Nat}:∀ (xs:List SV) (vs:List Value),j7 R ρ n w xs vs→q48 k xs=true→k<n
 |[],_,_,h=>by cases h
 |x::xs,_,hr,h=>by
  obtain⟨u,us,_,h2,h3⟩:=hr;have h:(q46 k x||q48 k xs)=true:=h;rcases Bool.or_eq_true _ _▸h with h|h
  ·exact Rep.bound x u h2 h
  ·exact j7.bound xs us h3 h
end
mutual
theorem Rep.upd{R:Nat→Prop}{ρ:Rho}{n:Nat}{w:World}{k:Nat}{r:Nat×Nat×Nat}:∀ (x:SV) (v:Value),q46 k x=false→Rep R ρ n w x v→Rep R (Go.Sx.upd ρ k r) n w x v
 |.undef,_,_,h=>h
 |.top,_,_,_=>trivial
 |.int _ _,_,_,h=>h
 |.bool _,_,_,h=>h
 |.str _,_,_,h=>h
 |.nilS,_,_,h=>h
 |.list _ _,_,_,h=>h
 |.row id,_,hm,h=>by
  have hne:=zz1 (show Nat.beq id k=false from hm);exact⟨h.1,by rw[t6 _ _ hne];exact h.2⟩
 |.arr id _ _,_,hm,h=>by
  have hne:=zz1 (show Nat.beq id k=false from hm);exact⟨h.1,by rw[t6 _ _ hne];exact h.2⟩
 |.ptr id _,_,hm,h=>by
  have hne:=zz1 (show Nat.beq id k=false from hm);exact⟨h.1,by rw[t6 _ _ hne];exact h.2⟩
 |.nilP,_,_,h=>h
 |.eptr _ _ _ _,_,_,h=>h
 |.rptr id _ _ _,_,hm,h=>by
  have hne:=zz1 (show Nat.beq id k=false from hm);exact⟨h.1,by rw[t6 _ _ hne];exact h.2⟩
 |.agg cs,_,hm,h=>by
  obtain⟨vs,h1,h2⟩:=h;exact⟨vs,h1,j7.upd cs vs hm h2⟩
 |.tuple cs,_,hm,h=>by
  obtain⟨vs,h1,h2⟩:=h;exact⟨vs,h1,j7.upd cs vs hm h2⟩
 |.fn f a b,_,hm,h=>by
  obtain⟨vs,us,h1,h2,h3⟩:=h;have hm:(q48 k a||q48 k b)=false:=hm;rw[Bool.or_eq_false_iff]at hm;exact⟨vs,us,h1,j7.upd a vs hm.1 h2,j7.upd b us hm.2 h3⟩
 |.raw _,_,_,h=>h
theorem j7.upd{R:Nat→Prop}{ρ:Rho}{n:Nat}{w:World}{k:Nat}{r:Nat×Nat×Nat}:∀ (xs:List SV) (vs:List Value),q48 k xs=false→j7 R ρ n w xs vs→j7 R (Go.Sx.upd ρ k r) n w xs vs
 |[],_,_,h=>h
 |x::xs,_,hm,h=>by
  obtain⟨u,us,h1,h2,h3⟩:=h;have hm:(q46 k x||q48 k xs)=false:=hm;rw[Bool.or_eq_false_iff]at hm;exact⟨u,us,h1,Rep.upd x u hm.1 h2,j7.upd xs us hm.2 h3⟩
end
theorem za2.upd{R:Nat→Prop}{ρ:Rho}{n:Nat}{w:World}{k:Nat}{r r':Nat×Nat×Nat}:∀ (B:Box),q47 k (some B)=false→za2 R ρ n w r B→za2 R (Go.Sx.upd ρ k r') n w r B
 |.cells cs,hm,h=>by
  obtain⟨arr,e,fr,h1,h2,h3⟩:=h;exact⟨arr,e,fr,h1,h2,j7.upd cs _ hm h3⟩
 |.rows _ _,_,h=>h
 |.iter _ _,_,h=>h
 |.obj t cs,hm,h=>by
  obtain⟨arr,h1,h3⟩:=h;exact⟨arr,h1,j7.upd cs _ hm h3⟩
theorem MRel.allocAt{w0:World}{R0:RSet}{ρ:Rho}{w:World}{m m':Mem}(hm:MRel w0 R0 ρ w m){k:Nat}(hk:k<m.next)(hn:m.get k=none)(hB:∀id B,m.get id=some B→q47 k (some B)=false){cs:List SV}{arr:Array Value}{e:TypeId}
  (hg:∀id,m'.get id=if id=k then some (.cells cs)else m.get id) (hnx:m'.next=m.next) (hc:∀R ρ n w,j7 R ρ n w cs arr.toList):
  MRel w0 R0 (upd ρ k (w.heap.size,0,0)) (w.alloc (.cells arr e)) m'∧(∀b,RO w0 R0 ρ w m b→RO w0 R0 (upd ρ k (w.heap.size,0,0)) (w.alloc (.cells arr e)) m' b∧(w.alloc (.cells arr e)).heap[b]? =w.heap[b]?)∧
   ∀x v,q46 k x=false→Rep (RO w0 R0 ρ w m) ρ m.next w x v→Rep (RO w0 R0 (upd ρ k (w.heap.size,0,0)) (w.alloc (.cells arr e)) m') (upd ρ k (w.heap.size,0,0)) m'.next (w.alloc (.cells arr e)) x v:=by
 have hle:=hm.size_le
 have hsz:(w.alloc (.cells arr e)).heap.size=w.heap.size+1:=by simp
 have hold:∀b,b<w.heap.size→(w.alloc (.cells arr e)).heap[b]? =w.heap[b]? :=fun b hb=>Below.heap_alloc w _ b hb
 have hG:∀id C,m'.get id=some C→(id=k∧C=.cells cs)∨(id≠k∧m.get id=some C):=fun id C hid=>by
  rw[hg id]at hid
  by_cases h:id=k
  ·rw[if_pos h]at hid;injection hid with hid;exact .inl ⟨h,hid.symm⟩
  ·rw[if_neg h]at hid;exact .inr ⟨h,hid⟩
 have hro:∀b,RO w0 R0 ρ w m b→RO w0 R0 (upd ρ k (w.heap.size,0,0)) (w.alloc (.cells arr e)) m' b:=fun b hb=>by
  have hlt:=hm.ro_lt hb;rcases hb with hb|⟨h1,h2,h3,h4⟩
  ·exact .inl hb
  ·refine .inr ⟨h1,by omega,fun id C hid hsol=>?_,h4⟩
   rcases hG id C hid with⟨rfl,rfl⟩|⟨hne,hx⟩
   ·rw[p7];omega
   ·rw[t6 _ _ hne]at hsol ⊢;exact h3 id C hx hsol
 have e1:Ext (RO w0 R0 ρ w m) (upd ρ k (w.heap.size,0,0)) m.next w (RO w0 R0 (upd ρ k (w.heap.size,0,0)) (w.alloc (.cells arr e)) m') (upd ρ k (w.heap.size,0,0)) m'.next (w.alloc (.cells arr e)):=
  ⟨by omega,fun _ _=>rfl,fun b hb=>⟨hro b hb,hold b (hm.ro_lt hb)⟩⟩
 refine⟨⟨hm.below.trans ⟨rfl,rfl,rfl,by omega,fun b hb=>hold b (by omega)⟩,fun id C hid=>?_,fun id C hid hsol=>?_,fun id C hid hsol=>?_,fun id id' C C' hid hid' hs1 hs2 he=>?_,fun id C hid=>?_,fun b hb=>⟨by have:=(hm.hid.1 b hb).1;omega,(hold b (hm.hid.1 b hb).1).trans (hm.hid.1 b hb).2⟩,fun id C hid hsol=>?_⟩,fun b hb=>⟨hro b hb,hold b (hm.ro_lt hb)⟩,fun x v hx hr=>Rep.mono e1 x v (Rep.upd x v hx hr)⟩
 ·rw[hnx]
  rcases hG id C hid with⟨rfl,_⟩|⟨_,hx⟩
  ·exact hk
  ·exact hm.lt id C hx
 ·rcases hG id C hid with⟨rfl,rfl⟩|⟨hne,hx⟩
  ·rw[p7];exact hle
  ·rw[t6 _ _ hne]at hsol ⊢;exact hm.lo id C hx hsol
 ·rcases hG id C hid with⟨rfl,rfl⟩|⟨hne,hx⟩
  ·rw[p7];show w.heap.size<_;omega
  ·rw[t6 _ _ hne]at hsol ⊢;have:=hm.hi id C hx hsol;omega
 ·rcases hG id C hid with⟨rfl,rfl⟩|⟨hne,hx⟩<;>rcases hG id' C' hid' with⟨rfl,rfl⟩|⟨hne',hx'⟩
  ·rfl
  ·rw[p7]at he;rw[t6 _ _ hne']at hs2 he
   have:=hm.hi id' C' hx' hs2;have he:w.heap.size=(ρ id').1:=he;omega
  ·rw[p7]at he;rw[t6 _ _ hne]at hs1 he
   have:=hm.hi id C hx hs1;have he:(ρ id).1=w.heap.size:=he;omega
  ·rw[t6 _ _ hne]at hs1 he;rw[t6 _ _ hne']at hs2 he
   exact hm.inj id id' C C' hx hx' hs1 hs2 he
 ·rcases hG id C hid with⟨rfl,rfl⟩|⟨hne,hx⟩
  ·rw[p7]
   exact⟨arr,e,(0,0),heap_alloc_new w _,xY2 _,hc _ _ _ _⟩
  ·rw[t6 _ _ hne]
   exact za2.mono e1 C (fun hsol=>hold _ (hm.hi id C hx hsol)) (za2.upd C (hB id C hx) (hm.box id C hx))
 ·rcases hG id C hid with⟨rfl,rfl⟩|⟨hne,hx⟩
  ·rw[p7];exact fun hr=>by have:=(hm.hid.1 _ hr).1;exact Nat.lt_irrefl _ this
  ·rw[t6 _ _ hne]at hsol ⊢;exact hm.hid.2 id C hx hsol
def za0(P:Program)(o:Oper)(n0:Nat)(v:SV)(cur:Nat→SV)(m m':Mem):Prop:=
 ∃t k r,o.op=.alloc t∧o.guard=none∧RowOK P t r∧v=.ptr k 0∧n0≤k∧k<m.next∧m.get k=none∧(∀id,m'.get id=if id=k then some (.cells r.zero)else m.get id)∧m'.next=m.next∧(∀t,q46 k (cur t)=false)∧∀id B,m.get id=some B→q47 k (some B)=false
section
variable {P:Program} {E:Env} {α:Type}
inductive ChainW (P:Program) (E:Env) (all:List Oper):List Oper→Fr→Mem→Fr→Mem→Prop where
 |nil (fr:Fr) (m:Mem):ChainW P E all [] fr m fr m
 |cons {o:Oper} {rest:List Oper} {fr fr1 fr':Fr} {m m1 m':Mem} {v:SV} (h:ze1 P all o fr m v m1) (hx:MoreOK P E true all o fr m v m1) (hf:zb5 fr o.dst v fr1) (k:ChainW P E all rest fr1 m1 fr' m'):ChainW P E all (o::rest) fr m fr' m'
theorem z26(hE:EOK P E){call:za4 α}(hcall:za5 P true call){let_:Op→Bool}{all:List Oper}{k:zc2 α}{L:α→Prop}:∀ (ops:List Oper) (p:Plan) (fr:Fr) (m:Mem),(z18 E let_ call all ops k p fr m).holds L→
  ∃p' fr' m',(k p' fr' m').holds L∧ChainW P E all ops fr m fr' m'
 |[],p,fr,m,h=>⟨p,fr,m,h,.nil fr m⟩
 |o::rest,p,fr,m,h=>by
  change (yz6 E let_ call all o (z18 E let_ call all rest k) p fr m).holds L at h
  obtain⟨p1,v,fr1,m1,h1,h2,h3,h4⟩:=yA2 hE hcall h;obtain⟨p',fr',m',h5,h6⟩:=z26 hE hcall rest p1 fr1 m1 h1;exact⟨p',fr',m',h5,.cons h2 h4 h3 h6⟩
structure WalkM (P:Program) (E:Env) (all:List Oper) (m m':Mem) (fr fr':Fr) (frs:Nat→Fr) (vals:Nat→SV) (ms:Nat→Mem):Prop where
 first:frs 0=fr
 last:frs all.length=fr'
 mfirst:ms 0=m
 mlast:ms all.length=m'
 step:∀i o,all[i]? =some o→ze1 P all o (frs i) (ms i) (vals i) (ms (i+1))
 more:∀i o,all[i]? =some o→MoreOK P E true all o (frs i) (ms i) (vals i) (ms (i+1))
 next:∀i o,all[i]? =some o→zb5 (frs i) o.dst (vals i) (frs (i+1))
theorem ChainW.index{all:List Oper}:∀{ops:List Oper} {fr fr':Fr} {m m':Mem},ChainW P E all ops fr m fr' m'→∃ (frs:Nat→Fr) (vals:Nat→SV) (ms:Nat→Mem),frs 0=fr∧frs ops.length=fr'∧ms 0=m∧ms ops.length=m'∧
  (∀i o,ops[i]? =some o→ze1 P all o (frs i) (ms i) (vals i) (ms (i+1)))∧(∀i o,ops[i]? =some o→MoreOK P E true all o (frs i) (ms i) (vals i) (ms (i+1)))∧(∀i o,ops[i]? =some o→zb5 (frs i) o.dst (vals i) (frs (i+1))):=by
 intro ops fr fr' m m' h
 induction h with
 |nil fr m=>exact⟨fun _=>fr,fun _=>.undef,fun _=>m,rfl,rfl,rfl,rfl,fun i o h=>by simp at h,fun i o h=>by simp at h,fun i o h=>by simp at h⟩
 |@cons o rest fr fr1 fr' m m1 m' v hst hx hf k ih=>
  obtain⟨frs,vals,ms,h1,h2,h1m,h2m,h3,hx3,h4⟩:=ih;refine⟨fun i=>Nat.casesOn i fr frs,fun i=>Nat.casesOn i v vals,fun i=>Nat.casesOn i m ms,rfl,h2,rfl,h2m,fun i o' hi=>?_,fun i o' hi=>?_,fun i o' hi=>?_⟩
  ·cases i with
   |zero=>simp at hi;subst hi;dsimp only;rw[h1m];exact hst
   |succ i=>exact h3 i o' (by simpa using hi)
  ·cases i with
   |zero=>simp at hi;subst hi;dsimp only;rw[h1m];exact hx
   |succ i=>exact hx3 i o' (by simpa using hi)
  ·cases i with
   |zero=>simp at hi;subst hi;dsimp only;rw[h1];exact hf
   |succ i=>exact h4 i o' (by simpa using hi)
theorem ChainW.toWalk{all:List Oper}{m m':Mem}{fr fr':Fr}(h:ChainW P E all all fr m fr' m'):∃frs vals ms,WalkM P E all m m' fr fr' frs vals ms:=
 let ⟨frs,vals,ms,h1,h2,h3,h4,h5,h6,h7⟩:=h.index
 ⟨frs,vals,ms,h1,h2,h3,h4,h5,h6,h7⟩
structure Walk (all:List Oper) (fr fr':Fr) (frs:Nat→Fr) (vals:Nat→SV):Prop where
 first:frs 0=fr
 last:frs all.length=fr'
 next:∀i o,all[i]? =some o→zb5 (frs i) o.dst (vals i) (frs (i+1))
noncomputable def cur(all:List Oper)(fr:Fr)(vals:Nat→SV)(S:Nat→Bool):Nat→Nat→SV
 |0,t=>fr.get t
 |n+1,t=>if S n=true∧(all[n]?).bind (·.dst)=some t then vals n else cur all fr vals S n t
theorem zO1{all:List Oper}{fr fr':Fr}{frs:Nat→Fr}{vals:Nat→SV}(hw:Walk all fr fr' frs vals):∀ (i:Nat),i≤all.length→∀t,(frs i).get t=cur all fr vals (fun _=>true) i t
 |0,_,t=>by rw[hw.first];rfl
 |i+1,hi,t=>by
  have hlt:i<all.length:=hi;have ho:all[i]? =some all[i] :=List.getElem?_eq_getElem hlt;rw[(hw.next i _ ho).2.2 t,zO1 hw i (by omega) t];simp only[cur,ho,Option.bind_some,true_and]
theorem zO0{all:List Oper}{fr:Fr}{vals:Nat→SV}{S S':Nat→Bool}{t:Nat}:∀ (i:Nat),(∀j,j<i→(all[j]?).bind (·.dst)=some t→S j=S' j)→cur all fr vals S i t=cur all fr vals S' i t
 |0,_=>rfl
 |i+1,h=>by
  have ih:=zO0 (fr:=fr) (vals:=vals) i (fun j hj=>h j (by omega));simp only[cur,ih]
  by_cases hd:(all[i]?).bind (·.dst)=some t
  ·rw[h i (by omega) hd]
  ·simp[hd]
theorem zN9{all:List Oper}{fr:Fr}{vals:Nat→SV}{S:Nat→Bool}{t i:Nat}:∀ (n:Nat),i≤n→(∀j,i≤j→j<n→(all[j]?).bind (·.dst)=some t→S j=false)→cur all fr vals S n t=cur all fr vals S i t
 |0,hi,_=>by rw[show i=0 by omega]
 |n+1,hi,h=>by
  by_cases he:i=n+1
  ·rw[he]
  ·have ih:=zN9 (fr:=fr) (vals:=vals) n (by omega) (fun j h1 h2=>h j h1 (by omega))
   simp only[cur]
   by_cases hd:(all[n]?).bind (·.dst)=some t
   ·rw[h n (by omega) (by omega) hd];simpa using ih
   ·simp[hd];exact ih
structure Indep (all:List Oper):Prop where
 pair:∀i j oi oj,i<j→all[i]? =some oi→all[j]? =some oj→(∃e∈oj.after,Region.binds .any e=true∧e.on=i)∨oi.apart all.toArray oj=true
 back:∀j oj,all[j]? =some oj→∀e∈oj.after,Region.binds .any e=true→e.on<j
theorem qM2{all:List Oper}(h:Region.lexB .any all.toArray=true):Indep all:=by
 simp only[Region.lexB,Bool.and_eq_true]at h
 have key:∀ (f k:Nat) (listed:Array Bool),k+f=all.length→(∀i,i<all.length→listed.getD i true=decide (i<k))→listed.size=all.length→Region.lexFrom .any all.toArray f k listed=true→
   ∀i,k≤i→i<all.length→(∀oi,all[i]? =some oi→∀e∈oi.after,Region.binds .any e=true→e.on<i)∧∀j oi oj,i<j→all[i]? =some oi→all[j]? =some oj→(∃e∈oj.after,Region.binds .any e=true∧e.on=i)∨oi.apart all.toArray oj=true:=by
  intro f
  induction f with
  |zero=>intro k listed hk hl hsz h i h1 h2;omega
  |succ f ih=>
   intro k listed hk hl hsz h i h1 h2;simp only[Region.lexFrom,Bool.and_eq_true]at h;obtain⟨⟨hr,hf⟩,hB⟩:=h
   by_cases hik:i=k
   ·subst hik
    have hr':i∈Region.ready .any all.toArray listed:=by simpa using hr
    obtain⟨_,o,ho,hall⟩:=mem_ready.1 hr'
    have hoi:all[i]? =some o:=by simpa using ho
    constructor
    ·intro oi hi e he hb
     rw[hoi]at hi;injection hi with hi;subst hi;have:=hall e he hb
     have hlt:e.on<all.length:=by
      rcases Nat.lt_or_ge e.on all.length with h|h
      ·exact h
      ·rw[Array.getD_eq_getD_getElem?,Array.getElem?_eq_none (by omega)]at this;simp at this
     have h3:=hl e.on hlt
     have h4:listed.getD e.on true=true:=by
      rw[Array.getD_eq_getD_getElem?]at this ⊢;rw[Array.getElem?_eq_getElem (by omega)]at this ⊢
      simpa using this
     rw[h4]at h3
     simpa using h3.symm
    ·intro j oi oj hij hi hj
     rw[hoi]at hi;injection hi with hi;subst hi;have hjl:j<all.length:=(List.getElem?_eq_some_iff.1 hj).1
     by_cases hw:∃e∈oj.after,Region.binds .any e=true∧e.on=i
     ·exact .inl hw
     ·refine .inr (Region.free_spec ho hf j oj (by simpa using hj) (by omega) ?_ (fun e he hb heq=>hw ⟨e,he,hb,heq⟩))
      rw[hl j hjl];simp;omega
   ·refine ih (k+1) _ (by omega) (fun j hj=>?_) (by simpa using hsz) hB i (by omega) h2
    have h3:=hl j hj
    by_cases hjk:k=j
    ·subst hjk
     rw[Array.getD_eq_getD_getElem?,Array.getElem?_setIfInBounds];simp[hsz,hj]
    ·rw[getD_set_ne true hjk,h3]
     congr 1
     rw[eq_iff_iff];omega
 have hk:=key all.length 0 (Array.replicate all.length false) (by omega) (fun i hi=>by simp[hi]) (by simp) (by simpa using h.2);refine⟨fun i j oi oj hij hi hj=>?_,fun j oj hj=>?_⟩
 ·exact(hk i (Nat.zero_le _) (List.getElem?_eq_some_iff.1 hi).1).2 j oi oj hij hi hj
 ·exact(hk j (Nat.zero_le _) (List.getElem?_eq_some_iff.1 hj).1).1 oj hj
def xY5(listed:Array Bool):Nat→Nat
 |0=>0
 |n+1=>xY5 listed n+if listed.getD n true=true then 0 else 1
theorem xY6{listed:Array Bool}{i:Nat}:∀ (n:Nat),i<n→listed.getD i true=false→i<listed.size→xY5 (listed.setIfInBounds i true) n+1=xY5 listed n
 |0,h,_,_=>by omega
 |n+1,h,hf,hs=>by
  by_cases hin:i=n
  ·subst hin
   have h1:(listed.setIfInBounds i true).getD i true=true:=by simp[Array.getD_eq_getD_getElem?,Array.getElem?_setIfInBounds,hs]
   have h2:∀k,k≤i→xY5 (listed.setIfInBounds i true) k=xY5 listed k:=by
    intro k
    induction k with
    |zero=>intro _;rfl
    |succ k ih=>
     intro hk;simp only[xY5,ih (by omega)];rw[getD_set_ne true (by omega)]
   simp only[xY5,h1,hf,h2 i (Nat.le_refl _)];simp
  ·have ih:=xY6 n (by omega) hf hs
   simp only[xY5];rw[getD_set_ne true hin];omega
theorem xY7{listed:Array Bool}:∀ (n:Nat),xY5 listed n=0→∀i,i<n→listed.getD i true=true
 |0,_,i,hi=>by omega
 |n+1,h,i,hi=>by
  simp only[xY5]at h
  by_cases hin:i=n
  ·subst hin
   by_cases hc:listed.getD i true=true
   ·exact hc
   ·rw[if_neg hc]at h;omega
  ·exact xY7 n (by omega) i (by omega)
theorem qZ2{ops:Array Oper}{o:Oper}{t:Tmp}(h: .tmp t∈o.op.operands):t∈o.looksAt ops:=
 List.mem_append_left _ (List.mem_filterMap.2 ⟨.tmp t,by simpa using h,rfl⟩)
theorem qZ1{ops:Array Oper}{o:Oper}{g:Nat}{want:Bool}{t:Tmp}(h:o.guard=some (g,want))(hd:(ops[g]?).bind (·.dst)=some t):t∈o.looksAt ops:=
 List.mem_append_right _ (by rw[h];dsimp only;rw[hd];simp)
theorem zp0{ds:List Deferred}{w0:World}{R0:RSet}{all:List Oper}{fr fr':Fr}{frs:Nat→Fr}{vals:Nat→SV}(n0:Nat)(hw:Walk all fr fr' frs vals)(hi:Indep all){M:(Nat→Bool)→Mem}(hMc:∀S S',(∀k,k<all.length→S k=S' k)→M S=M S')
  (hstep:∀ (S:Nat→Bool) i o,all[i]? =some o→S i=false→(∀j oj,all[j]? =some oj→S j=true→∀e∈oj.after,Region.binds .any e=true→S e.on=true)→(∀e∈o.after,Region.binds .any e=true→S e.on=true)→ze1 P all o (frs i) (M S) (vals i) (M fun k=>if k=i then true else S k)∨za0 P o n0 (vals i) (cur all fr vals S all.length) (M S) (M fun k=>if k=i then true else S k))
  (hns:Region.noSelect all.toArray=true) {Q:Exit→Act→World→Prop} {Ψ:Rho→World→Mem→Prop}
  (hΨa:∀ρ w m k r w' m',n0≤k→Ψ ρ w m→m'.next=m.next→(∀b,RO w0 R0 ρ w m b→RO w0 R0 (upd ρ k r) w' m' b∧w'.heap[b]? =w.heap[b]?)→Ψ (upd ρ k r) w' m')
  (hΨ:∀ρ w m ρ' w' m',Ψ ρ w m→n7 w0 R0 ρ w m ρ' w' m'→Ψ ρ' w' m') (hQ:∀ρ w a,zd5 ds w0 R0 ρ w fr' (M fun _=>true) a→Ψ ρ w (M fun _=>true)→Q .normal a w):∀ (fuel:Nat) (listed:Array Bool) (ρ:Rho) (w:World) (a:Act),listed.size=all.length→xY5 listed all.length=fuel→
  (∀j oj,all[j]? =some oj→listed.getD j true=true→∀e∈oj.after,Region.binds .any e=true→listed.getD e.on false=true)→
  MRel w0 R0 ρ w (M fun k=>listed.getD k true)→fr.size=a.tmps.size→a.defers=ds→(∀t,Rep (RO w0 R0 ρ w (M fun k=>listed.getD k true)) ρ (M fun k=>listed.getD k true).next w (cur all fr vals (fun i=>listed.getD i true) all.length t) (a.tmps.getD t Go.undef))→Ψ ρ w (M fun k=>listed.getD k true)→
  wpAny P .any all.toArray Q fuel listed a w:=by
 have hsize:∀i,i≤all.length→(frs i).size=fr.size:=by
  intro i
  induction i with
  |zero=>intro _;rw[hw.first]
  |succ i ih=>intro h;rw[(hw.next i _ (List.getElem?_eq_getElem (by omega))).1];exact ih (by omega)
 have done:∀ (listed:Array Bool) (ρ:Rho) (w:World) (a:Act),listed.size=all.length→MRel w0 R0 ρ w (M fun k=>listed.getD k true)→fr.size=a.tmps.size→a.defers=ds→(∀t,Rep (RO w0 R0 ρ w (M fun k=>listed.getD k true)) ρ (M fun k=>listed.getD k true).next w (cur all fr vals (fun i=>listed.getD i true) all.length t) (a.tmps.getD t Go.undef))→Ψ ρ w (M fun k=>listed.getD k true)→(∀i,i<all.length→listed.getD i true=true)→Q .normal a w:=by
  intro listed ρ w a hsz hm hs hd hrep hps hall
  have eM:M (fun k=>listed.getD k true)=M fun _=>true:=hMc _ _ fun k hk=>hall k hk
  rw[eM]at hm hrep hps;refine hQ ρ w a ⟨hm,⟨by rw[←hw.last,hsize _ (Nat.le_refl _)];exact hs,fun t=>?_⟩,hd⟩ hps
  have e:fr'.get t=cur all fr vals (fun i=>listed.getD i true) all.length t:=by
   rw[←hw.last,zO1 hw _ (Nat.le_refl _)]
   exact zO0 _ fun j hj _=>(hall j hj).symm
  rw[e];exact hrep t
 -- where none is ready all are listed
 have none_ready:∀ (listed:Array Bool),listed.size=all.length→Region.ready .any all.toArray listed=[] →∀i,i<all.length→listed.getD i true=true:=by
  intro listed hsz hr i
  induction i using Nat.strongRecOn with
  |_ i ih=>
   intro hil;rcases Bool.eq_false_or_eq_true (listed.getD i true)with h|h
   ·exact h
   ·have:i∈Region.ready .any all.toArray listed:=by
     rw[mem_ready];refine⟨h,all[i],by simp[hil],fun e he hb=>?_⟩;have hlt:=hi.back i _ (List.getElem?_eq_getElem hil) e he hb;have h1:=ih e.on hlt (by omega);rw[Array.getD_eq_getD_getElem?,Array.getElem?_eq_getElem (by omega)]at h1 ⊢
     simpa using h1
    rw[hr]at this
    cases this
 intro fuel
 induction fuel with
 |zero=>
  intro listed ρ w a hsz hun hcl hm hs hd hrep hps;have hall:=xY7 _ hun;refine⟨?_,done listed ρ w a hsz hm hs hd hrep hps hall⟩;apply List.eq_nil_iff_forall_not_mem.2;intro i hir;obtain⟨h1,o,ho,_⟩:=mem_ready.1 hir
  have hil:i<all.length:=by
   have:all[i]? =some o:=by simpa using ho
   exact(List.getElem?_eq_some_iff.1 this).1
  rw[hall i hil]at h1;cases h1
 |succ fuel ih=>
  intro listed ρ w a hsz hun hcl hm hs hd hrep hps;refine⟨fun hr=>done listed ρ w a hsz hm hs hd hrep hps (none_ready listed hsz hr),fun i hir=>?_⟩;obtain⟨hl,o,ho,hdeps⟩:=mem_ready.1 hir
  have hoi:all[i]? =some o:=by simpa using ho
  have hil:i<all.length:=(List.getElem?_eq_some_iff.1 hoi).1
  -- whoever writes a slot that i looks at, ahead of i, is listed; whoever writes it behind i is not
  have before:∀j oj,all[j]? =some oj→j<i→oj.apart all.toArray o=false→listed.getD j true=true:=by
   intro j oj hj hji hap;rcases hi.pair j i oj o hji hj hoi with⟨e,he,hb,heq⟩|h
   ·have:=hdeps e he hb
    rw[heq,Array.getD_eq_getD_getElem?]at this
    have hjl:j<listed.size:=by rw[hsz];exact(List.getElem?_eq_some_iff.1 hj).1
    rw[Array.getElem?_eq_getElem hjl]at this;rw[Array.getD_eq_getD_getElem?,Array.getElem?_eq_getElem hjl]
    simpa using this
   ·rw[hap]at h;cases h
  have behind:∀j oj,all[j]? =some oj→i<j→o.apart all.toArray oj=false→listed.getD j true=false:=by
   intro j oj hj hij hap;rcases hi.pair i j o oj hij hoi hj with⟨e,he,hb,heq⟩|h
   ·rcases Bool.eq_false_or_eq_true (listed.getD j true)with hc|hc
    ·have:=hcl j oj hj hc e he hb
     rw[heq,Array.getD_eq_getD_getElem?]at this;rw[Array.getD_eq_getD_getElem?]at hl;rw[Array.getElem?_eq_getElem (by omega)]at this hl;simp at this hl;rw[this]at hl;cases hl
    ·exact hc
   ·rw[hap]at h;cases h
  -- what i looks at
  have looks:∀t,t∈o.looksAt all.toArray→cur all fr vals (fun k=>listed.getD k true) all.length t=(frs i).get t:=by
   intro t ht;rw[zO1 hw i (by omega),zN9 (i:=i) all.length (by omega) (fun j h1 h2 hd'=>?_)]
   ·refine zO0 i fun j hj hd'=>?_
    have hjl:j<all.length:=by omega
    refine before j _ (List.getElem?_eq_getElem hjl) hj ?_
    have hd2:all[j].dst=some t:=by simpa[List.getElem?_eq_getElem hjl]using hd'
    simp[Oper.apart,hd2,ht]
   ·by_cases hji:j=i
    ·subst hji;exact hl
    ·have hjl:j<all.length:=h2
     refine behind j _ (List.getElem?_eq_getElem hjl) (by omega) ?_
     have hd2:all[j].dst=some t:=by simpa[List.getElem?_eq_getElem hjl]using hd'
     simp[Oper.apart,hd2,ht]
  -- behind i
  have hset:∀k,k<all.length→(listed.setIfInBounds i true).getD k true=if k=i then true else listed.getD k true:=by
   intro k hk
   by_cases hki:k=i
   ·subst hki;simp[Array.getD_eq_getD_getElem?,Array.getElem?_setIfInBounds,hsz,hil]
   ·rw[getD_set_ne true (Ne.symm hki),if_neg hki]
  have hcur:∀t,cur all fr vals (fun k=>(listed.setIfInBounds i true).getD k true) all.length t=if o.dst=some t then vals i else cur all fr vals (fun k=>listed.getD k true) all.length t:=by
   intro t
   by_cases ht:o.dst=some t
   ·rw[if_pos ht,zN9 (i:=i+1) all.length hil (fun j h1 h2 hd'=>?_)]
    ·simp only[cur,hoi,Option.bind_some]
     rw[if_pos ⟨by rw[hset i hil];simp,ht⟩]
    ·rw[hset j h2,if_neg (by omega)]
     refine behind j _ (List.getElem?_eq_getElem h2) (by omega) ?_
     have hd2:all[j].dst=some t:=by simpa[List.getElem?_eq_getElem h2]using hd'
     simp[Oper.apart,hd2,ht]
   ·rw[if_neg ht]
    refine zO0 _ fun j hj hd'=>?_
    rw[hset j hj]
    by_cases hji:j=i
    ·subst hji
     rw[hoi]at hd';exact absurd (by simpa using hd') ht
    ·rw[if_neg hji]
  have hun':xY5 (listed.setIfInBounds i true) all.length=fuel:=by
   have:=xY6 all.length hil hl (by omega);omega
  have hcl':∀j oj,all[j]? =some oj→(listed.setIfInBounds i true).getD j true=true→∀e∈oj.after,Region.binds .any e=true→(listed.setIfInBounds i true).getD e.on false=true:=by
   intro j oj hj hlj e he hb;have hjl:j<all.length:=(List.getElem?_eq_some_iff.1 hj).1;rw[hset j hjl]at hlj
   by_cases hji:j=i
   ·subst hji
    rw[hoi]at hj;injection hj with hj;subst hj;exact getD_set_true (hdeps e he hb)
   ·rw[if_neg hji]at hlj
    exact getD_set_true (hcl j oj hj hlj e he hb)
  have hfs:=hw.next i o hoi
  -- the memory ahead of i and behind i
  have eM:M (fun k=>(listed.setIfInBounds i true).getD k true)=M fun k=>if k=i then true else listed.getD k true:=hMc _ _ fun k hk=>hset k hk
  have up:∀k,listed.getD k false=true→listed.getD k true=true:=fun k hk=>by
   rw[Array.getD_eq_getD_getElem?]at hk ⊢
   cases hx:listed[k]? with
   |none=>rfl
   |some b=>rw[hx]at hk;simpa using hk
  have hst:=hstep (fun k=>listed.getD k true) i o hoi hl (fun j oj hj hlj e he hb=>up _ (hcl j oj hj hlj e he hb)) (fun e he hb=>up _ (hdeps e he hb));rw[←eM]at hst;generalize hm1:M (fun k=>listed.getD k true)=m at hst hm hrep hps;generalize hm2:M (fun k=>(listed.setIfInBounds i true).getD k true)=m' at hst
  have putrep:∀ (ρ':Rho) (w':World) (u:Value),n7 w0 R0 ρ w m ρ' w' m'→Rep (RO w0 R0 ρ' w' m') ρ' m'.next w' (vals i) u→∀t,Rep (RO w0 R0 ρ' w' m') ρ' m'.next w' (cur all fr vals (fun k=>(listed.setIfInBounds i true).getD k true) all.length t) ((a.put o.dst u).tmps.getD t Go.undef):=by
   intro ρ' w' u he hu t;rw[hcur t]
   have h1:∀d,o.dst=some d→d<a.tmps.size:=fun d hd'=>by rw[←hs,←hsize i (by omega)];exact hfs.2.1 d hd'
   cases hdst:o.dst with
   |none=>simpa[Act.put]using Rep.mono he _ _ (hrep t)
   |some d=>
    have hlt:=h1 d hdst
    by_cases ht:d=t
    ·subst ht
     simp[Act.put,Array.getElem?_setIfInBounds,hlt];exact hu
    ·have:¬(some d=some t):=fun e=>ht (by injection e)
     rw[if_neg this];have h2:=Rep.mono he _ _ (hrep t)
     simpa[Act.put,Array.getElem?_setIfInBounds_ne ht]using h2
  have putsize:∀u,fr.size=(a.put o.dst u).tmps.size:=fun u=>by rw[hs];cases o.dst<;>simp[Act.put]
  -- the operation itself
  unfold wpOp;rw[ho];dsimp only
  have hyield:∀g,qC3 all (frs i).get o=some g→Region.wanted o (yielded all.toArray a.tmps)=g:=fun g hg=>
   jc6 (R:=RO w0 R0 ρ w m) (ρ:=ρ) (n:=m.next) (w:=w) (fun j want d hgd hdd=>by rw[←looks d (qZ1 hgd (by simpa using hdd))];exact hrep d) hg
  rcases hst with(⟨hg,hsem⟩|⟨hg,hv,hmm⟩)|⟨t,k,r,hop,hgd,hrow,hvk,hk0,hk1,hk2,hk3,hk4,hk5,hk6⟩
  ·rw[hyield _ hg,if_pos rfl]
   -- its operands agree with the text's frame
   have heb2:∀x∈o.op.operands,Rep (RO w0 R0 ρ w m) ρ m.next w (o7 (frs i) x) (a.eval x):=by
    intro x hx
    cases x with
    |tmp t=>
     show Rep _ _ _ _ ((frs i).get t) _;rw[←looks t (qZ2 hx)];exact hrep t
    |const v=>exact yx9 v _ _ _ _
    |global g=>exact rfl
    |func f=>exact⟨[],[],rfl,rfl,rfl⟩
   refine .inl ?_;unfold Oper.wp;refine xY9 (fun u w' hu=>?_) (hsem w0 R0 ρ w a.eval hm heb2);obtain⟨ρ',g1,g2,g3⟩:=hu;exact ih _ ρ' w' _ (by simpa using hsz) hun' hcl' (by rw[hm2];exact g1) (putsize u) (by rw[yT1];exact hd) (by rw[hm2];exact putrep ρ' w' u g2 g3) (by rw[hm2];exact hΨ _ _ _ _ _ _ hps g2)
  ·rw[hyield _ hg]
   subst hmm;simp only[Bool.false_eq_true,if_false];exact ih _ ρ w _ (by simpa using hsz) hun' hcl' (by rw[hm2];exact hm) (putsize _) (by rw[yT1];exact hd) (by rw[hm2];exact putrep ρ w Go.undef (Ext.refl _ _ _ _) (by rw[hv];rfl)) (by rw[hm2];exact hps)
  · -- a new variable
    rw[hyield true (by unfold qC3;rw[hgd]),if_pos rfl];obtain⟨z,hz1,hz2,_⟩:=y85 hrow;obtain⟨b1,b2,b3⟩:=hm.allocAt hk1 hk2 hk6 (arr:=z.cells) (e:=t) hk3 hk4 hz2;refine .inl ?_;unfold Oper.wp
    have hpost:zc1 P (fun u w'=>u=.pointer (some ⟨w.heap.size,0,none⟩)∧w'=w.alloc (.cells z.cells t)) ((Go.execOp a.eval o).run P w):=by
     obtain⟨dst,op,ty,pos,after,guard⟩:=o;dsimp only at hop;subst hop;exact yR4 (u:=.pointer (some ⟨w.heap.size,0,none⟩)) (w':=w.alloc (.cells z.cells t)) (by simp[Instr.alloc,hz1,newVar,newRow]) ⟨rfl,rfl⟩
    refine xY9 (fun u w' hu=>?_) hpost;obtain⟨rfl,rfl⟩:=hu;refine ih _ (upd ρ k (w.heap.size,0,0)) _ _ (by simpa using hsz) hun' hcl' (by rw[hm2];exact b1) (putsize _) (by rw[yT1];exact hd) (fun t'=>?_) (by rw[hm2];exact hΨa _ _ _ _ _ _ _ hk0 hps hk4 b2);rw[hm2,hcur t']
    have h1:∀d,o.dst=some d→d<a.tmps.size:=fun d hd'=>by rw[←hs,←hsize i (by omega)];exact hfs.2.1 d hd'
    have old:=fun t'=>b3 _ _ (hk5 t') (hrep t')
    cases hdst:o.dst with
    |none=>simpa[Act.put]using old t'
    |some d=>
     have hlt:=h1 d hdst
     by_cases ht:d=t'
     ·subst ht
      simp[Act.put,Array.getElem?_setIfInBounds,hlt];rw[hvk];exact⟨by rw[hk4];exact hk1,by rw[p7]⟩
     ·have:¬(some d=some t'):=fun e=>ht (by injection e)
      rw[if_neg this]
      simpa[Act.put,Array.getElem?_setIfInBounds_ne ht]using old t'
theorem yS6{o:Op}(h:yS5 o=true):quiet E o=true:=by cases o<;>first|rfl|(cases h;done)
theorem xz3{o:Op}(h:xz1 o=true):quiet E o=true:=by
 cases o<;>first
  |rfl
  |(cases h;done)
  |(rename_i c;obtain⟨ca,aa,ta⟩:=c;cases ca<;>first|(cases h;done)|(rename_i b;cases b<;>first|rfl|(cases h;done)))
theorem yS7{o:Op}(h:yS5 o=true):x82 o=false:=by cases o<;>first|rfl|(cases h;done)
theorem xz4{o:Op}(h:xz1 o=true):x82 o=false:=by cases o<;>first|rfl|(cases h;done)
theorem xH4{o:Op}(h:qP2 o=true):x82 o=true:=by simp[x82,h]
structure Wet (E:Env) (all:List Oper) (al:Bool) (a:Nat):Prop where
 pre:∀ (i:Nat) (o:Oper),i<a→all[i]? =some o→x82 o.op=false∧x64 E al o.op=true
 head:∀ (o:Oper),all[a]? =some o→x82 o.op=true∧qO6 o.op=al
 post:∀ (i:Nat) (o:Oper),a<i→all[i]? =some o→x63 al o.op=true
 pairs:∀ (j:Nat) (oj:Oper),all[j]? =some oj→qP2 oj.op=true→∀ (i:Nat) (oi:Oper),i<j→all[i]? =some oi→yS5 oi.op=true∨xz1 oi.op=true∨zB2 all 3 oj i=true
theorem x61{al:Bool}:∀ (l:List Oper),x60 E al l=true→∃a,(∀ (i:Nat) (o:Oper),i<a→l[i]? =some o→x82 o.op=false∧x64 E al o.op=true)∧(∀ (o:Oper),l[a]? =some o→x82 o.op=true∧qO6 o.op=al)∧∀ (i:Nat) (o:Oper),a<i→l[i]? =some o→x63 al o.op=true
 |[],_=>⟨0,fun i o h=>absurd h (Nat.not_lt_zero _),fun o h=>(by cases h),fun i o _ h=>(by cases h)⟩
 |o::os,h=>by
  change (match x82 o.op with|true=>(qO6 o.op==al)&&os.all fun o=>x63 al o.op|false=>x64 E al o.op&&x60 E al os)=true at h
  split at h
  ·rename_i hw
   simp only[Bool.and_eq_true,beq_iff_eq,List.all_eq_true]at h;refine⟨0,fun i o h=>absurd h (Nat.not_lt_zero _),fun o' h'=>?_,fun i o' hi h'=>?_⟩
   ·simp at h';subst h';exact⟨hw,h.1⟩
   ·cases i with
    |zero=>cases hi
    |succ i=>exact h.2 o' (List.mem_of_getElem? (by simpa using h'))
  ·rename_i hw
   simp only[Bool.and_eq_true]at h;obtain⟨a,h1,h2,h3⟩:=x61 os h.2;refine⟨a+1,fun i o' hi h'=>?_,fun o' h'=>h2 o' (by simpa using h'),fun i o' hi h'=>?_⟩
   ·cases i with
    |zero=>simp at h';subst h';exact⟨hw,h.1⟩
    |succ i=>exact h1 i o' (by omega) (by simpa using h')
   ·cases i with
    |zero=>omega
    |succ i=>exact h3 i o' (by omega) (by simpa using h')
theorem x59{all:List Oper}(h:x58 E all=true):∃al a,Wet E all al a:=by
 simp only[x58,Bool.and_eq_true,Bool.or_eq_true]at h
 have hp:∀ (j:Nat) (oj:Oper),all[j]? =some oj→qP2 oj.op=true→∀ (i:Nat) (oi:Oper),i<j→all[i]? =some oi→yS5 oi.op=true∨xz1 oi.op=true∨zB2 all 3 oj i=true:=by
  intro j oj hj hs i oi hij hi;have h2:=h.2;simp only[x62,List.all_eq_true]at h2;have h3:=h2 (oj,j) (List.mem_zipIdx_iff_getElem?.2 hj);simp only[hs,Bool.not_true,Bool.false_or,List.all_eq_true]at h3;have h4:=h3 (oi,i) (List.mem_zipIdx_iff_getElem?.2 hi)
  have hb:Nat.blt i j=true:=by rw[Nat.blt_eq];exact hij
  simp only[hb,Bool.not_true,Bool.false_or,Bool.or_eq_true]at h4;rcases h4 with h4|h4|h4
  ·exact .inl h4
  ·exact .inr (.inl h4)
  ·exact .inr (.inr h4)
 rcases h.1 with h1|h1<;>obtain⟨a,g1,g2,g3⟩:=x61 all h1
 ·exact⟨false,a,g1,g2,g3,hp⟩
 ·exact⟨true,a,g1,g2,g3,hp⟩
noncomputable def zN3(all:List Oper)(ms:Nat→Mem)(S:Nat→Bool):Nat→Mem
 |0=>ms 0
 |n+1=>if S n=true∧(all[n]?).any (fun o=>x82 o.op)=true then ms (n+1)else zN3 all ms S n
theorem zN5{all:List Oper}{ms:Nat→Mem}{S S':Nat→Bool}:∀ (n:Nat),(∀k,k<n→(all[k]?).any (fun o=>x82 o.op)=true→S k=S' k)→zN3 all ms S n=zN3 all ms S' n
 |0,_=>rfl
 |n+1,h=>by
  have ih:=zN5 (ms:=ms) n (fun k hk=>h k (by omega));simp only[zN3,ih]
  by_cases hw:(all[n]?).any (fun o=>x82 o.op)=true
  ·rw[h n (by omega) hw]
  ·simp[hw]
theorem zN6{all:List Oper}{ms:Nat→Mem}{S:Nat→Bool}{i:Nat}:∀ (n:Nat),i≤n→(∀k,i≤k→k<n→(all[k]?).any (fun o=>x82 o.op)=true→S k=false)→zN3 all ms S n=zN3 all ms S i
 |0,h,_=>by rw[show i=0 by omega]
 |n+1,h,hk=>by
  by_cases he:i=n+1
  ·rw[he]
  ·have ih:=zN6 (ms:=ms) n (by omega) (fun k h1 h2=>hk k h1 (by omega))
   simp only[zN3]
   by_cases hw:(all[n]?).any (fun o=>x82 o.op)=true
   ·rw[hk n (by omega) (by omega) hw];simpa using ih
   ·simp[hw];exact ih
theorem zN7{all:List Oper}{ms:Nat→Mem}{S:Nat→Bool}:∀ (n:Nat),n≤all.length→∃k,k≤n∧zN3 all ms S n=ms k∧(k=0∨∃j o,k=j+1∧S j=true∧all[j]? =some o∧x82 o.op=true)
 |0,_=>⟨0,Nat.le_refl _,rfl,.inl rfl⟩
 |n+1,h=>by
  simp only[zN3]
  split
  ·rename_i hc
   refine⟨n+1,Nat.le_refl _,rfl,.inr ⟨n,all[n],rfl,hc.1,List.getElem?_eq_getElem h,?_⟩⟩;have:=hc.2;rw[List.getElem?_eq_getElem h]at this
   simpa using this
  ·obtain⟨k,h1,h2,h3⟩:=zN7 (all:=all) (ms:=ms) (S:=S) n (by omega)
   exact⟨k,by omega,h2,h3⟩
theorem zN4{all:List Oper}{ms:Nat→Mem}(hk:∀ (i:Nat) (o:Oper),all[i]? =some o→x82 o.op=false→ms (i+1)=ms i){S:Nat→Bool}:∀ (n:Nat),n≤all.length→(∀k,k<n→(all[k]?).any (fun o=>x82 o.op)=true→S k=true)→zN3 all ms S n=ms n
 |0,_,_=>rfl
 |n+1,h,hS=>by
  simp only[zN3];have ho:all[n]? =some all[n] :=List.getElem?_eq_getElem h
  by_cases hw:x82 all[n].op=true
  ·rw[if_pos ⟨hS n (by omega) (by rw[ho];simpa using hw),by rw[ho];simpa using hw⟩]
  ·rw[if_neg (fun hc=>hw (by have:=hc.2;rw[ho]at this;simpa using this)),zN4 (all:=all) hk n (by omega) (fun k hk=>hS k (by omega)),hk n _ ho (by simpa using hw)]
theorem zB3{all:List Oper}{S:Nat→Bool}(hcl:∀ (j:Nat) (oj:Oper),all[j]? =some oj→S j=true→∀e∈oj.after,Region.binds .any e=true→S e.on=true):
  ∀ (n:Nat) (o:Oper) (i:Nat),(∀e∈o.after,Region.binds .any e=true→S e.on=true)→zB2 all n o i=true→S i=true
 |0,o,i,ho,h=>by
  simp only[zB2,List.any_eq_true,Bool.and_eq_true]at h;obtain⟨e,he,hb,hon⟩:=h;have:=ho e (by simpa using he) hb;rw[Nat.eq_of_beq_eq_true hon]at this;exact this
 |n+1,o,i,ho,h=>by
  unfold zB2 at h;rcases Bool.or_eq_true _ _▸h with h|h
  ·exact zB3 hcl n o i ho h
  ·simp only[List.any_eq_true,Bool.and_eq_true]at h
   obtain⟨e,he,hb,hx⟩:=h
   split at hx
   ·rename_i o' ho'
    rw[yd7]at ho';have hS:=ho e (by simpa using he) hb;exact zB3 hcl n o' i (fun e' he' hb'=>hcl e.on o' ho' hS e' he' hb') hx
   ·cases hx
theorem x65{all:List Oper}{m m':Mem}{fr fr':Fr}{frs:Nat→Fr}{vals:Nat→SV}{ms:Nat→Mem}(hw:WalkM P E all m m' fr fr' frs vals ms){al:Bool}{a:Nat}(hwet:Wet E all al a)(k:Nat)(o:Oper)(ho:all[k]? =some o)(hwr:x82 o.op=false):ms (k+1)=ms k:=by
 refine(hw.more k o ho).quiet rfl ?_;rcases Nat.lt_trichotomy k a with h|h|h
 ·have:=(hwet.pre k o h ho).2
  simp only[x64,Bool.and_eq_true]at this;exact this.1
 ·subst h;rw[(hwet.head o ho).1]at hwr;cases hwr
 ·have:=hwet.post k o h ho
  simp only[x63,Bool.or_eq_true,Bool.and_eq_true]at this;rcases this with h1|h1|h1
  ·exact yS6 h1
  ·rw[xH4 h1]at hwr;cases hwr
  ·exact xz3 h1.1
theorem x66{all:List Oper}{m m':Mem}{fr fr':Fr}{frs:Nat→Fr}{vals:Nat→SV}{ms:Nat→Mem}(hw:WalkM P E all m m' fr fr' frs vals ms){al:Bool}{a:Nat}(hwet:Wet E all al a)(hfresh:m.get m.next=none)
  (S:Nat→Bool) (i:Nat) (o:Oper) (hoi:all[i]? =some o) (hSi:S i=false) (hcl:∀ (j:Nat) (oj:Oper),all[j]? =some oj→S j=true→∀e∈oj.after,Region.binds .any e=true→S e.on=true) (hready:∀e∈o.after,Region.binds .any e=true→S e.on=true):
  ze1 P all o (frs i) (zN3 all ms S all.length) (vals i) (zN3 all ms (fun k=>if k=i then true else S k) all.length):=by
 have hil:i<all.length:=(List.getElem?_eq_some_iff.1 hoi).1
 have hkeep:∀ (k:Nat) (o:Oper),all[k]? =some o→x82 o.op=false→ms (k+1)=ms k:=fun k o ho hwr=>x65 hw hwet k o ho hwr
 have hisw:∀{k:Nat} {o:Oper},all[k]? =some o→((all[k]?).any (fun o=>x82 o.op)=true↔x82 o.op=true):=fun {k o} ho=>by rw[ho];simp
 -- the memory ahead of the first x82 is the first one
 have hms0:∀k,k≤a→k≤all.length→ms k=m:=by
  intro k
  induction k with
  |zero=>intro _ _;exact hw.mfirst
  |succ k ih=>
   intro h1 h2;have ho:all[k]? =some all[k] :=List.getElem?_eq_getElem h2;rw[hkeep k _ ho (hwet.pre k _ (by omega) ho).1];exact ih (by omega) (by omega)
 -- a x82 behind the first is a store
 have hstore:∀ (k:Nat) (o:Oper),a<k→all[k]? =some o→x82 o.op=true→qP2 o.op=true:=by
  intro k o h ho hwr;have:=hwet.post k o h ho;simp only[x63,Bool.or_eq_true,Bool.and_eq_true]at this;rcases this with h1|h1|h1
  ·rw[yS7 h1]at hwr;cases hwr
  ·exact h1
  ·rw[xz4 h1.1]at hwr;cases hwr
 have notps:∀{o:Oper},x82 o.op=true→¬(yS5 o.op=true∨xz1 o.op=true):=fun {o} hwr h=>by
  rcases h with h|h
  ·rw[yS7 h]at hwr;cases hwr
  ·rw[xz4 h]at hwr;cases hwr
 -- whatever is no reader of nothing waits ahead of a store that is listed
 have hwait:∀ (j:Nat) (oj:Oper) (k:Nat) (ok:Oper),all[j]? =some oj→qP2 oj.op=true→S j=true→k<j→all[k]? =some ok→¬(yS5 ok.op=true∨xz1 ok.op=true)→S k=true:=by
  intro j oj k ok hj hs hSj hkj hk hn;rcases hwet.pairs j oj hj hs k ok hkj hk with h|h|h
  ·exact absurd (.inl h) hn
  ·exact absurd (.inr h) hn
  ·exact zB3 hcl 3 oj k (fun e he hb=>hcl j oj hj hSj e he hb) h
 by_cases hwr:x82 o.op=true
 · -- a x82: those ahead of it are listed, those behind it are not
   have hahead:∀k,k<i→(all[k]?).any (fun o=>x82 o.op)=true→S k=true:=by
    intro k hk hkw
    have hkl:k<all.length:=by omega
    have ho:all[k]? =some all[k] :=List.getElem?_eq_getElem hkl;have hkw':=(hisw ho).1 hkw
    have hia:a<i:=by
     rcases Nat.lt_or_ge k a with h|h
     ·rw[(hwet.pre k _ h ho).1]at hkw';cases hkw'
     ·omega
    rcases hwet.pairs i o hoi (hstore i o hia hoi hwr) k _ hk ho with h|h|h
    ·exact absurd (.inl h) (notps hkw')
    ·exact absurd (.inr h) (notps hkw')
    ·exact zB3 hcl 3 o k hready h
   have hbehind:∀k,i<k→k<all.length→(all[k]?).any (fun o=>x82 o.op)=true→S k=false:=by
    intro k hk hkl hkw;have ho:all[k]? =some all[k] :=List.getElem?_eq_getElem hkl;have hkw':=(hisw ho).1 hkw
    have hai:a≤i:=by
     rcases Nat.lt_or_ge i a with h|h
     ·rw[(hwet.pre i _ h hoi).1]at hwr;cases hwr
     ·exact h
    rcases Bool.eq_false_or_eq_true (S k)with h|h
    ·have:=hwait k _ i o ho (hstore k _ (by omega) ho hkw') h hk hoi (notps hwr)
     rw[hSi]at this;cases this
    ·exact h
   have e1:zN3 all ms S all.length=ms i:=by
    rw[zN6 (i:=i) all.length (by omega) (fun k h1 h2 h3=>?_),zN4 hkeep i (by omega) hahead]
    by_cases hki:k=i
    ·rw[hki];exact hSi
    ·exact hbehind k (by omega) h2 h3
   have e2:zN3 all ms (fun k=>if k=i then true else S k) all.length=ms (i+1):=by
    rw[zN6 (i:=i+1) all.length (by omega) (fun k h1 h2 h3=>?_),zN4 hkeep (i+1) (by omega) (fun k h1 h2=>?_)]
    ·by_cases hki:k=i
     ·rw[if_pos hki]
     ·rw[if_neg hki];exact hahead k (by omega) h2
    ·rw[if_neg (by omega)];exact hbehind k (by omega) h2 h3
   rw[e1,e2];exact hw.step i o hoi
 · -- no x82: the memory stays
   have hwr':x82 o.op=false:=by simpa using hwr
   have e2:zN3 all ms (fun k=>if k=i then true else S k) all.length=zN3 all ms S all.length:=by
    refine zN5 _ fun k hk hkw=>?_
    by_cases hki:k=i
    ·subst hki;exact absurd ((hisw hoi).1 hkw) hwr
    ·simp[hki]
   rw[e2];rcases hw.step i o hoi with⟨hg,hsem⟩|⟨hg,hv,_⟩
   ·refine .inl ⟨hg,?_⟩
    have hx:=(hw.more i o hoi).more hg;obtain⟨k,hkl,hkm,hk0⟩:=zN7 (all:=all) (ms:=ms) (S:=S) all.length (Nat.le_refl _);rw[hkm]
    by_cases hp:yS5 o.op=true
    ·exact hx.pure hp _
    -- how the memories look
    have fwd:∀k,k≤all.length→zd9 m (ms k):=by
     intro k
     induction k with
     |zero=>intro _;rw[hw.mfirst];exact zd9.refl m
     |succ k ih=>
      intro hk;have ho:all[k]? =some all[k] :=List.getElem?_eq_getElem hk;refine(ih (by omega)).trans ?_
      by_cases hkw:x82 all[k].op=true
      ·by_cases hka:k=a
       ·subst hka
        by_cases hst:qP2 all[k].op=true
        ·exact((hw.more k _ ho).store hst).1
        ·have hal:qO6 all[k].op=true:=by
          simp only[x82,Bool.or_eq_true]at hkw;exact hkw.resolve_left hst
         refine((hw.more k _ ho).alloc hal ?_).shape;rw[hms0 k (Nat.le_refl _) (by omega)];exact hfresh
       ·have hak:a<k:=by
         rcases Nat.lt_or_ge k a with h|h
         ·rw[(hwet.pre k _ h ho).1]at hkw;cases hkw
         ·omega
        exact((hw.more k _ ho).store (hstore k _ hak ho hkw)).1
      ·rw[hkeep k _ ho (by simpa using hkw)];exact zd9.refl _
    by_cases hs:xz1 o.op=true
    ·refine hx.shape hs _ ?_
     by_cases hia:i≤a
     ·rw[hms0 i hia (by omega)];exact fwd k hkl
     · -- behind the first x82 there is no allocation
       have hpo:=hwet.post i o (by omega) hoi;simp only[x63,Bool.or_eq_true,Bool.and_eq_true]at hpo
       have hal:al=false:=by
        rcases hpo with h1|h1|h1
        ·exact absurd h1 hp
        ·rw[xH4 h1]at hwr';cases hwr'
        ·simpa using h1.2
       have bwd:∀k,k≤all.length→zd9 (ms k) m:=by
        intro k
        induction k with
        |zero=>intro _;rw[hw.mfirst];exact zd9.refl m
        |succ k ih=>
         intro hk;have ho:all[k]? =some all[k] :=List.getElem?_eq_getElem hk;refine zd9.trans ?_ (ih (by omega))
         by_cases hkw:x82 all[k].op=true
         ·have hst:qP2 all[k].op=true:=by
           rcases Nat.lt_trichotomy k a with h|h|h
           ·rw[(hwet.pre k _ h ho).1]at hkw;cases hkw
           ·subst h
            have:=(hwet.head _ ho).2;rw[hal]at this;simp only[x82,Bool.or_eq_true,this]at hkw;exact hkw.resolve_right (by simp)
           ·exact hstore k _ h ho hkw
          exact((hw.more k _ ho).store hst).2
         ·rw[hkeep k _ ho (by simpa using hkw)];exact zd9.refl _
       exact(bwd i (by omega)).trans (fwd k hkl)
    -- a reader: no store is listed
    have hia:i<a:=by
     rcases Nat.lt_trichotomy i a with h|h|h
     ·exact h
     ·subst h;rw[(hwet.head o hoi).1]at hwr';cases hwr'
     ·have hpo:=hwet.post i o h hoi
      simp only[x63,Bool.or_eq_true,Bool.and_eq_true]at hpo;rcases hpo with h1|h1|h1
      ·exact absurd h1 hp
      ·rw[xH4 h1]at hwr';cases hwr'
      ·exact absurd h1.1 hs
    have hmi:=hms0 i (by omega) (by omega)
    have nostore:∀ (j:Nat) (oj:Oper),all[j]? =some oj→S j=true→qP2 oj.op=true→False:=by
     intro j oj hj hSj hst
     have hij:i<j:=by
      rcases Nat.lt_or_ge j a with h|h
      ·have h1:=(hwet.pre j oj h hj).1
       rw[xH4 hst]at h1;cases h1
      ·omega
     have:=hwait j oj i o hj hst hSj hij hoi (fun h=>h.elim hp hs);rw[hSi]at this;cases this
    rcases hk0 with rfl|⟨j,oj,rfl,hSj,hj,hjw⟩
    ·rw[hw.mfirst,←hmi]
     have hst2:ms (i+1)=ms i:=hkeep i o hoi hwr';rw[hst2]at hsem;exact hsem
    ·have hja:j=a:=by
      rcases Nat.lt_trichotomy j a with h|h|h
      ·rw[(hwet.pre j oj h hj).1]at hjw;cases hjw
      ·exact h
      ·exact(nostore j oj hj hSj (hstore j oj h hj hjw)).elim
     subst hja
     have hal:qO6 oj.op=true:=by
      simp only[x82,Bool.or_eq_true]at hjw
      exact hjw.resolve_left fun h=>nostore j oj hj hSj h
     have halt:al=true:=by rw[←(hwet.head oj hj).2];exact hal
     have hpre:=(hwet.pre i o hia hoi).2;simp only[x64,halt,Bool.and_eq_true,Bool.not_true,Bool.false_or,Bool.or_eq_true]at hpre
     have hup:xY8 o.op=true:=by
      rcases hpre.2 with h|h|h
      ·exact absurd h hp
      ·exact absurd h hs
      ·exact h
     refine hx.up rfl hup _ ?_;have hmj:=hms0 j (Nat.le_refl _) (by omega);rw[hmi,←hmj];refine(hw.more j oj hj).alloc hal ?_;rw[hmj];exact hfresh
   ·exact .inr ⟨hg,hv,rfl⟩
end
section
variable {P:Program} {E:Env} {α:Type}
theorem zP7(cs:List SV):(SV.agg cs).data=f5 cs:=by
 induction cs with
 |nil=>rfl
 |cons x xs ih=>
  show(match x.data with|true=>(SV.agg xs).data|false=>false)=(match x.data with|true=>f5 xs|false=>false);rw[ih]
theorem zP9(cs:List SV):(SV.tuple cs).data=f5 cs:=zP7 cs
theorem zP8(f:Nat)(a c:List SV):(SV.fn f a c).data=match f5 a with|true=>f5 c|false=>false:=by
 rw[←zP7 a,←zP7 c];rfl
theorem zP3(x:SV)(xs:List SV):f5 (x::xs)=match x.data with|true=>f5 xs|false=>false:=rfl
mutual
theorem Rep.data{R R':Nat→Prop}{ρ ρ':Rho}{n n':Nat}{w:World}(hR:∀b,R b→R' b):∀ (x:SV) (v:Value),x.data=true→Rep R ρ n w x v→Rep R' ρ' n' w x v
 |.undef,_,_,h=>h
 |.top,_,_,_=>trivial
 |.int _ _,_,_,h=>h
 |.bool _,_,_,h=>h
 |.str _,_,_,h=>h
 |.nilS,_,_,h=>h
 |.list t l,v,_,h=>p8.mono (fun b hb=>⟨hR b hb,rfl⟩) (.list t) l [v] h
 |.row _,_,hd,_=>by cases hd
 |.arr _ _ _,_,hd,_=>by cases hd
 |.ptr _ _,_,hd,_=>by cases hd
 |.nilP,_,_,h=>h
 |.eptr t l i off,v,_,h=>by
  obtain⟨b,o,h1,h2,h3⟩:=h;exact⟨b,o,h1,h2,h3.mono fun b hb=>⟨hR b hb,rfl⟩⟩
 |.rptr _ _ _ _,_,hd,_=>by cases hd
 |.agg cs,v,hd,h=>by
  obtain⟨vs,h1,h2⟩:=h;exact⟨vs,h1,j7.data hR cs vs (by rw[←zP7];exact hd) h2⟩
 |.tuple cs,v,hd,h=>by
  obtain⟨vs,h1,h2⟩:=h;exact⟨vs,h1,j7.data hR cs vs (by rw[←zP9];exact hd) h2⟩
 |.fn f first cap,v,hd,h=>by
  obtain⟨vs,us,h1,h2,h3⟩:=h;rw[zP8]at hd
  cases h4:f5 first with
  |false=>rw[h4]at hd;cases hd
  |true=>
   rw[h4]at hd;exact⟨vs,us,h1,j7.data hR first vs h4 h2,j7.data hR cap us hd h3⟩
 |.raw _,_,_,h=>h
theorem j7.data{R R':Nat→Prop}{ρ ρ':Rho}{n n':Nat}{w:World}(hR:∀b,R b→R' b):∀ (xs:List SV) (vs:List Value),f5 xs=true→j7 R ρ n w xs vs→j7 R' ρ' n' w xs vs
 |[],_,_,h=>h
 |x::xs,vs,hd,h=>by
  obtain⟨u,us,h1,h2,h3⟩:=h;rw[zP3]at hd
  cases h4:x.data with
  |false=>rw[h4]at hd;cases hd
  |true=>
   rw[h4]at hd;exact⟨u,us,h1,Rep.data hR x u h4 h2,j7.data hR xs us hd h3⟩
end
theorem q25:∀ (args:List SV) (i:Nat) (fr:Fr) (k:Fr→Tree α) (L:α→Prop),(List.rec (motive:=fun _=>Nat→Fr→(Fr→Tree α)→Tree α) (fun _ fr k=>k fr) (fun x _ ih i fr k=>frc x fun x=>fr.set i x fun fr=>ih (i+1) fr k) args i fr k).holds L→
  ∃fr',(k fr').holds L∧fr'.size=fr.size∧(args=[] ∨i+args.length≤fr.size)∧∀t,fr'.get t=if i≤t∧t<i+args.length then args.getD (t-i) .undef else fr.get t
 |[],i,fr,k,L,h=>⟨fr,h,rfl,.inl rfl,fun t=>by rw[if_neg (by simp)]⟩
 |x::args,i,fr,k,L,h=>by
  change (frc x fun x=>fr.set i x fun fr=>List.rec (motive:=fun _=>Nat→Fr→(Fr→Tree α)→Tree α) (fun _ fr k=>k fr) (fun x _ ih i fr k=>frc x fun x=>fr.set i x fun fr=>ih (i+1) fr k) args (i+1) fr k).holds L at h
  rw[qw1]at h;obtain⟨fr1,h1,h2⟩:=Fr.set_holds h;obtain⟨fr',h3,h4,h5,h6⟩:=q25 args (i+1) fr1 k L h2;have hlt:=h1.2.1 i rfl;refine⟨fr',h3,h4.trans h1.1,.inr ?_,fun t=>?_⟩
  ·rcases h5 with rfl|h5
   ·exact hlt
   ·rw[h1.1]at h5;simp only[List.length_cons];omega
  ·rw[h6 t]
   simp only[List.length_cons]
   by_cases h7:i+1≤t∧t<i+1+args.length
   ·rw[if_pos h7,if_pos ⟨by omega,by omega⟩,show t-i=(t-(i+1))+1 by omega,List.getD_cons_succ]
   ·rw[if_neg h7,h1.2.2 t]
    by_cases h8:i=t
    ·subst h8
     rw[if_pos rfl,if_pos ⟨by omega,by omega⟩];simp
    ·have:¬(some i=some t):=fun e=>h8 (by injection e)
     rw[if_neg this,if_neg (by omega)]
theorem q26{size:Nat}{args:List SV}{k:Fr→Tree α}{L:α→Prop}(h:(Fr.make size args k).holds L):∃fr,(k fr).holds L∧fr.size=size∧(args=[] ∨args.length≤size)∧∀t,fr.get t=args.getD t .undef:=by
 obtain⟨fr,h1,h2,h3,h4⟩:=q25 args 0 ⟨size,.e⟩ k L h;refine⟨fr,h1,h2,h3.imp id (fun h=>by simpa using h),fun t=>?_⟩;rw[h4 t]
 by_cases ht:t<args.length
 ·rw[if_pos ⟨Nat.zero_le _,by omega⟩];simp
 ·rw[if_neg (by omega)]
  have:args.getD t .undef=.undef:=by simp[List.getD,List.getElem?_eq_none (show args.length≤t by omega)]
  rw[this];rfl
theorem qv6{R:Nat→Prop}{ρ:Rho}{n:Nat}{w:World}{size:Nat}{args:List SV}{vs:List Value}{fr:Fr}(h1:fr.size=size)(h2:args=[] ∨args.length≤size)(h3:∀t,fr.get t=args.getD t .undef)(h:j7 R ρ n w args vs):
  zb4 R ρ n w fr (vs.toArray++Array.replicate (size-vs.toArray.size) Go.undef):=by
 have hl:=h.length
 have hle:args.length≤size:=by
  rcases h2 with rfl|h2
  ·simp
  ·exact h2
 refine⟨by rw[h1];simp;omega,fun t=>?_⟩;rw[h3 t]
 by_cases ht:t<args.length
 ·obtain⟨c,hc⟩:∃c,args[t]? =some c:=⟨_,List.getElem?_eq_getElem ht⟩
  obtain⟨v,hv,hr⟩:=h.get hc
  have e1:args.getD t .undef=c:=by simp[List.getD,hc]
  have e2:(vs.toArray++Array.replicate (size-vs.toArray.size) Go.undef).getD t Go.undef=v:=by
   rw[Array.getD_eq_getD_getElem?,Array.getElem?_append_left (by simp;omega)];simp[hv]
  rw[e1,e2];exact hr
 ·have e1:args.getD t .undef=.undef:=by simp[List.getD,List.getElem?_eq_none (show args.length≤t by omega)]
  have e2:(vs.toArray++Array.replicate (size-vs.toArray.size) Go.undef).getD t Go.undef=Go.undef:=by
   rw[Array.getD_eq_getD_getElem?,Array.getElem?_append_right (by simp;omega),Array.getElem?_replicate]
   split<;>rfl
  rw[e1,e2];rfl
def y32(tmps:Array Value):ResultVar→Sem Value
 |.tmp t=>pure (tmps.getD t Go.undef)
 |.cell a t=>do loadVar t (←asAddr (tmps.getD a Go.undef))
theorem y38(fn:Func)(tmps:Array Value):Go.results fn tmps=(do
  let vs ←fn.results.mapM (y32 tmps)
  pure (if h:vs.size=1 then vs[0]else .tuple vs)):=by
 unfold Go.results
 congr 1
theorem y29(hE:EOK P E){m:Mem}{fr:Fr}{r:ResultVar}{k:SV→Tree α}{L:α→Prop}(h:(y28 E m fr r k).holds L):∃v,(k v).holds L∧∀⦃ds:List Deferred⦄ w0 R0 ρ w a,zd5 ds w0 R0 ρ w fr m a→
  ∃u,(y32 a.tmps r).run P w=.ok u w∧Rep (RO w0 R0 ρ w m) ρ m.next w v u:=by
 cases r with
 |tmp t=>
  change (frc (fr.get t) k).holds L at h
  rw[qw1]at h;exact⟨_,h,fun ds w0 R0 ρ w a hs=>⟨_,rfl,hs.2.1.2 t⟩⟩
 |cell a' t=>
  change (yE2 E t (fr.get a') .auto m fun v _ _=>k v).holds L at h
  obtain⟨v,h1,h2⟩:=yE3 hE h;refine⟨v,h1,fun ds w0 R0 ρ w a hs=>?_⟩;obtain⟨u,h3,h4⟩:=h2 m (Up.refl m) w0 R0 ρ w _ hs.1 (hs.2.1.2 a');refine⟨u,?_,h4⟩;show((do loadVar t (←asAddr (a.tmps.getD a' Go.undef)):Sem Value)).run P w=_;generalize a.tmps.getD a' Go.undef=av at h3 ⊢
  cases av<;>try(simp[Instr.loadAt,Instr.sureAddr]at h3;done)
  rename_i o
  cases o with
  |none=>simp[Instr.loadAt,Instr.sureAddr]at h3
  |some ad=>simpa[Instr.loadAt,Instr.sureAddr,asAddr]using h3
theorem y26(hE:EOK P E){m:Mem}{fr:Fr}:∀ (rs:List ResultVar) (k:List SV→Tree α) (L:α→Prop),(y09 E m fr rs k).holds L→∃vs,(k vs).holds L∧vs.length=rs.length∧∀⦃ds:List Deferred⦄ w0 R0 ρ w a,zd5 ds w0 R0 ρ w fr m a→
  ∃us,(rs.mapM (y32 a.tmps)).run P w=.ok us w∧j7 (RO w0 R0 ρ w m) ρ m.next w vs us
 |[],k,L,h=>⟨[],h,rfl,fun ds w0 R0 ρ w a hs=>⟨[],rfl,rfl⟩⟩
 |r::rs,k,L,h=>by
  change (y28 E m fr r fun v=>y09 E m fr rs fun vs=>k (v::vs)).holds L at h
  obtain⟨v,h1,h2⟩:=y29 hE h;obtain⟨vs,h3,h4,h5⟩:=y26 hE rs _ L h1;refine⟨v::vs,h3,by simp[h4],fun ds w0 R0 ρ w a hs=>?_⟩;obtain⟨u,h6,h7⟩:=h2 w0 R0 ρ w a hs;obtain⟨us,h8,h9⟩:=h5 w0 R0 ρ w a hs;refine⟨u::us,?_,u,us,rfl,h7,h9⟩;rw[List.mapM_cons];simp only[Sem.run_bind,h6,h8,Result.andThen_ok,Sem.run_pure]
theorem y39(hE:EOK P E){fn:Func}{m:Mem}{fr:Fr}{k:SV→Tree α}{L:α→Prop}(h:(results E fn m fr k).holds L):∃v,(k v).holds L∧∀⦃ds:List Deferred⦄ w0 R0 ρ w a,zd5 ds w0 R0 ρ w fr m a→∃u,(Go.results fn a.tmps).run P w=.ok u w∧Rep (RO w0 R0 ρ w m) ρ m.next w v u:=by
 obtain⟨vs,h1,h2,h3⟩:=y26 hE fn.results.toList _ L h
 have run:∀ (a:Act) (w:World) (us:List Value),(fn.results.toList.mapM (y32 a.tmps)).run P w=.ok us w→(Go.results fn a.tmps).run P w=.ok (if h:us.toArray.size=1 then us.toArray[0]else .tuple us.toArray) w:=by
  intro a w us hu;rw[y38,Array.mapM_eq_mapM_toList];simp only[Sem.run_bind,Sem.run_map,hu];rfl
 split at h1
 ·rename_i v
  refine⟨v,h1,fun ds w0 R0 ρ w a hs=>?_⟩;obtain⟨us,h4,u,us',rfl,h5,h6⟩:=h3 w0 R0 ρ w a hs;rw[show us'=[]from h6]at h4;exact⟨u,by rw[run a w _ h4];rfl,h5⟩
 ·rename_i hne
  refine⟨_,h1,fun ds w0 R0 ρ w a hs=>?_⟩;obtain⟨us,h4,h5⟩:=h3 w0 R0 ρ w a hs;have hl:=h5.length;refine⟨.tuple us.toArray,?_,us,rfl,h5⟩;rw[run a w _ h4,dif_neg];intro h6
  have:vs.length=1:=by simp at h6;omega
  obtain⟨v,hv⟩:=List.length_eq_one_iff.1 this;exact hne v hv
def Tree.says{β:Type}(Φ:β→Prop):Tree β→Prop
 |.leaf a=>Φ a
 |.node b t f=>(b=true→t.says Φ)∧(b=false→f.says Φ)
 |.req b t=>b=true→t.says Φ
 |.fail _=>True
theorem zA3{Φ:SV→Prop}{m:Mem}{κ:p9 α}{L:α→Prop}:∀ (t:Tree SV) (p:Plan),(zA2 m κ t p).holds L→t.says Φ→∃v p',(κ v p' m).holds L∧Φ v
 |.leaf v,p,h,hs=>⟨v,p,h,hs⟩
 |.node b t f,p,h,hs=>by
  obtain⟨p',h⟩:=zQ8 (k:=fun b p=>match b with
   |true=>zA2 m κ t p
   |false=>zA2 m κ f p) h
  cases b with
  |true=>exact zA3 t p' h (hs.1 rfl)
  |false=>exact zA3 f p' h (hs.2 rfl)
 |.req b t,p,h,hs=>zA3 t p h.2 (hs h.1)
 |.fail _,_,h,_=>h.elim
def SCall(P:Program)(f:FuncId)(args:List SV)(v:SV):Prop:=∀m,zd6 P m v m f args
def ze4(P:Program)(f:FuncId)(args:List SV)(m:Mem)(x:SV×Mem):Prop:=zd6 P m x.1 x.2 f args
def za1(P:Program)(f:FuncId)(args:List SV)(B:Box)(x:Bool×SV×Box):Prop:=
 ∀m m' id,m.get id=some B→zc0 m id (some x.2.2) m'→ze6 P f (.ptr id 0::args) m (match x.1 with|true=>.pan x.2.1 m'|false=>.ok x.2.1 m')
def zc5(P:Program)(f:FuncId)(args:List SV)(x:SV×Mem):Prop:=
 ∀m v' m',(zm3 x.1 x.2 m fun v m=>Tree.leaf (v,m)).holds (fun y=>y=(v',m'))→zd6 P m v' m' f args
def ze2(P:Program)(E:Env):Prop:=(∀f s args t,E.sum f=some s→s args=some t→t.says (SCall P f args))∧(∀f s args m t,E.wr f=some s→s args m=some t→t.says (ze4 P f args m))∧(∀f s args m t,E.pn f=some s→s args m=some t→t.says (ze6 P f args m))∧(∀f s args B t,E.bx f=some s→s args B=some t→t.says (za1 P f args B))∧∀f s args t,E.ow f=some s→s args=some t→t.says (zc5 P f args)
theorem zz9{Φ:SV×Mem→Prop}{κ:p9 α}{L:α→Prop}:∀ (t:Tree (SV×Mem)) (p:Plan),(zz8 κ t p).holds L→t.says Φ→∃x p',(κ x.1 p' x.2).holds L∧Φ x
 |.leaf x,p,h,hs=>⟨x,p,h,hs⟩
 |.node b t f,p,h,hs=>by
  unfold zz8 at h;obtain⟨p',h⟩:=zQ8 h
  cases b with
  |true=>exact zz9 t p' h (hs.1 rfl)
  |false=>exact zz9 f p' h (hs.2 rfl)
 |.req b t,p,h,hs=>zz9 t p h.2 (hs h.1)
 |.fail _,_,h,_=>h.elim
theorem zz7{Φ:Bool×SV×Box→Prop}{κ:SV→Plan→Box→Tree α}{L:α→Prop}:∀ (t:Tree (Bool×SV×Box)) (p:Plan),(zz6 κ t p).holds L→t.says Φ→∃v B p',(κ v p' B).holds L∧Φ (false,v,B)
 |.leaf (false,v,B),p,h,hs=>⟨v,B,p,h,hs⟩
 |.leaf (true,v,B),p,h,hs=>h.elim
 |.node b t f,p,h,hs=>by
  unfold zz6 at h;obtain⟨p',h⟩:=zQ8 h
  cases b with
  |true=>exact zz7 t p' h (hs.1 rfl)
  |false=>exact zz7 f p' h (hs.2 rfl)
 |.req b t,p,h,hs=>zz7 t p h.2 (hs h.1)
 |.fail _,_,h,_=>h.elim
theorem zA1{Φ:SV×Mem→Prop}{m:Mem}{κ:p9 α}{L:α→Prop}:∀ (t:Tree (SV×Mem)) (p:Plan),(zA0 m κ t p).holds L→t.says Φ→∃x p',(zm3 x.1 x.2 m fun v m=>κ v p' m).holds L∧Φ x
 |.leaf x,p,h,hs=>⟨x,p,h,hs⟩
 |.node b t f,p,h,hs=>by
  unfold zA0 at h;obtain⟨p',h⟩:=zQ8 h
  cases b with
  |true=>exact zA1 t p' h (hs.1 rfl)
  |false=>exact zA1 f p' h (hs.2 rfl)
 |.req b t,p,h,hs=>zA1 t p h.2 (hs h.1)
 |.fail _,_,h,_=>h.elim
theorem bindX_holds{Φ:Ex→Prop}{κ:p9 α}{esc:SV→Mem→Tree α}{L:α→Prop}:∀ (t:Tree Ex) (p:Plan),(zA4 κ esc t p).holds L→t.says Φ→(∃v m p',(κ v p' m).holds L∧Φ (.ok v m))∨∃v m,(esc v m).holds L∧Φ (.pan v m)
 |.leaf (.ok v m),p,h,hs=>.inl ⟨v,m,p,h,hs⟩
 |.leaf (.pan v m),p,h,hs=>.inr ⟨v,m,h,hs⟩
 |.node b t f,p,h,hs=>by
  unfold zA4 at h;obtain⟨p',h⟩:=zQ8 h
  cases b with
  |true=>exact bindX_holds t p' h (hs.1 rfl)
  |false=>exact bindX_holds f p' h (hs.2 rfl)
 |.req b t,p,h,hs=>bindX_holds t p h.2 (hs h.1)
 |.fail _,_,h,_=>h.elim
abbrev RR(w0:World)(R0:RSet)(ρ0:Rho)(w:World)(m0:Mem)(ρc:Rho)(mc0:Mem)(w':World)(b:Nat):Prop:=
 RO w0 R0 ρ0 w m0 b∨RO w (RS w0 R0 ρ0 w m0) ρc w' mc0 b
structure Hand (w0:World) (R0:RSet) (ρ0:Rho) (w:World) (m0:Mem) (ρc:Rho) (mc0:Mem) (w':World) (ρ:Rho) (m mc:Mem):Prop where
 le:m0.next≤m.next
 same:∀id,id<m0.next→ρ id=ρ0 id
 lt:∀id B,m.get id=some B→id<m.next
 lo:∀id B,m.get id=some B→xA0 (ρ id) B→w0.heap.size≤(ρ id).1
 hi:∀id B,m.get id=some B→xA0 (ρ id) B→(ρ id).1<w'.heap.size
 nh:∀id B,m.get id=some B→xA0 (ρ id) B→¬R0 (ρ id).1
 inj:∀id id' B B',m.get id=some B→m.get id'=some B'→xA0 (ρ id) B→xA0 (ρ id') B'→(ρ id).1=(ρ id').1→id=id'
 box:∀id B,m.get id=some B→za2 (RR w0 R0 ρ0 w m0 ρc mc0 w') ρ m.next w' (ρ id) B
 sub:∀k B,mc.get k=some B→mc0.get k=some B
 apart:∀k B,mc.get k=some B→xA0 (ρc k) B→∀id C,m.get id=some C→xA0 (ρ id) C→(ρ id).1≠(ρc k).1
 ro:∀b,RR w0 R0 ρ0 w m0 ρc mc0 w' b→RO w0 R0 ρ w' m b
theorem Hand.start{w0:World}{R0:RSet}{ρ0:Rho}{w:World}{m0:Mem}{ρc:Rho}{mc0:Mem}{w':World}(hm:MRel w0 R0 ρ0 w m0)(hc:MRel w (RS w0 R0 ρ0 w m0) ρc w' mc0):Hand w0 R0 ρ0 w m0 ρc mc0 w' ρ0 m0 mc0:=by
 have hsz:=hc.below.size
 have hkeep:∀b,RO w0 R0 ρ0 w m0 b→RO w0 R0 ρ0 w' m0 b:=fun b hb=>by
  rcases hb with hb|⟨h1,h2,h3⟩
  ·exact .inl hb
  ·exact .inr ⟨h1,by omega,h3⟩
 have e:Ext (RO w0 R0 ρ0 w m0) ρ0 m0.next w (RR w0 R0 ρ0 w m0 ρc mc0 w') ρ0 m0.next w':=⟨Nat.le_refl _,fun _ _=>rfl,fun b hb=>⟨.inl hb,hc.below.block b (hm.ro_lt hb)⟩⟩;refine⟨Nat.le_refl _,fun _ _=>rfl,hm.lt,hm.lo,fun id B h1 h2=>?_,hm.hid.2,hm.inj,fun id B h1=>za2.mono e B (fun hs=>hc.below.block _ (hm.hi id B h1 hs)) (hm.box id B h1),fun _ _ h=>h,fun k B h1 h2 id C h3 h4=>?_,fun b hb=>?_⟩
 ·have:=hm.hi id B h1 h2;omega
 ·have:=hm.hi id C h3 h4;have:=hc.lo k B h1 h2;omega
 ·rcases hb with hb|⟨hb,_⟩|⟨h1,h2,_⟩
  ·exact hkeep b hb
  ·exact hkeep b hb
  ·have:=hm.size_le
   exact .inr ⟨by omega,h2,fun id C h3 h4=>by have:=hm.hi id C h3 h4;omega,fun hr=>by have:=(hm.hid.1 b hr).1;omega⟩
theorem Hand.finish{w0:World}{R0:RSet}{ρ0:Rho}{w:World}{m0:Mem}{ρc:Rho}{mc0:Mem}{w':World}{ρ:Rho}{m mc:Mem}(hm:MRel w0 R0 ρ0 w m0)(hc:MRel w (RS w0 R0 ρ0 w m0) ρc w' mc0)(h:Hand w0 R0 ρ0 w m0 ρc mc0 w' ρ m mc):
  MRel w0 R0 ρ w' m∧n7 w0 R0 ρ0 w m0 ρ w' m:=by
 have e:Ext (RR w0 R0 ρ0 w m0 ρc mc0 w') ρ m.next w' (RO w0 R0 ρ w' m) ρ m.next w':=⟨Nat.le_refl _,fun _ _=>rfl,fun b hb=>⟨h.ro b hb,rfl⟩⟩;refine⟨⟨hm.below.trans (hc.below.mono hm.size_le),h.lt,h.lo,h.hi,h.inj,fun id B h1=>za2.mono e B (fun _=>rfl) (h.box id B h1),fun b hb=>⟨Nat.lt_of_lt_of_le (hm.hid.1 b hb).1 hc.below.size,(hc.below.block b (hm.hid.1 b hb).1).trans (hm.hid.1 b hb).2⟩,h.nh⟩,h.le,h.same,fun b hb=>⟨h.ro b (.inl hb),hc.below.block b (hm.ro_lt hb)⟩⟩
theorem zm6{v:SV}{mc m:Mem}{k:SV→Mem→Mem→Tree α}{L:α→Prop}(h:(zm4 v mc m k).holds L):∃v' mc' m',(k v' mc' m').holds L∧∀w0 R0 ρ0 w m0 ρc mc0 w' ρ (u:Value),MRel w0 R0 ρ0 w m0→MRel w (RS w0 R0 ρ0 w m0) ρc w' mc0→Hand w0 R0 ρ0 w m0 ρc mc0 w' ρ m mc→Rep (RO w (RS w0 R0 ρ0 w m0) ρc w' mc0) ρc mc0.next w' v u→
  ∃ρ',Hand w0 R0 ρ0 w m0 ρc mc0 w' ρ' m' mc'∧Ext (RR w0 R0 ρ0 w m0 ρc mc0 w') ρ m.next w' (RR w0 R0 ρ0 w m0 ρc mc0 w') ρ' m'.next w'∧Rep (RR w0 R0 ρ0 w m0 ρc mc0 w') ρ' m'.next w' v' u:=by
 have plain:∀v:SV,v.data=true→(k v mc m).holds L→∃v' mc' m',(k v' mc' m').holds L∧∀w0 R0 ρ0 w m0 ρc mc0 w' ρ (u:Value),MRel w0 R0 ρ0 w m0→MRel w (RS w0 R0 ρ0 w m0) ρc w' mc0→Hand w0 R0 ρ0 w m0 ρc mc0 w' ρ m mc→Rep (RO w (RS w0 R0 ρ0 w m0) ρc w' mc0) ρc mc0.next w' v u→
   ∃ρ',Hand w0 R0 ρ0 w m0 ρc mc0 w' ρ' m' mc'∧Ext (RR w0 R0 ρ0 w m0 ρc mc0 w') ρ m.next w' (RR w0 R0 ρ0 w m0 ρc mc0 w') ρ' m'.next w'∧Rep (RR w0 R0 ρ0 w m0 ρc mc0 w') ρ' m'.next w' v' u:=
  fun v hd h=>⟨v,mc,m,h,fun w0 R0 ρ0 w m0 ρc mc0 w' ρ u hm hc hh hr=>⟨ρ,hh,Ext.refl _ _ _ _,Rep.data (fun b hb=>.inr hb) v u hd hr⟩⟩
 cases v with
 |row id=>
  dsimp only[zm4]at h
  split at h
  ·rename_i t l hg
   obtain⟨mc',h1,h2⟩:=Mem.set_holds h;obtain⟨m',h3,h4⟩:=Mem.push_holds h2;refine⟨_,mc',m',h4,fun w0 R0 ρ0 w m0 ρc mc0 w' ρ u hm hc hh hr=>?_⟩;have hg0:=hh.sub id _ hg
   have hmc':∀j B,mc'.get j=some B→j≠id∧mc.get j=some B:=fun j B hj=>by
    rw[h1.1 j]at hj
    by_cases e:j=id
    ·rw[if_pos e]at hj;cases hj
    ·rw[if_neg e]at hj;exact⟨e,hj⟩
   have hm':∀j B,m'.get j=some B→(j=m.next∧B=.rows t l)∨(j≠m.next∧m.get j=some B):=fun j B hj=>by
    rw[h3.1 j]at hj
    by_cases e:j=m.next
    ·rw[if_pos e]at hj;injection hj with hj;exact .inl ⟨e,hj.symm⟩
    ·rw[if_neg e]at hj;exact .inr ⟨e,hj⟩
   have hle:=hh.le;have hwsz:=hm.size_le;have e:Ext (RR w0 R0 ρ0 w m0 ρc mc0 w') ρ m.next w' (RR w0 R0 ρ0 w m0 ρc mc0 w') (upd ρ m.next (ρc id)) m'.next w':=⟨by rw[h3.2];omega,fun j hj=>t6 _ _ (by omega),fun b hb=>⟨hb,rfl⟩⟩;refine⟨upd ρ m.next (ρc id),⟨by rw[h3.2];omega,fun j hj=>by rw[t6 _ _ (by omega)];exact hh.same j hj,fun j B hj=>?_,fun j B hj hs=>?_,fun j B hj hs=>?_,fun j B hj hs=>?_,fun j j' B B' hj hj' hs hs' he=>?_,fun j B hj=>?_,fun j B hj=>hh.sub j B (hmc' j B hj).2,fun j B hj hs id' C hid' hs'=>?_,fun b hb=>?_⟩,e,?_⟩
   ·rw[h3.2]
    rcases hm' j B hj with⟨rfl,_⟩|⟨_,n2⟩
    ·omega
    ·have:=hh.lt j B n2;omega
   ·rcases hm' j B hj with⟨rfl,rfl⟩|⟨n1,n2⟩
    ·rw[p7]at hs ⊢;have:=hc.lo id _ hg0 hs;omega
    ·rw[t6 _ _ n1]at hs ⊢;exact hh.lo j B n2 hs
   ·rcases hm' j B hj with⟨rfl,rfl⟩|⟨n1,n2⟩
    ·rw[p7]at hs ⊢;exact hc.hi id _ hg0 hs
    ·rw[t6 _ _ n1]at hs ⊢;exact hh.hi j B n2 hs
   ·rcases hm' j B hj with⟨rfl,rfl⟩|⟨n1,n2⟩
    ·rw[p7]at hs ⊢;exact fun hr=>by have:=(hm.hid.1 _ hr).1;have:=hc.lo id _ hg0 hs;omega
    ·rw[t6 _ _ n1]at hs ⊢;exact hh.nh j B n2 hs
   ·rcases hm' j B hj with⟨rfl,rfl⟩|⟨n1,n2⟩<;>rcases hm' j' B' hj' with⟨rfl,rfl⟩|⟨n1',n2'⟩
    ·rfl
    ·rw[p7]at hs he;rw[t6 _ _ n1']at hs' he
     exact absurd he.symm (hh.apart id _ hg hs j' B' n2' hs')
    ·rw[p7]at hs' he;rw[t6 _ _ n1]at hs he
     exact absurd he (hh.apart id _ hg hs' j B n2 hs)
    ·rw[t6 _ _ n1]at hs he;rw[t6 _ _ n1']at hs' he
     exact hh.inj j j' B B' n2 n2' hs hs' he
   ·rcases hm' j B hj with⟨rfl,rfl⟩|⟨n1,n2⟩
    ·rw[p7]
     obtain⟨b1,b2,b3⟩:=hc.box id _ hg0;refine⟨b1,b2,fun hp=>?_⟩;obtain⟨arr,el,fr,q1,q2,q3,q4⟩:=b3 hp;refine⟨arr,el,fr,q1,q2,q3,fun i hi=>?_⟩;obtain⟨cs,c1,c2,c3⟩:=q4 i hi;exact⟨cs,c1,c2,p8.mono (fun b hb=>⟨.inr hb,rfl⟩) _ _ _ c3⟩
    ·rw[t6 _ _ n1]
     exact za2.mono e B (fun _=>rfl) (hh.box j B n2)
   ·obtain⟨n1,n2⟩:=hmc' j B hj
    rcases hm' id' C hid' with⟨rfl,rfl⟩|⟨k1,k2⟩
    ·rw[p7]at hs' ⊢
     exact fun he=>n1 (hc.inj id j _ B hg0 (hh.sub j B n2) hs' hs he).symm
    ·rw[t6 _ _ k1]at hs' ⊢
     exact hh.apart j B n2 hs id' C k2 hs'
   ·have hne:xA0 (ρc id) (.rows t l)→(ρc id).1≠b:=fun hs=>by
     rcases hb with hb|hb
     ·have:=hm.ro_lt hb;have:=hc.lo id _ hg0 hs;omega
     ·exact hc.ro_ne hb hg0 hs
    rcases hh.ro b hb with hb|⟨g1,g2,g3,g4⟩
    ·exact .inl hb
    ·refine .inr ⟨g1,g2,fun j B hj hs=>?_,g4⟩
     rcases hm' j B hj with⟨rfl,rfl⟩|⟨n1,n2⟩
     ·rw[p7]at hs ⊢;exact hne hs
     ·rw[t6 _ _ n1]at hs ⊢;exact g3 j B n2 hs
   ·obtain⟨_,a,hu,ha⟩:=hr
    exact⟨by rw[h3.2];omega,a,by rw[p7];exact hu,by rw[p7];exact ha⟩
  ·exact h.elim
 |undef=>exact plain _ rfl h
 |top=>exact h.elim
 |int a b=>exact plain _ rfl h
 |bool a=>exact plain _ rfl h
 |str a=>exact plain _ rfl h
 |nilS=>exact plain _ rfl h
 |list a b=>exact plain _ rfl h
 |arr a b c=>exact h.elim
 |ptr a b=>exact h.elim
 |nilP=>exact plain _ rfl h
 |eptr a b c d=>exact plain _ rfl h
 |rptr a b c d=>exact h.elim
 |agg cs=>
  dsimp only[zm4]at h
  split at h
  ·rename_i hd;exact plain _ hd h
  ·exact h.elim
 |tuple cs=>
  dsimp only[zm4]at h
  split at h
  ·rename_i hd;exact plain _ hd h
  ·exact h.elim
 |fn f a c=>
  dsimp only[zm4]at h
  split at h
  ·rename_i hd;exact plain _ hd h
  ·exact h.elim
 |raw u=>exact plain _ rfl h
theorem zm9:∀ (vs:List SV) (mc m:Mem) (k:List SV→Mem→Mem→Tree α) (L:α→Prop),(zm7 vs mc m k).holds L→∃vs' mc' m',(k vs' mc' m').holds L∧∀w0 R0 ρ0 w m0 ρc mc0 w' ρ (us:List Value),MRel w0 R0 ρ0 w m0→MRel w (RS w0 R0 ρ0 w m0) ρc w' mc0→Hand w0 R0 ρ0 w m0 ρc mc0 w' ρ m mc→j7 (RO w (RS w0 R0 ρ0 w m0) ρc w' mc0) ρc mc0.next w' vs us→
  ∃ρ',Hand w0 R0 ρ0 w m0 ρc mc0 w' ρ' m' mc'∧Ext (RR w0 R0 ρ0 w m0 ρc mc0 w') ρ m.next w' (RR w0 R0 ρ0 w m0 ρc mc0 w') ρ' m'.next w'∧j7 (RR w0 R0 ρ0 w m0 ρc mc0 w') ρ' m'.next w' vs' us
 |[],mc,m,k,L,h=>⟨[],mc,m,h,fun w0 R0 ρ0 w m0 ρc mc0 w' ρ us hm hc hh hr=>⟨ρ,hh,Ext.refl _ _ _ _,hr⟩⟩
 |v::vs,mc,m,k,L,h=>by
  change (zm4 v mc m fun v mc m=>zm7 vs mc m fun vs mc m=>k (v::vs) mc m).holds L at h
  obtain⟨v',mc1,m1,h1,h2⟩:=zm6 h;obtain⟨vs',mc',m',h3,h4⟩:=zm9 vs mc1 m1 _ L h1;refine⟨v'::vs',mc',m',h3,fun w0 R0 ρ0 w m0 ρc mc0 w' ρ us hm hc hh hr=>?_⟩;obtain⟨u,us',rfl,r1,r2⟩:=hr;obtain⟨ρ1,g1,g2,g3⟩:=h2 w0 R0 ρ0 w m0 ρc mc0 w' ρ u hm hc hh r1;obtain⟨ρ',g4,g5,g6⟩:=h4 w0 R0 ρ0 w m0 ρc mc0 w' ρ1 us' hm hc g1 r2;exact⟨ρ',g4,g2.trans g5,u,us',rfl,Rep.mono g5 _ _ g3,g6⟩
theorem zn1{v:SV}{mc m:Mem}{k:SV→Mem→Tree α}{L:α→Prop}(h:(zm3 v mc m k).holds L):∃v' m',(k v' m').holds L∧∀w0 R0 ρ w ρc w' (u:Value),MRel w0 R0 ρ w m→MRel w (RS w0 R0 ρ w m) ρc w' mc→Rep (RO w (RS w0 R0 ρ w m) ρc w' mc) ρc mc.next w' v u→n9 w0 R0 ρ w m v' m' u w':=by
 have one:∀v:SV,(zm4 v mc m fun v _ m=>k v m).holds L→∃v' m',(k v' m').holds L∧∀w0 R0 ρ w ρc w' (u:Value),MRel w0 R0 ρ w m→MRel w (RS w0 R0 ρ w m) ρc w' mc→Rep (RO w (RS w0 R0 ρ w m) ρc w' mc) ρc mc.next w' v u→n9 w0 R0 ρ w m v' m' u w':=by
  intro v h;obtain⟨v',mc',m',h1,h2⟩:=zm6 h;refine⟨v',m',h1,fun w0 R0 ρ w ρc w' u hm hc hr=>?_⟩;obtain⟨ρ',g1,g2,g3⟩:=h2 w0 R0 ρ w m ρc mc w' ρ u hm hc (Hand.start hm hc) hr;obtain⟨g4,g5⟩:=g1.finish hm hc;exact⟨ρ',g4,g5,Rep.mono ⟨Nat.le_refl _,fun _ _=>rfl,fun b hb=>⟨g1.ro b hb,rfl⟩⟩ _ _ g3⟩
 have many:∀ (vs:List SV) (mk:List SV→SV) (mkv:List Value→Value),(∀ (R:Nat→Prop) (ρ:Rho) (n:Nat) (w:World) cs u,Rep R ρ n w (mk cs) u↔∃us,u=mkv us∧j7 R ρ n w cs us)→(zm7 vs mc m fun vs _ m=>k (mk vs) m).holds L→∃v' m',(k v' m').holds L∧∀w0 R0 ρ w ρc w' (u:Value),MRel w0 R0 ρ w m→MRel w (RS w0 R0 ρ w m) ρc w' mc→Rep (RO w (RS w0 R0 ρ w m) ρc w' mc) ρc mc.next w' (mk vs) u→n9 w0 R0 ρ w m v' m' u w':=by
  intro vs mk mkv hmk h;obtain⟨vs',mc',m',h1,h2⟩:=zm9 vs mc m _ L h;refine⟨_,m',h1,fun w0 R0 ρ w ρc w' u hm hc hr=>?_⟩;obtain⟨us,rfl,hr'⟩:=(hmk _ _ _ _ _ _).1 hr;obtain⟨ρ',g1,g2,g3⟩:=h2 w0 R0 ρ w m ρc mc w' ρ us hm hc (Hand.start hm hc) hr';obtain⟨g4,g5⟩:=g1.finish hm hc;exact⟨ρ',g4,g5,(hmk _ _ _ _ _ _).2 ⟨us,rfl,j7.mono ⟨Nat.le_refl _,fun _ _=>rfl,fun b hb=>⟨g1.ro b hb,rfl⟩⟩ _ _ g3⟩⟩
 cases v with
 |tuple vs=>exact many vs .tuple (fun us=>.tuple ⟨us⟩) (fun _ _ _ _ _ _=>Iff.rfl) h
 |agg vs=>exact many vs .agg (fun us=>.agg ⟨us⟩) (fun _ _ _ _ _ _=>Iff.rfl) h
 |_=>exact one _ h
theorem yI5{w0:World}{R0:RSet}{ρ:Rho}{w:World}{m:Mem}(hm:MRel w0 R0 ρ w m)(ρc:Rho):MRel w (RS w0 R0 ρ w m) ρc w ⟨0,.e⟩∧∀b,RO w0 R0 ρ w m b→RO w (RS w0 R0 ρ w m) ρc w ⟨0,.e⟩ b:=
 ⟨⟨⟨Below.refl _ _,hm.gnd⟩,fun id B h=>(by cases h),fun id B h=>(by cases h),fun id B h=>(by cases h),fun id id' B B' h=>(by cases h),fun id B h=>(by cases h),fun b hb=>⟨hm.ro_lt hb,rfl⟩,fun id B h=>(by cases h)⟩,fun b hb=>.inl ⟨hb,hm.ro_lt hb⟩⟩
end
theorem MRel.bare{w0:World}{R0:RSet}{ρ:Rho}{w:World}{m:Mem}(h:MRel w0 R0 ρ w m):MRel w0 R0 ρ w ⟨0,.e⟩∧∀b,RO w0 R0 ρ w m b→RO w0 R0 ρ w ⟨0,.e⟩ b:=
 ⟨⟨h.below,fun id B h=>(by cases h),fun id B h=>(by cases h),fun id B h=>(by cases h),fun id id' B B' h=>(by cases h),fun id B h=>(by cases h),h.hid.1,fun id B h=>(by cases h)⟩,fun b hb=>by
   rcases hb with hb|⟨k1,k2,_,k4⟩
   ·exact .inl hb
   ·exact .inr ⟨k1,k2,(fun id B hB=>by cases hB),k4⟩⟩
theorem zq1{w0:World}{R0:RSet}{ρ:Rho}{w:World}{m:Mem}(h:MRel w0 R0 ρ w m){id off n:Nat}{cs:List SV}(hg:m.get id=some (.cells cs)){u:Ty}{l:List u.T}(hl:xX7 u n ((cs.drop off).take (n*u.sz))=some l){v:Value}
  (hu:v=.slice (some ⟨(ρ id).1,off,none⟩) n n):Rep (RO w0 R0 ρ w ⟨0,.e⟩) ρ 0 w (.list u l) v:=by
 have hro:=h.bare.2;obtain⟨arr,e,fr,k1,k2,k3⟩:=h.box id _ hg;obtain⟨hd1,hlen⟩:=xX8 hl ((k3.drop off).take (n*u.sz));refine⟨some ⟨(ρ id).1,off,none⟩,n,by rw[hu,hlen],by omega,fun h0=>⟨(ρ id).1,off,rfl,.inr ⟨h.lo id _ hg trivial,h.hi id _ hg trivial,(fun id B hB=>by cases hB),h.hid.2 id _ hg trivial⟩,fun i hi=>?_⟩⟩;obtain⟨ds,d1,d2,d3⟩:=hd1.elems i hi;refine⟨ds,d1,fun j hj=>?_,p8.mono (fun b hb=>⟨hro b hb,rfl⟩) _ _ _ d3⟩;rw[cell_of_row w _ _ arr e fr k1,←d2 j hj]
 have hb:i*u.sz+j<n*u.sz:=by
  have:(i+1)*u.sz≤n*u.sz:=Nat.mul_le_mul_right _ (by omega);rw[Nat.succ_mul]at this;omega
 dsimp only;rw[List.getElem?_take,if_pos hb,List.getElem?_drop];simp
theorem qy3{hint:Ty}{w0:World}{R0:RSet}{ρ:Rho}{w:World}{m:Mem}(h:MRel w0 R0 ρ w m){v:SV}{u:Value}(hv:Rep (RO w0 R0 ρ w m) ρ m.next w v u)(hd:(qy2 hint m v).data=true):Rep (RO w0 R0 ρ w ⟨0,.e⟩) ρ 0 w (qy2 hint m v) u:=by
 have hro:=h.bare.2;unfold qy2 at hd ⊢
 split at hd
 ·split at hd
  ·exact Rep.data hro _ _ hd hv
  ·exact⟨none,0,by rw[show u=_ from hv];rfl,Nat.le_refl _,fun h=>absurd h (Nat.lt_irrefl _)⟩
 ·rename_i id
  split at hd
  ·rename_i t l hg
   obtain⟨_,a,hu,ha⟩:=hv;obtain⟨b1,b2,hp⟩:=h.box id _ hg;refine⟨a,(ρ id).2.2,by rw[hu,b1],b2,fun h0=>?_⟩;have h0:0< (ρ id).2.2:=Nat.lt_of_lt_of_le h0 b2;obtain⟨arr,e,fr,k1,k2,k3,k4⟩:=hp h0;refine⟨(ρ id).1,0,ha h0,.inr ⟨h.lo id _ hg h0,h.hi id _ hg h0,(fun id B hB=>by cases hB),h.hid.2 id _ hg h0⟩,fun i hi=>?_⟩;obtain⟨cs,c1,c2,c3⟩:=k4 i hi;refine⟨cs,c1,fun j hj=>?_,p8.mono (fun b hb=>⟨hro b hb,rfl⟩) _ _ _ c3⟩;rw[cell_of_row w _ _ arr e fr k1,Nat.zero_add];exact c2 j hj
  ·cases hd
 ·rename_i id off n
  split at hd
  ·rename_i cs hg
   split at hd
   ·rename_i l hl
    exact zq1 h hg hl hv.2
   ·cases hd
  ·cases hd
 ·exact Rep.data hro _ _ hd hv
theorem qy7{hint:Ty}{w0:World}{R0:RSet}{ρ:Rho}{w:World}{m:Mem}(h:MRel w0 R0 ρ w m):∀{cs:List SV} {us:List Value},j7 (RO w0 R0 ρ w m) ρ m.next w cs us→f5 (qy6 hint m cs)=true→j7 (RO w0 R0 ρ w ⟨0,.e⟩) ρ 0 w (qy6 hint m cs) us
 |[],_,hr,_=>hr
 |x::xs,us,hr,hd=>by
  obtain⟨u,us',rfl,h2,h3⟩:=hr;unfold qy6 at hd ⊢;rw[zP3]at hd
  cases h4:(qy2 hint m x).data with
  |false=>rw[h4]at hd;cases hd
  |true=>rw[h4]at hd;exact⟨u,us',rfl,qy3 h h2 h4,qy7 h h3 hd⟩
theorem qy5{hint:Ty}{w0:World}{R0:RSet}{ρ:Rho}{w:World}{m:Mem}(h:MRel w0 R0 ρ w m){v:SV}{u:Value}(hv:Rep (RO w0 R0 ρ w m) ρ m.next w v u)(hd:(qy4 hint m v).data=true):Rep (RO w0 R0 ρ w ⟨0,.e⟩) ρ 0 w (qy4 hint m v) u:=by
 unfold qy4 at hd ⊢
 split at hd
 ·obtain⟨vs,h1,h2⟩:=hv
  exact⟨vs,h1,qy7 h h2 (by rw[←zP7];exact hd)⟩
 ·exact qy3 h hv hd
theorem qy9{hint:Ty}{w0:World}{R0:RSet}{ρ:Rho}{w:World}{m:Mem}(h:MRel w0 R0 ρ w m):∀{cs:List SV} {us:List Value},j7 (RO w0 R0 ρ w m) ρ m.next w cs us→f5 (qy8 hint m cs)=true→j7 (RO w0 R0 ρ w ⟨0,.e⟩) ρ 0 w (qy8 hint m cs) us
 |[],_,hr,_=>hr
 |x::xs,us,hr,hd=>by
  obtain⟨u,us',rfl,h2,h3⟩:=hr;unfold qy8 at hd ⊢;rw[zP3]at hd
  cases h4:(qy4 hint m x).data with
  |false=>rw[h4]at hd;cases hd
  |true=>rw[h4]at hd;exact⟨u,us',rfl,qy5 h h2 h4,qy9 h h3 hd⟩
theorem qz0{hint:Ty}{w0:World}{R0:RSet}{ρ:Rho}{w:World}{m:Mem}(h:MRel w0 R0 ρ w m){v:SV}{u:Value}(hv:Rep (RO w0 R0 ρ w m) ρ m.next w v u)(hd:(qy1 hint m v).data=true):Rep (RO w0 R0 ρ w ⟨0,.e⟩) ρ 0 w (qy1 hint m v) u:=by
 unfold qy1 at hd ⊢
 split at hd
 ·obtain⟨vs,h1,h2⟩:=hv
  exact⟨vs,h1,qy9 h h2 (by rw[←zP9];exact hd)⟩
 ·exact qy5 h hv hd
section
variable {P:Program} {E:Env} {α:Type}
theorem zP4{l:List SV}(h:f5 l=true):∀x∈l,x.data=true:=by
 induction l with
 |nil=>intro x hx;cases hx
 |cons y ys ih=>
  rw[zP3]at h;intro x hx
  cases hy:y.data with
  |false=>rw[hy]at h;cases h
  |true=>
   rw[hy]at h;rcases List.mem_cons.1 hx with rfl|hx
   ·exact hy
   ·exact ih h x hx
theorem xx2{o:Oper}{ev:Operand→SV}{hint:Ty}{v:SV}{mc:Mem}(hd:f5 (o.op.operands.toList.map ev)=true)(hv:(qy1 hint mc v).data=true)(h:zd7 P ⟨0,.e⟩ v mc o ev)(m:Mem):zd7 P m (qy1 hint mc v) m o ev:=by
 intro w0 R0 ρ w eb hm hev;obtain⟨o1,o2⟩:=yI5 hm ρ
 have h1:=h w (RS w0 R0 ρ w m) ρ w eb o1 fun x hx=>Rep.data o2 _ _ (zP4 hd _ (List.mem_map.2 ⟨x,by simpa using hx,rfl⟩)) (hev x hx)
 refine zc1.mono (fun u w' ⟨ρ',g1,g2,g3⟩=>?_) h1;have hst:=Hand.start hm g1.bare.1;obtain⟨k1,k2⟩:=hst.finish hm g1.bare.1;exact⟨ρ,k1,k2,Rep.data (fun b hb=>hst.ro b (.inr hb)) _ u hv (qz0 g1 g3 hv)⟩
def zb6(P:Program)(E:Env)(all:List Oper)(o:Oper)(fr:Fr)(m:Mem)(v:SV)(m':Mem):Prop:=
 isW E o.op=true∨(m'=m∧∀m2,ze1 P all o fr m2 v m2)
theorem yz8(hE:EOK P E){call:za4 α}(hcall:za5 P false call){all:List Oper}{o:Oper}{ih:zc2 α}{p:Plan}{fr:Fr}{m:Mem}{L:α→Prop}(h:(yz7 E call o ih p fr m).holds L):
  ∃p' v fr1 m1,(ih p' fr1 m1).holds L∧ze1 P all o fr m v m1∧zb5 fr o.dst v fr1∧zb6 P E all o fr m v m1:=by
 unfold yz7 at h
 split at h
 ·rename_i hg
  have hgv:qC3 all fr.get o=some true:=by unfold qC3;rw[hg]
  split at h
  ·rename_i hw
   obtain⟨v,p',m1,h1,_,h3,h4⟩:=z17 hE hcall h;obtain⟨fr1,h5,h6⟩:=yT0 h1;exact⟨p',v,fr1,m1,h6,.inl ⟨hgv,h3⟩,h5,.inl hw⟩
  ·split at h
   ·rename_i hp
    obtain⟨v,p',m1,h1,_,h3,h4⟩:=z17 hE hcall h;obtain⟨fr1,h5,h6⟩:=yT0 h1;exact⟨p',v,fr1,m,h6,.inl ⟨hgv,h4.pure hp m⟩,h5,.inr ⟨rfl,fun m2=>.inl ⟨hgv,h4.pure hp m2⟩⟩⟩
   ·split at h
    ·rename_i hd
     obtain⟨v,p',mc,h1,_,h3,h4⟩:=z17 hE hcall h
     split at h1
     ·rename_i hv
      rw[qw1]at h1;obtain⟨fr1,h5,h6⟩:=yT0 h1;have key:=xx2 hd hv h3;exact⟨p',_,fr1,m,h6,.inl ⟨hgv,key m⟩,h5,.inr ⟨rfl,fun m2=>.inl ⟨hgv,key m2⟩⟩⟩
     ·exact h1.elim
    ·exact h.elim
 ·exact h.elim
inductive ChainF (P:Program) (E:Env) (all:List Oper):List Oper→Fr→Mem→Fr→Mem→Prop where
 |nil (fr:Fr) (m:Mem):ChainF P E all [] fr m fr m
 |cons {o:Oper} {rest:List Oper} {fr fr1 fr':Fr} {m m1 m':Mem} {v:SV} (h:ze1 P all o fr m v m1) (hx:zb6 P E all o fr m v m1) (hf:zb5 fr o.dst v fr1) (k:ChainF P E all rest fr1 m1 fr' m'):ChainF P E all (o::rest) fr m fr' m'
theorem z20(hE:EOK P E){call:za4 α}(hcall:za5 P false call){all:List Oper}{k:zc2 α}{L:α→Prop}:∀ (ops:List Oper) (p:Plan) (fr:Fr) (m:Mem),(z19 E call ops k p fr m).holds L→
  ∃p' fr' m',(k p' fr' m').holds L∧ChainF P E all ops fr m fr' m'
 |[],p,fr,m,h=>⟨p,fr,m,h,.nil fr m⟩
 |o::rest,p,fr,m,h=>by
  change (yz7 E call o (z19 E call rest k) p fr m).holds L at h
  obtain⟨p1,v,fr1,m1,h1,h2,h3,h4⟩:=yz8 (all:=all) hE hcall h;obtain⟨p',fr',m',h5,h6⟩:=z20 hE hcall rest p1 fr1 m1 h1;exact⟨p',fr',m',h5,.cons h2 h4 h3 h6⟩
structure WalkF (P:Program) (E:Env) (all:List Oper) (m m':Mem) (fr fr':Fr) (frs:Nat→Fr) (vals:Nat→SV) (ms:Nat→Mem):Prop where
 first:frs 0=fr
 last:frs all.length=fr'
 mfirst:ms 0=m
 mlast:ms all.length=m'
 step:∀i o,all[i]? =some o→ze1 P all o (frs i) (ms i) (vals i) (ms (i+1))
 more:∀i o,all[i]? =some o→zb6 P E all o (frs i) (ms i) (vals i) (ms (i+1))
 next:∀i o,all[i]? =some o→zb5 (frs i) o.dst (vals i) (frs (i+1))
theorem ChainF.index{all:List Oper}:∀{ops:List Oper} {fr fr':Fr} {m m':Mem},ChainF P E all ops fr m fr' m'→∃ (frs:Nat→Fr) (vals:Nat→SV) (ms:Nat→Mem),frs 0=fr∧frs ops.length=fr'∧ms 0=m∧ms ops.length=m'∧
  (∀i o,ops[i]? =some o→ze1 P all o (frs i) (ms i) (vals i) (ms (i+1)))∧(∀i o,ops[i]? =some o→zb6 P E all o (frs i) (ms i) (vals i) (ms (i+1)))∧(∀i o,ops[i]? =some o→zb5 (frs i) o.dst (vals i) (frs (i+1))):=by
 intro ops fr fr' m m' h
 induction h with
 |nil fr m=>exact⟨fun _=>fr,fun _=>.undef,fun _=>m,rfl,rfl,rfl,rfl,fun i o h=>by simp at h,fun i o h=>by simp at h,fun i o h=>by simp at h⟩
 |@cons o rest fr fr1 fr' m m1 m' v hst hx hf k ih=>
  obtain⟨frs,vals,ms,h1,h2,h1m,h2m,h3,hx3,h4⟩:=ih;refine⟨fun i=>Nat.casesOn i fr frs,fun i=>Nat.casesOn i v vals,fun i=>Nat.casesOn i m ms,rfl,h2,rfl,h2m,fun i o' hi=>?_,fun i o' hi=>?_,fun i o' hi=>?_⟩
  ·cases i with
   |zero=>simp at hi;subst hi;dsimp only;rw[h1m];exact hst
   |succ i=>exact h3 i o' (by simpa using hi)
  ·cases i with
   |zero=>simp at hi;subst hi;dsimp only;rw[h1m];exact hx
   |succ i=>exact hx3 i o' (by simpa using hi)
  ·cases i with
   |zero=>simp at hi;subst hi;dsimp only;rw[h1];exact hf
   |succ i=>exact h4 i o' (by simpa using hi)
theorem ChainF.toWalk{all:List Oper}{m m':Mem}{fr fr':Fr}(h:ChainF P E all all fr m fr' m'):∃frs vals ms,WalkF P E all m m' fr fr' frs vals ms:=
 let ⟨frs,vals,ms,h1,h2,h3,h4,h5,h6,h7⟩:=h.index
 ⟨frs,vals,ms,h1,h2,h3,h4,h5,h6,h7⟩
noncomputable def zM9(E:Env)(all:List Oper)(ms:Nat→Mem)(S:Nat→Bool):Nat→Mem
 |0=>ms 0
 |n+1=>if S n=true∧(all[n]?).any (fun o=>isW E o.op)=true then ms (n+1)else zM9 E all ms S n
theorem zN1{all:List Oper}{ms:Nat→Mem}{S S':Nat→Bool}:∀ (n:Nat),(∀k,k<n→(all[k]?).any (fun o=>isW E o.op)=true→S k=S' k)→zM9 E all ms S n=zM9 E all ms S' n
 |0,_=>rfl
 |n+1,h=>by
  simp only[zM9];rw[zN1 n fun k hk=>h k (by omega)]
  by_cases hw:(all[n]?).any (fun o=>isW E o.op)=true
  ·rw[h n (by omega) hw]
  ·rw[if_neg (fun c=>hw c.2),if_neg (fun c=>hw c.2)]
theorem zN2{all:List Oper}{ms:Nat→Mem}{S:Nat→Bool}{i:Nat}:∀ (n:Nat),i≤n→(∀k,i≤k→k<n→(all[k]?).any (fun o=>isW E o.op)=true→S k=false)→zM9 E all ms S n=zM9 E all ms S i
 |0,hi,_=>by rw[Nat.le_zero.1 hi]
 |n+1,hi,h=>by
  rcases Nat.lt_or_ge n i with h1|h1
  ·rw[show i=n+1 by omega]
  ·simp only[zM9]
   rw[if_neg (fun c=>by have:=h n h1 (by omega) c.2;rw[c.1]at this;cases this),zN2 n h1 fun k h1 h2=>h k h1 (by omega)]
theorem zN0{all:List Oper}{ms:Nat→Mem}(hk:∀ (i:Nat) (o:Oper),all[i]? =some o→isW E o.op=false→ms (i+1)=ms i){S:Nat→Bool}:∀ (n:Nat),n≤all.length→(∀k,k<n→(all[k]?).any (fun o=>isW E o.op)=true→S k=true)→zM9 E all ms S n=ms n
 |0,_,_=>rfl
 |n+1,hn,h=>by
  simp only[zM9];have ho:all[n]? =some all[n] :=List.getElem?_eq_getElem (by omega)
  by_cases hw:(all[n]?).any (fun o=>isW E o.op)=true
  ·rw[if_pos ⟨h n (by omega) hw,hw⟩]
  ·rw[if_neg (fun c=>hw c.2),zN0 hk n (by omega) fun k h1=>h k (by omega)]
   refine(hk n _ ho ?_).symm;rw[ho]at hw;simpa using hw
theorem zI0{all:List Oper}(h:zH8 E all=true):∀ (j:Nat) (oj:Oper),all[j]? =some oj→isW E oj.op=true→∀ (i:Nat) (oi:Oper),i<j→all[i]? =some oi→isW E oi.op=true→zB2 all 3 oj i=true:=by
 intro j oj hj hs i oi hij hi hwi;simp only[zH8,List.all_eq_true]at h;have h3:=h (oj,j) (List.mem_zipIdx_iff_getElem?.2 hj);simp only[hs,Bool.not_true,Bool.false_or,List.all_eq_true]at h3;have h4:=h3 (oi,i) (List.mem_zipIdx_iff_getElem?.2 hi)
 have hb:Nat.blt i j=true:=by rw[Nat.blt_eq];exact hij
 simpa only[hb,hwi,Bool.not_true,Bool.false_or]using h4
theorem qw2{all:List Oper}{m m':Mem}{fr fr':Fr}{frs:Nat→Fr}{vals:Nat→SV}{ms:Nat→Mem}(hw:WalkF P E all m m' fr fr' frs vals ms)(k:Nat)(o:Oper)(ho:all[k]? =some o)(hwr:isW E o.op=false):ms (k+1)=ms k:=by
 rcases hw.more k o ho with h|h
 ·rw[hwr]at h;cases h
 ·exact h.1
theorem qw3{all:List Oper}{m m':Mem}{fr fr':Fr}{frs:Nat→Fr}{vals:Nat→SV}{ms:Nat→Mem}(hw:WalkF P E all m m' fr fr' frs vals ms)(hch:zH8 E all=true)
  (S:Nat→Bool) (i:Nat) (o:Oper) (hoi:all[i]? =some o) (hSi:S i=false) (hcl:∀ (j:Nat) (oj:Oper),all[j]? =some oj→S j=true→∀e∈oj.after,Region.binds .any e=true→S e.on=true) (hready:∀e∈o.after,Region.binds .any e=true→S e.on=true):
  ze1 P all o (frs i) (zM9 E all ms S all.length) (vals i) (zM9 E all ms (fun k=>if k=i then true else S k) all.length):=by
 have hil:i<all.length:=(List.getElem?_eq_some_iff.1 hoi).1
 have hkeep:∀ (k:Nat) (o:Oper),all[k]? =some o→isW E o.op=false→ms (k+1)=ms k:=fun k o ho hwr=>qw2 hw k o ho hwr
 have hisw:∀{k:Nat} {o:Oper},all[k]? =some o→((all[k]?).any (fun o=>isW E o.op)=true↔isW E o.op=true):=fun {k o} ho=>by rw[ho];simp
 by_cases hwr:isW E o.op=true
 ·have hahead:∀k,k<i→(all[k]?).any (fun o=>isW E o.op)=true→S k=true:=by
   intro k hk hkw;have ho:all[k]? =some all[k] :=List.getElem?_eq_getElem (by omega);exact zB3 hcl 3 o k hready (zI0 hch i o hoi hwr k _ hk ho ((hisw ho).1 hkw))
  have hbehind:∀k,i<k→k<all.length→(all[k]?).any (fun o=>isW E o.op)=true→S k=false:=by
   intro k hk hkl hkw;have ho:all[k]? =some all[k] :=List.getElem?_eq_getElem hkl;rcases Bool.eq_false_or_eq_true (S k)with h|h
   ·have:=zB3 hcl 3 _ i (fun e he hb=>hcl k _ ho h e he hb) (zI0 hch k _ ho ((hisw ho).1 hkw) i o hk hoi hwr)
    rw[hSi]at this;cases this
   ·exact h
  have e1:zM9 E all ms S all.length=ms i:=by
   rw[zN2 (i:=i) all.length (by omega) (fun k h1 h2 h3=>?_),zN0 hkeep i (by omega) hahead]
   by_cases hki:k=i
   ·rw[hki];exact hSi
   ·exact hbehind k (by omega) h2 h3
  have e2:zM9 E all ms (fun k=>if k=i then true else S k) all.length=ms (i+1):=by
   rw[zN2 (i:=i+1) all.length (by omega) (fun k h1 h2 h3=>?_),zN0 hkeep (i+1) (by omega) (fun k h1 h2=>?_)]
   ·by_cases hki:k=i
    ·rw[if_pos hki]
    ·rw[if_neg hki];exact hahead k (by omega) h2
   ·rw[if_neg (by omega)];exact hbehind k (by omega) h2 h3
  rw[e1,e2];exact hw.step i o hoi
 ·have e2:zM9 E all ms (fun k=>if k=i then true else S k) all.length=zM9 E all ms S all.length:=by
   refine zN1 _ fun k hk hkw=>?_
   by_cases hki:k=i
   ·subst hki;exact absurd ((hisw hoi).1 hkw) hwr
   ·simp[hki]
  rw[e2];rcases hw.more i o hoi with h|h
  ·exact absurd h hwr
  ·exact h.2 _
end
theorem RO.congr{w0:World}{R0:RSet}{ρ:Rho}{w:World}{m m2:Mem}(hg:∀id,m2.get id=m.get id):RO w0 R0 ρ w m2=RO w0 R0 ρ w m:=by
 funext b;unfold RO;simp only[hg]
theorem MRel.congr{w0:World}{R0:RSet}{ρ:Rho}{w:World}{m m2:Mem}(hg:∀id,m2.get id=m.get id)(hn:m2.next=m.next)(h:MRel w0 R0 ρ w m):MRel w0 R0 ρ w m2:=by
 refine⟨h.below,fun id B hB=>?_,fun id B hB=>h.lo id B (by rw[←hg];exact hB),fun id B hB=>h.hi id B (by rw[←hg];exact hB),fun id id' B B' hB hB'=>h.inj id id' B B' (by rw[←hg];exact hB) (by rw[←hg];exact hB'),fun id B hB=>?_,h.hid.1,fun id B hB=>h.hid.2 id B (by rw[←hg];exact hB)⟩
 ·rw[hn];exact h.lt id B (by rw[←hg];exact hB)
 ·rw[RO.congr hg,hn];exact h.box id B (by rw[←hg];exact hB)
theorem n9.congr{w0:World}{R0:RSet}{ρ:Rho}{w:World}{m m2 m' m2':Mem}{v:SV}{u:Value}{w':World}(hg:∀id,m2.get id=m.get id)(hn:m2.next=m.next)(hg':∀id,m2'.get id=m'.get id)(hn':m2'.next=m'.next)(h:n9 w0 R0 ρ w m v m' u w'):n9 w0 R0 ρ w m2 v m2' u w':=by
 obtain⟨ρ',g1,g2,g3⟩:=h;refine⟨ρ',g1.congr hg' hn',?_,?_⟩
 ·unfold n7
  rw[RO.congr hg,RO.congr hg',hn,hn'];exact g2
 ·rw[RO.congr hg',hn'];exact g3
theorem zd7.congr{P:Program}{m m2 m' m2':Mem}{v:SV}{o:Oper}{ev:Operand→SV}(hg:∀id,m2.get id=m.get id)(hn:m2.next=m.next)(hg':∀id,m2'.get id=m'.get id)(hn':m2'.next=m'.next)(h:zd7 P m v m' o ev):zd7 P m2 v m2' o ev:=by
 intro w0 R0 ρ w eb hm hev;have h1:=h w0 R0 ρ w eb (hm.congr (fun id=>(hg id).symm) hn.symm) (fun x hx=>by rw[←RO.congr hg,←hn];exact hev x hx);exact zc1.mono (fun u w' hu=>hu.congr hg hn hg' hn') h1
theorem xx7{β γ α:Type}{L:α→Prop}:∀ (d:Nat) (t:Tb β) (i:Nat) (v:Option β) (k:Tb β→Tree α),(xx6 d t i v k).holds L→∀ (t2:Tb γ) (v2:Option γ),∃t2',∀ (δ:Type) (k2:Tb γ→Tree δ),xx6 d t2 i v2 k2=k2 t2'
 |0,_,_,_,_,h=>h.elim
 |d+1,t,0,v,k,h=>fun t2 v2=>by
  cases t2 with
  |e=>exact⟨_,fun _ _=>rfl⟩
  |n l u r=>exact⟨_,fun _ _=>rfl⟩
 |d+1,t,j+1,v,k,h=>fun t2 v2=>by
  have down:∃ (t':Tb β) (α':Type) (L':α'→Prop) (k':Tb β→Tree α'),(xx6 d t' (j / 2) v k').holds L':=by
   cases t with
   |e=>
    change (Tb.pick j (fun i=>xx6 d .e i v fun l=>k (.n l none .e)) (fun i=>xx6 d .e i v fun r=>k (.n .e none r))).holds L at h
    by_cases hj:j % 2=0
    ·rw[Tb.pick_even hj]at h;exact⟨_,_,_,_,h⟩
    ·rw[Tb.pick_odd hj]at h;exact⟨_,_,_,_,h⟩
   |n l u r=>
    change (Tb.pick j (fun i=>xx6 d l i v fun l=>k (.n l u r)) (fun i=>xx6 d r i v fun r=>k (.n l u r))).holds L at h
    by_cases hj:j % 2=0
    ·rw[Tb.pick_even hj]at h;exact⟨_,_,_,_,h⟩
    ·rw[Tb.pick_odd hj]at h;exact⟨_,_,_,_,h⟩
  obtain⟨t',α',L',k',h'⟩:=down
  cases t2 with
  |e=>
   obtain⟨t3,h3⟩:=xx7 d t' (j / 2) v k' h' (.e:Tb γ) v2
   by_cases hj:j % 2=0
   ·exact⟨_,fun δ k2=>by
     change Tb.pick j (fun i=>xx6 d .e i v2 fun l=>k2 (.n l none .e)) (fun i=>xx6 d .e i v2 fun r=>k2 (.n .e none r))=_
     rw[Tb.pick_even hj,h3]⟩
   ·exact⟨_,fun δ k2=>by
     change Tb.pick j (fun i=>xx6 d .e i v2 fun l=>k2 (.n l none .e)) (fun i=>xx6 d .e i v2 fun r=>k2 (.n .e none r))=_
     rw[Tb.pick_odd hj,h3]⟩
  |n l u r=>
   by_cases hj:j % 2=0
   ·obtain⟨t3,h3⟩:=xx7 d t' (j / 2) v k' h' l v2
    exact⟨_,fun δ k2=>by
     change Tb.pick j (fun i=>xx6 d l i v2 fun l=>k2 (.n l u r)) (fun i=>xx6 d r i v2 fun r=>k2 (.n l u r))=_
     rw[Tb.pick_even hj,h3]⟩
   ·obtain⟨t3,h3⟩:=xx7 d t' (j / 2) v k' h' r v2
    exact⟨_,fun δ k2=>by
     change Tb.pick j (fun i=>xx6 d l i v2 fun l=>k2 (.n l u r)) (fun i=>xx6 d r i v2 fun r=>k2 (.n l u r))=_
     rw[Tb.pick_odd hj,h3]⟩
theorem xx8{β:Type}{d:Nat}{t t':Tb β}{i:Nat}{v:Option β}(h:∀ (δ:Type) (k2:Tb β→Tree δ),xx6 d t i v k2=k2 t'):ze3 t i v t':=by
 obtain⟨t2,g1,g2⟩:=qG7 (L:=fun x=>x=t') d t i v .leaf (by rw[h];exact rfl);obtain rfl:t2=t':=g2;exact g1
theorem Mem.set_any{α:Type}{L:α→Prop}{m:Mem}{id:Nat}{b:Option Box}{k:Mem→Tree α}(h:(m.set id b k).holds L)(m2:Mem)(b2:Option Box):∃m2',zc0 m2 id b2 m2'∧∀ (δ:Type) (k2:Mem→Tree δ),m2.set id b2 k2=k2 m2':=by
 obtain⟨t',ht⟩:=xx7 40 m.tb id b (fun tb=>k ⟨m.next,tb⟩) h m2.tb b2;exact⟨⟨m2.next,t'⟩,⟨xx8 ht,rfl⟩,fun δ k2=>ht δ _⟩
theorem Mem.push_any{α:Type}{L:α→Prop}{m:Mem}{B:Box}{k:Mem→Nat→Tree α}(h:(m.push B k).holds L)(m2:Mem)(B2:Box)(hn:m2.next=m.next):∃m2',zb9 m2 B2 m2'∧∀ (δ:Type) (k2:Mem→Nat→Tree δ),m2.push B2 k2=k2 m2' m2.next:=by
 unfold Mem.push at h;rw[qw0]at h;obtain⟨t',ht⟩:=xx7 40 m.tb m.next (some B) (fun tb=>k ⟨m.next+1,tb⟩ m.next) h m2.tb (some B2);rw[←hn]at ht;refine⟨⟨m2.next+1,t'⟩,⟨xx8 ht,rfl⟩,fun δ k2=>?_⟩;unfold Mem.push;rw[qw0];exact ht δ _
theorem yH1{α:Type}{L:α→Prop}:∀ (cs:List SV) (off:Nat) (vs:List SV) (k:List SV→Tree α),(yH0 cs off vs k).holds L→∃r,(k r).holds L∧∀ (δ:Type) (k2:List SV→Tree δ),yH0 cs off vs k2=k2 r
 |[],off,[],k,h=>⟨[],h,fun _ _=>rfl⟩
 |[],off,_::_,k,h=>h.elim
 |c::cs,off,[],k,h=>⟨_,h,fun _ _=>rfl⟩
 |c::cs,0,v::vs,k,h=>by
  change (frc v fun v=>yH0 cs 0 vs fun ys=>k (v::ys)).holds L at h
  rw[qw1]at h;obtain⟨r,h1,h2⟩:=yH1 cs 0 vs _ h;refine⟨_,h1,fun δ k2=>?_⟩
  change (frc v fun v=>yH0 cs 0 vs fun ys=>k2 (v::ys))=_
  rw[qw1,h2]
 |c::cs,off+1,v::vs,k,h=>by
  change (yH0 cs off (v::vs) fun ys=>k (c::ys)).holds L at h
  obtain⟨r,h1,h2⟩:=yH1 cs off (v::vs) _ h
  exact⟨_,h1,fun δ k2=>by
   change (yH0 cs off (v::vs) fun ys=>k2 (c::ys))=_
   rw[h2]⟩
theorem yA8{α:Type}{L:α→Prop}{m:Mem}:∀ (ids:List Nat) (mF:Mem) (k:Mem→Tree α),(m.only ids mF k).holds L→∃mF',(k mF').holds L∧mF'.next=mF.next∧∀id,mF'.get id=if id∈ids∧(m.get id).isSome=true then m.get id else mF.get id
 |[],mF,k,h=>⟨mF,h,rfl,fun id=>by simp⟩
 |i::ids,mF,k,h=>by
  change ((match m.get i with
   |some B=>mF.set i (some B) fun mF=>m.only ids mF k
   |none=>m.only ids mF k:Tree α)).holds L at h
  cases hi:m.get i with
  |none=>
   rw[hi]at h;obtain⟨mF',h1,h2,h3⟩:=yA8 ids mF k h;refine⟨mF',h1,h2,fun id=>?_⟩;rw[h3 id]
   by_cases e:id=i
   ·subst e;rw[hi];simp
   ·simp[e]
  |some B=>
   rw[hi]at h;obtain⟨m1,g1,g2⟩:=Mem.set_holds h;obtain⟨mF',h1,h2,h3⟩:=yA8 ids m1 k g2;refine⟨mF',h1,h2.trans g1.2,fun id=>?_⟩;rw[h3 id,g1.1 id]
   by_cases e:id=i
   ·subst e;rw[hi];simp
   ·simp[e]
theorem yA7{α:Type}{L:α→Prop}{m:Mem}{ids:List Nat}{k:Mem→Tree α}(h:(m.only ids ⟨m.next,.e⟩ k).holds L):∃mF,(k mF).holds L∧mF.next=m.next∧(∀id∈ids,mF.get id=m.get id)∧∀id,id∉ids→mF.get id=none:=by
 obtain⟨mF,h1,h2,h3⟩:=yA8 ids _ k h;refine⟨mF,h1,h2,fun id hid=>?_,fun id hid=>?_⟩
 ·rw[h3 id]
  cases hx:m.get id with
  |none=>simp;exact emptyMem_get' _ id
  |some B=>simp[hid]
 ·rw[h3 id,if_neg (fun c=>hid c.1)];exact emptyMem_get' _ id
where emptyMem_get' (n k:Nat):(⟨n,.e⟩:Mem).get k=none:=rfl
theorem yM3{α:Type}{L:α→Prop}{mF:Mem}:∀ (ids:List Nat) (m:Mem) (k:Mem→Tree α),(Mem.patch mF ids m k).holds L→∃m',(k m').holds L∧m'.next=m.next∧∀id,m'.get id=if id∈ids then mF.get id else m.get id
 |[],m,k,h=>⟨m,h,rfl,fun id=>by simp⟩
 |i::ids,m,k,h=>by
  change (m.set i (mF.get i) fun m=>Mem.patch mF ids m k).holds L at h
  obtain⟨m1,g1,g2⟩:=Mem.set_holds h;obtain⟨m',h1,h2,h3⟩:=yM3 ids m1 k g2;refine⟨m',h1,h2.trans g1.2,fun id=>?_⟩;rw[h3 id,g1.1 id]
  by_cases e:id=i
  ·subst e;simp
  ·simp[e]
section
variable {P:Program} {E:Env} {α:Type} {L:α→Prop}
theorem yd0{Q:Bool}:za5 P Q (fun _ _ _ _ _=>.fail 0:za4 α):=fun f args p m κ L h=>h.elim
theorem xx3(hE:EOK P E){call:za4 (SV×Mem)}(hcall:za5 P false call){ev:Operand→SV}{o:Oper}{p:Plan}{m m':Mem}{v:SV}
  (h:(execOp E call ev o.op p m fun v _ m=>.leaf (v,m)).holds fun y=>y.1=v∧(∀id,y.2.get id=m'.get id)∧y.2.next=m'.next):zd7 P m v m' o ev:=by
 obtain⟨v1,p1,m1,h1,_,h2,_⟩:=z17 hE hcall h;obtain⟨rfl,h3,h4⟩:=h1;exact h2.congr (fun _=>rfl) rfl (fun id=>(h3 id).symm) h4.symm
theorem yF3{t:TypeId}{a v:SV}{p:Plan}{m:Mem}{κ:p9 α}(h:(yF2 E t a v p m κ).holds L):
  ∃m',(κ .undef p m').holds L∧∀ (m2 m2':Mem) (p2:Plan),(∀id∈qL1 a [],m2.get id=m.get id)→(∀id,m2'.get id=if id∈qL1 a []then m'.get id else m2.get id)→m2'.next=m2.next→
   (yF2 E t a v p2 m2 fun v _ m=>.leaf (v,m)).holds fun y=>y.1=.undef∧(∀id,y.2.get id=m2'.get id)∧y.2.next=m2'.next:=by
 unfold yF2 at h
 cases hr:E.row t with
 |none=>rw[hr]at h;exact h.elim
 |some r=>
  rw[hr]at h;dsimp only at h
  split at h
  ·exact h.elim
  ·rename_i hs
   cases a<;>try exact h.elim
   case ptr id off=>
    dsimp only at h
    cases hg:m.get id with
    |none=>rw[hg]at h;exact h.elim
    |some B=>
     rw[hg]at h
     cases B<;>try exact h.elim
     case cells cs=>
      dsimp only at h;obtain⟨cs',h1,h2⟩:=yH1 _ _ _ _ h;obtain⟨m',h3,h4⟩:=Mem.set_holds h1;refine⟨m',h4,fun m2 m2' p2 ha hp hn=>?_⟩;have ha:=ha id (by simp[qL1,zk0,idx]);obtain⟨m3,h5,h6⟩:=Mem.set_any h1 m2 (some (.cells cs'));unfold yF2;rw[hr];dsimp only;rw[hs];dsimp only;rw[ha,hg];dsimp only;rw[h2,h6];refine⟨rfl,fun id'=>?_,h5.2.trans hn.symm⟩;rw[h5.1 id',hp id',h3.1 id']
      by_cases e:id'=id
      ·subst e;simp[qL1,zk0,idx]
      ·simp[qL1,zk0,idx,e]
     case obj u cs=>
      dsimp only at h;obtain⟨cs',h1,h2⟩:=yH1 _ _ _ _ h;obtain⟨m',h3,h4⟩:=Mem.set_holds h1;refine⟨m',h4,fun m2 m2' p2 ha hp hn=>?_⟩;have ha:=ha id (by simp[qL1,zk0,idx]);obtain⟨m3,h5,h6⟩:=Mem.set_any h1 m2 (some (.obj u cs'));unfold yF2;rw[hr];dsimp only;rw[hs];dsimp only;rw[ha,hg];dsimp only;rw[h2,h6];refine⟨rfl,fun id'=>?_,h5.2.trans hn.symm⟩;rw[h5.1 id',hp id',h3.1 id']
      by_cases e:id'=id
      ·subst e;simp[qL1,zk0,idx]
      ·simp[qL1,zk0,idx,e]
   case rptr id sz i off=>
    dsimp only at h
    cases hg:m.get id with
    |none=>rw[hg]at h;exact h.elim
    |some B=>
     rw[hg]at h
     cases B<;>try exact h.elim
     case rows u l=>
      dsimp only at h
      split at h
      ·rename_i hsz
       obtain⟨hi0,h⟩:=h;obtain⟨cs',h1,h2⟩:=yH1 _ _ _ _ h
       split at h1
       ·rename_i x hx
        obtain⟨m',h3,h4⟩:=Mem.set_holds h1;refine⟨m',h4,fun m2 m2' p2 ha hp hn=>?_⟩;have ha:=ha id (by simp[qL1,zk0,idx]);obtain⟨m3,h5,h6⟩:=Mem.set_any h1 m2 (some (.rows u (l.set i x)));unfold yF2;rw[hr];dsimp only;rw[hs];dsimp only;rw[ha,hg];dsimp only;rw[hsz];dsimp only;refine⟨hi0,?_⟩;rw[h2,hx];dsimp only;rw[h6];refine⟨rfl,fun id'=>?_,h5.2.trans hn.symm⟩;rw[h5.1 id',hp id',h3.1 id']
        by_cases e:id'=id
        ·subst e;simp[qL1,zk0,idx]
        ·simp[qL1,zk0,idx,e]
       ·exact h1.elim
      ·exact h.elim
theorem zY1{u:Ty}{m m2:Mem}{x:SV}(h:∀id,q46 id x=true→m2.get id=m.get id):zY0 u m2 x=zY0 u m x:=by
 cases x<;>try rfl
 case row id=>
  have:=h id (by simp[q46]);simp only[zY0,this]
 case arr id off n=>
  have:=h id (by simp[q46]);simp only[zY0,this]
theorem q44{id n k:Nat}:id∈List.range' n k↔n≤id∧id<n+k:=by simp[List.mem_range'_1]
theorem yB5{t:TypeId}{s x:SV}{p:Plan}{m:Mem}{κ:p9 α}(h:(yB4 E t s x p m κ).holds L):
  ∃v p' m',(κ v p' m').holds L∧m.next≤m'.next∧∀ (F:List Nat) (m2 m2':Mem),(∀id,q46 id s=true∨q46 id x=true→id∈F)→(∀id∈F,m2.get id=m.get id)→m2.next=m.next→
   (∀id,m2'.get id=if id∈F++List.range' m.next (m'.next-m.next)then m'.get id else m2.get id)→m2'.next=m'.next→
   (yB4 E t s x .auto m2 fun v _ m=>.leaf (v,m)).holds fun y=>y.1=v∧(∀id,y.2.get id=m2'.get id)∧y.2.next=m2'.next:=by
 unfold yB4 at h
 split at h
 ·rename_i e sz by_ ze ty0 eg he hrow
  split at h
  ·rename_i de size bytes ze' u eg' he' hre
   split at h
   ·rename_i hs
    split at h
    ·rename_i xs hxs
     split at h
     · -- nil
       obtain⟨hb,h⟩:=h;obtain⟨m',h1,h2⟩:=Mem.push_holds h;refine⟨_,p,m',h2,by rw[h1.2];omega,fun F m2 m2' hF ha hn hp hn'=>?_⟩;obtain⟨m3,h5,h6⟩:=Mem.push_any h m2 (.rows u xs) hn;unfold yB4;rw[hrow];dsimp only;rw[hre];dsimp only;rw[hs];dsimp only;rw[zY1 (fun id hid=>ha id (hF id (.inr hid))),hxs];dsimp only;refine⟨hb,?_⟩;rw[h6];refine⟨by rw[hn],fun id=>?_,by rw[h5.2,hn,hn',h1.2]⟩;rw[h5.1 id,hp id,h1.1 id,hn];simp only[List.mem_append,q44,h1.2]
       by_cases e1:id=m.next
       ·subst e1;simp
       ·rw[if_neg e1,if_neg e1]
        by_cases e2:id∈F
        ·rw[if_pos (.inl e2)];exact ha id e2
        ·rw[if_neg (fun c=>c.elim e2 fun c=>by omega)]
     · -- a row
       rename_i id
       split at h
       ·rename_i v l hg
        split at h
        ·rename_i hv
         obtain⟨hb,h⟩:=h;obtain⟨m1,h1,h2⟩:=Mem.set_holds h;obtain⟨m',h3,h4⟩:=Mem.push_holds h2;refine⟨_,p,m',h4,by rw[h3.2,h1.2];omega,fun F m2 m2' hF ha hn hp hn'=>?_⟩;have hid:id∈F:=hF id (.inl (by simp[q46]));obtain⟨m4,h5,h6⟩:=Mem.set_any h m2 none;obtain⟨m5,h7,h8⟩:=Mem.push_any h2 m4 (.rows u ((hv▸l:List u.T)++xs)) (by rw[h5.2,h1.2,hn]);unfold yB4;rw[hrow];dsimp only;rw[hre];dsimp only;rw[hs];dsimp only;rw[zY1 (fun id hid=>ha id (hF id (.inr hid))),hxs];dsimp only;rw[ha id hid,hg];dsimp only;rw[dif_pos hv];refine⟨hb,?_⟩;rw[h6,h8];refine⟨by rw[h5.2,h1.2,hn],fun j=>?_,by rw[h7.2,h5.2,hn,hn',h3.2,h1.2]⟩;rw[h7.1 j,hp j,h3.1 j,h5.2,h1.2,hn];simp only[List.mem_append,q44,h3.2,h1.2]
         by_cases e1:j=m.next
         ·subst e1;simp
         ·rw[if_neg e1,if_neg e1,h5.1 j,h1.1 j]
          by_cases e3:j=id
          ·subst e3;rw[if_pos rfl,if_pos rfl];simp[hid]
          ·rw[if_neg e3,if_neg e3]
           by_cases e2:j∈F
           ·rw[if_pos (.inl e2)];exact ha j e2
           ·rw[if_neg (fun c=>c.elim e2 fun c=>by omega)]
        ·exact h.elim
       ·exact h.elim
     · -- an array's slice
       rename_i id off n
       split at h
       ·rename_i l hl
        obtain⟨p',h⟩:=zQ8 h
        cases hxe:xs.isEmpty with
        |true=>
         rw[hxe]at h;refine⟨_,p',m,h,Nat.le_refl _,fun F m2 m2' hF ha hn hp hn'=>?_⟩;unfold yB4;rw[hrow];dsimp only;rw[hre];dsimp only;rw[hs];dsimp only;rw[zY1 (fun id hid=>ha id (hF id (.inr hid))),hxs];dsimp only;rw[zY1 (fun id hid=>ha id (hF id (.inl hid))),hl];dsimp only;rw[hxe];refine⟨rfl,fun j=>?_,by rw[hn,hn']⟩;rw[hp j]
         by_cases e2:j∈F
         ·rw[if_pos (List.mem_append_left _ e2)];exact ha j e2
         ·rw[if_neg (by simp[e2])]
        |false=>
         rw[hxe]at h;obtain⟨hb,h⟩:=h;obtain⟨m',h1,h2⟩:=Mem.push_holds h;refine⟨_,p',m',h2,by rw[h1.2];omega,fun F m2 m2' hF ha hn hp hn'=>?_⟩;obtain⟨m3,h5,h6⟩:=Mem.push_any h m2 (.rows u (l++xs)) hn;unfold yB4;rw[hrow];dsimp only;rw[hre];dsimp only;rw[hs];dsimp only;rw[zY1 (fun id hid=>ha id (hF id (.inr hid))),hxs];dsimp only;rw[zY1 (fun id hid=>ha id (hF id (.inl hid))),hl];dsimp only;rw[hxe];refine⟨hb,?_⟩;rw[h6];refine⟨by rw[hn],fun id=>?_,by rw[h5.2,hn,hn',h1.2]⟩;rw[h5.1 id,hp id,h1.1 id,hn];simp only[List.mem_append,q44,h1.2]
         by_cases e1:id=m.next
         ·subst e1;simp
         ·rw[if_neg e1,if_neg e1]
          by_cases e2:id∈F
          ·rw[if_pos (.inl e2)];exact ha id e2
          ·rw[if_neg (fun c=>c.elim e2 fun c=>by omega)]
       ·exact h.elim
     ·exact h.elim
    ·exact h.elim
   ·exact h.elim
  ·exact h.elim
 ·exact h.elim
theorem zm5{v:SV}{mc m:Mem}{k:SV→Mem→Mem→Tree α}(h:(zm4 v mc m k).holds L):∃v' mc' m',(k v' mc' m').holds L∧m.next≤m'.next∧(∀id,¬(m.next≤id∧id<m'.next)→m'.get id=m.get id)∧
  ∀m2:Mem,m2.next=m.next→∃m2',m2'.next=m'.next∧(∀id,m2'.get id=if m.next≤id∧id<m'.next then m'.get id else m2.get id)∧∀ (δ:Type) (k2:SV→Mem→Mem→Tree δ),zm4 v mc m2 k2=k2 v' mc' m2':=by
 have plain:∀v:SV,(∀ (m:Mem) (δ:Type) (k:SV→Mem→Mem→Tree δ),zm4 v mc m k=k v mc m)→(k v mc m).holds L→∃v' mc' m',(k v' mc' m').holds L∧m.next≤m'.next∧(∀id,¬(m.next≤id∧id<m'.next)→m'.get id=m.get id)∧
   ∀m2:Mem,m2.next=m.next→∃m2',m2'.next=m'.next∧(∀id,m2'.get id=if m.next≤id∧id<m'.next then m'.get id else m2.get id)∧∀ (δ:Type) (k2:SV→Mem→Mem→Tree δ),zm4 v mc m2 k2=k2 v' mc' m2':=
  fun v he h=>⟨v,mc,m,h,Nat.le_refl _,fun _ _=>rfl,fun m2 hn=>⟨m2,hn,fun id=>by rw[if_neg (by omega)],fun δ k2=>he m2 δ k2⟩⟩
 cases v with
 |row id=>
  dsimp only[zm4]at h
  split at h
  ·rename_i t l hg
   obtain⟨mc',_,h6⟩:=Mem.set_any h mc none;rw[h6]at h;obtain⟨m',h3,h4⟩:=Mem.push_any h m (.rows t l) rfl;rw[h4]at h;refine⟨_,mc',m',h,by rw[h3.2];omega,fun j hj=>by rw[h3.1 j,if_neg (by rw[h3.2]at hj;omega)],fun m2 hn=>?_⟩
   have h0:(m.push (.rows t l) fun m id=>k (.row id) mc' m).holds L:=by rw[h4];exact h
   obtain⟨m3,h7,h8⟩:=Mem.push_any h0 m2 (.rows t l) hn;refine⟨m3,by rw[h7.2,h3.2,hn],fun j=>?_,fun δ k2=>?_⟩
   ·rw[h7.1 j,h3.1 j,h3.2,hn]
    by_cases e1:j=m.next
    ·subst e1;simp
    ·rw[if_neg e1,if_neg e1,if_neg (by omega)]
   ·simp only[zm4,hg]
    rw[h6,h8,hn]
  ·exact h.elim
 |undef=>exact plain _ (fun _ _ _=>rfl) h
 |top=>exact h.elim
 |int a b=>exact plain _ (fun _ _ _=>rfl) h
 |bool a=>exact plain _ (fun _ _ _=>rfl) h
 |str a=>exact plain _ (fun _ _ _=>rfl) h
 |nilS=>exact plain _ (fun _ _ _=>rfl) h
 |list a b=>exact plain _ (fun _ _ _=>rfl) h
 |arr a b c=>exact h.elim
 |ptr a b=>exact h.elim
 |nilP=>exact plain _ (fun _ _ _=>rfl) h
 |eptr a b c d=>exact plain _ (fun _ _ _=>rfl) h
 |rptr a b c d=>exact h.elim
 |agg cs=>
  dsimp only[zm4]at h
  split at h
  ·rename_i hd;exact plain _ (fun _ _ _=>by dsimp only[zm4];rw[hd]) h
  ·exact h.elim
 |tuple cs=>
  dsimp only[zm4]at h
  split at h
  ·rename_i hd;exact plain _ (fun _ _ _=>by dsimp only[zm4];rw[hd]) h
  ·exact h.elim
 |fn f a c=>
  dsimp only[zm4]at h
  split at h
  ·rename_i hd;exact plain _ (fun _ _ _=>by dsimp only[zm4];rw[hd]) h
  ·exact h.elim
 |raw u=>exact plain _ (fun _ _ _=>rfl) h
theorem zm8:∀ (vs:List SV) (mc m:Mem) (k:List SV→Mem→Mem→Tree α),(zm7 vs mc m k).holds L→∃vs' mc' m',(k vs' mc' m').holds L∧m.next≤m'.next∧(∀id,¬(m.next≤id∧id<m'.next)→m'.get id=m.get id)∧
  ∀m2:Mem,m2.next=m.next→∃m2',m2'.next=m'.next∧(∀id,m2'.get id=if m.next≤id∧id<m'.next then m'.get id else m2.get id)∧∀ (δ:Type) (k2:List SV→Mem→Mem→Tree δ),zm7 vs mc m2 k2=k2 vs' mc' m2'
 |[],mc,m,k,h=>⟨[],mc,m,h,Nat.le_refl _,fun _ _=>rfl,fun m2 hn=>⟨m2,hn,fun id=>by rw[if_neg (by omega)],fun δ k2=>rfl⟩⟩
 |v::vs,mc,m,k,h=>by
  change (zm4 v mc m fun v mc m=>zm7 vs mc m fun vs mc m=>k (v::vs) mc m).holds L at h
  obtain⟨v',mc1,m1,h1,l1,g1,a1⟩:=zm5 h;obtain⟨vs',mc',m',h2,l2,g2,a2⟩:=zm8 vs mc1 m1 _ h1;refine⟨v'::vs',mc',m',h2,Nat.le_trans l1 l2,fun id hid=>by rw[g2 id (by omega),g1 id (by omega)],fun m2 hn=>?_⟩;obtain⟨m3,n3,e3,k3⟩:=a1 m2 hn;obtain⟨m4,n4,e4,k4⟩:=a2 m3 n3;refine⟨m4,n4,fun id=>?_,fun δ k2=>?_⟩
  ·rw[e4 id,e3 id]
   by_cases c2:m1.next≤id∧id<m'.next
   ·rw[if_pos c2,if_pos (by omega)]
   ·rw[if_neg c2]
    by_cases c1:m.next≤id∧id<m1.next
    ·rw[if_pos c1,if_pos (by omega),g2 id c2]
    ·rw[if_neg c1,if_neg (by omega)]
  ·change (zm4 v mc m2 fun v mc m=>zm7 vs mc m fun vs mc m=>k2 (v::vs) mc m)=_
   rw[k3,k4]
theorem zn0{v:SV}{mc m:Mem}{k:SV→Mem→Tree α}(h:(zm3 v mc m k).holds L):∃v' m',(k v' m').holds L∧m.next≤m'.next∧(∀id,¬(m.next≤id∧id<m'.next)→m'.get id=m.get id)∧
  ∀m2:Mem,m2.next=m.next→∃m2',m2'.next=m'.next∧(∀id,m2'.get id=if m.next≤id∧id<m'.next then m'.get id else m2.get id)∧∀ (δ:Type) (k2:SV→Mem→Tree δ),zm3 v mc m2 k2=k2 v' m2':=by
 have one:∀v:SV,(∀ (m:Mem) (δ:Type) (k:SV→Mem→Tree δ),zm3 v mc m k=zm4 v mc m fun v _ m=>k v m)→(zm4 v mc m fun v _ m=>k v m).holds L→∃v' m',(k v' m').holds L∧m.next≤m'.next∧(∀id,¬(m.next≤id∧id<m'.next)→m'.get id=m.get id)∧
   ∀m2:Mem,m2.next=m.next→∃m2',m2'.next=m'.next∧(∀id,m2'.get id=if m.next≤id∧id<m'.next then m'.get id else m2.get id)∧∀ (δ:Type) (k2:SV→Mem→Tree δ),zm3 v mc m2 k2=k2 v' m2':=by
  intro v he h;obtain⟨v',mc',m',h1,l1,g1,a1⟩:=zm5 h;refine⟨v',m',h1,l1,g1,fun m2 hn=>?_⟩;obtain⟨m3,n3,e3,k3⟩:=a1 m2 hn;exact⟨m3,n3,e3,fun δ k2=>by rw[he,k3]⟩
 cases v with
 |tuple vs=>
  obtain⟨v',mc',m',h1,l1,g1,a1⟩:=zm8 vs mc m _ h;refine⟨_,m',h1,l1,g1,fun m2 hn=>?_⟩;obtain⟨m3,n3,e3,k3⟩:=a1 m2 hn;exact⟨m3,n3,e3,fun δ k2=>k3 _ _⟩
 |agg vs=>
  obtain⟨v',mc',m',h1,l1,g1,a1⟩:=zm8 vs mc m _ h;refine⟨_,m',h1,l1,g1,fun m2 hn=>?_⟩;obtain⟨m3,n3,e3,k3⟩:=a1 m2 hn;exact⟨m3,n3,e3,fun δ k2=>k3 _ _⟩
 |_=>exact one _ (fun _ _ _=>rfl) h
end
section
variable {P:Program} {E:Env} {α:Type} {L:α→Prop}
def za3(P:Program)(call:za4 α):Prop:=
 ∀f args p m (κ:p9 α) (L:α→Prop),(call f args p m κ).holds L→∃v p' m',(κ v p' m').holds L∧m.next≤m'.next∧∀ (F:List Nat) (m2 m2':Mem),(∀id,q48 id args=true→id∈F)→(∀id∈F,m2.get id=m.get id)→m2.next=m.next→
  (∀id,m2'.get id=if id∈F++List.range' m.next (m'.next-m.next)then m'.get id else m2.get id)→m2'.next=m'.next→zd6 P m2 v m2' f args
theorem q49{id:Nat}:∀{l:List SV} {x:SV},x∈l→q46 id x=true→q48 id l=true
 |y::l,x,h,hm=>by
  show(q46 id y||q48 id l)=true;rcases List.mem_cons.1 h with rfl|h
  ·rw[hm];rfl
  ·rw[q49 h hm];simp
theorem qL4:∀{l:List Nat} {k j:Nat},idx l k=some j→k∈l
 |x::l,k,j,h=>by
  unfold idx at h
  split at h
  ·rename_i hx
   rw[Nat.eq_of_beq_eq_true hx];exact List.mem_cons_self
  ·split at h
   ·rename_i j' hj
    exact List.mem_cons_of_mem _ (qL4 hj)
   ·cases h
theorem zk1{id:Nat}{l:List Nat}:id∈zk0 id l∧∀k∈l,k∈zk0 id l:=by
 unfold zk0
 split
 ·rename_i j hj;exact⟨qL4 hj,fun k hk=>hk⟩
 ·exact⟨by simp,fun k hk=>by simp[hk]⟩
mutual
theorem qL2{k:Nat}:∀ (x:SV) (l:List Nat),(q46 k x=true→k∈qL1 x l)∧∀j∈l,j∈qL1 x l
 |.undef,l=>⟨fun h=>(by cases h),fun j hj=>hj⟩
 |.top,l=>⟨fun h=>(by cases h),fun j hj=>hj⟩
 |.int _ _,l=>⟨fun h=>(by cases h),fun j hj=>hj⟩
 |.bool _,l=>⟨fun h=>(by cases h),fun j hj=>hj⟩
 |.str _,l=>⟨fun h=>(by cases h),fun j hj=>hj⟩
 |.nilS,l=>⟨fun h=>(by cases h),fun j hj=>hj⟩
 |.list _ _,l=>⟨fun h=>(by cases h),fun j hj=>hj⟩
 |.row id,l=>⟨fun h=>by rw[←Nat.eq_of_beq_eq_true (show Nat.beq id k=true from h)];exact zk1.1,zk1.2⟩
 |.arr id _ _,l=>⟨fun h=>by rw[←Nat.eq_of_beq_eq_true (show Nat.beq id k=true from h)];exact zk1.1,zk1.2⟩
 |.ptr id _,l=>⟨fun h=>by rw[←Nat.eq_of_beq_eq_true (show Nat.beq id k=true from h)];exact zk1.1,zk1.2⟩
 |.nilP,l=>⟨fun h=>(by cases h),fun j hj=>hj⟩
 |.eptr _ _ _ _,l=>⟨fun h=>(by cases h),fun j hj=>hj⟩
 |.rptr id _ _ _,l=>⟨fun h=>by rw[←Nat.eq_of_beq_eq_true (show Nat.beq id k=true from h)];exact zk1.1,zk1.2⟩
 |.agg cs,l=>qK9 cs l
 |.tuple cs,l=>qK9 cs l
 |.fn _ a b,l=>by
  obtain⟨a1,a2⟩:=qK9 (k:=k) a l;obtain⟨b1,b2⟩:=qK9 (k:=k) b (qK8 a l);refine⟨fun h=>?_,fun j hj=>b2 j (a2 j hj)⟩;have h:(q48 k a||q48 k b)=true:=h;rcases Bool.or_eq_true _ _▸h with h|h
  ·exact b2 k (a1 h)
  ·exact b1 h
 |.raw _,l=>⟨fun h=>(by cases h),fun j hj=>hj⟩
theorem qK9{k:Nat}:∀ (xs:List SV) (l:List Nat),(q48 k xs=true→k∈qK8 xs l)∧∀j∈l,j∈qK8 xs l
 |[],l=>⟨fun h=>(by cases h),fun j hj=>hj⟩
 |x::xs,l=>by
  obtain⟨a1,a2⟩:=qL2 (k:=k) x l;obtain⟨b1,b2⟩:=qK9 (k:=k) xs (qL1 x l);refine⟨fun h=>?_,fun j hj=>b2 j (a2 j hj)⟩;have h:(q46 k x||q48 k xs)=true:=h;rcases Bool.or_eq_true _ _▸h with h|h
  ·exact b2 k (a1 h)
  ·exact b1 h
end
theorem yY0(hE:EOK P E){call:za4 α}(hcall:za5 P true call){ev:Operand→SV}{o:Oper}{p:Plan}{m:Mem}{κ:p9 α}(hk:(yS5 o.op||(xz1 o.op||qO9 o.op))=true)(h:(execOp E call ev o.op p m κ).holds L):
  ∃v p' m',(κ v p' m').holds L∧∀m2,(∀id B,m.get id=some B→m2.get id=some B)→zd7 P m2 v m2 o ev:=by
 obtain⟨v,p',m',h1,_,_,hx⟩:=z17 hE hcall h;refine⟨v,p',m',h1,fun m2 hm2=>?_⟩;rcases Bool.or_eq_true _ _▸hk with hk|hk
 ·exact hx.pure hk m2
 ·rcases Bool.or_eq_true _ _▸hk with hk|hk
  ·exact hx.shape hk m2 (Up.shape hm2)
  ·refine hx.up rfl ?_ m2 hm2
   generalize o.op=op at hk
   cases op<;>first|rfl|cases hk
theorem xH3(hE:EOK P E){call:za4 α}{ev:Operand→SV}{o:Oper}{p:Plan}{m:Mem}{κ:p9 α}(hk:qP2 o.op=true)(h:(execOp E call ev o.op p m κ).holds L):
  ∃m',(κ .undef p m').holds L∧∀ (m2 m2':Mem),(∀id∈qu9 ev o.op,m2.get id=m.get id)→(∀id,m2'.get id=if id∈qu9 ev o.op then m'.get id else m2.get id)→m2'.next=m2.next→zd7 P m2 .undef m2' o ev:=by
 obtain⟨dst,op,ty,pos,after,guard⟩:=o
 cases op<;>try cases hk
 rename_i t a x;obtain⟨m',h1,h2⟩:=yF3 (E:=E) (α:=α) (L:=L) (κ:=κ) h;exact⟨m',h1,fun m2 m2' ha hp hn=>xx3 hE (call:=fun _ _ _ _ _=>.fail 0) yd0 (p:=p) (h2 m2 m2' p ha hp hn)⟩
open Classical in
/-- A call that is known to hand on this. -/
noncomputable def yA5(f:FuncId)(args:List SV)(m m':Mem)(v:SV):za4 (SV×Mem):=fun f' args' p m1 κ=>if f'=f∧args'=args∧m1=m then κ v p m' else .fail 0
theorem yA6{f:FuncId}{args:List SV}{m m':Mem}{v:SV}(h:zd6 P m v m' f args):za5 P false (yA5 f args m m' v):=by
 intro f' args' p m1 κ L hh;unfold yA5 at hh
 split at hh
 ·rename_i hc
  obtain⟨rfl,rfl,rfl⟩:=hc;exact⟨v,p,m',hh,fun hq=>(by cases hq),h⟩
 ·exact hh.elim
theorem q27(hE:EOK P E){call:za4 α}(hcall:za3 P call){fr:Fr}{o:Oper}{p:Plan}{m:Mem}{κ:p9 α}(hk:isG E o.op=true)(h:(execOp E call (o7 fr) o.op p m κ).holds L):
  ∃v p' m',(κ v p' m').holds L∧m.next≤m'.next∧∀ (m2 m2':Mem),(∀id∈qu9 (o7 fr) o.op,m2.get id=m.get id)→m2.next=m.next→(∀id,m2'.get id=if id∈qu9 (o7 fr) o.op++List.range' m.next (m'.next-m.next)then m'.get id else m2.get id)→m2'.next=m'.next→zd7 P m2 v m2' o (o7 fr):=by
 obtain⟨dst,op,ty,pos,after,guard⟩:=o
 cases op<;>try cases hk
 · -- a slice without elements
   rename_i t n parts
   have hn0:n=0∧parts.toList=[] :=by
    cases n with
    |zero=>cases hp:parts.toList with
     |nil=>exact⟨rfl,rfl⟩
     |cons x l=>simp[isG,hp]at hk
    |succ n=>simp[isG]at hk
   obtain⟨rfl,hp0⟩:=hn0
   ·clear hk
    have hpe:parts.toList.map (fun x=>(x.1,o7 fr x.2))=[] :=by rw[hp0];rfl
    have h:(yC0 E t 0 (parts.toList.map fun x=>(x.1,o7 fr x.2)) p m κ).holds L:=h;rw[hpe]at h;have h0:=h;unfold yC0 at h
    split at h
    ·rename_i e sz by_ ze ty0 eg he hrow
     split at h
     ·rename_i re hre
      split at h
      ·rename_i hs
       have h:(m.push (.cells []) fun m id=>κ (.arr id 0 0) p m).holds L:=h;obtain⟨m',h1,h2⟩:=Mem.push_holds h;refine⟨_,p,m',h2,by rw[h1.2];omega,fun m2 m2' ha hn hp hn'=>?_⟩;refine xx3 hE (call:=fun _ _ _ _ _=>.fail 0) yd0 (p:=.auto) ?_;obtain⟨m3,h5,h6⟩:=Mem.push_any h m2 (.cells []) hn;dsimp only[execOp];rw[hpe];unfold yC0;rw[hrow];dsimp only;rw[hre];dsimp only;rw[hs];dsimp only;show((m2.push (.cells []) fun m id=>Tree.leaf (SV.arr id 0 0,m):Tree (SV×Mem))).holds _;rw[h6];refine⟨by rw[hn],fun id=>?_,by rw[h5.2,hn,hn',h1.2]⟩;rw[h5.1 id,hp id,h1.1 id,hn];simp only[List.mem_append,q44,h1.2]
       by_cases e1:id=m.next
       ·subst e1;simp
       ·rw[if_neg e1,if_neg e1]
        by_cases e2:id∈qu9 (o7 fr) (.buildSlice t 0 parts)
        ·rw[if_pos (.inl e2)];exact ha id e2
        ·rw[if_neg (fun c=>c.elim e2 fun c=>by omega)]
      ·exact h.elim
     ·exact h.elim
    ·exact h.elim
 rename_i c;obtain⟨callee,args,argTypes⟩:=c;dsimp only at hk h ⊢
 have hops:∀x∈args.toList,∀id,q46 id (o7 fr x)=true→id∈qu9 (o7 fr) (.call ⟨callee,args,argTypes⟩):=by
  intro x hx id hid;refine(qK9 (k:=id) _ []).1 (q49 (List.mem_map.2 ⟨x,?_,rfl⟩) hid)
  cases callee<;>simp[Op.operands,Call.operands]<;>simp_all
 cases callee with
 |builtin b=>
  cases b<;>try cases hk
  -- append
  have h:(yC3 E .append argTypes.toList (args.toList.map (o7 fr)) p m κ).holds L:=h
  have shape:∃t t1 a b,argTypes.toList=[t,t1] ∧args.toList=[a,b] :=by
   rcases hl:args.toList with _|⟨a,_|⟨b,_|⟨c,l⟩⟩⟩<;>rcases hts:argTypes.toList with _|⟨t,_|⟨t1,_|⟨t2,l'⟩⟩⟩<;>rw[hl,hts]at h<;>first
    |exact h.elim
    |exact⟨t,t1,a,b,rfl,rfl⟩
  obtain⟨t,t1,a,b,hts,hab⟩:=shape
  have hvs:args.toList.map (o7 fr)=[o7 fr a,o7 fr b] :=by rw[hab];rfl
  rw[hts,hvs]at h
  have run:∀ (h:(yB4 E t (o7 fr a) (o7 fr b) p m κ).holds L),(∀ (β:Type) (κ2:p9 β) (m2:Mem),(yC3 E .append argTypes.toList (args.toList.map (o7 fr)) .auto m2 κ2)=yB4 E t (o7 fr a) (o7 fr b) .auto m2 κ2)→∃v p' m',(κ v p' m').holds L∧m.next≤m'.next∧∀ (m2 m2':Mem),(∀id∈qu9 (o7 fr) (.call ⟨.builtin .append,args,argTypes⟩),m2.get id=m.get id)→m2.next=m.next→(∀id,m2'.get id=if id∈qu9 (o7 fr) (.call ⟨.builtin .append,args,argTypes⟩)++List.range' m.next (m'.next-m.next)then m'.get id else m2.get id)→m2'.next=m'.next→zd7 P m2 v m2' ⟨dst,.call ⟨.builtin .append,args,argTypes⟩,ty,pos,after,guard⟩ (o7 fr):=by
   intro h he;obtain⟨v,p',m',h1,h2,h3⟩:=yB5 h;refine⟨v,p',m',h1,h2,fun m2 m2' ha hn hp hn'=>?_⟩;refine xx3 hE (call:=fun _ _ _ _ _=>.fail 0) yd0 (p:=.auto) ?_;dsimp only[execOp,yC5];rw[he];exact h3 _ m2 m2' (fun id hid=>hid.elim (hops a (by rw[hab];simp) id) (hops b (by rw[hab];simp) id)) ha hn hp hn'
  have h:((match E.row t1 with
   |some {desc:=.slice _, ..}=>yB4 E t (o7 fr a) (o7 fr b) p m κ
   |some {desc:=.string, ..}=>yB4 E t (o7 fr a) (o7 fr b) p m κ
   |_=>.fail 89:Tree α)).holds L:=h
  split at h
  ·rename_i e sz by_ ze ty0 eg he hrow
   refine run h fun β κ2 m2=>?_
   rw[hts,hvs]
   show(match E.row t1 with
    |some {desc:=.slice _, ..}=>yB4 E t (o7 fr a) (o7 fr b) .auto m2 κ2
    |some {desc:=.string, ..}=>yB4 E t (o7 fr a) (o7 fr b) .auto m2 κ2
    |_=>.fail 89:Tree β)=_
   rw[hrow]
  ·rename_i sz by_ ze ty0 eg he hrow
   refine run h fun β κ2 m2=>?_
   rw[hts,hvs]
   show(match E.row t1 with
    |some {desc:=.slice _, ..}=>yB4 E t (o7 fr a) (o7 fr b) .auto m2 κ2
    |some {desc:=.string, ..}=>yB4 E t (o7 fr a) (o7 fr b) .auto m2 κ2
    |_=>.fail 89:Tree β)=_
   rw[hrow]
  ·exact h.elim
 |value f=>
  cases f<;>try cases hk
  rename_i k;dsimp only[execOp,yC5,o7]at h;simp only[List.nil_append,List.append_nil]at h;obtain⟨v,p',m',h1,h2,h3⟩:=hcall _ _ _ _ _ _ h;refine⟨v,p',m',h1,h2,fun m2 m2' ha hn hp hn'=>?_⟩;have hsem:=h3 _ m2 m2' (fun id hid=>?_) ha hn hp hn'
  ·refine xx3 hE (yA6 hsem) (p:=.auto) ?_
   dsimp only[execOp,yC5,o7];simp only[List.nil_append,List.append_nil];unfold yA5;rw[if_pos ⟨rfl,rfl,rfl⟩];exact⟨rfl,fun _=>rfl,rfl⟩
  · -- an argument mentions it
    have:∃x∈args.toList.map (o7 fr),q46 id x=true:=by
     revert hid
     generalize args.toList.map (o7 fr)=l
     induction l with
     |nil=>intro h;cases h
     |cons y l ih=>
      intro h;have h:(q46 id y||q48 id l)=true:=h;rcases Bool.or_eq_true _ _▸h with h|h
      ·exact⟨y,List.mem_cons_self,h⟩
      ·obtain⟨x,h1,h2⟩:=ih h
       exact⟨x,List.mem_cons_of_mem _ h1,h2⟩
    obtain⟨x,hx,hm⟩:=this;obtain⟨a,ha',rfl⟩:=List.mem_map.1 hx;exact hops a ha' id hm
 |invoke a b=>cases hk
end
theorem xK5{β:Type}:∀ (i:Nat) (t:Tb β) (v:Option β),∃t',ze3 t i v t':=by
 intro i
 induction i using Nat.strongRecOn with
 |ind i ih=>
  intro t v
  obtain⟨l,x,r,hg⟩:∃l x r,∀k,t.get k=(Tb.n l x r).get k:=by
   cases t with
   |n l x r=>exact⟨l,x,r,fun _=>rfl⟩
   |e=>
    refine⟨.e,none,.e,fun k=>?_⟩
    cases k with
    |zero=>rfl
    |succ j=>
     rw[Tb.get_n_succ]
     by_cases h:j % 2=0
     ·rw[Tb.pick_even h];rfl
     ·rw[Tb.pick_odd h];rfl
  cases i with
  |zero=>
   refine⟨.n l v r,fun k=>?_⟩
   cases k with
   |zero=>rfl
   |succ j=>rw[if_neg (by omega),hg];rfl
  |succ i=>
   by_cases hi:i % 2=0
   ·obtain⟨l',hl⟩:=ih (i / 2) (by omega) l v
    refine⟨.n l' x r,fun k=>?_⟩
    cases k with
    |zero=>rw[if_neg (by omega),hg];rfl
    |succ j=>
     rw[hg,Tb.get_n_succ,Tb.get_n_succ]
     by_cases h:j % 2=0
     ·rw[Tb.pick_even h,Tb.pick_even h,hl]
      by_cases e:j=i
      ·subst e;simp
      ·rw[if_neg (by omega),if_neg (by omega)]
     ·rw[Tb.pick_odd h,Tb.pick_odd h,if_neg (by omega)]
   ·obtain⟨r',hr⟩:=ih (i / 2) (by omega) r v
    refine⟨.n l x r',fun k=>?_⟩
    cases k with
    |zero=>rw[if_neg (by omega),hg];rfl
    |succ j=>
     rw[hg,Tb.get_n_succ,Tb.get_n_succ]
     by_cases h:j % 2=0
     ·rw[Tb.pick_even h,Tb.pick_even h,if_neg (by omega)]
     ·rw[Tb.pick_odd h,Tb.pick_odd h,hr]
      by_cases e:j=i
      ·subst e;simp
      ·rw[if_neg (by omega),if_neg (by omega)]
section
variable {P:Program} {E:Env} {α:Type} {L:α→Prop}
theorem qD1{l:List Nat}{k:Nat}:qC9 l k=true↔k∈l:=by
 simp only[qC9,List.any_eq_true];exact⟨fun⟨x,h1,h2⟩=>by rw[←Nat.eq_of_beq_eq_true h2];exact h1,fun h=>⟨k,h,by simp⟩⟩
theorem q35{l k:List Nat}:q34 l k=true↔∃x,x∈l∧x∈k:=by
 simp only[q34,List.any_eq_true];exact⟨fun⟨x,h1,h2⟩=>⟨x,h1,qD1.1 h2⟩,fun⟨x,h1,h2⟩=>⟨x,h1,qD1.2 h2⟩⟩
structure StepT (P:Program) (all:List Oper) (refs:List (Nat×Nat)) (i:Nat) (o:Oper) (fr:Fr) (m:Mem) (v:SV) (m1:Mem) (s:Rec):Prop where
 keep:∀id,id∉s.wt→m1.get id=m.get id
 le:m.next≤m1.next
 same:s.g=false→m1.next=m.next
 step:(qC3 all fr.get o=some false∧v=.undef∧s.wt=[] ∧s.g=false)∨
  (qC3 all fr.get o=some true∧∀m2 m2':Mem,(∀id,id∈s.rd∨id∈s.wt→m2.get id=m.get id)→(s.g=true→m2.next=m.next)→(∀id,m2'.get id=if id∈s.wt then m1.get id else m2.get id)→(m2'.next=if s.g=true then m1.next else m2.next)→zd7 P m2 v m2' o (o7 fr))∨
  (∃t k r,o.op=.alloc t∧o.guard=none∧qK3 refs i=some k∧RowOK P t r∧v=.ptr k 0∧s.wt=[k] ∧s.g=false∧m1.get k=some (.cells r.zero))
inductive ChainT (P:Program) (all:List Oper) (refs:List (Nat×Nat)):Nat→List Oper→List Rec→Fr→Mem→Fr→Mem→Prop where
 |nil (i:Nat) (acc:List Rec) (fr:Fr) (m:Mem):ChainT P all refs i [] acc fr m fr m
 |cons {i:Nat} {o:Oper} {rest:List Oper} {acc:List Rec} {fr fr1 fr':Fr} {m m1 m':Mem} {v:SV} {s:Rec} (hs:s.i=i) (hst:StepT P all refs i o fr m v m1 s) (hf:zb5 fr o.dst v fr1)
   (hacc:yy2 all o acc s=true) (href:yz1 all refs o i v s.wt (s.wt.map m1.get)=true) (k:ChainT P all refs (i+1) rest (s::acc) fr1 m1 fr' m'):ChainT P all refs i (o::rest) acc fr m fr' m'
theorem qs5{refs:List (Nat×Nat)}{all:List Oper}{o:Oper}{acc:List Rec}{ih:zc3 α}{v:SV}{p:Plan}{fr:Fr}{mN:Mem}{s:Rec}(h:(qs4 refs all o acc ih v p fr mN s).holds L):
  ∃fr1,(ih (s::acc) p fr1 mN).holds L∧zb5 fr o.dst v fr1∧yy2 all o acc s=true∧yz1 all refs o s.i v s.wt (s.wt.map mN.get)=true:=by
 unfold qs4 at h
 split at h
 ·rename_i hc
  rw[Bool.and_eq_true]at hc;obtain⟨fr1,h1,h2⟩:=yT0 h;exact⟨fr1,h2,h1,hc.2,hc.1⟩
 ·exact h.elim
theorem y68(hE:EOK P E){call zE1 zD7:za4 α}(hcall:za5 P false call)(hcallQ:za5 P true zE1)(hcallG:za3 P zD7){refs:List (Nat×Nat)}{all:List Oper}{i:Nat}{o:Oper}{ih:zc3 α}{acc:List Rec}{p:Plan}{fr:Fr}{m:Mem}
  (hg:qC3 all fr.get o=some true) (h:(y67 E call zE1 zD7 refs all i o ih acc p fr m).holds L):
  ∃p' fr1 m1 v s,(ih (s::acc) p' fr1 m1).holds L∧s.i=i∧StepT P all refs i o fr m v m1 s∧zb5 fr o.dst v fr1∧yy2 all o acc s=true∧yz1 all refs o i v s.wt (s.wt.map m1.get)=true:=by
 unfold y67 at h
 split at h
 · -- a new variable
   split at h<;>try exact h.elim
   rename_i t hop
   split at h<;>try exact h.elim
   rename_i k hk
   split at h<;>try exact h.elim
   rename_i r hr
   have hgd:o.guard=none∧E.row t=some r:=by
    split at hr
    ·rename_i hgd;exact⟨hgd,hr⟩
    ·cases hr
   rw[qv8]at h;obtain⟨mN,h1,h2⟩:=Mem.set_holds h;obtain⟨fr1,g1,g2,g3,g4⟩:=qs5 h2;refine⟨p,fr1,mN,_,_,g1,rfl,⟨fun id hid=>?_,by rw[h1.2];exact Nat.le_refl _,fun _=>h1.2,.inr (.inr ⟨t,k,r,hop,hgd.1,hk,hE.row _ _ hgd.2,rfl,rfl,rfl,by rw[h1.1 k,if_pos rfl]⟩)⟩,g2,g3,g4⟩;rw[h1.1 id,if_neg (fun e=>hid (by rw[e];exact List.mem_cons_self))]
 ·split at h
  ·rename_i hk
   obtain⟨mF,h1,hn,ha,hb⟩:=yA7 h;obtain⟨v,p',mx,h2,h3⟩:=yY0 hE hcallQ hk h1;obtain⟨fr1,g1,g2,g3,g4⟩:=qs5 h2;refine⟨p',fr1,m,v,_,g1,rfl,⟨fun _ _=>rfl,Nat.le_refl _,fun _=>rfl,.inr (.inl ⟨hg,fun m2 m2' e1 _ e3 e4=>?_⟩)⟩,g2,g3,g4⟩;refine(h3 m2 fun id B hB=>?_).congr (fun _=>rfl) rfl (fun id=>by simpa using e3 id) (by simpa using e4)
   by_cases hid:id∈qv0 (o7 fr) o.op
   ·rw[e1 id (.inl hid),←ha id hid];exact hB
   ·rw[hb id hid]at hB;cases hB
  ·split at h
   ·rename_i hk
    obtain⟨mF,h1,hn,ha,hb⟩:=yA7 h;obtain⟨mF',h2,h3⟩:=xH3 hE hk h1;obtain⟨mN,h4,h5,h6⟩:=yM3 _ _ _ h2;obtain⟨fr1,g1,g2,g3,g4⟩:=qs5 h4;refine⟨p,fr1,mN,_,_,g1,rfl,⟨fun id hid=>by rw[h6 id,if_neg hid],by rw[h5];exact Nat.le_refl _,fun _=>h5,.inr (.inl ⟨hg,fun m2 m2' e1 _ e3 e4=>?_⟩)⟩,g2,g3,g4⟩;refine h3 m2 m2' (fun id hid=>by rw[e1 id (.inr hid),ha id hid]) (fun id=>?_) (by simpa using e4);rw[e3 id]
    by_cases hid:id∈qu9 (o7 fr) o.op
    ·have hid':id∈(Rec.mk i [] (qu9 (o7 fr) o.op) false).wt:=hid
     rw[if_pos hid',if_pos hid,h6 id,if_pos hid]
    ·have hid':id∉ (Rec.mk i [] (qu9 (o7 fr) o.op) false).wt:=hid
     rw[if_neg hid',if_neg hid]
   ·split at h
    ·rename_i hk
     obtain⟨mF,h1,hn,ha,hb⟩:=yA7 h;obtain⟨v,p',mF',h2,hle,h3⟩:=q27 hE hcallG hk h1;obtain⟨mN,h4,h5,h6⟩:=yM3 _ _ _ h2;obtain⟨fr1,g1,g2,g3,g4⟩:=qs5 h4;have h5:mN.next=mF'.next:=h5
     have h6:∀id,mN.get id=if id∈qu9 (o7 fr) o.op++List.range' m.next (mF'.next-m.next)then mF'.get id else m.get id:=h6
     refine⟨p',fr1,mN,v,_,g1,rfl,⟨fun id hid=>?_,by rw[h5,←hn];exact hle,(by intro hc;cases hc),.inr (.inl ⟨hg,fun m2 m2' e1 e2 e3 e4=>?_⟩)⟩,g2,g3,g4⟩
     ·have hid':id∉qu9 (o7 fr) o.op++List.range' m.next (mF'.next-m.next):=hid
      rw[h6 id,if_neg hid']
     ·have e1:∀id,id∈([] :List Nat)∨id∈qu9 (o7 fr) o.op++List.range' m.next (mF'.next-m.next)→m2.get id=m.get id:=e1
      have e3:∀id,m2'.get id=if id∈qu9 (o7 fr) o.op++List.range' m.next (mF'.next-m.next)then mN.get id else m2.get id:=e3
      have e4:m2'.next=mN.next:=by simpa using e4
      refine h3 m2 m2' (fun id hid=>by rw[e1 id (.inr (List.mem_append_left _ hid)),ha id hid]) (by rw[e2 rfl,hn]) (fun id=>?_) (by rw[e4,h5]);rw[e3 id,hn]
      by_cases hid:id∈qu9 (o7 fr) o.op++List.range' m.next (mF'.next-m.next)
      ·rw[if_pos hid,if_pos hid,h6 id,if_pos hid]
      ·rw[if_neg hid,if_neg hid]
    ·split at h
     ·rename_i hd
      obtain⟨v,p',mc,h1,_,h3,_⟩:=z17 hE hcall h
      split at h1
      ·rename_i hv
       rw[qw1]at h1;obtain⟨fr1,g1,g2,g3,g4⟩:=qs5 h1;refine⟨p',fr1,m,_,_,g1,rfl,⟨fun _ _=>rfl,Nat.le_refl _,fun _=>rfl,.inr (.inl ⟨hg,fun m2 m2' e1 _ e3 e4=>?_⟩)⟩,g2,g3,g4⟩;exact(xx2 hd hv h3 m2).congr (fun _=>rfl) rfl (fun id=>by simpa using e3 id) (by simpa using e4)
      ·exact h1.elim
     ·exact h.elim
theorem yA1(hE:EOK P E){call zE1 zD7:za4 α}(hcall:za5 P false call)(hcallQ:za5 P true zE1)(hcallG:za3 P zD7){refs:List (Nat×Nat)}{all:List Oper}{i:Nat}{o:Oper}{ih:zc3 α}{acc:List Rec}{p:Plan}{fr:Fr}{m:Mem}
  (h:(yA0 E call zE1 zD7 refs all i o ih acc p fr m).holds L):
  ∃p' fr1 m1 v s,(ih (s::acc) p' fr1 m1).holds L∧s.i=i∧StepT P all refs i o fr m v m1 s∧zb5 fr o.dst v fr1∧yy2 all o acc s=true∧yz1 all refs o i v s.wt (s.wt.map m1.get)=true:=by
 have run:∀ (p:Plan) (fr2:Fr),(∀t,fr2.get t=fr.get t)→fr2.size=fr.size→qC3 all fr.get o=some true→(y67 E call zE1 zD7 refs all i o ih acc p fr2 m).holds L→
   ∃p' fr1 m1 v s,(ih (s::acc) p' fr1 m1).holds L∧s.i=i∧StepT P all refs i o fr m v m1 s∧zb5 fr o.dst v fr1∧yy2 all o acc s=true∧yz1 all refs o i v s.wt (s.wt.map m1.get)=true:=by
  intro p fr2 hg hs hgv h;have hgf:fr2.get=fr.get:=funext hg
  have he:o7 fr2=o7 fr:=funext fun x=>by cases x<;>simp[o7,hg]
  obtain⟨p',fr1,m1,v,s,h1,h2,⟨k1,k2,k3,k4⟩,h4,h5,h6⟩:=y68 hE hcall hcallQ hcallG (by rw[hgf];exact hgv) h;rw[he,hgf]at k4;exact⟨p',fr1,m1,v,s,h1,h2,⟨k1,k2,k3,k4⟩,⟨h4.1.trans hs,fun t ht=>by rw[←hs];exact h4.2.1 t ht,fun t=>by rw[h4.2.2 t,hg t]⟩,h5,h6⟩
 have skip:∀ (p:Plan) (fr2:Fr),(∀t,fr2.get t=fr.get t)→fr2.size=fr.size→qC3 all fr.get o=some false→(yS9 fr2 o.dst .undef fun fr=>ih (⟨i,[],[],false⟩::acc) p fr m).holds L→
   ∃p' fr1 m1 v s,(ih (s::acc) p' fr1 m1).holds L∧s.i=i∧StepT P all refs i o fr m v m1 s∧zb5 fr o.dst v fr1∧yy2 all o acc s=true∧yz1 all refs o i v s.wt (s.wt.map m1.get)=true:=by
  intro p fr2 hg hs hgv h;obtain⟨fr1,h4,h5⟩:=yT0 h;refine⟨p,fr1,m,.undef,⟨i,[],[],false⟩,h5,rfl,⟨fun _ _=>rfl,Nat.le_refl _,fun _=>rfl,.inl ⟨hgv,rfl,rfl,rfl⟩⟩,⟨h4.1.trans hs,fun t ht=>by rw[←hs];exact h4.2.1 t ht,fun t=>by rw[h4.2.2 t,hg t]⟩,?_,?_⟩
  ·unfold yy2
   rw[List.all_eq_true];intro r _;simp[Rec.conf,q34,qC9]
  ·unfold yz1
   rw[List.all_eq_true];intro ck _;simp[q46,qC9]
 unfold yA0 at h
 cases hg:o.guard with
 |none=>
  rw[hg]at h;exact run p fr (fun _=>rfl) rfl (by simp[qC3,hg]) h
 |some jw=>
  rw[hg]at h;dsimp only at h;rw[yd7]at h
  split at h
  ·rename_i oj hoj
   split at h
   ·rename_i d hd
    have hb:(all[jw.1]?).bind (·.dst)=some d:=by rw[hoj];exact hd
    split at h
    ·rename_i b hfr
     obtain⟨p',h⟩:=zQ8 h;obtain⟨fr2,h1,h2⟩:=Fr.set_holds h
     have hget:∀t,fr2.get t=fr.get t:=fun t=>by
      rw[h1.2.2 t]
      by_cases ht:some d=some t
      ·injection ht with ht;subst ht;rw[if_pos rfl,hfr]
      ·rw[if_neg ht]
     split at h2
     ·rename_i hbw
      exact run p' fr2 hget h1.1 (by simp only[qC3,hg,hb,hfr];rw[hbw]) h2
     ·rename_i hbw
      exact skip p' fr2 hget h1.1 (by simp only[qC3,hg,hb,hfr];rw[hbw]) h2
    ·rename_i hfr
     exact skip p fr (fun _=>rfl) rfl (by simp only[qC3,hg,hb,hfr]) h
    ·exact h.elim
   ·exact h.elim
  ·exact h.elim
theorem z25(hE:EOK P E){call zE1 zD7:za4 α}(hcall:za5 P false call)(hcallQ:za5 P true zE1)(hcallG:za3 P zD7){refs:List (Nat×Nat)}{all:List Oper}{k:zc2 α}:∀ (ops:List Oper) (i:Nat) (acc:List Rec) (p:Plan) (fr:Fr) (m:Mem),
  (z24 E call zE1 zD7 refs all ops k i acc p fr m).holds L→∃p' fr' m',(k p' fr' m').holds L∧ChainT P all refs i ops acc fr m fr' m'
 |[],i,acc,p,fr,m,h=>⟨p,fr,m,h,.nil i acc fr m⟩
 |o::rest,i,acc,p,fr,m,h=>by
  change (yA0 E call zE1 zD7 refs all i o (z24 E call zE1 zD7 refs all rest k (i+1)) acc p fr m).holds L at h
  obtain⟨p1,fr1,m1,v,s,h1,h2,h3,h4,h5,h6⟩:=yA1 hE hcall hcallQ hcallG h;obtain⟨p',fr',m',h7,h8⟩:=z25 hE hcall hcallQ hcallG rest (i+1) (s::acc) p1 fr1 m1 h1;exact⟨p',fr',m',h7,.cons h2 h3 h4 h5 h6 h8⟩
structure WalkT (P:Program) (all:List Oper) (refs:List (Nat×Nat)) (m m':Mem) (fr fr':Fr) (frs:Nat→Fr) (vals:Nat→SV) (ms:Nat→Mem) (rs:Nat→Rec):Prop where
 first:frs 0=fr
 last:frs all.length=fr'
 mfirst:ms 0=m
 mlast:ms all.length=m'
 step:∀i o,all[i]? =some o→StepT P all refs i o (frs i) (ms i) (vals i) (ms (i+1)) (rs i)
 next:∀i o,all[i]? =some o→zb5 (frs i) o.dst (vals i) (frs (i+1))
 conf:∀i j o,all[j]? =some o→i<j→(rs i).conf (rs j)=true→zB2 all 3 o i=true
 refs:∀i o,all[i]? =some o→yz1 all refs o i (vals i) (rs i).wt ((rs i).wt.map (ms (i+1)).get)=true
theorem ChainT.index{all:List Oper}{refs:List (Nat×Nat)}:∀{i:Nat} {ops:List Oper} {acc:List Rec} {fr fr':Fr} {m m':Mem},ChainT P all refs i ops acc fr m fr' m'→∃ (frs:Nat→Fr) (vals:Nat→SV) (ms:Nat→Mem) (rs:Nat→Rec),frs 0=fr∧frs ops.length=fr'∧ms 0=m∧ms ops.length=m'∧
  (∀j o,ops[j]? =some o→StepT P all refs (i+j) o (frs j) (ms j) (vals j) (ms (j+1)) (rs j))∧(∀j o,ops[j]? =some o→zb5 (frs j) o.dst (vals j) (frs (j+1)))∧
  (∀j o,ops[j]? =some o→(rs j).i=i+j)∧(∀j o r,ops[j]? =some o→r∈acc→r.conf (rs j)=true→zB2 all 3 o r.i=true)∧(∀j k o,ops[k]? =some o→j<k→(rs j).conf (rs k)=true→zB2 all 3 o (i+j)=true)∧
  (∀j o,ops[j]? =some o→yz1 all refs o (i+j) (vals j) (rs j).wt ((rs j).wt.map (ms (j+1)).get)=true):=by
 intro i ops acc fr fr' m m' h
 induction h with
 |nil i acc fr m=>exact⟨fun _=>fr,fun _=>.undef,fun _=>m,fun _=>⟨0,[],[],false⟩,rfl,rfl,rfl,rfl,fun j o h=>by simp at h,fun j o h=>by simp at h,fun j o h=>by simp at h,fun j o r h=>by simp at h,fun j k o h=>by simp at h,fun j o h=>by simp at h⟩
 |@cons i o rest acc fr fr1 fr' m m1 m' v s hs hst hf hacc href k ih=>
  obtain⟨frs,vals,ms,rs,h1,h2,h1m,h2m,h3,h4,h5,h6,h7,h8⟩:=ih;refine⟨fun i=>Nat.casesOn i fr frs,fun i=>Nat.casesOn i v vals,fun i=>Nat.casesOn i m ms,fun i=>Nat.casesOn i s rs,rfl,h2,rfl,h2m,fun j o' hj=>?_,fun j o' hj=>?_,fun j o' hj=>?_,fun j o' r hj hr hc=>?_,fun j k o' hk hjk hc=>?_,fun j o' hj=>?_⟩
  ·cases j with
   |zero=>simp at hj;subst hj;dsimp only;rw[h1m];exact hst
   |succ j=>have:=h3 j o' (by simpa using hj);rwa [show i+(j+1)=i+1+j by omega]
  ·cases j with
   |zero=>simp at hj;subst hj;dsimp only;rw[h1];exact hf
   |succ j=>exact h4 j o' (by simpa using hj)
  ·cases j with
   |zero=>exact hs
   |succ j=>have:=h5 j o' (by simpa using hj);dsimp only;omega
  ·cases j with
   |zero=>
    simp at hj;subst hj;unfold yy2 at hacc;rw[List.all_eq_true]at hacc;have:=hacc r hr;have hc:r.conf s=true:=hc;rw[hc]at this
    simpa using this
   |succ j=>exact h6 j o' r (by simpa using hj) (List.mem_cons_of_mem _ hr) hc
  ·cases k with
   |zero=>omega
   |succ k=>
    cases j with
    |zero=>
     have:=h6 k o' s (by simpa using hk) List.mem_cons_self hc;rw[hs]at this;simpa using this
    |succ j=>
     have:=h7 j k o' (by simpa using hk) (by omega) hc
     rwa [show i+(j+1)=i+1+j by omega]
  ·cases j with
   |zero=>simp at hj;subst hj;dsimp only;rw[h1m];exact href
   |succ j=>have:=h8 j o' (by simpa using hj);rwa [show i+(j+1)=i+1+j by omega]
theorem ChainT.toWalk{all:List Oper}{refs:List (Nat×Nat)}{m m':Mem}{fr fr':Fr}(h:ChainT P all refs 0 all [] fr m fr' m'):∃frs vals ms rs,WalkT P all refs m m' fr fr' frs vals ms rs:=by
 obtain⟨frs,vals,ms,rs,h1,h2,h3,h4,h5,h6,h7,h8,h9,h10⟩:=h.index;refine⟨frs,vals,ms,rs,h1,h2,h3,h4,fun i o ho=>?_,h6,fun i j o ho hij hc=>?_,fun i o ho=>?_⟩
 ·have:=h5 i o ho;rwa [Nat.zero_add]at this
 ·have:=h9 i j o ho hij hc;rwa [Nat.zero_add]at this
 ·have:=h10 i o ho;rwa [Nat.zero_add]at this
noncomputable def qx6(ms:Nat→Mem)(rs:Nat→Rec)(S:Nat→Bool):Nat→Nat→Option Box
 |0,id=>(ms 0).get id
 |n+1,id=>if S n=true∧id∈(rs n).wt then(ms (n+1)).get id else qx6 ms rs S n id
noncomputable def yb6(ms:Nat→Mem)(rs:Nat→Rec)(S:Nat→Bool):Nat→Nat
 |0=>(ms 0).next
 |n+1=>if S n=true∧(rs n).g=true then(ms (n+1)).next else yb6 ms rs S n
theorem yH3(f:Nat→Option Box):∀ (l:List Nat) (t:Tb Box),∃t':Tb Box,∀id,t'.get id=if id∈l then f id else t.get id
 |[],t=>⟨t,fun id=>by simp⟩
 |i::l,t=>by
  obtain⟨t1,h1⟩:=xK5 i t (f i);obtain⟨t2,h2⟩:=yH3 f l t1;refine⟨t2,fun id=>?_⟩;rw[h2 id,h1 id]
  by_cases e:id=i
  ·subst e;simp
  ·simp[e]
theorem qx9(ms:Nat→Mem)(rs:Nat→Rec)(S:Nat→Bool):∀n,∃t:Tb Box,∀id,t.get id=qx6 ms rs S n id
 |0=>⟨(ms 0).tb,fun id=>rfl⟩
 |n+1=>by
  obtain⟨t,h⟩:=qx9 ms rs S n
  by_cases hS:S n=true
  ·obtain⟨t',h'⟩:=yH3 (fun id=>(ms (n+1)).get id) (rs n).wt t
   refine⟨t',fun id=>?_⟩;rw[h' id,h id];simp only[qx6,hS,true_and]
  ·exact⟨t,fun id=>by rw[h id];simp only[qx6];rw[if_neg (fun c=>hS c.1)]⟩
open Classical in
noncomputable def mkM(g:Nat→Option Box)(n:Nat):Mem:=if h:∃t:Tb Box,∀id,t.get id=g id then⟨n,Classical.choose h⟩else⟨n,.e⟩
theorem q53(g:Nat→Option Box)(n:Nat):(mkM g n).next=n:=by unfold mkM;split<;>rfl
theorem q52{g:Nat→Option Box}(n:Nat)(h:∃t:Tb Box,∀id,t.get id=g id)(id:Nat):(mkM g n).get id=g id:=by
 unfold mkM;rw[dif_pos h];exact Classical.choose_spec h id
noncomputable def q40(all:List Oper)(ms:Nat→Mem)(rs:Nat→Rec)(S:Nat→Bool):Mem:=mkM (qx6 ms rs S all.length) (yb6 ms rs S all.length)
theorem q41(all:List Oper)(ms:Nat→Mem)(rs:Nat→Rec)(S:Nat→Bool)(id:Nat):(q40 all ms rs S).get id=qx6 ms rs S all.length id:=q52 _ (qx9 ms rs S _) id
theorem q42(all:List Oper)(ms:Nat→Mem)(rs:Nat→Rec)(S:Nat→Bool):(q40 all ms rs S).next=yb6 ms rs S all.length:=q53 _ _
section
variable {ms:Nat→Mem} {rs:Nat→Rec} {S S':Nat→Bool}
theorem qx8{id:Nat}:∀n,(∀j,j<n→id∈(rs j).wt→S j=S' j)→qx6 ms rs S n id=qx6 ms rs S' n id
 |0,_=>rfl
 |n+1,h=>by
  simp only[qx6];rw[qx8 n fun j hj=>h j (by omega)]
  by_cases hw:id∈(rs n).wt
  ·rw[h n (by omega) hw]
  ·rw[if_neg (fun c=>hw c.2),if_neg (fun c=>hw c.2)]
theorem yb8:∀n,(∀j,j<n→(rs j).g=true→S j=S' j)→yb6 ms rs S n=yb6 ms rs S' n
 |0,_=>rfl
 |n+1,h=>by
  simp only[yb6];rw[yb8 n fun j hj=>h j (by omega)]
  by_cases hw:(rs n).g=true
  ·rw[h n (by omega) hw]
  ·rw[if_neg (fun c=>hw c.2),if_neg (fun c=>hw c.2)]
theorem qy0{id i:Nat}:∀n,i≤n→(∀j,i≤j→j<n→id∈(rs j).wt→S j=false)→qx6 ms rs S n id=qx6 ms rs S i id
 |0,h,_=>by rw[Nat.le_zero.1 h]
 |n+1,h,hS=>by
  rcases Nat.lt_or_ge n i with h1|h1
  ·rw[show i=n+1 by omega]
  ·simp only[qx6]
   rw[if_neg (fun c=>by have:=hS n h1 (by omega) c.2;rw[c.1]at this;cases this),qy0 n h1 fun j a b=>hS j a (by omega)]
theorem yc0{i:Nat}:∀n,i≤n→(∀j,i≤j→j<n→(rs j).g=true→S j=false)→yb6 ms rs S n=yb6 ms rs S i
 |0,h,_=>by rw[Nat.le_zero.1 h]
 |n+1,h,hS=>by
  rcases Nat.lt_or_ge n i with h1|h1
  ·rw[show i=n+1 by omega]
  ·simp only[yb6]
   rw[if_neg (fun c=>by have:=hS n h1 (by omega) c.2;rw[c.1]at this;cases this),yc0 n h1 fun j a b=>hS j a (by omega)]
theorem qx7{id:Nat}:∀n,(∀j,j<n→id∉ (rs j).wt→(ms (j+1)).get id=(ms j).get id)→(∀j,j<n→id∈(rs j).wt→S j=true)→qx6 ms rs S n id=(ms n).get id
 |0,_,_=>rfl
 |n+1,hk,hS=>by
  simp only[qx6]
  by_cases hw:id∈(rs n).wt
  ·rw[if_pos ⟨hS n (by omega) hw,hw⟩]
  ·rw[if_neg (fun c=>hw c.2),hk n (by omega) hw,qx7 n (fun j hj=>hk j (by omega)) fun j hj=>hS j (by omega)]
theorem yb7:∀n,(∀j,j<n→(rs j).g=false→(ms (j+1)).next=(ms j).next)→(∀j,j<n→(rs j).g=true→S j=true)→yb6 ms rs S n=(ms n).next
 |0,_,_=>rfl
 |n+1,hk,hS=>by
  simp only[yb6]
  by_cases hw:(rs n).g=true
  ·rw[if_pos ⟨hS n (by omega) hw,hw⟩]
  ·rw[if_neg (fun c=>hw c.2),hk n (by omega) (by simpa using hw),yb7 n (fun j hj=>hk j (by omega)) fun j hj=>hS j (by omega)]
theorem yb9:∀n,(∀j,j<n→(ms j).next≤(ms (j+1)).next)→(ms 0).next≤yb6 ms rs S n
 |0,_=>Nat.le_refl _
 |n+1,h=>by
  simp only[yb6]
  split
  ·have:∀k,k≤n+1→(ms 0).next≤(ms k).next:=by
    intro k
    induction k with
    |zero=>intro _;exact Nat.le_refl _
    |succ k ih=>intro hk;exact Nat.le_trans (ih (by omega)) (h k (by omega))
   exact this _ (Nat.le_refl _)
  ·exact yb9 n fun j hj=>h j (by omega)
theorem getS_cases{id:Nat}:∀n,(∃j,j<n∧S j=true∧id∈(rs j).wt∧qx6 ms rs S n id=(ms (j+1)).get id)∨qx6 ms rs S n id=(ms 0).get id
 |0=>.inr rfl
 |n+1=>by
  simp only[qx6]
  split
  ·rename_i hc;exact .inl ⟨n,by omega,hc.1,hc.2,rfl⟩
  ·rcases getS_cases (id:=id) n with⟨j,h1,h2⟩|h
   ·exact .inl ⟨j,by omega,h2⟩
   ·exact .inr h
end
theorem xU1{all:List Oper}{refs:List (Nat×Nat)}{m m':Mem}{fr fr':Fr}{frs:Nat→Fr}{vals:Nat→SV}{ms:Nat→Mem}{rs:Nat→Rec}(hw:WalkT P all refs m m' fr fr' frs vals ms rs)(n0:Nat)
  (hrefs:∀c k,qK3 refs c=some k→(c,k)∈refs∧n0≤k∧k<m.next) (hm0:∀id B,m.get id=some B→id<n0∧∀k,n0≤k→q47 k (some B)=false) (hfr:∀t k,n0≤k→q46 k (fr.get t)=false)
  (S:Nat→Bool) (i:Nat) (o:Oper) (hoi:all[i]? =some o) (hSi:S i=false) (hcl:∀ (j:Nat) (oj:Oper),all[j]? =some oj→S j=true→∀e∈oj.after,Region.binds .any e=true→S e.on=true) (hready:∀e∈o.after,Region.binds .any e=true→S e.on=true):
  ze1 P all o (frs i) (q40 all ms rs S) (vals i) (q40 all ms rs fun k=>if k=i then true else S k)∨za0 P o n0 (vals i) (cur all fr vals S all.length) (q40 all ms rs S) (q40 all ms rs fun k=>if k=i then true else S k):=by
 have hil:i<all.length:=(List.getElem?_eq_some_iff.1 hoi).1
 have get:∀j,j<all.length→all[j]? =some (all.getD j o):=fun j hj=>by
  rw[List.getD_eq_getElem?_getD,List.getElem?_eq_getElem hj];rfl
 have ahead:∀j,j<i→(rs j).conf (rs i)=true→S j=true:=fun j hj hc=>zB3 hcl 3 o j hready (hw.conf j i o hoi hj hc)
 have behind:∀j,i<j→j<all.length→(rs i).conf (rs j)=true→S j=false:=fun j hj hjl hc=>by
  rcases Bool.eq_false_or_eq_true (S j)with h|h
  ·have:=zB3 hcl 3 _ i (fun e he hb=>hcl j _ (get j hjl) h e he hb) (hw.conf i j _ (get j hjl) hj hc)
   rw[hSi]at this;cases this
  ·exact h
 have keep:∀id j,j<all.length→id∉ (rs j).wt→(ms (j+1)).get id=(ms j).get id:=fun id j hj hid=>(hw.step j _ (get j hj)).keep id hid
 have same:∀j,j<all.length→(rs j).g=false→(ms (j+1)).next=(ms j).next:=fun j hj=>(hw.step j _ (get j hj)).same
 have conf1:∀id j k,id∈(rs j).wt→(id∈(rs k).rd∨id∈(rs k).wt)→(rs j).conf (rs k)=true:=fun id j k h1 h2=>by
  unfold Rec.conf;rcases h2 with h2|h2
  ·rw[q35.2 ⟨id,h1,h2⟩];rfl
  ·rw[q35.2 ⟨id,h1,h2⟩];simp
 have conf2:∀id j k,(id∈(rs j).rd∨id∈(rs j).wt)→id∈(rs k).wt→(rs j).conf (rs k)=true:=fun id j k h1 h2=>by
  unfold Rec.conf;rcases h1 with h1|h1
  ·rw[q35.2 ⟨id,h1,h2⟩];simp
  ·rw[show q34 (rs j).wt (rs k).wt=true from q35.2 ⟨id,h1,h2⟩];simp
 have conf3:∀j k,(rs j).g=true→(rs k).g=true→(rs j).conf (rs k)=true:=fun j k h1 h2=>by unfold Rec.conf;rw[h1,h2];simp
 -- what the operation looks at is as in the text
 have now:∀id,id∈(rs i).rd∨id∈(rs i).wt→qx6 ms rs S all.length id=(ms i).get id:=by
  intro id hid;rw[qy0 (i:=i) _ (by omega) (fun j h1 h2 h3=>?_),qx7 i (fun j hj=>keep id j (by omega)) (fun j hj h3=>ahead j hj (conf1 id j i h3 hid))];rcases Nat.lt_or_ge i j with h4|h4
  ·exact behind j h4 h2 (conf2 id i j hid h3)
  ·rw[show j=i by omega];exact hSi
 have nown:(rs i).g=true→yb6 ms rs S all.length=(ms i).next:=by
  intro hg;rw[yc0 (i:=i) _ (by omega) (fun j h1 h2 h3=>?_),yb7 i (fun j hj=>same j (by omega)) (fun j hj h3=>ahead j hj (conf3 j i h3 hg))];rcases Nat.lt_or_ge i j with h4|h4
  ·exact behind j h4 h2 (conf3 i j hg h3)
  ·rw[show j=i by omega];exact hSi
 -- and what it leaves
 have then_:∀id,qx6 ms rs (fun k=>if k=i then true else S k) all.length id=if id∈(rs i).wt then(ms (i+1)).get id else qx6 ms rs S all.length id:=by
  intro id
  by_cases hid:id∈(rs i).wt
  ·rw[if_pos hid,qy0 (i:=i+1) _ (by omega) (fun j h1 h2 h3=>?_)]
   ·simp only[qx6]
    rw[if_pos ⟨by simp,hid⟩]
   ·rw[if_neg (by omega)];exact behind j (by omega) h2 (conf2 id i j (.inr hid) h3)
  ·rw[if_neg hid]
   refine qx8 _ fun j hj h3=>?_
   by_cases e:j=i
   ·subst e;exact absurd h3 hid
   ·rw[if_neg e]
 have nthen:yb6 ms rs (fun k=>if k=i then true else S k) all.length=if(rs i).g=true then(ms (i+1)).next else yb6 ms rs S all.length:=by
  by_cases hg:(rs i).g=true
  ·rw[if_pos hg,yc0 (i:=i+1) _ (by omega) (fun j h1 h2 h3=>?_)]
   ·simp only[yb6]
    rw[if_pos ⟨by simp,hg⟩]
   ·rw[if_neg (by omega)];exact behind j (by omega) h2 (conf3 i j hg h3)
  ·rw[if_neg hg]
   refine yb8 _ fun j hj h3=>?_
   by_cases e:j=i
   ·subst e;exact absurd h3 hg
   ·rw[if_neg e]
 rcases(hw.step i o hoi).step with⟨h1,h2,h3,h4⟩|⟨h1,h2⟩|⟨t,k,r,h1,h2,h3,h4,h5,h6,h7,h8⟩
 ·refine .inl (.inr ⟨h1,h2,?_⟩)
  have e1:qx6 ms rs (fun k=>if k=i then true else S k) all.length=qx6 ms rs S all.length:=funext fun id=>by rw[then_ id,h3,if_neg (by simp)]
  have e2:yb6 ms rs (fun k=>if k=i then true else S k) all.length=yb6 ms rs S all.length:=by rw[nthen,h4,if_neg (by simp)]
  unfold q40;rw[e1,e2]
 ·refine .inl (.inl ⟨h1,h2 _ _ (fun id hid=>?_) (fun hg=>?_) (fun id=>?_) ?_⟩)
  ·rw[q41];exact now id hid
  ·rw[q42];exact nown hg
  ·rw[q41,q41];exact then_ id
  ·rw[q42,q42];exact nthen
 ·obtain⟨hk1,hk2,hk3⟩:=hrefs i k h3
  -- whoever mentions the new box waits for it
  have waits:∀j,j<all.length→S j=true→(q46 k (vals j)=true∨k∈(rs j).wt∨∃id∈(rs j).wt,q47 k ((ms (j+1)).get id)=true)→False:=by
   intro j hj hSj hc;have hr:=hw.refs j _ (get j hj);unfold yz1 at hr;rw[List.all_eq_true]at hr;have hr:=hr (i,k) hk1
   have hc':(q46 k (vals j)||(qC9 (rs j).wt k||((rs j).wt.map (ms (j+1)).get).any (q47 k)))=true:=by
    rcases hc with hc|hc|⟨id,hc,hd⟩
    ·rw[hc];rfl
    ·rw[qD1.2 hc];simp
    ·have:((rs j).wt.map (ms (j+1)).get).any (q47 k)=true:=List.any_eq_true.2 ⟨_,List.mem_map.2 ⟨id,hc,rfl⟩,hd⟩
     rw[this];simp
   rw[hc']at hr;simp only[Bool.not_true,Bool.false_or,Bool.or_eq_true]at hr;rcases hr with hr|hr
   ·have:=Nat.eq_of_beq_eq_true hr
    subst this;rw[hSi]at hSj;cases hSj
   ·have:=zB3 hcl 3 _ i (fun e he hb=>hcl j _ (get j hj) hSj e he hb) hr
    rw[hSi]at this;cases this
  have hms0:ms 0=m:=hw.mfirst;refine .inr ⟨t,k,r,h1,h2,h4,h5,hk2,?_,?_,fun id=>?_,?_,fun t'=>?_,fun id B hB=>?_⟩
  ·rw[q42]
   refine Nat.lt_of_lt_of_le hk3 ?_;rw[←hms0]
   exact yb9 _ fun j hj=>(hw.step j _ (get j hj)).le
  ·rw[q41]
   rcases getS_cases (ms:=ms) (rs:=rs) (S:=S) (id:=k) all.length with⟨j,hj,hSj,hwj,_⟩|h
   ·exact(waits j hj hSj (.inr (.inl hwj))).elim
   ·rw[h,hms0]
    cases hx:m.get k with
    |none=>rfl
    |some B=>have:=(hm0 k B hx).1;omega
  ·rw[q41,q41,then_ id,h6]
   by_cases e:id=k
   ·subst e;rw[if_pos (by simp),if_pos rfl,h8]
   ·rw[if_neg (by simp[e]),if_neg e]
  ·rw[q42,q42,nthen,h7,if_neg (by simp)]
  ·have:∀n,n≤all.length→q46 k (cur all fr vals S n t')=false:=by
    intro n
    induction n with
    |zero=>intro _;exact hfr t' k hk2
    |succ n ih=>
     intro hn;simp only[cur]
     split
     ·rename_i hc
      rcases Bool.eq_false_or_eq_true (q46 k (vals n))with h|h
      ·exact(waits n (by omega) hc.1 (.inl h)).elim
      ·exact h
     ·exact ih (by omega)
   exact this _ (Nat.le_refl _)
  ·rw[q41]at hB
   rcases getS_cases (ms:=ms) (rs:=rs) (S:=S) (id:=id) all.length with⟨j,hj,hSj,hwj,he⟩|h
   ·rcases Bool.eq_false_or_eq_true (q47 k (some B))with h|h
    ·exact(waits j hj hSj (.inr (.inr ⟨id,hwj,by rw[←he,hB];exact h⟩))).elim
    ·exact h
   ·rw[h,hms0]at hB
    exact(hm0 id B hB).2 k hk2
end
section
variable {P:Program} {E:Env} {α:Type}
inductive ChainL (P:Program) (all:List Oper):List Oper→Fr→Mem→Fr→Mem→Prop where
 |last {o:Oper} {fr fr1:Fr} {m m1:Mem} {v:SV} (h:ze1 P all o fr m v m1) (hf:zb5 fr o.dst v fr1):ChainL P all [o] fr m fr1 m1
 |cons {o o2:Oper} {rest:List Oper} {fr fr1 fr':Fr} {m m':Mem} {v:SV} (h:ze1 P all o fr m v m) (hf:zb5 fr o.dst v fr1) (k:ChainL P all (o2::rest) fr1 m fr' m'):ChainL P all (o::o2::rest) fr m fr' m'
theorem z22(hE:EOK P E){zE1 call:za4 α}(hcallQ:za5 P true zE1)(hcall:za5 P false call){all:List Oper}{k:zc2 α}{L:α→Prop}:∀ (ops:List Oper) (p:Plan) (fr:Fr) (m:Mem),ops≠[] →(z21 E zE1 call all ops k p fr m).holds L→
  ∃p' fr' m',(k p' fr' m').holds L∧ChainL P all ops fr m fr' m'
 |[],p,fr,m,hn,_=>absurd rfl hn
 |[o],p,fr,m,_,h=>by
  change (yz6 E (fun _=>true) call all o k p fr m).holds L at h
  obtain⟨p1,v,fr1,m1,h1,h2,h3,_⟩:=yA2 hE hcall h;exact⟨p1,fr1,m1,h1,.last h2 h3⟩
 |o::o2::rest,p,fr,m,_,h=>by
  change (yz6 E (quiet E) zE1 all o (z21 E zE1 call all (o2::rest) k) p fr m).holds L at h
  have hq:quiet E o.op=true∨qC3 all fr.get o=some false:=by
   unfold yz6 at h
   cases hg:o.guard with
   |none=>
    rw[hg]at h;dsimp only at h
    split at h
    ·rename_i hq;exact .inl hq
    ·exact h.elim
   |some jw=>
    cases hq:quiet E o.op with
    |true=>exact .inl rfl
    |false=>
     right;rw[hg]at h;dsimp only at h;rw[yd7]at h
     split at h
     ·rename_i oj hoj
      split at h
      ·rename_i d hd
       have hb:(all[jw.1]?).bind (·.dst)=some d:=by rw[hoj];exact hd
       split at h
       ·rename_i b hfr
        obtain⟨p',h⟩:=zQ8 h;obtain⟨fr2,h1,h2⟩:=Fr.set_holds h
        split at h2
        ·rw[hq]at h2;exact h2.elim
        ·rename_i hbw
         simp only[qC3,hg,hb,hfr];rw[hbw]
       ·rename_i hfr
        simp only[qC3,hg,hb,hfr]
       ·exact h.elim
      ·exact h.elim
     ·exact h.elim
  obtain⟨p1,v,fr1,m1,h1,h2,h3,h4⟩:=yA2 hE hcallQ h
  have hm:m1=m:=by
   rcases hq with hq|hq
   ·exact h4.quiet rfl hq
   ·rcases h2 with⟨hg,_⟩|⟨_,_,hm⟩
    ·rw[hq]at hg;cases hg
    ·exact hm
  subst hm;obtain⟨p',fr',m',h5,h6⟩:=z22 hE hcallQ hcall (o2::rest) p1 fr1 m1 (by simp) h1;exact⟨p',fr',m',h5,.cons h2 h3 h6⟩
theorem ChainL.index{all:List Oper}:∀{ops:List Oper} {fr fr':Fr} {m m':Mem},ChainL P all ops fr m fr' m'→∃ (frs:Nat→Fr) (vals:Nat→SV),frs 0=fr∧frs ops.length=fr'∧
  (∀i o,ops[i]? =some o→zb5 (frs i) o.dst (vals i) (frs (i+1)))∧(∀i o,ops[i]? =some o→i+1<ops.length→ze1 P all o (frs i) m (vals i) m)∧∀i o,ops[i]? =some o→i+1=ops.length→ze1 P all o (frs i) m (vals i) m':=by
 intro ops fr fr' m m' h
 induction h with
 |@last o fr fr1 m m1 v hst hf=>
  refine⟨fun i=>Nat.casesOn i fr fun _=>fr1,fun _=>v,rfl,rfl,fun i o' hi=>?_,fun i o' hi hl=>?_,fun i o' hi hl=>?_⟩
  ·cases i with
   |zero=>simp at hi;subst hi;exact hf
   |succ i=>simp at hi
  ·simp at hl
  ·cases i with
   |zero=>simp at hi;subst hi;exact hst
   |succ i=>simp at hi
 |@cons o o2 rest fr fr1 fr' m m' v hst hf k ih=>
  obtain⟨frs,vals,h1,h2,h3,h4,h5⟩:=ih;refine⟨fun i=>Nat.casesOn i fr frs,fun i=>Nat.casesOn i v vals,rfl,h2,fun i o' hi=>?_,fun i o' hi hl=>?_,fun i o' hi hl=>?_⟩
  ·cases i with
   |zero=>simp at hi;subst hi;dsimp only;rw[h1];exact hf
   |succ i=>exact h3 i o' (by simpa using hi)
  ·cases i with
   |zero=>simp at hi;subst hi;exact hst
   |succ i=>exact h4 i o' (by simpa using hi) (by simp at hl ⊢;omega)
  ·cases i with
   |zero=>simp at hl
   |succ i=>exact h5 i o' (by simpa using hi) (by simp at hl ⊢;omega)
theorem qU1{all:List Oper}(h:qU0 all=true){S:Nat→Bool}(hcl:∀ (j:Nat) (oj:Oper),all[j]? =some oj→S j=true→∀e∈oj.after,Region.binds .any e=true→S e.on=true)(hl:S (all.length-1)=true):∀i,i<all.length→S i=true:=by
 have:∀d i,i+1+d=all.length→S i=true:=by
  intro d
  induction d using Nat.strongRecOn with
  |_ d ih=>
   intro i hi
   by_cases h0:i+1=all.length
   ·rw[show i=all.length-1 by omega];exact hl
   ·simp only[qU0,List.all_eq_true]at h
    have hoi:all[i]? =some all[i] :=List.getElem?_eq_getElem (by omega);have h1:=h (all[i],i) (List.mem_zipIdx_iff_getElem?.2 hoi)
    have hb:Nat.beq (i+1) all.length=false:=by
     rw[←Bool.not_eq_true,Nat.beq_eq];exact h0
    simp only[hb,Bool.false_or,List.any_eq_true,Bool.and_eq_true]at h1;obtain⟨⟨oj,j⟩,hj,h2,e,he,h3,h4⟩:=h1;have hj:=List.mem_zipIdx_iff_getElem?.1 hj
    have hlt:i<j:=by rw[Nat.blt_eq]at h2;exact h2
    have hjl:=(List.getElem?_eq_some_iff.1 hj).1;have:=hcl j oj hj (ih (all.length-(j+1)) (by omega) j (by omega)) e (by simpa using he) h3
    rwa [Nat.eq_of_beq_eq_true h4]at this
 exact fun i hi=>this (all.length-(i+1)) i (by omega)
theorem qV5{all:List Oper}{m m':Mem}{frs:Nat→Fr}{vals:Nat→SV}(hlb:qU0 all=true)
  (h4:∀i o,all[i]? =some o→i+1<all.length→ze1 P all o (frs i) m (vals i) m) (h5:∀i o,all[i]? =some o→i+1=all.length→ze1 P all o (frs i) m (vals i) m')
  (S:Nat→Bool) (i:Nat) (o:Oper) (hoi:all[i]? =some o) (hSi:S i=false) (hcl:∀ (j:Nat) (oj:Oper),all[j]? =some oj→S j=true→∀e∈oj.after,Region.binds .any e=true→S e.on=true):
  ze1 P all o (frs i) (if S (all.length-1)=true then m' else m) (vals i) (if(if all.length-1=i then true else S (all.length-1))=true then m' else m):=by
 have hil:=(List.getElem?_eq_some_iff.1 hoi).1
 have hS:S (all.length-1)=false:=by
  rcases Bool.eq_false_or_eq_true (S (all.length-1))with h|h
  ·rw[qU1 hlb hcl h i hil]at hSi;cases hSi
  ·exact h
 rw[hS]
 by_cases hl:i+1=all.length
 ·rw[if_neg (by simp),if_pos (by rw[if_pos (by omega)])]
  exact h5 i o hoi hl
 ·rw[if_neg (by simp),if_neg (by rw[if_neg (by omega)];simp)]
  exact h4 i o hoi (by omega)
theorem qD0{x k:Nat}{l:List Nat}:qC9 (x::l) k=(Nat.beq x k||qC9 l k):=rfl
theorem x53{c:Nat}:∀ (l:List Oper) (i:Nat) (acc:List Nat),
  (∀k,qC9 acc k=true→qC9 (x52 c l i acc) k=true)∧(∀k,qC9 (x52 c l i acc) k=true→qC9 acc k=true∨i≤k)∧
  (∀j o,l[j]? =some o→i+j=c→qC9 (x52 c l i acc) (i+j)=true)∧
  (∀j o,l[j]? =some o→qC9 (x52 c l i acc) (i+j)=true→qC9 acc (i+j)=true∨i+j=c∨∃e∈o.after,Region.binds .any e=true∧qC9 (x52 c l i acc) e.on=true)∧
  (∀j o,l[j]? =some o→(∃e∈o.after,Region.binds .any e=true∧qC9 (x52 c l i acc) e.on=true∧e.on<i+j)→qC9 (x52 c l i acc) (i+j)=true)
 |[],i,acc=>⟨fun _ h=>h,fun _ h=>.inl h,fun j o h=>by simp at h,fun j o h=>by simp at h,fun j o h=>by simp at h⟩
 |o::l,i,acc=>by
  have e:x52 c (o::l) i acc=(match Nat.beq i c||o.after.toList.any (fun e=>Region.binds .any e&&qC9 acc e.on)with
   |true=>x52 c l (i+1) (i::acc)
   |false=>x52 c l (i+1) acc):=rfl
  cases hb:Nat.beq i c||o.after.toList.any (fun e=>Region.binds .any e&&qC9 acc e.on)with
  |true=>
   rw[hb]at e;dsimp only at e;rw[e];obtain⟨q1,q2,q3,q4,q5⟩:=x53 l (i+1) (i::acc);have hi:qC9 (x52 c l (i+1) (i::acc)) i=true:=q1 i (by rw[qD0];simp);refine⟨fun k hk=>q1 k (by rw[qD0,hk];simp),fun k hk=>?_,fun j o' hj hc=>?_,fun j o' hj hk=>?_,fun j o' hj hk=>?_⟩
   ·rcases q2 k hk with h|h
    ·rw[qD0,Bool.or_eq_true]at h
     rcases h with h|h
     ·exact .inr (Nat.le_of_eq (Nat.eq_of_beq_eq_true h))
     ·exact .inl h
    ·exact .inr (by omega)
   ·cases j with
    |zero=>exact hi
    |succ j=>rw[show i+(j+1)=i+1+j by omega]at hc ⊢;exact q3 j o' (by simpa using hj) hc
   ·cases j with
    |zero=>
     simp at hj;subst hj;rw[Bool.or_eq_true]at hb;rcases hb with hb|hb
     ·exact .inr (.inl (Nat.eq_of_beq_eq_true hb))
     ·simp only[List.any_eq_true,Bool.and_eq_true]at hb
      obtain⟨e',he,h1,h2⟩:=hb;exact .inr (.inr ⟨e',by simpa using he,h1,q1 _ (by rw[qD0,h2];simp)⟩)
    |succ j=>
     rw[show i+(j+1)=i+1+j by omega]at hk ⊢;rcases q4 j o' (by simpa using hj) hk with h|h|h
     ·rw[qD0,Bool.or_eq_true]at h
      rcases h with h|h
      ·have:=Nat.eq_of_beq_eq_true h;omega
      ·exact .inl h
     ·exact .inr (.inl h)
     ·exact .inr (.inr h)
   ·cases j with
    |zero=>exact hi
    |succ j=>
     rw[show i+(j+1)=i+1+j by omega]at hk ⊢;exact q5 j o' (by simpa using hj) hk
  |false=>
   rw[hb]at e;dsimp only at e;rw[e];obtain⟨q1,q2,q3,q4,q5⟩:=x53 l (i+1) acc;rw[Bool.or_eq_false_iff]at hb;refine⟨q1,fun k hk=>?_,fun j o' hj hc=>?_,fun j o' hj hk=>?_,fun j o' hj hk=>?_⟩
   ·rcases q2 k hk with h|h
    ·exact .inl h
    ·exact .inr (by omega)
   ·cases j with
    |zero=>have:=hb.1;rw[show i=c by omega]at this;simp at this
    |succ j=>rw[show i+(j+1)=i+1+j by omega]at hc ⊢;exact q3 j o' (by simpa using hj) hc
   ·cases j with
    |zero=>
     rcases q2 _ hk with h|h
     ·exact .inl h
     ·omega
    |succ j=>
     rw[show i+(j+1)=i+1+j by omega]at hk ⊢;exact q4 j o' (by simpa using hj) hk
   ·cases j with
    |zero=>
     simp at hj;subst hj;obtain⟨e',he,h1,h2,h3⟩:=hk
     have h4:qC9 acc e'.on=true:=by
      rcases q2 _ h2 with h|h
      ·exact h
      ·omega
     have:=hb.2;rw[←Bool.not_eq_true,List.any_eq_true]at this;exact absurd ⟨e',by simpa using he,by rw[h1,h4];rfl⟩ this
    |succ j=>
     rw[show i+(j+1)=i+1+j by omega]at hk ⊢;exact q5 j o' (by simpa using hj) hk
structure WalkD (all:List Oper) (D:Nat→Bool) (fr:Fr) (frs:Nat→Fr) (vals:Nat→SV):Prop where
 first:frs 0=fr
 next:∀i o,all[i]? =some o→(D i=true→zb5 (frs i) o.dst (vals i) (frs (i+1)))∧(D i=false→frs (i+1)=frs i)
theorem zO2{all:List Oper}{D:Nat→Bool}{fr:Fr}{frs:Nat→Fr}{vals:Nat→SV}(hw:WalkD all D fr frs vals):∀ (i:Nat),i≤all.length→∀t,(frs i).get t=cur all fr vals D i t
 |0,_,t=>by rw[hw.first];rfl
 |i+1,hi,t=>by
  have hlt:i<all.length:=hi;have ho:all[i]? =some all[i] :=List.getElem?_eq_getElem hlt;have h:=hw.next i _ ho;simp only[cur,ho,Option.bind_some];rcases Bool.eq_false_or_eq_true (D i)with hD|hD
  ·rw[(h.1 hD).2.2 t,zO2 hw i (by omega) t]
   simp only[hD,true_and]
  ·rw[h.2 hD,zO2 hw i (by omega) t]
   simp[hD]
theorem WalkD.size{all:List Oper}{D:Nat→Bool}{fr:Fr}{frs:Nat→Fr}{vals:Nat→SV}(hw:WalkD all D fr frs vals):∀ (i:Nat),i≤all.length→(frs i).size=fr.size
 |0,_=>by rw[hw.first]
 |i+1,hi=>by
  have ho:all[i]? =some all[i] :=List.getElem?_eq_getElem hi;have h:=hw.next i _ ho;rcases Bool.eq_false_or_eq_true (D i)with hD|hD
  ·rw[(h.1 hD).1];exact WalkD.size hw i (by omega)
  ·rw[h.2 hD];exact WalkD.size hw i (by omega)
theorem zN8{all:List Oper}{fr:Fr}{vals:Nat→SV}{S:Nat→Bool}{t:Nat}(ht:∀ (j:Nat) (oj:Oper),all[j]? =some oj→oj.dst≠some t):∀n,cur all fr vals S n t=fr.get t
 |0=>rfl
 |n+1=>by
  simp only[cur];rw[if_neg,zN8 ht n]
  rintro ⟨_,h⟩
  cases ho:all[n]? with
  |none=>rw[ho]at h;simp at h
  |some o=>rw[ho]at h;exact ht n o ho (by simpa using h)
theorem zp1{ds:List Deferred}{w0:World}{R0:RSet}{all:List Oper}{fr:Fr}{frs:Nat→Fr}{vals:Nat→SV}{D:Nat→Bool}{m m':Mem}{v:SV}{c:Nat}{oc:Oper}(hw:WalkD all D fr frs vals)(hi:Indep all)
  (hstep:∀i o,all[i]? =some o→D i=true→ze1 P all o (frs i) m (vals i) m) (hc:all[c]? =some oc) (hcg:oc.guard=none) (hDc:D c=false) (hpan:zd8 P m v m' oc (o7 (frs all.length)))
  (hdef:∀i o,all[i]? =some o→D i=false→i≠c→∃e∈o.after,Region.binds .any e=true∧D e.on=false) (hDcl:∀j oj,all[j]? =some oj→D j=true→∀e∈oj.after,Region.binds .any e=true→D e.on=true)
  {Q:Exit→Act→World→Prop} {ρ0:Rho} {wa:World}
  (hQ:∀ρ' w' a u,MRel w0 R0 ρ' w' m'→fr.size=a.tmps.size→a.defers=ds→(∀t,(∀ (j:Nat) (oj:Oper),all[j]? =some oj→oj.dst≠some t)→Rep (RO w0 R0 ρ' w' m') ρ' m'.next w' (fr.get t) (a.tmps.getD t Go.undef))→n7 w0 R0 ρ0 wa m ρ' w' m'→Rep (RO w0 R0 ρ' w' m') ρ' m'.next w' v u→Q (.panic [{v:=u,recovered:=false}]) a w'):
  ∀ (fuel:Nat) (listed:Array Bool) (ρ:Rho) (w:World) (a:Act),listed.size=all.length→xY5 listed all.length=fuel→
  (∀j oj,all[j]? =some oj→listed.getD j true=true→∀e∈oj.after,Region.binds .any e=true→listed.getD e.on false=true)→(∀k,k<all.length→listed.getD k true=true→D k=true)→
  MRel w0 R0 ρ w m→fr.size=a.tmps.size→a.defers=ds→(∀t,Rep (RO w0 R0 ρ w m) ρ m.next w (cur all fr vals (fun i=>listed.getD i true) all.length t) (a.tmps.getD t Go.undef))→n7 w0 R0 ρ0 wa m ρ w m→
  wpAny P .any all.toArray Q fuel listed a w:=by
 have hcl0:=(List.getElem?_eq_some_iff.1 hc).1
 have none_ready:∀ (listed:Array Bool),listed.size=all.length→Region.ready .any all.toArray listed=[] →∀i,i<all.length→listed.getD i true=true:=by
  intro listed hsz hr i
  induction i using Nat.strongRecOn with
  |_ i ih=>
   intro hil;rcases Bool.eq_false_or_eq_true (listed.getD i true)with h|h
   ·exact h
   ·have:i∈Region.ready .any all.toArray listed:=by
     rw[mem_ready];refine⟨h,all[i],by simp[hil],fun e he hb=>?_⟩;have hlt:=hi.back i _ (List.getElem?_eq_getElem hil) e he hb;have h1:=ih e.on hlt (by omega);rw[Array.getD_eq_getD_getElem?,Array.getElem?_eq_getElem (by omega)]at h1 ⊢
     simpa using h1
    rw[hr]at this
    cases this
 have never:∀ (listed:Array Bool),(∀k,k<all.length→listed.getD k true=true→D k=true)→(∀i,i<all.length→listed.getD i true=true)→False:=by
  intro listed h1 h2;have:=h1 c hcl0 (h2 c hcl0);rw[hDc]at this;cases this
 intro fuel
 induction fuel with
 |zero=>
  intro listed ρ w a hsz hun hcl hD hm hs hd hrep hps;exact(never listed hD (xY7 _ hun)).elim
 |succ fuel ih=>
  intro listed ρ w a hsz hun hcl hD hm hs hd hrep hps;refine⟨fun hr=>(never listed hD (none_ready listed hsz hr)).elim,fun i hir=>?_⟩;obtain⟨hl,o,ho,hdeps⟩:=mem_ready.1 hir
  have hoi:all[i]? =some o:=by simpa using ho
  have hil:i<all.length:=(List.getElem?_eq_some_iff.1 hoi).1
  have before:∀j oj,all[j]? =some oj→j<i→oj.apart all.toArray o=false→listed.getD j true=true:=by
   intro j oj hj hji hap;rcases hi.pair j i oj o hji hj hoi with⟨e,he,hb,heq⟩|h
   ·have:=hdeps e he hb
    rw[heq,Array.getD_eq_getD_getElem?]at this
    have hjl:j<listed.size:=by rw[hsz];exact(List.getElem?_eq_some_iff.1 hj).1
    rw[Array.getElem?_eq_getElem hjl]at this;rw[Array.getD_eq_getD_getElem?,Array.getElem?_eq_getElem hjl]
    simpa using this
   ·rw[hap]at h;cases h
  have behind:∀j oj,all[j]? =some oj→i<j→o.apart all.toArray oj=false→listed.getD j true=false:=by
   intro j oj hj hij hap;rcases hi.pair i j o oj hij hoi hj with⟨e,he,hb,heq⟩|h
   ·rcases Bool.eq_false_or_eq_true (listed.getD j true)with hc|hc
    ·have:=hcl j oj hj hc e he hb
     rw[heq,Array.getD_eq_getD_getElem?]at this;rw[Array.getD_eq_getD_getElem?]at hl;rw[Array.getElem?_eq_getElem (by omega)]at this hl;simp at this hl;rw[this]at hl;cases hl
    ·exact hc
   ·rw[hap]at h;cases h
  have up:∀k,listed.getD k false=true→listed.getD k true=true:=fun k hk=>by
   rw[Array.getD_eq_getD_getElem?]at hk ⊢
   cases hx:listed[k]? with
   |none=>rfl
   |some b=>rw[hx]at hk;simpa using hk
  -- nothing that waits for the call is ready
  have hcase:i=c∨D i=true:=by
   by_cases hic:i=c
   ·exact .inl hic
   ·right
    rcases Bool.eq_false_or_eq_true (D i)with h|h
    ·exact h
    ·obtain⟨e,he,hb,h2⟩:=hdef i o hoi h hic
     have h3:=hD e.on (Nat.lt_trans (hi.back i o hoi e he hb) hil) (up _ (hdeps e he hb));rw[h2]at h3;cases h3
  have hyieldG:∀ (F:Fr),(∀t,t∈o.looksAt all.toArray→cur all fr vals (fun k=>listed.getD k true) all.length t=F.get t)→∀g,qC3 all F.get o=some g→Region.wanted o (yielded all.toArray a.tmps)=g:=fun F hF g hg=>
   jc6 (R:=RO w0 R0 ρ w m) (ρ:=ρ) (n:=m.next) (w:=w) (fun j want d hgd hdd=>by rw[←hF d (qZ1 hgd (by simpa using hdd))];exact hrep d) hg
  have hebG:∀ (F:Fr),(∀t,t∈o.looksAt all.toArray→cur all fr vals (fun k=>listed.getD k true) all.length t=F.get t)→∀x∈o.op.operands,Rep (RO w0 R0 ρ w m) ρ m.next w (o7 F x) (a.eval x):=by
   intro F hF x hx
   cases x with
   |tmp t=>
    show Rep _ _ _ _ (F.get t) _;rw[←hF t (qZ2 hx)];exact hrep t
   |const v=>exact yx9 v _ _ _ _
   |global g=>exact rfl
   |func f=>exact⟨[],[],rfl,rfl,rfl⟩
  unfold wpOp;rw[ho];dsimp only
  by_cases hic:i=c
  ·subst hic
   rw[hc]at hoi;injection hoi with hoi;subst hoi
   have looks:∀t,t∈oc.looksAt all.toArray→cur all fr vals (fun k=>listed.getD k true) all.length t=(frs all.length).get t:=by
    intro t ht;rw[zO2 hw _ (Nat.le_refl _)]
    refine zO0 _ fun j hj hd'=>?_
    have hd2:all[j].dst=some t:=by simpa[List.getElem?_eq_getElem hj]using hd'
    rcases Nat.lt_trichotomy j i with h|h|h
    ·have h1:=before j _ (List.getElem?_eq_getElem hj) h (by simp[Oper.apart,hd2,ht])
     rw[h1,hD j hj h1]
    ·subst h;rw[hl,hDc]
    ·have h1:=behind j _ (List.getElem?_eq_getElem hj) h (by simp[Oper.apart,hd2,ht])
     rw[h1];rcases hi.pair i j oc _ h hc (List.getElem?_eq_getElem hj)with⟨e,he,hb,heq⟩|h2
     ·rcases Bool.eq_false_or_eq_true (D j)with h3|h3
      ·have:=hDcl j _ (List.getElem?_eq_getElem hj) h3 e he hb
       rw[heq,hDc]at this;cases this
      ·exact h3.symm
     ·have:oc.apart all.toArray all[j] =false:=by simp[Oper.apart,hd2,ht]
      rw[this]at h2;cases h2
   rw[hyieldG _ looks true (by unfold qC3;rw[hcg]),if_pos rfl];refine .inl ?_;have h1:=hpan w0 R0 ρ w a.eval hm (hebG _ looks);unfold Oper.wp;generalize (Go.execOp a.eval oc).run P w=r at h1
   have out:∀u w',n9 w0 R0 ρ w m v m' u w'→Q (.panic [{v:=u,recovered:=false}]) a w':=fun u w' ⟨ρ',g1,g2,g3⟩=>
    hQ ρ' w' a u g1 hs hd (fun t ht=>by
     have:=Rep.mono g2 _ _ (hrep t)
     rwa [zN8 ht]at this) (hps.trans g2) g3
   match r,h1 with
   |.halt (.panic u) w',h1=>exact out u w' h1
   |.ok (.enter f args) w',h1=>
    rw[Oper.upon_enter]
    exact Calls.mono h1 fun e w'' ⟨u,he,hu⟩=>by subst he;exact out u w'' hu
  ·have hDi:=hcase.resolve_left hic
   have looks:∀t,t∈o.looksAt all.toArray→cur all fr vals (fun k=>listed.getD k true) all.length t=(frs i).get t:=by
    intro t ht;rw[zO2 hw i (by omega),zN9 (i:=i) all.length (by omega) (fun j h1 h2 hd'=>?_)]
    ·refine zO0 i fun j hj hd'=>?_
     have hjl:j<all.length:=by omega
     have hd2:all[j].dst=some t:=by simpa[List.getElem?_eq_getElem hjl]using hd'
     have h1:=before j _ (List.getElem?_eq_getElem hjl) hj (by simp[Oper.apart,hd2,ht]);rw[h1,hD j hjl h1]
    ·by_cases hji:j=i
     ·subst hji;exact hl
     ·have hjl:j<all.length:=h2
      refine behind j _ (List.getElem?_eq_getElem hjl) (by omega) ?_
      have hd2:all[j].dst=some t:=by simpa[List.getElem?_eq_getElem hjl]using hd'
      simp[Oper.apart,hd2,ht]
   have hset:∀k,k<all.length→(listed.setIfInBounds i true).getD k true=if k=i then true else listed.getD k true:=by
    intro k hk
    by_cases hki:k=i
    ·subst hki;simp[Array.getD_eq_getD_getElem?,Array.getElem?_setIfInBounds,hsz,hil]
    ·rw[getD_set_ne true (Ne.symm hki),if_neg hki]
   have hcur:∀t,cur all fr vals (fun k=>(listed.setIfInBounds i true).getD k true) all.length t=if o.dst=some t then vals i else cur all fr vals (fun k=>listed.getD k true) all.length t:=by
    intro t
    by_cases ht:o.dst=some t
    ·rw[if_pos ht,zN9 (i:=i+1) all.length hil (fun j h1 h2 hd'=>?_)]
     ·simp only[cur,hoi,Option.bind_some]
      rw[if_pos ⟨by rw[hset i hil];simp,ht⟩]
     ·rw[hset j h2,if_neg (by omega)]
      refine behind j _ (List.getElem?_eq_getElem h2) (by omega) ?_
      have hd2:all[j].dst=some t:=by simpa[List.getElem?_eq_getElem h2]using hd'
      simp[Oper.apart,hd2,ht]
    ·rw[if_neg ht]
     refine zO0 _ fun j hj hd'=>?_
     rw[hset j hj]
     by_cases hji:j=i
     ·subst hji
      rw[hoi]at hd';exact absurd (by simpa using hd') ht
     ·rw[if_neg hji]
   have hun':xY5 (listed.setIfInBounds i true) all.length=fuel:=by
    have:=xY6 all.length hil hl (by omega);omega
   have hcl':∀j oj,all[j]? =some oj→(listed.setIfInBounds i true).getD j true=true→∀e∈oj.after,Region.binds .any e=true→(listed.setIfInBounds i true).getD e.on false=true:=by
    intro j oj hj hlj e he hb;have hjl:j<all.length:=(List.getElem?_eq_some_iff.1 hj).1;rw[hset j hjl]at hlj
    by_cases hji:j=i
    ·subst hji
     rw[hoi]at hj;injection hj with hj;subst hj;exact getD_set_true (hdeps e he hb)
    ·rw[if_neg hji]at hlj
     exact getD_set_true (hcl j oj hj hlj e he hb)
   have hD':∀k,k<all.length→(listed.setIfInBounds i true).getD k true=true→D k=true:=fun k hk h=>by
    rw[hset k hk]at h
    by_cases hki:k=i
    ·subst hki;exact hDi
    ·rw[if_neg hki]at h;exact hD k hk h
   have hfs:=(hw.next i o hoi).1 hDi
   have putrep:∀ (ρ':Rho) (w':World) (u:Value),n7 w0 R0 ρ w m ρ' w' m→Rep (RO w0 R0 ρ' w' m) ρ' m.next w' (vals i) u→∀t,Rep (RO w0 R0 ρ' w' m) ρ' m.next w' (cur all fr vals (fun k=>(listed.setIfInBounds i true).getD k true) all.length t) ((a.put o.dst u).tmps.getD t Go.undef):=by
    intro ρ' w' u he hu t;rw[hcur t]
    have h1:∀d,o.dst=some d→d<a.tmps.size:=fun d hd'=>by rw[←hs,←hw.size i (by omega)];exact hfs.2.1 d hd'
    cases hdst:o.dst with
    |none=>simpa[Act.put]using Rep.mono he _ _ (hrep t)
    |some d=>
     have hlt:=h1 d hdst
     by_cases ht:d=t
     ·subst ht
      simp[Act.put,Array.getElem?_setIfInBounds,hlt];exact hu
     ·have:¬(some d=some t):=fun e=>ht (by injection e)
      rw[if_neg this];have h2:=Rep.mono he _ _ (hrep t)
      simpa[Act.put,Array.getElem?_setIfInBounds_ne ht]using h2
   have putsize:∀u,fr.size=(a.put o.dst u).tmps.size:=fun u=>by rw[hs];cases o.dst<;>simp[Act.put]
   rcases hstep i o hoi hDi with⟨hg,hsem⟩|⟨hg,hv,_⟩
   ·rw[hyieldG _ looks _ hg,if_pos rfl]
    refine .inl ?_;unfold Oper.wp;refine xY9 (fun u w' hu=>?_) (hsem w0 R0 ρ w a.eval hm (hebG _ looks));obtain⟨ρ',g1,g2,g3⟩:=hu;exact ih _ ρ' w' _ (by simpa using hsz) hun' hcl' hD' g1 (putsize u) (by rw[yT1];exact hd) (putrep ρ' w' u g2 g3) (hps.trans g2)
   ·rw[hyieldG _ looks _ hg]
    simp only[Bool.false_eq_true,if_false];exact ih _ ρ w _ (by simpa using hsz) hun' hcl' hD' hm (putsize _) (by rw[yT1];exact hd) (putrep ρ w Go.undef (Ext.refl _ _ _ _) (by rw[hv];rfl)) hps
theorem yA3(hE:EOK P E){zE1:za4 α}(hcallQ:za5 P true zE1){all:List Oper}{o:Oper}{ih:zc2 α}{p:Plan}{fr:Fr}{m:Mem}{L:α→Prop}(h:(yz6 E (quiet E) zE1 all o ih p fr m).holds L):
  ∃p' v fr1,(ih p' fr1 m).holds L∧ze1 P all o fr m v m∧zb5 fr o.dst v fr1:=by
 have hq:quiet E o.op=true∨qC3 all fr.get o=some false:=by
  unfold yz6 at h
  cases hg:o.guard with
  |none=>
   rw[hg]at h;dsimp only at h
   split at h
   ·rename_i hq;exact .inl hq
   ·exact h.elim
  |some jw=>
   cases hq:quiet E o.op with
   |true=>exact .inl rfl
   |false=>
    right;rw[hg]at h;dsimp only at h;rw[yd7]at h
    split at h
    ·rename_i oj hoj
     split at h
     ·rename_i d hd
      have hb:(all[jw.1]?).bind (·.dst)=some d:=by rw[hoj];exact hd
      split at h
      ·rename_i b hfr
       obtain⟨p',h⟩:=zQ8 h;obtain⟨fr2,h1,h2⟩:=Fr.set_holds h
       split at h2
       ·rw[hq]at h2;exact h2.elim
       ·rename_i hbw
        simp only[qC3,hg,hb,hfr];rw[hbw]
      ·rename_i hfr
       simp only[qC3,hg,hb,hfr]
      ·exact h.elim
     ·exact h.elim
    ·exact h.elim
 obtain⟨p1,v,fr1,m1,h1,h2,h3,h4⟩:=yA2 hE hcallQ h
 have hm:m1=m:=by
  rcases hq with hq|hq
  ·exact h4.quiet rfl hq
  ·rcases h2 with⟨hg,_⟩|⟨_,_,hm⟩
   ·rw[hq]at hg;cases hg
   ·exact hm
 subst hm;exact⟨p1,v,fr1,h1,h2,h3⟩
theorem z28(hE:EOK P E){zE1:za4 α}(hcallQ:za5 P true zE1){W:List Nat}{all:List Oper}{k:zc2 α}{L:α→Prop}:∀ (ops:List Oper) (i:Nat) (p:Plan) (fr:Fr) (m:Mem),(z27 E zE1 W all ops k i p fr m).holds L→
  ∃p' fr',(k p' fr' m).holds L∧∃ (frs:Nat→Fr) (vals:Nat→SV),frs 0=fr∧frs ops.length=fr'∧∀j o,ops[j]? =some o→(qC9 W (i+j)=false→zb5 (frs j) o.dst (vals j) (frs (j+1))∧ze1 P all o (frs j) m (vals j) m)∧(qC9 W (i+j)=true→frs (j+1)=frs j)
 |[],i,p,fr,m,h=>⟨p,fr,h,fun _=>fr,fun _=>.undef,rfl,rfl,fun j o h=>by simp at h⟩
 |o::rest,i,p,fr,m,h=>by
  have e:z27 E zE1 W all (o::rest) k i=(match qC9 W i with
   |true=>z27 E zE1 W all rest k (i+1)
   |false=>yz6 E (quiet E) zE1 all o (z27 E zE1 W all rest k (i+1))):=rfl
  rw[e]at h
  cases hW:qC9 W i with
  |true=>
   rw[hW]at h;obtain⟨p',fr',h1,frs,vals,h2,h3,h4⟩:=z28 hE hcallQ rest (i+1) p fr m h;refine⟨p',fr',h1,fun j=>Nat.casesOn j fr frs,fun j=>Nat.casesOn j .undef vals,rfl,h3,fun j o' hj=>?_⟩
   cases j with
   |zero=>exact⟨fun hc=>(by rw[Nat.add_zero,hW]at hc;cases hc),fun _=>h2⟩
   |succ j=>rw[show i+(j+1)=i+1+j by omega];exact h4 j o' (by simpa using hj)
  |false=>
   rw[hW]at h;obtain⟨p1,v,fr1,g1,g2,g3⟩:=yA3 hE hcallQ h;obtain⟨p',fr',h1,frs,vals,h2,h3,h4⟩:=z28 hE hcallQ rest (i+1) p1 fr1 m g1;refine⟨p',fr',h1,fun j=>Nat.casesOn j fr frs,fun j=>Nat.casesOn j v vals,rfl,h3,fun j o' hj=>?_⟩
   cases j with
   |zero=>
    simp at hj;subst hj;exact⟨fun _=>⟨(by dsimp only;rw[h2];exact g3),g2⟩,fun hc=>by rw[Nat.add_zero,hW]at hc;cases hc⟩
   |succ j=>rw[show i+(j+1)=i+1+j by omega];exact h4 j o' (by simpa using hj)
theorem xT3{L:α→Prop}:∀ (ops:List Oper) (fr:Fr) (k:Fr→Tree α),(xT2 ops fr k).holds L→∃fr',(k fr').holds L∧fr'.size=fr.size∧∀t,fr'.get t=.top∨(fr'.get t=fr.get t∧∀ (j:Nat) (oj:Oper),ops[j]? =some oj→oj.dst≠some t)
 |[],fr,k,h=>⟨fr,h,rfl,fun t=>.inr ⟨rfl,fun j oj h=>by simp at h⟩⟩
 |o::rest,fr,k,h=>by
  have e:xT2 (o::rest) fr k=(match o.dst with
   |some d=>fr.set d .top fun fr=>xT2 rest fr k
   |none=>xT2 rest fr k):=rfl
  rw[e]at h
  cases hd:o.dst with
  |none=>
   rw[hd]at h;obtain⟨fr',h1,h2,h3⟩:=xT3 rest fr k h;refine⟨fr',h1,h2,fun t=>(h3 t).imp id fun⟨g1,g2⟩=>⟨g1,fun j oj hj=>?_⟩⟩
   cases j with
   |zero=>simp at hj;subst hj;rw[hd];simp
   |succ j=>exact g2 j oj (by simpa using hj)
  |some d=>
   rw[hd]at h;obtain⟨fr1,q1,q2⟩:=Fr.set_holds h;obtain⟨fr',h1,h2,h3⟩:=xT3 rest fr1 k q2;refine⟨fr',h1,h2.trans q1.1,fun t=>?_⟩;rcases h3 t with g|⟨g1,g2⟩
   ·exact .inl g
   ·by_cases ht:some d=some t
    ·left;rw[g1,q1.2.2 t,if_pos ht]
    ·right
     refine⟨by rw[g1,q1.2.2 t,if_neg ht],fun j oj hj=>?_⟩
     cases j with
     |zero=>simp at hj;subst hj;rw[hd];exact ht
     |succ j=>exact g2 j oj (by simpa using hj)
end
end Go.Sx
