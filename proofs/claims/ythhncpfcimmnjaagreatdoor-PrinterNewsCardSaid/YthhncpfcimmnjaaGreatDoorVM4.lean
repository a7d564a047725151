/-
  Evaluator, closed run of the example, contracts, law.
-/
import Derived.Test.YthhncpfcimmnjaaGreatDoorVM3
import Derived.Recover
import Derived.Maps.RangeRun
import Derived.Lib.Bytealg
import Derived.Test.YthhncpfcimmnjaaGreatDoorProg
import Derived.RangeFuncNested
import Derived.RangeFuncBound
import Derived.RangeFuncCalls
import Derived.RangeFuncLeaves
import Derived.RangeFuncFrom
import Derived.RangeFuncBox
import Derived.Shelf.Abstract
import Derived.Shelf.RegionOpenPlain
import Derived.WalkKit
import Derived.OwnWalkIn
import Derived.TacticsInMore
import Derived.LoopNIn
import Derived.LoopIn
import Derived.Maps.AppendAt
import Derived.Laws.IdiomCopy
import Derived.Tactics
set_option maxRecDepth 100000
set_option linter.unusedVariables false
set_option linter.unusedSimpArgs false
open Go.IntKind (i64 u64)
namespace Go.Sx
open Go.RowKit
theorem idx_get:∀{l:List Nat} {k j:Nat},idx l k=some j→l[j]? =some k
 |x::l,k,j,h=>by
  unfold idx at h
  split at h
  ·rename_i hx
   injection h with h;subst h
   simp[Nat.eq_of_beq_eq_true hx]
  ·split at h
   ·rename_i j' hj
    injection h with h;subst h
    simpa using idx_get hj
   ·cases h
mutual
/-- A value with its boxes named anew. -/
def ren(ids:List Nat):SV→SV
 |.row id=>match idx ids id with|some k=>.row k|none=>.top
 |.arr id o n=>match idx ids id with|some k=>.arr k o n|none=>.top
 |.ptr id o=>match idx ids id with|some k=>.ptr k o|none=>.top
 |.rptr id z i o=>match idx ids id with|some k=>.rptr k z i o|none=>.top
 |.vsl id o n l z x=>match idx ids id with|some k=>.vsl k o n l z x|none=>.top
 |.vptr id o=>match idx ids id with|some k=>.vptr k o|none=>.top
 |.mp id=>match idx ids id with|some k=>.mp k|none=>.top
 |.agg cs=>.agg (renL ids cs)
 |.tuple cs=>.tuple (renL ids cs)
 |.fn f a b=>.fn f (renL ids a) (renL ids b)
 |v=>v
def renL(ids:List Nat):List SV→List SV
 |[] =>[]
 |x::xs=>ren ids x::renL ids xs
end
def renB(ids:List Nat):Box→Option Box
 |.cells cs=>some (.cells (renL ids cs))
 |.rows t l=>some (.rows t l)
 |.iter s p=>some (.iter s p)
 |.obj t cs=>some (.obj t (renL ids cs))
 |.vec cs=>some (.vec (renL ids cs))
 |_=>none
noncomputable def idsM(m:Mem):List Nat→List Nat→List Nat
 |[],l=>l
 |id::r,l=>idsM m r (match m.get id with
  |some (.cells cs)=>idsL cs l
  |some (.obj _ cs)=>idsL cs l
  |some (.vec cs)=>idsL cs l
  |_=>l)
noncomputable def live(m:Mem)(slots:List SV):List Nat:=
 let l:=idsL slots []
 let l:=idsM m l l
 idsM m l l
def nodupB:List Nat→Bool
 |[] =>true
 |x::l=>(match idx l x with|some _=>false|none=>true)&&nodupB l
theorem idx_none:∀{l:List Nat} {k:Nat},idx l k=none→k∉l
 |[],_,_=>List.not_mem_nil
 |x::l,k,h=>by
  unfold idx at h
  split at h
  ·cases h
  ·rename_i hx
   split at h
   ·cases h
   ·rename_i hj
    intro hm
    cases hm with
    |head=>simp at hx
    |tail _ hm=>exact idx_none hj hm
theorem nodupB_spec:∀{l:List Nat},nodupB l=true→l.Nodup
 |[],_=>List.nodup_nil
 |x::l,h=>by
  simp only[nodupB,Bool.and_eq_true]at h
  refine List.nodup_cons.2 ⟨?_,nodupB_spec h.2⟩
  have h1:=h.1
  split at h1
  ·cases h1
  ·rename_i hx;exact idx_none hx
section
variable {R R':Nat→Prop} {ρ ρ':Rho} {n n':Nat} {w:World} {ids:List Nat}
mutual
theorem Rep.ren(hR:∀b,R b→R' b)(hρ:∀id k,idx ids id=some k→k<n'∧ρ' k=ρ id):∀ (x:SV) (v:Value),Rep R ρ n w x v→Rep R' ρ' n' w (Go.Sx.ren ids x) v
 |.undef,_,h=>h
 |.top,_,h=>trivial
 |.int _ _,_,h=>h
 |.bool _,_,h=>h
 |.str _,_,h=>h
 |.nilS,_,h=>h
 |.list t l,v,h=>RepD.mono (fun b hb=>⟨hR b hb,rfl⟩) (.list t) l [v] h
 |.row id,v,h=>by
  unfold Go.Sx.ren
  split
  ·rename_i k hk
   obtain⟨h1,h2⟩:=hρ id k hk
   obtain⟨_,h⟩:=h
   exact⟨h1,by rw[h2];exact h⟩
  ·trivial
 |.arr id _ _,v,h=>by
  unfold Go.Sx.ren
  split
  ·rename_i k hk
   obtain⟨h1,h2⟩:=hρ id k hk
   exact⟨h1,by rw[h2];exact h.2⟩
  ·trivial
 |.ptr id _,v,h=>by
  unfold Go.Sx.ren
  split
  ·rename_i k hk
   obtain⟨h1,h2⟩:=hρ id k hk
   exact⟨h1,by rw[h2];exact h.2⟩
  ·trivial
 |.nilP,_,h=>h
 |.eptr t l i off,v,h=>by
  obtain⟨b,o,h1,h2,h3⟩:=h
  exact⟨b,o,h1,h2,h3.mono fun b hb=>⟨hR b hb,rfl⟩⟩
 |.rptr id _ _ _,v,h=>by
  unfold Go.Sx.ren
  split
  ·rename_i k hk
   obtain⟨h1,h2⟩:=hρ id k hk
   exact⟨h1,by rw[h2];exact h.2⟩
  ·trivial
 |.agg cs,v,h=>by
  obtain⟨vs,h1,h2⟩:=h
  exact⟨vs,h1,RepL.ren hR hρ cs vs h2⟩
 |.tuple cs,v,h=>by
  obtain⟨vs,h1,h2⟩:=h
  exact⟨vs,h1,RepL.ren hR hρ cs vs h2⟩
 |.fn f first cap,v,h=>by
  obtain⟨vs,us,h1,h2,h3⟩:=h
  exact⟨vs,us,h1,RepL.ren hR hρ first vs h2,RepL.ren hR hρ cap us h3⟩
 |.raw _,_,h=>h
 |.vsl id _ _ _ _ _,v,h=>by
  unfold Go.Sx.ren
  split
  ·rename_i k hk
   obtain⟨h1,h2⟩:=hρ id k hk
   exact⟨h1,by rw[h2];exact h.2⟩
  ·trivial
 |.vptr id _,v,h=>by
  unfold Go.Sx.ren
  split
  ·rename_i k hk
   obtain⟨h1,h2⟩:=hρ id k hk
   exact⟨h1,by rw[h2];exact h.2⟩
  ·trivial
 |.mp id,v,h=>by
  unfold Go.Sx.ren
  split
  ·rename_i k hk
   obtain⟨h1,h2⟩:=hρ id k hk
   exact⟨h1,by rw[h2];exact h.2⟩
  ·trivial
theorem RepL.ren(hR:∀b,R b→R' b)(hρ:∀id k,idx ids id=some k→k<n'∧ρ' k=ρ id):∀ (xs:List SV) (vs:List Value),RepL R ρ n w xs vs→RepL R' ρ' n' w (Go.Sx.renL ids xs) vs
 |[],_,h=>h
 |x::xs,vs,h=>by
  obtain⟨v,us,h1,h2,h3⟩:=h
  exact⟨v,us,h1,Rep.ren hR hρ x v h2,RepL.ren hR hρ xs us h3⟩
end
theorem BoxRel.ren(hR:∀b,R b→R' b)(hρ:∀id k,idx ids id=some k→k<n'∧ρ' k=ρ id){r:Nat×Nat×Nat}:∀ (B B':Box),renB ids B=some B'→BoxRel R ρ n w r B→BoxRel R' ρ' n' w r B'
 |.cells cs,_,e,h=>by
  injection e with e;subst e
  obtain⟨arr,e,fr,h1,h2,h3⟩:=h
  exact⟨arr,e,fr,h1,h2,RepL.ren hR hρ _ _ h3⟩
 |.rows t l,_,e,h=>by
  injection e with e;subst e
  obtain⟨h1,h2,h3⟩:=h
  refine⟨h1,h2,fun h0=>?_⟩
  obtain⟨arr,e,fr,k1,k2,k3,k4⟩:=h3 h0
  refine⟨arr,e,fr,k1,k2,k3,fun i hi=>?_⟩
  obtain⟨cs,c1,c2,c3⟩:=k4 i hi
  exact⟨cs,c1,c2,RepD.mono (fun b hb=>⟨hR b hb,rfl⟩) _ _ _ c3⟩
 |.iter s pos,_,e,h=>by
  injection e with e;subst e
  exact h
 |.obj t cs,_,e,h=>by
  injection e with e;subst e
  obtain⟨arr,h1,h3⟩:=h
  exact⟨arr,h1,RepL.ren hR hρ _ _ h3⟩
 |.vec cs,_,e,h=>by
  injection e with e;subst e
  obtain⟨arr,e,fr,h1,h2,h3,h4,h5⟩:=h
  have hl:∀l:List SV,(renL ids l).length=l.length:=fun l=>by
   induction l with
   |nil=>rfl
   |cons x l ih=>simp[renL,ih]
  exact⟨arr,e,fr,h1,h2,h3,by rw[hl];exact h4,by rw[hl];exact RepL.ren hR hρ _ _ h5⟩
 |.map _ _,_,e,_=>by cases e
 |.miter _ _ _ _,_,e,_=>by cases e
end
theorem solid_ren{r:Nat×Nat×Nat}{ids:List Nat}{B B':Box}(e:renB ids B=some B'):solid r B'↔solid r B:=by
 cases B<;>first|(cases e;done)|(injection e with e;subst e;exact Iff.rfl)
theorem getD_renL(ids:List Nat):∀ (l:List SV) (t:Nat),(renL ids l).getD t .undef=ren ids (l.getD t .undef)
 |[],t=>by cases t<;>rfl
 |x::l,0=>rfl
 |x::l,t+1=>by
  have:=getD_renL ids l t
  simpa[renL]using this
theorem nodup_inj:∀{l:List Nat},l.Nodup→∀ (i j:Nat) (x:Nat),l[i]? =some x→l[j]? =some x→i=j
 |[],_,i,j,x,h,_=>by simp at h
 |y::l,hn,i,j,x,hi,hj=>by
  rw[List.nodup_cons]at hn
  cases i with
  |zero=>
   cases j with
   |zero=>rfl
   |succ j=>
    simp at hi hj;subst hi
    exact absurd (List.mem_of_getElem? hj) hn.1
  |succ i=>
   cases j with
   |zero=>
    simp at hi hj;subst hj
    exact absurd (List.mem_of_getElem? hi) hn.1
   |succ j=>rw[nodup_inj hn.2 i j x (by simpa using hi) (by simpa using hj)]
theorem SRelD.rename{ds:List Deferred}{w0:World}{R0:RSet}{ρ:Rho}{w:World}{fr fr2:Fr}{m m2:Mem}{a:Act}{slots:List SV}{ids:List Nat}(h:SRelD ds w0 R0 ρ w fr m a)(hn:ids.Nodup)
  (hc:Canon (renL ids slots) (ids.map fun id=>(m.get id).bind (renB ids)) fr2 m2) (hlen:slots.length=fr.size) (hs:∀ (i:Nat) (x:SV),slots[i]? =some x→x=.top∨x=fr.get i):
  SRelD ds w0 R0 (fun k=>ρ (ids.getD k 0)) w fr2 m2 a∧∀b,RO w0 R0 ρ w m b→RO w0 R0 (fun k=>ρ (ids.getD k 0)) w m2 b:=by
 obtain⟨h1,h2,h3⟩:=h
 have hg:∀k B,m2.get k=some B→∃id B0,ids[k]? =some id∧m.get id=some B0∧renB ids B0=some B:=fun k B hB=>by
  rw[hc.box k]at hB
  simp only[List.getElem?_map]at hB
  cases hx:ids[k]? with
  |none=>rw[hx]at hB;cases hB
  |some id=>
   rw[hx]at hB
   cases hy:m.get id with
   |none=>simp[hy]at hB
   |some B0=>simp[hy]at hB;exact⟨id,B0,rfl,hy,hB⟩
 have hρk:∀k id,ids[k]? =some id→ρ (ids.getD k 0)=ρ id:=fun k id hk=>by rw[List.getD_eq_getElem?_getD,hk];rfl
 have hρ:∀id k,idx ids id=some k→k<m2.next∧(fun k=>ρ (ids.getD k 0)) k=ρ id:=fun id k hk=>by
  have:=idx_get hk
  refine⟨?_,hρk k id this⟩
  rw[hc.next]
  simpa using (List.getElem?_eq_some_iff.1 this).1
 have hro:∀b,RO w0 R0 ρ w m b→RO w0 R0 (fun k=>ρ (ids.getD k 0)) w m2 b:=fun b hb=>by
  rcases hb with hb|⟨k1,k2,k3,k4⟩
  ·exact .inl hb
  ·refine .inr ⟨k1,k2,fun k B hB hsol=>?_,k4⟩
   obtain⟨id,B0,g1,g2,eB⟩:=hg k B hB
   dsimp only at hsol ⊢
   rw[hρk k id g1]at hsol ⊢
   exact k3 id B0 g2 ((solid_ren eB).1 hsol)
 refine⟨⟨⟨h1.below,fun k B hB=>?_,fun k B hB hsol=>?_,fun k B hB hsol=>?_,fun k k' B B' hB hB' hsol hsol' heq=>?_,fun k B hB=>?_,h1.hid.1,fun k B hB hsol=>?_⟩,⟨?_,fun t=>?_⟩,h3⟩,hro⟩
 ·obtain⟨id,B0,g1,g2,eB⟩:=hg k B hB
  rw[hc.next]
  simpa using (List.getElem?_eq_some_iff.1 g1).1
 ·obtain⟨id,B0,g1,g2,eB⟩:=hg k B hB
  rw[hρk k id g1]at hsol ⊢
  exact h1.lo id B0 g2 ((solid_ren eB).1 hsol)
 ·obtain⟨id,B0,g1,g2,eB⟩:=hg k B hB
  rw[hρk k id g1]at hsol ⊢
  exact h1.hi id B0 g2 ((solid_ren eB).1 hsol)
 ·obtain⟨id,B0,g1,g2,eB⟩:=hg k B hB
  obtain⟨id',B0',g1',g2',eB'⟩:=hg k' B' hB'
  rw[hρk k id g1]at hsol heq
  rw[hρk k' id' g1']at hsol' heq
  have:=h1.inj id id' B0 B0' g2 g2' ((solid_ren eB).1 hsol) ((solid_ren eB').1 hsol') heq
  subst this
  exact nodup_inj hn k k' id g1 g1'
 ·obtain⟨id,B0,g1,g2,eB⟩:=hg k B hB
  rw[hρk k id g1]
  exact BoxRel.ren hro hρ B0 B eB (h1.box id B0 g2)
 ·obtain⟨id,B0,g1,g2,eB⟩:=hg k B hB
  rw[hρk k id g1]at hsol ⊢
  exact h1.hid.2 id B0 g2 ((solid_ren eB).1 hsol)
 ·rw[hc.size,show(renL ids slots).length=slots.length from ?_,hlen]
  ·exact h2.1
  ·clear hc hlen hs
   induction slots with
   |nil=>rfl
   |cons x l ih=>simp[renL,ih]
 ·rw[hc.get t,getD_renL]
  rw[List.getD_eq_getElem?_getD]
  cases hx:slots[t]? with
  |none=>
   have ht:slots.length≤t:=by simpa using hx
   have:a.tmps.getD t Go.undef=Go.undef:=by
    rw[Array.getD_eq_getD_getElem?,Array.getElem?_eq_none (by rw[←h2.1,←hlen];exact ht)]
    rfl
   rw[this];exact rfl
  |some x=>
   rcases hs t x hx with rfl|rfl
   ·exact trivial
   ·exact Rep.ren hro hρ _ _ (h2.2 t)
noncomputable def segR(E:Env)(n:Nat)(fn:Func)(hint:Ty)(keep:List Item→List Bool)(items:List Item)(p:Plan)(slots:List SV)(boxes:List (Option Box)):Tree Stop:=
 Fr.make slots.length slots fun fr=>memFill boxes ⟨0,.e⟩ fun m=>exec E n items p fr m fun o=>match o with
  |.ret _ fr m=>results E fn m fr fun v=>.leaf (.done (give hint m v))
  |.stop items fr m=>match live m (viewS fr (keep items) 0)with
   |ids=>match nodupB ids with
    |true=>.leaf (.at (enter items) fr.size (renL ids (viewS fr (keep items) 0)) (ids.map fun id=>(m.get id).bind (renB ids)))
    |false=>.fail 170
  |.pan .. =>.fail 175
def RunsR(P:Program)(fn:Func)(v:SV)(items:List Item)(slots:List SV)(boxes:List (Option Box)):Prop:=
 ∀fr m,Canon slots boxes fr m→∀w0 R0 ρ w a,SRel w0 R0 ρ w fr m a→∀ (b:Frame) (cs:List Frame),∃ρ' w' a' todo u,MRel w0 R0 ρ' w' ⟨0,.e⟩∧a'.defers=[] ∧(∀b,RO w0 R0 ρ w m b→RO w0 R0 ρ' w' ⟨0,.e⟩ b∧w'.heap[b]? =w.heap[b]?)∧
  Steps P (lone (b.at a items) cs w) (lone {b.at a' todo with mode:=.returning} cs w')∧(Go.results fn a'.tmps).run P w'=.ok u w'∧Rep (RO w0 R0 ρ' w' ⟨0,.e⟩) ρ' 0 w' v u
theorem runsR_seg{P:Program}{E:Env}(hK:Known P E){n:Nat}{fn:Func}{hint:Ty}{keep:List Item→List Bool}{items:List Item}{p:Plan}{slots:List SV}{boxes:List (Option Box)}{v:SV}(hvd:v.data=true)
  (h:(segR E n fn hint keep items p slots boxes).holds fun o=>match o with
    |.done v'=>v'=v
    |.at items' size slots' boxes'=>slots'.length=size∧RunsR P fn v items' slots' boxes'):RunsR P fn v items slots boxes:=by
 intro fr0 m0 hc0 w0 R0 ρ w a hs b cs
 unfold segR at h
 obtain⟨fr,h1,h2,h3,h4⟩:=make_holds h
 obtain⟨m,h5,h6,h7,h8⟩:=memFill_holds boxes ⟨0,.e⟩ _ h1 fun id _=>rfl
 have hc:Canon slots boxes fr m:=⟨h2,h4,by rw[h6];simp,fun id=>by simpa using h8 id⟩
 obtain⟨hs1,hro1⟩:=hc0.swap hc hs
 obtain⟨out,h9,h10⟩:=exec_ok hK.e hK.s hK.mix n _ _ _ _ _ _ h5
 cases out with
 |pan v1 fr' m'=>exact h9.elim
 |ret p' fr' m'=>
  dsimp only at h9
  obtain⟨v',k1,k2⟩:=results_holds hK.e h9
  obtain rfl:give hint m' v'=v:=k1
  obtain⟨ρ1,w1,a1,todo,g1,g2,g3⟩:=h10 w0 R0 ρ w a hs1 b cs
  obtain⟨u,r1,r2⟩:=k2 w0 R0 ρ1 w1 a1 g1
  obtain⟨e1,e2⟩:=g1.1.bare
  exact⟨ρ1,w1,a1,todo,u,e1,g1.2.2,fun b hb=>⟨e2 b (g2.keep b ((hro1 b).1 hb)).1,(g2.keep b ((hro1 b).1 hb)).2⟩,g3,r1,give_rep g1.1 r2 hvd⟩
 |stop items' fr' m'=>
  dsimp only at h9
  split at h9
  ·rename_i hnd
   have h10:Reach P items fr m (.stop (enter items') fr' m'):=by
    refine h10.trans ?_
    unfold enter
    split
    ·exact Reach.step fun b a cs w _=>step_loop
    ·exact Reach.step fun b a cs w _=>step_inLoop
    ·exact Reach.refl _ _ _
   generalize hids:live m' (viewS fr' (keep items') 0)=ids at h9 hnd
   obtain⟨k1,k5⟩:=h9
   obtain⟨ρ1,w1,a1,g1,g2,g3⟩:=h10 w0 R0 ρ w a hs1 b cs
   obtain⟨fr2,m2,hc2⟩:=Canon.of (slots:=renL ids (viewS fr' (keep items') 0)) (boxes:=ids.map fun id=>(m'.get id).bind (renB ids))
   have hlr:∀l:List SV,(renL ids l).length=l.length:=fun l=>by
    induction l with
    |nil=>rfl
    |cons x l ih=>simp[renL,ih]
   obtain⟨e1,e2⟩:=g1.rename (nodupB_spec hnd) hc2 (by rw[←k1,hlr]) (fun i x hx=>by simpa using viewS_get fr' _ 0 i x hx)
   obtain⟨ρ3,w3,a3,todo,u,q1,q2,q3,q4,q5,q6⟩:=k5 fr2 m2 hc2 w0 R0 _ w1 a1 e1 b cs
   exact⟨ρ3,w3,a3,todo,u,q1,q2,fun b hb=>by
    have s1:=g2.keep b ((hro1 b).1 hb)
    have s2:=q3 b (e2 b s1.1)
    exact⟨s2.1,s2.2.trans s1.2⟩,g3.trans q4,q5,q6⟩
  ·exact h9.elim
theorem scallR_loops{P:Program}{f:FuncId}{args:List SV}{v:SV}(hd:dataL args=true)(hvd:v.data=true)
  (hf:(match P.funcs[f]? with
    | some fn => fn.body.isSome && !(fn.name == "runtime.NumGoroutine") && Nat.ble args.length fn.ntmps
    |none=>false)=true)
  (h:RunsR P (fnOf P f) v [.code (bodyOf P f)] (args++List.replicate ((fnOf P f).ntmps-args.length) .undef) []):SCall P f args v:=by
 unfold fnOf bodyOf at h
 unfold fnOf at h
 cases hx:P.funcs[f]? with
 |none=>rw[hx]at hf;cases hf
 |some fn=>
  rw[hx]at hf h
  dsimp only at hf h
  simp only[Bool.and_eq_true,Bool.not_eq_true']at hf
  obtain⟨⟨h1,hn⟩,h3⟩:=hf
  obtain⟨body,hb⟩:=Option.isSome_iff_exists.mp h1
  rw[hb]at h
  have hl:=Nat.le_of_ble_eq_true h3
  intro m w0 R0 ρ w vs hm hvs
  obtain⟨fr,mc0,hc⟩:=Canon.of (slots:=args++List.replicate (fn.ntmps-args.length) .undef) (boxes:=[])
  have hc':Canon (args++List.replicate (fn.ntmps-args.length) .undef) [] fr ⟨0,.e⟩:=⟨hc.size,hc.get,rfl,fun id=>rfl⟩
  rw[callFunc_enter hx hb hn]
  obtain⟨o1,o2⟩:=own_mem hm ρ
  have hfr:=frame_rel (size:=fn.ntmps) (by rw[hc.size];simp;omega) (.inr hl) (fun t=>by rw[hc.get,pad_get]) (RepL.data (R':=RO w (RS w0 R0 ρ w m) ρ w ⟨0,.e⟩) (ρ':=ρ) (n':=0) o2 args vs hd hvs)
  intro cs
  let b:Frame:={ (default:Frame)with fn:=f,kind:=.normal}
  have henter:Frame.enter P f vs.toArray .normal=b.at {tmps:=vs.toArray++Array.replicate (fn.ntmps-vs.toArray.size) Go.undef,defers:=[]} [.code body] :=by
   simp[Frame.enter,Frame.at,hx,hb,b]
  obtain⟨ρ',w',a',todo,u,q1,q2,q3,q4,q5,q6⟩:=h fr ⟨0,.e⟩ hc' w (RS w0 R0 ρ w m) ρ w {tmps:=vs.toArray++Array.replicate (fn.ntmps-vs.toArray.size) Go.undef,defers:=[]} ⟨o1,hfr,rfl⟩ b cs
  have hst:=Hand.start hm q1
  obtain⟨k1,k2⟩:=hst.finish hm q1
  exact⟨.returned u,w',_,⟨u,rfl,ρ,k1,k2,Rep.data (fun b hb=>hst.ro b (.inr hb)) v u hvd q6⟩,by rw[henter];exact q4,rfl,rfl,q2,rfl,fn,hx,q5⟩
def Tree.closed{α:Type}:Tree α→Option α
 |.leaf a=>some a
 |.req b t=>match b with
  |true=>t.closed
  |false=>none
 |.node b t f=>match b with
  |true=>t.closed
  |false=>f.closed
 |.fail _=>none
theorem Tree.closed_holds{α:Type}{v:α}:∀ (t:Tree α),t.closed=some v→t.holds fun x=>x=v
 |.leaf a,h=>by injection h
 |.req b t,h=>by
  cases b with
  |false=>cases h
  |true=>exact⟨rfl,closed_holds t h⟩
 |.node b t f,h=>by
  cases b with
  |false=>exact⟨fun hb=>(by cases hb),fun _=>closed_holds f h⟩
  |true=>exact⟨fun _=>closed_holds t h,fun hb=>(by cases hb)⟩
 |.fail _,h=>by cases h
theorem scall_closed{P:Program}[ElOK P](hmix:P.follows .mixedOrders=true)(l:List Fact)(hl:allOk P l)(n:Nat)(p:Plan){f:FuncId}{args:List SV}{v:SV}
  (ht:(execFn (Env.of P (sumOf l)) n f args p).vals.closed=some v) (hd:dataL args=true) (hv:v.data=true):SCall P f args v:=
 scall_v hmix l hl n p rfl (Tree.closed_holds _ ht) hd hv
def I64(n:Int):SV:=.int .i64 n
def fact0(f:FuncId)(t:Tree SV):Fact:=⟨f,fun args=>match args with
 |[] =>some t
 |_=>none⟩
def factI(f:FuncId)(h:Int→Tree SV):Fact:=⟨f,fun args=>match args with
 |[.int .i64 a] =>some (h a)
 |_=>none⟩
def factS(f:FuncId)(h:List UInt8→Tree SV):Fact:=⟨f,fun args=>match args with
 |[.str a] =>some (h a)
 |_=>none⟩
theorem factS_ok{P:Program}{f:FuncId}{h:List UInt8→Tree SV}(k:∀a,(h a).says (SCall P f [.str a])):(factS f h).ok P:=fun args t ht=>by
 simp only[factS]at ht
 split at ht
 ·injection ht with ht;subst ht;exact k _
 ·cases ht
def keepS(n:Nat)(ks:List Nat):List Item→List Bool:=fun _=>(List.range n).map fun i=>ks.any fun j=>Nat.beq i j
def slotsS(n:Nat)(ks:List (Nat×SV)):List SV:=(List.range n).map fun i=>(ks.lookup i).getD .top
theorem slotsS_len(n:Nat)(ks:List (Nat×SV)):(slotsS n ks).length=n:=by simp[slotsS]
noncomputable def startS(P:Program)(f:Nat)(args:List SV):List SV:=args++List.replicate ((fnOf P f).ntmps-args.length) .undef
noncomputable def codeS(P:Program)(f:Nat):List Item:=[.code (bodyOf P f)]
section
variable {w0:World} {R0:RSet} {ρ:Rho} {w:World} {m:Mem}
end
section
variable {w0:World} {R0:RSet} {ρ:Rho} {w:World} {m mc m':Mem} {ρc:Rho} {w':World}
end
section
variable {α:Type}
end
noncomputable def Env.heap(E:Env):Env:={E with hp:=true}
theorem Known.heap{P:Program}{E:Env}(h:Known P E):Known P E.heap:=⟨⟨h.e.row,h.e.fn,h.e.zv⟩,⟨h.s.1,h.s.2.1,h.s.2.2.1,h.s.2.2.2.1,h.s.2.2.2.2⟩,h.mix⟩
structure HF where
 f:FuncId
 args:List SV
 next:Nat
 pre:List (Nat×Box)
 v:SV
 next':Nat
 post:List (Nat×Box)
section
variable {α:Type}
noncomputable def fillB(l:List (Nat×Box)):Mem→(Mem→Tree α)→Tree α:=
 List.rec (motive:=fun _=>Mem→(Mem→Tree α)→Tree α) (fun m k=>k m) (fun x _ ih m k=>m.set x.1 (some x.2) fun m=>ih m k) l
noncomputable def allB(f:Nat×Box→Bool)(l:List (Nat×Box)):Bool:=List.rec (motive:=fun _=>Bool) true (fun x _ ih=>match f x with
 |true=>ih
 |false=>false) l
noncomputable def hasP(l:List (Nat×Box))(id:Nat):Bool:=List.rec (motive:=fun _=>Bool) false (fun x _ ih=>match Nat.beq x.1 id with
 |true=>true
 |false=>ih) l
theorem allB_iff{f:Nat×Box→Bool}:∀{l:List (Nat×Box)},allB f l=true↔∀x∈l,f x=true
 |[] =>⟨fun _ _ h=>by simp at h,fun _=>rfl⟩
 |x::l=>by
  have e:allB f (x::l)=match f x with
   |true=>allB f l
   |false=>false:=rfl
  rw[e]
  cases hx:f x with
  |true=>simp only[allB_iff (l:=l),List.mem_cons,forall_eq_or_imp,hx,true_and]
  |false=>simp[hx]
theorem hasP_iff{id:Nat}:∀{l:List (Nat×Box)},hasP l id=true↔∃B,(id,B)∈l
 |[] =>⟨fun h=>(by cases h),fun⟨B,h⟩=>by simp at h⟩
 |x::l=>by
  have e:hasP (x::l) id=match Nat.beq x.1 id with
   |true=>true
   |false=>hasP l id:=rfl
  rw[e]
  obtain⟨a,B0⟩:=x
  cases hx:Nat.beq a id with
  |true=>
   have:=Nat.eq_of_beq_eq_true hx
   subst this
   exact⟨fun _=>⟨B0,List.mem_cons_self⟩,fun _=>rfl⟩
  |false=>
   have hne:a≠id:=fun h=>by subst h;simp at hx
   simp only[hasP_iff (l:=l),List.mem_cons,Prod.mk.injEq]
   exact⟨fun⟨B,h⟩=>⟨B,.inr h⟩,fun⟨B,h⟩=>h.elim (fun h=>absurd h.1.symm hne) fun h=>⟨B,h⟩⟩
def Filled(l:List (Nat×Box))(m m':Mem):Prop:=m'.next=m.next∧∀id,(∃B,(id,B)∈l∧m'.get id=some B)∨((∀B,(id,B)∉l)∧m'.get id=m.get id)
theorem Filled.cons{x:Nat×Box}{l:List (Nat×Box)}{m m1 m':Mem}(h1:MSet m x.1 (some x.2) m1)(h:Filled l m1 m'):Filled (x::l) m m':=by
 refine⟨h.1.trans h1.2,fun id=>?_⟩
 rcases h.2 id with⟨B,k1,k2⟩|⟨k1,k2⟩
 ·exact .inl ⟨B,List.mem_cons_of_mem _ k1,k2⟩
 ·rw[h1.1 id]at k2
  by_cases e:id=x.1
  ·subst e
   exact .inl ⟨x.2,List.mem_cons_self,by rw[k2,if_pos rfl]⟩
  ·refine .inr ⟨fun B hB=>?_,by rw[k2,if_neg e]⟩
   rcases List.mem_cons.1 hB with hB|hB
   ·exact e (by rw[←hB])
   ·exact k1 B hB
theorem fillB_holds{L:α→Prop}:∀ (l:List (Nat×Box)) (m:Mem) (k:Mem→Tree α),(fillB l m k).holds L→∃m',(k m').holds L∧Filled l m m'
 |[],m,k,h=>⟨m,h,rfl,fun id=>.inr ⟨fun B hB=>by simp at hB,rfl⟩⟩
 |x::l,m,k,h=>by
  have h:(m.set x.1 (some x.2) fun m=>fillB l m k).holds L:=h
  obtain⟨m1,h1,h2⟩:=Mem.set_holds h
  obtain⟨m',h3,h4⟩:=fillB_holds l m1 k h2
  exact⟨m',h3,h4.cons h1⟩
theorem fillB_says{Φ:α→Prop}:∀ (l:List (Nat×Box)) (m:Mem) (k:Mem→Tree α),(∀m',Filled l m m'→(k m').says Φ)→(fillB l m k).says Φ
 |[],m,k,h=>h m ⟨rfl,fun id=>.inr ⟨fun B hB=>by simp at hB,rfl⟩⟩
 |x::l,m,k,h=>set_saysB fun m1 h1=>fillB_says l m1 k fun m' h'=>h m' (h'.cons h1)
end
noncomputable def HF.endsB(h:HF)(v:SV)(m:Mem):Bool:=
 sameSV v h.v&& (Nat.beq m.next h.next'&& (allB (fun x=>sameBox (m.get x.1) (some x.2)&& (hasP h.pre x.1||Nat.ble h.next x.1)) h.post&&allB (fun x=>hasP h.post x.1||sameBox (m.get x.1) (some x.2)) h.pre))
noncomputable def HF.chk(E:Env)(n:Nat)(h:HF):Tree Unit:=
 match E.fn h.f with
 |some fn=>match fn.body with
  | some body => match fn.name == "runtime.NumGoroutine" with
    |false=>fillB h.pre ⟨h.next,.e⟩ fun m=>Fr.make fn.ntmps h.args fun fr=>exec E n [.code body] .auto fr m fun o=>match o with
     |.ret _ fr m=>results E fn m fr fun v=>match h.endsB v m with
      |true=>.leaf ()
      |false=>.fail 201
     |_=>.fail 142
    |true=>.fail 143
  |none=>.fail 144
 |none=>.fail 145
noncomputable def okT(t:Tree Unit):Bool:=Tree.rec (motive:=fun _=>Bool) (fun _=>true) (fun _ _ _ _ _=>false) (fun b _ ih=>match b with
 |true=>ih
 |false=>false) (fun _=>false) t
theorem okT_holds:∀{t:Tree Unit},okT t=true→t.holds fun _=>True
 |.leaf _,_=>trivial
 |.node _ _ _,h=>by cases h
 |.req true t,h=>⟨rfl,okT_holds (t:=t) h⟩
 |.req false t,h=>by cases h
 |.fail _,h=>by cases h
def HF.sem(P:Program)(h:HF):Prop:=∃m0 m1:Mem,Filled h.pre ⟨h.next,.e⟩ m0∧SemCall P m0 h.v m1 h.f h.args∧m1.next=h.next'∧(∀x∈h.post,sameBox (m1.get x.1) (some x.2)=true∧(hasP h.pre x.1=true∨h.next≤x.1))∧∀x∈h.pre,hasP h.post x.1=true∨sameBox (m1.get x.1) (some x.2)=true
theorem HF.sem_of_reach {P : Program} {E : Env} (hE : EOK P E) (h : HF) {fn : Func} {body : Code} (hfn : E.fn h.f = some fn) (hb : fn.body = some body) (hn : (fn.name == "runtime.NumGoroutine") = false)
  (hr:∃ (m0:Mem) (fr:Fr),Filled h.pre ⟨h.next,.e⟩ m0∧fr.size=fn.ntmps∧(h.args=[] ∨h.args.length≤fn.ntmps)∧(∀t,fr.get t=h.args.getD t .undef)∧∃p fr' m1,Reach P [.code body] fr m0 (.ret p fr' m1)∧
    (results E fn m1 fr' fun v=>match h.endsB v m1 with
      |true=>.leaf ()
      |false=>.fail 201).holds fun _=>True):h.sem P:=by
 obtain⟨m0,fr,c2,h2,h3,h4,p,fr',m1,h6,h5⟩:=hr
 have hf:=hE.fn _ fn hfn
 obtain⟨v,h7,h8⟩:=results_holds hE h5
 split at h7
 ·rename_i hq
  unfold HF.endsB at hq
  simp only[Bool.and_eq_true]at hq
  obtain⟨q1,q2,q3,q4⟩:=hq
  have q1:=sameSV_eq _ _ q1
  have q2:=Nat.eq_of_beq_eq_true q2
  rw[allB_iff]at q3 q4
  subst q1
  refine⟨m0,m1,c2,fun w0 R0 ρ w vs hm hvs=>?_,q2,fun x hx=>?_,fun x hx=>Bool.or_eq_true _ _▸q4 x hx⟩
  ·rw[callFunc_enter hf hb hn]
   exact calls_of_reach hf hb h6 h8 hm (frame_rel h2 h3 h4 hvs)
  ·have:=q3 x hx
   rw[Bool.and_eq_true,Bool.or_eq_true]at this
   exact⟨this.1,this.2.imp id Nat.le_of_ble_eq_true⟩
 ·exact h7.elim
theorem HF.sem_of{P:Program}{E:Env}(hK:Known P E)(n:Nat)(h:HF)(hc:(h.chk E n).holds fun _=>True):h.sem P:=by
 unfold HF.chk at hc
 split at hc
 ·rename_i fn hfn
  split at hc
  ·rename_i body hb
   split at hc
   ·rename_i hn
    obtain⟨m0,c1,c2⟩:=fillB_holds _ _ _ hc
    obtain⟨fr,h1,h2,h3,h4⟩:=make_holds c1
    obtain⟨out,h5,h6⟩:=exec_ok hK.e hK.s hK.mix n _ _ _ _ _ _ h1
    cases out with
    |stop it fr' m'=>exact h5.elim
    |pan v fr' m'=>exact h5.elim
    |ret p' fr' m1=>exact h.sem_of_reach hK.e hfn hb hn ⟨m0,fr,c2,h2,h3,h4,p',fr',m1,h6,h5⟩
   ·exact hc.elim
  ·exact hc.elim
 ·exact hc.elim
noncomputable def HF.fits(h:HF)(args:List SV)(m:Mem):Bool:=Nat.beq m.next h.next&& (sameSVL args h.args&&allB (fun x=>sameBox (m.get x.1) (some x.2)) h.pre)
noncomputable def HF.run(h:HF)(m:Mem):Tree (SV×Mem):=fillB h.post ⟨h.next',m.tb⟩ fun m=>.leaf (h.v,m)
def HF.ok(P:Program)(h:HF):Prop:=∀args m,h.fits args m=true→(h.run m).says (WCall P h.f args m)
theorem HF.ok_of_sem{P:Program}{h:HF}(hs:h.sem P):h.ok P:=by
 obtain⟨m0,m1,c2,hsem,q2,q3,q4⟩:=hs
 intro args m hfit
 unfold HF.fits at hfit
 simp only[Bool.and_eq_true]at hfit
 obtain⟨f1,f2,f3⟩:=hfit
 have f1:=Nat.eq_of_beq_eq_true f1
 have f2:=sameSVL_eq _ _ f2
 rw[allB_iff]at f3
 subst f2
 have m0n:m0.next=h.next:=c2.1
 refine fillB_says _ _ _ fun m2 hm2=>?_
 show SemCall P m h.v m2 h.f h.args
 have hm2n:m2.next=h.next':=hm2.1
 have pre:∀id B,m0.get id=some B→(id,B)∈h.pre:=fun id B hB=>by
  rcases c2.2 id with⟨B',k1,k2⟩|⟨k1,k2⟩
  ·rw[k2]at hB;injection hB with hB;rw[←hB];exact k1
  ·rw[k2]at hB;cases hB
 have some0:∀id B,(id,B)∈h.pre→(m0.get id).isSome=true:=fun id B hB=>by
  rcases c2.2 id with⟨B',k1,k2⟩|⟨k1,k2⟩
  ·rw[k2];rfl
  ·exact absurd hB (k1 B)
 refine hsem.frame (fun id B hB=>sameBox_eq (f3 _ (pre id B hB))) (by rw[f1,m0n]) (fun id B hB=>?_) (by rw[hm2n,q2])
 rcases hm2.2 id with⟨B',k1,k2⟩|⟨k1,k2⟩
 ·rw[k2]at hB;injection hB with hB;subst hB
  have q:=q3 _ k1
  refine .inl ⟨sameBox_eq q.1,fun hlt=>?_⟩
  rcases q.2 with q|q
  ·obtain⟨B2,hB2⟩:=hasP_iff.1 q
   exact some0 _ _ hB2
  ·dsimp only at q
   omega
 ·have hB:m.get id=some B:=by rw[←hB,k2];rfl
  cases h0:m0.get id with
  |none=>exact .inr ⟨rfl,hB⟩
  |some B'=>
   have hp:=pre id B' h0
   have e:=sameBox_eq (f3 _ hp)
   dsimp only at e
   rw[hB]at e;injection e with e;subst e
   rcases q4 _ hp with q|q
   ·obtain⟨B2,hB2⟩:=hasP_iff.1 q
    exact absurd hB2 (k1 B2)
   ·exact .inl ⟨sameBox_eq q,fun _=>rfl⟩
noncomputable def allIn(l:List (Nat×Box))(ids:List Nat):Bool:=List.rec (motive:=fun _=>Bool) true (fun k _ ih=>match hasP l k with
 |true=>ih
 |false=>false) ids
theorem allIn_spec{l:List (Nat×Box)}:∀{ids:List Nat},allIn l ids=true→∀k∈ids,∃B,(k,B)∈l
 |[],_,k,hk=>by simp at hk
 |x::ids,h,k,hk=>by
  have e:allIn l (x::ids)=match hasP l x with
   |true=>allIn l ids
   |false=>false:=rfl
  rw[e]at h
  split at h
  ·rename_i hx
   rcases List.mem_cons.1 hk with rfl|hk
   ·exact hasP_iff.1 hx
   ·exact allIn_spec h k hk
  ·cases h
noncomputable def HF.lightB(h:HF):Bool:=
 belowN h.next (idsL h.args [])&& (allIn h.pre (idsV h.v [])&& (allB (fun x=>Nat.blt x.1 h.next&&allIn h.pre (idsB (some x.2) [])) h.pre&&allB (fun x=>hasP h.pre x.1&&allIn h.pre (idsB (some x.2) [])) h.post))
noncomputable def HF.fitsL(h:HF)(args:List SV)(m:Mem):Bool:=sameSVL args h.args&&allB (fun x=>sameBox (m.get x.1) (some x.2)) h.pre
noncomputable def HF.runL(h:HF)(m:Mem):Tree (SV×Mem):=fillB h.post m fun m=>.leaf (h.v,m)
def HF.okL(P:Program)(h:HF):Prop:=∀args m,h.fitsL args m=true→(h.runL m).says (WCall P h.f args m)
theorem HF.okL_of_sem{P:Program}{h:HF}(hs:h.sem P)(hl:h.lightB=true):h.okL P:=by
 obtain⟨m0,m1,c2,hsem,_,q3',q4⟩:=hs
 have q3:=fun x hx=>(q3' x hx).1
 intro args m hfit
 unfold HF.fitsL at hfit
 rw[Bool.and_eq_true]at hfit
 obtain⟨f2,f3⟩:=hfit
 have f2:=sameSVL_eq _ _ f2
 rw[allB_iff]at f3
 subst f2
 unfold HF.lightB at hl
 simp only[Bool.and_eq_true]at hl
 obtain⟨l1,l2,l3,l4⟩:=hl
 rw[allB_iff]at l3 l4
 have m0n:m0.next=h.next:=c2.1
 have pre:∀id B,m0.get id=some B→(id,B)∈h.pre:=fun id B hB=>by
  rcases c2.2 id with⟨B',k1,k2⟩|⟨k1,k2⟩
  ·rw[k2]at hB;injection hB with hB;rw[←hB];exact k1
  ·rw[k2]at hB;cases hB
 have some0:∀id B,(id,B)∈h.pre→(m0.get id).isSome=true:=fun id B hB=>by
  rcases c2.2 id with⟨B',k1,k2⟩|⟨k1,k2⟩
  ·rw[k2];rfl
  ·exact absurd hB (k1 B)
 have inpre:∀ids,allIn h.pre ids=true→∀k∈ids,(m0.get k).isSome=true:=fun ids hi k hk=>by
  obtain⟨B,hB⟩:=allIn_spec hi k hk
  exact some0 k B hB
 have ltpre:∀k,(m0.get k).isSome=true→k<m0.next:=fun k hk=>by
  cases hB:m0.get k with
  |none=>rw[hB]at hk;cases hk
  |some B=>
   have:=l3 _ (pre k B hB)
   rw[Bool.and_eq_true]at this
   rw[m0n]
   simpa using this.1
 refine fillB_says _ _ _ fun m2 hm2=>?_
 show SemCall P m h.v m2 h.f h.args
 refine hsem.light (underL_of _ fun k hk=>?_) (fun id B hB=>?_) (fun k hk=>inpre _ l2 k ((idsV_mem (k:=k) h.v []).1 hk)) (fun id hs B hB k hk=>?_) (fun id B hB=>sameBox_eq (f3 _ (pre id B hB))) (fun id B hB=>?_) hm2.1
 ·cases hmk:mentL k h.args with
  |false=>rfl
  |true=>
   have:=belowN_all l1 k ((idsL_mem (k:=k) h.args []).1 hmk)
   omega
 ·have hp:=pre id B hB
  have:=l3 _ hp
  rw[Bool.and_eq_true]at this
  refine⟨ltpre id (by rw[hB];rfl),fun k hk=>?_⟩
  cases hmk:mentB k (some B)with
  |false=>rfl
  |true=>
   have:=ltpre k (inpre _ this.2 k (idsB_mem _ hmk))
   omega
 ·cases hB0:m0.get id with
  |none=>rw[hB0]at hs;cases hs
  |some B0=>
   have hp:=pre id B0 hB0
   rcases q4 _ hp with q|q
   ·obtain⟨B2,hB2⟩:=hasP_iff.1 q
    have e:=sameBox_eq (q3 _ hB2)
    dsimp only at e
    rw[hB]at e;injection e with e;subst e
    have:=l4 _ hB2
    rw[Bool.and_eq_true]at this
    exact inpre _ this.2 k (idsB_mem _ hk)
   ·have e:=sameBox_eq q
    dsimp only at e
    rw[hB]at e;injection e with e;subst e
    have:=l3 _ hp
    rw[Bool.and_eq_true]at this
    exact inpre _ this.2 k (idsB_mem _ hk)
 ·rcases hm2.2 id with⟨B',k1,k2⟩|⟨k1,k2⟩
  ·rw[k2]at hB;injection hB with hB;subst hB
   have:=l4 _ k1
   rw[Bool.and_eq_true]at this
   obtain⟨B2,hB2⟩:=hasP_iff.1 this.1
   exact .inl ⟨some0 id B2 hB2,sameBox_eq (q3 _ k1)⟩
  ·rw[k2]at hB
   cases h0:m0.get id with
   |none=>exact .inr ⟨rfl,hB⟩
   |some B'=>
    have hp:=pre id B' h0
    have e:=sameBox_eq (f3 _ hp)
    dsimp only at e
    rw[hB]at e;injection e with e;subst e
    rcases q4 _ hp with q|q
    ·obtain⟨B2,hB2⟩:=hasP_iff.1 q
     exact absurd hB2 (k1 B2)
    ·exact .inl ⟨rfl,sameBox_eq q⟩
noncomputable def hlRun(args:List SV)(m:Mem)(l:List HF):Option (Tree (SV×Mem)):=List.rec (motive:=fun _=>Option (Tree (SV×Mem))) none (fun h _ ih=>match h.fitsL args m with
 |true=>some (h.runL m)
 |false=>ih) l
noncomputable def hlW(f:FuncId)(l:List HF):WFact:=⟨f,fun args m=>hlRun args m l⟩
def hlsOk(P:Program)(f:FuncId):List HF→Prop
 |[] =>True
 |h::l=>h.f=f∧h.okL P∧hlsOk P f l
theorem hlW_ok{P:Program}{f:FuncId}{l:List HF}(hl:hlsOk P f l):(hlW f l).ok P:=by
 intro args m t ht
 change hlRun args m l=some t at ht
 show t.says (WCall P f args m)
 induction l with
 |nil=>cases ht
 |cons h l ih=>
  change (match h.fitsL args m with
   |true=>some (h.runL m)
   |false=>hlRun args m l)=some t at ht
  obtain⟨h1,h2,h3⟩:=hl
  split at ht
  ·rename_i hf
   injection ht with ht
   subst ht h1
   exact h2 args m hf
  ·exact ih h3 ht
noncomputable def hfRun(args:List SV)(m:Mem)(l:List HF):Option (Tree (SV×Mem)):=List.rec (motive:=fun _=>Option (Tree (SV×Mem))) none (fun h _ ih=>match h.fits args m with
 |true=>some (h.run m)
 |false=>ih) l
noncomputable def hfW(f:FuncId)(l:List HF):WFact:=⟨f,fun args m=>hfRun args m l⟩
def hfsOk(P:Program)(f:FuncId):List HF→Prop
 |[] =>True
 |h::l=>h.f=f∧h.ok P∧hfsOk P f l
theorem hfW_ok{P:Program}{f:FuncId}{l:List HF}(hl:hfsOk P f l):(hfW f l).ok P:=by
 intro args m t ht
 change hfRun args m l=some t at ht
 show t.says (WCall P f args m)
 induction l with
 |nil=>cases ht
 |cons h l ih=>
  change (match h.fits args m with
   |true=>some (h.run m)
   |false=>hfRun args m l)=some t at ht
  obtain⟨h1,h2,h3⟩:=hl
  split at ht
  ·rename_i hf
   injection ht with ht
   subst ht h1
   exact h2 args m hf
  ·exact ih h3 ht
open Go.ChangeMaps (setBlock)
section
variable {P:Program}
theorem Reach.frame{items items':List Item}{fr fr':Fr}{mF mF' m2 m2':Mem}(hF:Reach P items fr mF (.stop items' fr' mF'))(h1:∀id B,mF.get id=some B→m2.get id=some B)(hn:m2.next=mF.next)
  (h2:∀id B,m2'.get id=some B→(mF'.get id=some B∧(id<mF.next→(mF.get id).isSome=true))∨(mF.get id=none∧m2.get id=some B)) (hn':m2'.next=mF'.next):Reach P items fr m2 (.stop items' fr' m2'):=by
 intro ds w0 R0 ρ w a hs b cs
 obtain⟨hm,hfr,hd⟩:=hs
 obtain⟨R0',k1,k2,k3⟩:=frame_core hm h1 hn
 obtain⟨ρ',w',a',⟨g1,g2,g3⟩,g4,g5⟩:=hF w0 R0' ρ w a ⟨k1,by rw[k2,←hn];exact hfr,hd⟩ b cs
 obtain⟨q1,q2,q3⟩:=k3 h2 hn' g1 g4
 exact⟨ρ',w',a',⟨q1,FRel.mono ⟨by rw[hn'];exact Nat.le_refl _,fun _ _=>rfl,fun b hb=>⟨q3 b hb,rfl⟩⟩ g2,g3⟩,q2,g5⟩
theorem Reach.frameR{items:List Item}{p:Plan}{fr fr':Fr}{mF mF' m2 m2':Mem}(hF:Reach P items fr mF (.ret p fr' mF'))(h1:∀id B,mF.get id=some B→m2.get id=some B)(hn:m2.next=mF.next)
  (h2:∀id B,m2'.get id=some B→(mF'.get id=some B∧(id<mF.next→(mF.get id).isSome=true))∨(mF.get id=none∧m2.get id=some B)) (hn':m2'.next=mF'.next):Reach P items fr m2 (.ret p fr' m2'):=by
 intro ds w0 R0 ρ w a hs b cs
 obtain⟨hm,hfr,hd⟩:=hs
 obtain⟨R0',k1,k2,k3⟩:=frame_core hm h1 hn
 obtain⟨ρ',w',a',todo,⟨g1,g2,g3⟩,g4,g5⟩:=hF w0 R0' ρ w a ⟨k1,by rw[k2,←hn];exact hfr,hd⟩ b cs
 obtain⟨q1,q2,q3⟩:=k3 h2 hn' g1 g4
 exact⟨ρ',w',a',todo,⟨q1,FRel.mono ⟨by rw[hn'];exact Nat.le_refl _,fun _ _=>rfl,fun b hb=>⟨q3 b hb,rfl⟩⟩ g2,g3⟩,q2,g5⟩
theorem SRelD.shrink{ds:List Deferred}{w0:World}{R0:RSet}{ρ:Rho}{w:World}{fr fr':Fr}{m m':Mem}{a:Act}(hs:SRelD ds w0 R0 ρ w fr' m' a)(hst:Start fr m)(hsz:fr.size=fr'.size)(hfr:∀t,fr.get t=.top∨fr.get t=fr'.get t)
  (hm:∀id B,m.get id=some B→m'.get id=some B):SRelD ds w0 R0 ρ w fr m a∧∀b,RO w0 R0 ρ w m' b→RO w0 R0 ρ w m b:=by
 obtain⟨h,hf,hd⟩:=hs
 have hro:∀b,RO w0 R0 ρ w m' b→RO w0 R0 ρ w m b:=fun b hb=>by
  rcases hb with hb|⟨k1,k2,k3,k4⟩
  ·exact .inl hb
  ·exact .inr ⟨k1,k2,fun id B hB hs'=>k3 id B (hm _ _ hB) hs',k4⟩
 refine⟨⟨⟨h.below,fun id B hB=>(hst.2.1 id B hB).1,fun id B hB=>h.lo id B (hm _ _ hB),fun id B hB=>h.hi id B (hm _ _ hB),fun id id' B B' hB hB'=>h.inj id id' B B' (hm _ _ hB) (hm _ _ hB'),fun id B hB=>BoxRel.lowerM hro B (hst.2.1 id B hB).2 (h.box id B (hm _ _ hB)),h.hid.1,fun id B hB=>h.hid.2 id B (hm _ _ hB)⟩,⟨hsz.trans hf.1,fun t=>?_⟩,hd⟩,hro⟩
 rcases hfr t with e|e
 ·rw[e];trivial
 ·have hu:=under_of (n:=m.next) (fr.get t) (hst.2.2 t)
  rw[e]at hu ⊢
  exact Rep.lower hro _ _ hu (hf.2 t)
theorem step_val{b:Frame}{a:Act}{k:List Item}{cs:List Frame}{w w':World}{ops:Array Oper}{i:Nat}{rest:List Nat}{o:Oper}{v:Value}(ho:ops[i]? =some o)(hg:o.guard=none)(hr:(Go.execOp a.eval o).run P w=.ok (.value v) w'):
  step P (lone (b.at a (.inRegion ops (i::rest)::k)) cs w)=.next (lone (b.at (a.put o.dst v) (.inRegion ops rest::k)) cs w'):=by
 have hw:Region.wanted o (yielded ops a.tmps)=true:=by simp[Region.wanted,hg]
 have hg':=stepG_op (P:=P) (b:=b) (k:=k) (cs:=cs) (w:=w) (rest:=rest) ho hw
 have hfin:(b.at a (.inRegion ops (i::rest)::k)).finish v=b.at (a.put o.dst v) (.inRegion ops rest::k):=by
  rw[Frame.finish_at,ho];rfl
 refine step_lone_go ?_
 rw[hg',←hfin];simp[stepG.apply,hr]
theorem RepM_born{R:Nat→Prop}{ρ:Rho}{n:Nat}{w:World}:∀{xs:List (SV×SV×Nat)} {es:List MapEntry},RepM R ρ n w xs es→∀e∈es,∃x∈xs,Rep R ρ n w x.1 e.key∧Rep R ρ n w x.2.1 e.val∧e.born=x.2.2
 |[],es,h,e,he=>by
  have h:es=[] :=h
  subst h;cases he
 |x::xs,es,h,e,he=>by
  obtain⟨u,us,rfl,h2,h3,h4,h5⟩:=h
  rcases List.mem_cons.1 he with rfl|he
  ·exact⟨x,List.mem_cons_self,h2,h3,h4⟩
  ·obtain⟨y,hy,q⟩:=RepM_born h5 e he
   exact⟨y,List.mem_cons_of_mem _ hy,q⟩
theorem RepM_mem{R:Nat→Prop}{ρ:Rho}{n:Nat}{w:World}:∀{xs:List (SV×SV×Nat)} {es:List MapEntry},RepM R ρ n w xs es→∀x∈xs,∃e∈es,e.born=x.2.2
 |[],es,h,x,hx=>by cases hx
 |y::xs,es,h,x,hx=>by
  obtain⟨u,us,rfl,h2,h3,h4,h5⟩:=h
  rcases List.mem_cons.1 hx with rfl|hx
  ·exact⟨u,List.mem_cons_self,h4⟩
  ·obtain⟨e,he,q⟩:=RepM_mem h5 x hx
   exact⟨e,List.mem_cons_of_mem _ he,q⟩
def toCome(l:List Nat)(s:List Nat):Nat:=(l.filter fun b=>!s.contains b).length
theorem toCome_le(s:List Nat)(b:Nat):∀l:List Nat,toCome l (b::s)≤toCome l s
 |[] =>Nat.le_refl _
 |x::l=>by
  have ih:=toCome_le s b l
  unfold toCome at ih ⊢
  rw[List.filter_cons,List.filter_cons]
  by_cases h1:x∈s
  ·simp[h1];simpa using ih
  ·by_cases h2:x=b
   ·subst h2;simp[h1];simp at ih;omega
   ·simp[h1,h2];simpa using ih
theorem toCome_lt(s:List Nat)(b:Nat)(hb:b∉s):∀l:List Nat,b∈l→toCome l (b::s)<toCome l s
 |[],h=>by cases h
 |x::l,h=>by
  have le:=toCome_le s b l
  unfold toCome at le ⊢
  rw[List.filter_cons,List.filter_cons]
  by_cases h2:x=b
  ·subst h2;simp[hb];simp at le;omega
  ·have h:b∈l:=(List.mem_cons.1 h).resolve_left fun e=>h2 e.symm
   have ih:=toCome_lt s b hb l h
   unfold toCome at ih
   by_cases h1:x∈s
   ·simp[h1];simpa using ih
   ·simp[h1,h2];simpa using ih
structure AtHead (m:Mem) (it mp since:Nat) (s:List Nat) (last:Nat) (mm:Mem):Prop where
 next:mm.next=m.next
 itr:mm.get it=some (.miter (some mp) since s last)
 oth:∀j,j≠it→mm.get j=m.get j
structure Back (fr:Fr) (mB:Mem) (fr':Fr) (m':Mem):Prop where
 size:fr.size=fr'.size
 slot:∀t,fr.get t=.top∨fr.get t=fr'.get t
 box:∀id B,mB.get id=some B→m'.get id=some B
 next:mB.next≤m'.next
def Ends(mB:Mem):Out→Prop
 |.ret _ _ m'=>∀id B,m'.get id=some B→id<mB.next→(mB.get id).isSome=true
 |.stop _ _ m'=>∀id B,m'.get id=some B→id<mB.next→(mB.get id).isSome=true
 |.pan _ _ _=>False
theorem fset_ex(fr:Fr)(d:Nat)(hd:d<fr.size)(v:SV):∃fr',FSet fr (some d) v fr':=by
 obtain⟨t',h⟩:=tbSet_ex' d fr.tb (some v)
 refine⟨⟨fr.size,t'⟩,rfl,fun t ht=>by injection ht with ht;subst ht;exact hd,fun t=>?_⟩
 unfold Fr.get
 rw[h t]
 by_cases e:t=d
 ·subst e;simp
 ·rw[if_neg e,if_neg (fun h=>e (by injection h with h;exact h.symm))]
def TurnB(P:Program)(id:Nat)(ops:Array Oper)(k:List Item)(d:Nat)(fr:Fr)(mB:Mem)(it mp since clock:Nat)(e:SV×SV×Nat):Prop:=
 ∀fre,FSet fr (some d) (.tuple [.bool true,e.1,e.2.1]) fre→∀s mE,MSet mB it (some (.miter (some mp) since (e.2.2::s) clock)) mE→
  ∃fr' m',Reach P (.inRegion ops (List.range' 1 (ops.size-1))::k) fre mE (.stop (.code (.region id ops false)::k) fr' m')∧Back fr mB fr' m'∧m'.get it=some (.miter (some mp) since (e.2.2::s) clock)
def TurnO(P:Program)(ops:Array Oper)(k:List Item)(d:Nat)(fr:Fr)(mB:Mem)(out:Out)(e:SV×SV×Nat):Prop:=
 ∀fre,FSet fr (some d) (.tuple [.bool true,e.1,e.2.1]) fre→Reach P (.inRegion ops (List.range' 1 (ops.size-1))::k) fre mB out
theorem mapLoop{id:Nat}{ops:Array Oper}{k:List Item}{o0:Oper}{x:Operand}{d:Nat}(h0:ops[0]? =some o0)(hop:o0.op=.next x false)(hgd:o0.guard=none)(hdst:o0.dst=some d)
  {fr:Fr} {m mB:Mem} {it mp since clock:Nat} {es:List (SV×SV×Nat)} {last0:Nat} {out:Out} (hx:evalIn fr x=.ptr it 0) (hd:d<fr.size) (hne:mp≠it) (hit:m.get it=some (.miter (some mp) since [] last0)) (hmp:m.get mp=some (.map es clock))
  (hborn:∀e∈es,e.2.2<since) (hinj:∀e∈es,∀e'∈es,e.2.2=e'.2.2→e=e') (hsl:since≤last0) (hsc:since≤clock) (hBn:mB.next=m.next) (hBi:mB.get it=none) (hBo:∀j,j≠it→mB.get j=m.get j) (hend:Ends mB out)
  (turn:∀e∈es,TurnB P id ops k d fr mB it mp since clock e∨TurnO P ops k d fr mB out e)
  (over:(∀e∈es,TurnB P id ops k d fr mB it mp since clock e)→∀fre,FSet fr (some d) (.tuple [.bool false]) fre→Reach P (.inRegion ops (List.range' 1 (ops.size-1))::k) fre mB out):
  Reach P (.code (.region id ops false)::k) fr m out:=by
 have hsz:0<ops.size:=(Array.getElem?_eq_some_iff.1 h0).1
 have hrange:List.range ops.size=0::List.range' 1 (ops.size-1):=by
  rw[List.range_eq_range']
  obtain⟨n,hn⟩:∃n,ops.size=n+1:=⟨ops.size-1,by omega⟩
  rw[hn];rfl
 have below:∀{s:List Nat} {last:Nat} {mm:Mem},AtHead m it mp since s last mm→∀j B,mB.get j=some B→mm.get j=some B:=fun {s last mm} hat j B hB=>by
  by_cases e:j=it
  ·subst e;rw[hBi]at hB;cases hB
  ·rw[hat.oth j e,←hBo j e];exact hB
 -- where a turn ends the loop, wherever the loop stands
 have toEnd:∀ (s:List Nat) (last:Nat) (mm:Mem) (fre:Fr),AtHead m it mp since s last mm→Reach P (.inRegion ops (List.range' 1 (ops.size-1))::k) fre mB out→Reach P (.inRegion ops (List.range' 1 (ops.size-1))::k) fre mm out:=by
  intro s last mm fre hat hr
  cases out with
  |pan v f m'=>exact hend.elim
  |ret p f m'=>exact hr.frameR (below hat) (by rw[hat.next,hBn]) (fun j B hB=>.inl ⟨hB,hend j B hB⟩) rfl
  |stop i f m'=>exact hr.frame (below hat) (by rw[hat.next,hBn]) (fun j B hB=>.inl ⟨hB,hend j B hB⟩) rfl
 suffices key:∀ (n:Nat) (s:List Nat) (last:Nat) (mm:Mem),toCome (es.map fun e=>e.2.2) s<n→since≤last→AtHead m it mp since s last mm→(∀e∈es,e.2.2∈s→TurnB P id ops k d fr mB it mp since clock e)→
   Reach P (.code (.region id ops false)::k) fr mm out from key _ [] last0 m (Nat.lt_succ_self _) hsl ⟨rfl,hit,fun _ _=>rfl⟩ (fun e _ he=>by cases he)
 intro n
 induction n with
 |zero=>intro s last mm hlt;omega
 |succ n ih=>
  intro s last mm hlt hlast hat hseen ds w0 R0 ρ w a hs b cs
  obtain⟨hm,hfr,hdf⟩:=hs
  obtain⟨b1,b1'⟩:=hm.box it _ hat.itr
  have b1:w.heap[(ρ it).1]? =some (.mapIter (some (ρ mp).1) since ⟨s.reverse⟩ last):=b1
  have hmp':mm.get mp=some (.map es clock):=by rw[hat.oth mp hne];exact hmp
  obtain⟨arr,b2,b3⟩:=hm.box mp _ hmp'
  have hold:∀y∈arr.toList,y.born<since:=fun y hy=>by
   obtain⟨e,he,_,_,q⟩:=RepM_born b3 y hy
   rw[q];exact hborn e he
  have hax:a.eval x=.pointer (some ⟨(ρ it).1,0,none⟩):=by
   have:=hfr.eval x
   rw[hx]at this
   exact this.2
  have hst0:step P (lone (b.at a (.code (.region id ops false)::k)) cs w)=.next (lone (b.at a (.inRegion ops (0::List.range' 1 (ops.size-1))::k)) cs w):=by rw[step_region,hrange]
  have hrun:∀v w',(Instr.next (.pointer (some ⟨(ρ it).1,0,none⟩)) false o0.type).run P w=.ok v w'→(Go.execOp a.eval o0).run P w=.ok (.value v) w':=by
   intro v w' h
   obtain⟨dst,op,ty,pos,after,guard⟩:=o0
   dsimp only at hop h
   subst hop
   show((do pure (Next.value (←Instr.next (a.eval x) false ty)):Sem Next)).run P w=_
   rw[hax]
   simp only[Sem.run_bind,h,Result.andThen_ok,Sem.run_pure]
  rcases run_next_at w o0.type (ρ it).1 (ρ mp).1 since last ⟨s.reverse⟩ arr clock b1 b2 hold hlast with⟨hz,hr⟩|⟨e0,he0,w1,hw1,hr⟩
  · -- nothing is left
    obtain⟨fre,hfre⟩:=fset_ex fr d hd (.tuple [.bool false])
    have hst:=step_val (b:=b) (k:=k) (cs:=cs) (rest:=List.range' 1 (ops.size-1)) h0 hgd (hrun _ _ hr)
    have hs1:SRelD ds w0 R0 ρ w fre mm (a.put o0.dst (.tuple #[.bool false])):=⟨hm,by rw[hdst];exact hfr.put hfre ⟨[.bool false],rfl,.bool false,[],rfl,rfl,rfl⟩,by rw[put_defers];exact hdf⟩
    have hall:∀e∈es,TurnB P id ops k d fr mB it mp since clock e:=fun e he=>hseen e he (by
     obtain⟨y,hy,q⟩:=RepM_mem b3 e he
     have hem:leftOf arr ⟨s.reverse⟩=#[] :=Array.eq_empty_of_size_eq_zero hz
     by_cases hc:e.2.2∈s
     ·exact hc
     ·have:y∈leftOf arr ⟨s.reverse⟩:=by
       unfold leftOf
       simp only[Array.mem_filter]
       refine⟨by simpa using hy,?_⟩
       rw[q];simpa using hc
      rw[hem]at this
      simp at this)
    have hr2:=toEnd s last mm fre hat (over hall fre hfre) w0 R0 ρ w _ hs1 b cs
    cases out with
    |pan v f m'=>exact hend.elim
    |ret p f m'=>
     obtain⟨ρ',w',a',todo,g1,g2,g3⟩:=hr2
     exact⟨ρ',w',a',todo,g1,g2,.head hst0 (.head hst g3)⟩
    |stop i f m'=>
     obtain⟨ρ',w',a',g1,g2,g3⟩:=hr2
     exact⟨ρ',w',a',g1,g2,.head hst0 (.head hst g3)⟩
  · -- one entry comes out
    have he1:e0∈arr.toList∧e0.born∉s:=by
     have:e0∈leftOf arr ⟨s.reverse⟩:=by simpa using he0
     unfold leftOf at this
     simp only[Array.mem_filter]at this
     exact⟨by simpa using this.1,by simpa using this.2⟩
    obtain⟨e,he,q1,q2,q3⟩:=RepM_born b3 e0 he1.1
    have hns:e.2.2∉s:=by rw[←q3];exact he1.2
    have hmw:MRel w0 R0 ρ w1 mm∧MExt w0 R0 ρ w mm ρ w1 mm:=by
     rcases hw1 with rfl|rfl
     ·exact⟨hm,Ext.refl _ _ _ _⟩
     ·exact hm.drew
    obtain⟨tb2,htb⟩:=tbSet_ex' it mm.tb (some (.miter (some mp) since (e.2.2::s) clock))
    have hset:MSet mm it (some (.miter (some mp) since (e.2.2::s) clock)) ⟨mm.next,tb2⟩:=⟨htb,rfl⟩
    have hlt1:(ρ it).1<w1.heap.size:=hmw.1.hi it _ hat.itr trivial
    obtain⟨hm2,hx2⟩:=hmw.1.setBox (w':=setBlock w1 (ρ it).1 (.mapIter (some (ρ mp).1) since ((⟨s.reverse⟩:Array Nat).push e0.born) clock)) hat.itr trivial hset rfl rfl rfl (by simp[setBlock]) (fun j hj=>by simp[setBlock,Array.getElem?_setIfInBounds,Ne.symm hj])
     (fun R _=>⟨by simp[setBlock,Array.getElem?_setIfInBounds,hlt1,q3],fun i hi=>b1' i hi⟩)
    have hat2:AtHead m it mp since (e.2.2::s) clock ⟨mm.next,tb2⟩:=⟨hat.next,by rw[hset.1 it,if_pos rfl],fun j hj=>by rw[hset.1 j,if_neg hj];exact hat.oth j hj⟩
    generalize hmm2:(⟨mm.next,tb2⟩:Mem)=mm2 at hset hm2 hx2 hat2
    generalize hw2:setBlock w1 (ρ it).1 (.mapIter (some (ρ mp).1) since ((⟨s.reverse⟩:Array Nat).push e0.born) clock)=w2 at hr hm2 hx2
    obtain⟨fre,hfre⟩:=fset_ex fr d hd (.tuple [.bool true,e.1,e.2.1])
    have hst:=step_val (b:=b) (k:=k) (cs:=cs) (rest:=List.range' 1 (ops.size-1)) h0 hgd (hrun _ _ hr)
    have hx02:=hmw.2.trans hx2
    have hfr2:=hfr.mono hx02
    have hs1:SRelD ds w0 R0 ρ w2 fre mm2 (a.put o0.dst (.tuple #[.bool true,e0.key,e0.val])):=
     ⟨hm2,by rw[hdst];exact hfr2.put hfre ⟨[.bool true,e0.key,e0.val],rfl,.bool true,[e0.key,e0.val],rfl,rfl,e0.key,[e0.val],rfl,Rep.mono hx02 _ _ q1,e0.val,[],rfl,Rep.mono hx02 _ _ q2,rfl⟩,by rw[put_defers];exact hdf⟩
    rcases turn e he with hb|ho
    ·obtain⟨fr',m',r1,r2,r3⟩:=hb fre hfre s mm2 ⟨fun j=>by
      by_cases ej:j=it
      ·rw[if_pos ej,ej];exact hat2.itr
      ·rw[if_neg ej,hat2.oth j ej,hBo j ej],by rw[hat2.next,hBn]⟩
     obtain⟨ρ3,w3,a3,g1,g2,g3⟩:=r1 w0 R0 ρ w2 _ hs1 b cs
     have hstart2:Start fr mm2:=SRelD.start (ds:=ds) (a:=a) ⟨hm2,hfr2,hdf⟩
     obtain⟨s1,s2⟩:=SRelD.shrink g1 hstart2 r2.size r2.slot (fun j B hB=>by
      by_cases ej:j=it
      ·subst ej;rw[r3,←hat2.itr];exact hB
      ·exact r2.box j B (by rw[hBo j ej,←hat2.oth j ej];exact hB))
     have x3:MExt w0 R0 ρ w2 mm2 ρ3 w3 mm2:=⟨Nat.le_refl _,g2.same,fun bb hb=>⟨s2 bb (g2.keep bb hb).1,(g2.keep bb hb).2⟩⟩
     have hlt2:toCome (es.map fun e=>e.2.2) (e.2.2::s)<n:=by
      have:=toCome_lt s e.2.2 hns (es.map fun e=>e.2.2) (List.mem_map.2 ⟨e,he,rfl⟩)
      omega
     have hr2:=ih (e.2.2::s) clock mm2 hlt2 hsc hat2 (fun e' he' hin=>by
      rcases List.mem_cons.1 hin with hin|hin
      ·rw[hinj e' he' e he hin];exact hb
      ·exact hseen e' he' hin) w0 R0 ρ3 w3 a3 s1 b cs
     cases out with
     |pan v f m'=>exact hend.elim
     |ret p f m'=>
      obtain⟨ρ',w',a',todo,k1,k2,k3⟩:=hr2
      exact⟨ρ',w',a',todo,k1,hx02.trans (x3.trans k2),.head hst0 (.head hst (g3.trans k3))⟩
     |stop i f m'=>
      obtain⟨ρ',w',a',k1,k2,k3⟩:=hr2
      exact⟨ρ',w',a',k1,hx02.trans (x3.trans k2),.head hst0 (.head hst (g3.trans k3))⟩
    ·have hr2:=toEnd (e.2.2::s) clock mm2 fre hat2 (ho fre hfre) w0 R0 ρ w2 _ hs1 b cs
     cases out with
     |pan v f m'=>exact hend.elim
     |ret p f m'=>
      obtain⟨ρ',w',a',todo,k1,k2,k3⟩:=hr2
      exact⟨ρ',w',a',todo,k1,hx02.trans k2,.head hst0 (.head hst k3)⟩
     |stop i f m'=>
      obtain⟨ρ',w',a',k1,k2,k3⟩:=hr2
      exact⟨ρ',w',a',k1,hx02.trans k2,.head hst0 (.head hst k3)⟩
end
noncomputable def Env.cutAt(E:Env)(id:Nat):Env:={E with cut:=fun i=>Nat.beq i id}
theorem Known.cutAt{P:Program}{E:Env}(h:Known P E)(id:Nat):Known P (E.cutAt id):=⟨⟨h.e.row,h.e.fn,h.e.zv⟩,⟨h.s.1,h.s.2.1,h.s.2.2.1,h.s.2.2.2.1,h.s.2.2.2.2⟩,h.mix⟩
noncomputable def outO(t:Tree Out):Out:=Tree.rec (motive:=fun _=>Out) (fun o=>o) (fun _ _ _ _ _=>.stop [] ⟨0,.e⟩ ⟨0,.e⟩) (fun _ _ ih=>ih) (fun _=>.stop [] ⟨0,.e⟩ ⟨0,.e⟩) t
noncomputable def okO(t:Tree Out):Bool:=Tree.rec (motive:=fun _=>Bool) (fun _=>true) (fun _ _ _ _ _=>false) (fun b _ ih=>match b with
 |true=>ih
 |false=>false) (fun _=>false) t
theorem okO_holds:∀{t:Tree Out},okO t=true→t.holds fun o=>o=outO t
 |.leaf _,_=>rfl
 |.node _ _ _,h=>by cases h
 |.req true t,h=>⟨rfl,okO_holds (t:=t) h⟩
 |.req false t,h=>by cases h
 |.fail _,h=>by cases h
def bodyO(fn:Func):Code:=match fn.body with
 |some b=>b
 |none=>.skip
def frO:Tree Fr→Fr
 |.leaf f=>f
 |_=>⟨0,.e⟩
def memO:Tree Mem→Mem
 |.leaf m=>m
 |_=>⟨0,.e⟩
def regO:List Item→Array Oper
 |.code (.region _ ops _)::_=>ops
 |_=>#[]
def restO:List Item→List Item
 |_::k=>k
 |_=>[]
def firstO(ops:Array Oper):Oper:=match ops.toList with
 |o::_=>o
 | [] => ⟨none, .move (.tmp 0), 0, "", #[], none⟩
def ptrO:SV→Nat
 |.ptr i _=>i
 |_=>0
def esO:Option Box→List (SV×SV×Nat)
 |some (.map es _)=>es
 |_=>[]
def mpO:Option Box→Nat
 |some (.miter (some i) _ _ _)=>i
 |_=>0
def sinceO:Option Box→Nat
 |some (.miter _ c _ _)=>c
 |_=>0
def lastO:Option Box→Nat
 |some (.miter _ _ _ c)=>c
 |_=>0
def Out.items:Out→List Item
 |.stop i _ _=>i
 |_=>[]
def Out.fr:Out→Fr
 |.stop _ f _=>f
 |.ret _ f _=>f
 |.pan _ f _=>f
def Out.mem:Out→Mem
 |.stop _ _ m=>m
 |.ret _ _ m=>m
 |.pan _ _ m=>m
section
variable {P:Program} {E:Env}
theorem Reach.weakF{items:List Item}{fr fr2:Fr}{m:Mem}{out:Out}(h:Reach P items fr2 m out)(hsz:fr2.size=fr.size)(hg:∀t,fr2.get t=.top∨fr2.get t=fr.get t):Reach P items fr m out:=by
 intro ds w0 R0 ρ w a hs b cs
 obtain⟨h1,h2,h3⟩:=hs
 exact h w0 R0 ρ w a ⟨h1,⟨hsz.trans h2.1,fun t=>by
  rcases hg t with e|e
  ·rw[e];trivial
  ·rw[e];exact h2.2 t⟩,h3⟩ b cs
theorem Reach.weakM{items items':List Item}{fr fr':Fr}{m m2 m':Mem}(h:Reach P items fr m2 (.stop items' fr' m'))(hg:∀id,m2.get id=m.get id)(hn:m2.next=m.next):Reach P items fr m (.stop items' fr' m'):=by
 intro ds w0 R0 ρ w a hs b cs
 obtain⟨h1,h2,h3⟩:=hs
 obtain⟨ρ',w',a',k1,k2,k3⟩:=h w0 R0 ρ w a ⟨h1.congr hg hn,by rw[RO.congr hg,hn];exact h2,h3⟩ b cs
 refine⟨ρ',w',a',k1,?_,k3⟩
 unfold MExt at k2 ⊢
 rw[RO.congr hg,hn]at k2;exact k2
noncomputable def topF{α:Type}(l:List Nat):Fr→(Fr→Tree α)→Tree α:=
 List.rec (motive:=fun _=>Fr→(Fr→Tree α)→Tree α) (fun fr k=>k fr) (fun d _ ih fr k=>fr.set d .top fun fr=>ih fr k) l
theorem topF_holds{α:Type}{L:α→Prop}:∀ (l:List Nat) (fr:Fr) (k:Fr→Tree α),(topF l fr k).holds L→∃fr',(k fr').holds L∧fr'.size=fr.size∧∀t,fr'.get t=.top∨fr'.get t=fr.get t
 |[],fr,k,h=>⟨fr,h,rfl,fun _=>.inr rfl⟩
 |d::l,fr,k,h=>by
  have h:(fr.set d .top fun fr=>topF l fr k).holds L:=h
  obtain⟨fr1,h1,h2⟩:=Fr.set_holds h
  obtain⟨fr2,h3,h4,h5⟩:=topF_holds l fr1 k h2
  refine⟨fr2,h3,h4.trans h1.1,fun t=>?_⟩
  rcases h5 t with e|e
  ·exact .inl e
  ·rw[h1.2.2 t]at e
   split at e
   ·exact .inl e
   ·exact .inr e
def slotOk:Option SV→Option SV→Bool
 |some .top,_=>true
 |some v,some u=>sameSV v u
 |none,none=>true
 |_,_=>false
def tbNone{β:Type}:Tb β→Bool
 |.e=>true
 |.n l none r=>tbNone l&&tbNone r
 |.n _ (some _) _=>false
def tbBack:Tb SV→Tb SV→Bool
 |.e,b=>tbNone b
 |.n l v r,.n l' v' r'=>slotOk v v'&& (tbBack l l'&&tbBack r r')
 |.n l v r,.e=>slotOk v none&& (tbBack l .e&&tbBack r .e)
theorem tbNone_get{β:Type}:∀{t:Tb β},tbNone t=true→∀i,t.get i=none
 |.e,_,i=>rfl
 |.n l none r,h,i=>by
  simp only[tbNone,Bool.and_eq_true]at h
  cases i with
  |zero=>rfl
  |succ j=>
   rw[Tb.get_n_succ]
   by_cases hj:j % 2=0
   ·rw[Tb.pick_even hj];exact tbNone_get h.1 _
   ·rw[Tb.pick_odd hj];exact tbNone_get h.2 _
 |.n _ (some _) _,h,i=>by cases h
def slotV:Option SV→SV
 |some v=>v
 |none=>.undef
theorem slotOk_get{a b:Option SV}(h:slotOk a b=true):slotV a=.top∨slotV a=slotV b:=by
 unfold slotOk at h
 split at h
 ·exact .inl rfl
 ·exact .inr (sameSV_eq _ _ h)
 ·exact .inr rfl
 ·cases h
theorem tbBack_get:∀{a b:Tb SV},tbBack a b=true→∀i,slotV (a.get i)=.top∨slotV (a.get i)=slotV (b.get i)
 |.e,b,h,i=>by
  right
  rw[tbNone_get (t:=b) h i];rfl
 |.n l v r,.n l' v' r',h,i=>by
  simp only[tbBack,Bool.and_eq_true]at h
  cases i with
  |zero=>exact slotOk_get h.1
  |succ j=>
   rw[Tb.get_n_succ,Tb.get_n_succ]
   by_cases hj:j % 2=0
   ·rw[Tb.pick_even hj,Tb.pick_even hj];exact tbBack_get h.2.1 _
   ·rw[Tb.pick_odd hj,Tb.pick_odd hj];exact tbBack_get h.2.2 _
 |.n l v r,.e,h,i=>by
  simp only[tbBack,Bool.and_eq_true]at h
  cases i with
  |zero=>exact slotOk_get h.1
  |succ j=>
   rw[Tb.get_n_succ]
   by_cases hj:j % 2=0
   ·rw[Tb.pick_even hj];exact tbBack_get h.2.1 _
   ·rw[Tb.pick_odd hj];exact tbBack_get h.2.2 _
theorem fr_get_slot(fr:Fr)(t:Nat):fr.get t=slotV (fr.tb.get t):=by
 unfold Fr.get slotV
 cases fr.tb.get t<;>rfl
def boxOk:Option Box→Option Box→Bool
 |none,_=>true
 |some (.iter s p),some (.iter s' p')=>(s==s')&&Nat.beq p p'
 |a,b=>sameBox b a
def tbSub:Tb Box→Tb Box→Bool
 |.e,_=>true
 |.n l v r,.n l' v' r'=>boxOk v v'&& (tbSub l l'&&tbSub r r')
 |.n l v r,.e=>boxOk v none&& (tbSub l .e&&tbSub r .e)
theorem boxOk_get{a b:Option Box}(h:boxOk a b=true){B:Box}(ha:a=some B):b=some B:=by
 unfold boxOk at h
 split at h
 ·cases ha
 ·rw[Bool.and_eq_true]at h
  rw[←ha,beq_iff_eq.1 h.1,Nat.eq_of_beq_eq_true h.2]
 ·rw[sameBox_eq h,ha]
theorem tbSub_get:∀{a b:Tb Box},tbSub a b=true→∀i B,a.get i=some B→b.get i=some B
 |.e,b,h,i,B,hB=>by cases hB
 |.n l v r,.n l' v' r',h,i,B,hB=>by
  simp only[tbSub,Bool.and_eq_true]at h
  cases i with
  |zero=>exact boxOk_get h.1 hB
  |succ j=>
   rw[Tb.get_n_succ]at hB ⊢
   by_cases hj:j % 2=0
   ·rw[Tb.pick_even hj]at hB ⊢;exact tbSub_get h.2.1 _ _ hB
   ·rw[Tb.pick_odd hj]at hB ⊢;exact tbSub_get h.2.2 _ _ hB
 |.n l v r,.e,h,i,B,hB=>by
  simp only[tbSub,Bool.and_eq_true]at h
  cases i with
  |zero=>exact boxOk_get h.1 hB
  |succ j=>
   rw[Tb.get_n_succ]at hB
   by_cases hj:j % 2=0
   ·rw[Tb.pick_even hj]at hB;exact absurd (tbSub_get h.2.1 _ _ hB) (by simp[Tb.get])
   ·rw[Tb.pick_odd hj]at hB;exact absurd (tbSub_get h.2.2 _ _ hB) (by simp[Tb.get])
def tbAllN(f:Nat→Bool):Tb Box→Bool
 |.e=>true
 |.n l v r=>(match v with|some _=>f 0|none=>true)&& (tbAllN (fun k=>f (2*k+1)) l&&tbAllN (fun k=>f (2*k+2)) r)
theorem tbAllN_get:∀{t:Tb Box} {f:Nat→Bool},tbAllN f t=true→∀i B,t.get i=some B→f i=true
 |.e,f,h,i,B,hB=>by cases hB
 |.n l v r,f,h,i,B,hB=>by
  simp only[tbAllN,Bool.and_eq_true]at h
  cases i with
  |zero=>
   have hB:v=some B:=hB
   rw[hB]at h;exact h.1
  |succ j=>
   rw[Tb.get_n_succ]at hB
   by_cases hj:j % 2=0
   ·rw[Tb.pick_even hj]at hB
    have:=tbAllN_get h.2.1 _ _ hB
    rwa [show 2*(j / 2)+1=j+1 by omega]at this
   ·rw[Tb.pick_odd hj]at hB
    have:=tbAllN_get h.2.2 _ _ hB
    rwa [show 2*(j / 2)+2=j+1 by omega]at this
noncomputable def backB(fr:Fr)(mB:Mem)(o:Out):Bool:=Nat.beq fr.size o.fr.size&& (tbBack fr.tb o.fr.tb&& (tbSub mB.tb o.mem.tb&&Nat.ble mB.next o.mem.next))
noncomputable def endsM(mB m:Mem):Bool:=tbAllN (fun id=>Nat.ble mB.next id||(mB.get id).isSome) m.tb
def iterB(mp since clock:Nat)(s:List Nat)(e:SV×SV×Nat):Box:=.miter (some mp) since (e.2.2::s) clock
noncomputable def turnT(E:Env)(n:Nat)(ops:Array Oper)(k:List Item)(d:Nat)(fr:Fr)(mB:Mem)(it mp since clock:Nat)(s:List Nat)(e:SV×SV×Nat):Tree Out:=
 mB.set it (some (iterB mp since clock s e)) fun mE=>fr.set d (.tuple [.bool true,e.1,e.2.1]) fun fre=>exec E n (.inRegion ops (List.range' 1 (ops.size-1))::k) .auto fre mE fun o=>.leaf o
def turnsB(H:List Item)(fr:Fr)(mB:Mem)(it mp since clock:Nat)(T:List Nat→SV×SV×Nat→Tree Out):List (SV×SV×Nat)→Prop
 |[] =>True
 |e::es=>(∀s,okO (T s e)=true∧outO (T s e)=.stop H (outO (T s e)).fr (outO (T s e)).mem∧backB fr mB (outO (T s e))=true∧(outO (T s e)).mem.get it=some (iterB mp since clock s e))∧turnsB H fr mB it mp since clock T es
theorem turnB_of{n:Nat}(hK:Known P E){id hid:Nat}{ops:Array Oper}{k:List Item}{d:Nat}{fr:Fr}{mB:Mem}{it mp since clock:Nat}{e:SV×SV×Nat}
  (h:∀s,okO (turnT (E.cutAt hid) n ops k d fr mB it mp since clock s e)=true∧outO (turnT (E.cutAt hid) n ops k d fr mB it mp since clock s e)=.stop (.code (.region id ops false)::k) (outO (turnT (E.cutAt hid) n ops k d fr mB it mp since clock s e)).fr (outO (turnT (E.cutAt hid) n ops k d fr mB it mp since clock s e)).mem∧
    backB fr mB (outO (turnT (E.cutAt hid) n ops k d fr mB it mp since clock s e))=true∧(outO (turnT (E.cutAt hid) n ops k d fr mB it mp since clock s e)).mem.get it=some (iterB mp since clock s e)):TurnB P id ops k d fr mB it mp since clock e:=by
 intro fre' hf s mE hmE
 obtain⟨hok,h1,h2,h0⟩:=h s
 generalize hT:turnT (E.cutAt hid) n ops k d fr mB it mp since clock s e=T at hok h1 h2 h0
 have h3:=okO_holds hok
 generalize hfo:(outO T).fr=fo at h1
 generalize hmo:(outO T).mem=mo at h1 h0
 rw[h1]at h3
 rw[←hT]at h3
 unfold turnT at h3
 obtain⟨mE',q1,q2⟩:=Mem.set_holds h3
 obtain⟨fre,g1,g2⟩:=Fr.set_holds q2
 obtain⟨out,g3,g4⟩:=exec_ok (hK.cutAt hid).e (hK.cutAt hid).s hK.mix n _ _ _ _ _ _ g2
 have g3:out=.stop (.code (.region id ops false)::k) fo mo:=g3
 subst g3
 have g5:Reach P (.inRegion ops (List.range' 1 (ops.size-1))::k) fre' mE' (.stop (.code (.region id ops false)::k) fo mo):=Reach.weakF g4 (g1.1.trans hf.1.symm) (fun t=>.inr ((g1.2.2 t).trans (hf.2.2 t).symm))
 refine⟨fo,mo,g5.weakM (fun j=>by rw[q1.1 j,hmE.1 j];rfl) (by rw[q1.2,hmE.2]),?_,h0⟩
 unfold backB at h2
 simp only[Bool.and_eq_true]at h2
 obtain⟨b1,b2,b3,b4⟩:=h2
 rw[hfo]at b1 b2
 rw[hmo]at b3 b4
 exact⟨Nat.eq_of_beq_eq_true b1,fun t=>by rw[fr_get_slot,fr_get_slot];exact tbBack_get b2 t,fun j B hB=>tbSub_get b3 j B hB,Nat.le_of_ble_eq_true b4⟩
theorem turnsB_of{n:Nat}(hK:Known P E){id hid:Nat}{ops:Array Oper}{k:List Item}{d:Nat}{fr:Fr}{mB:Mem}{it mp since clock:Nat}:∀{es:List (SV×SV×Nat)},turnsB (.code (.region id ops false)::k) fr mB it mp since clock (turnT (E.cutAt hid) n ops k d fr mB it mp since clock) es→∀e∈es,TurnB P id ops k d fr mB it mp since clock e
 |[],_,e,he=>by cases he
 |x::es,h,e,he=>by
  rcases List.mem_cons.1 he with rfl|he
  ·exact turnB_of hK h.1
  ·exact turnsB_of hK h.2 e he
theorem nodupB_inj:∀{es:List (SV×SV×Nat)},nodupB (es.map fun e=>e.2.2)=true→∀e∈es,∀e'∈es,e.2.2=e'.2.2→e=e'
 |es,h,e,he,e',he',hq=>by
  have hn:=nodupB_spec h
  obtain⟨i,hi⟩:=List.mem_iff_getElem?.1 he
  obtain⟨j,hj⟩:=List.mem_iff_getElem?.1 he'
  have:i=j:=nodup_inj hn i j e.2.2 (by simp[hi]) (by simp[hj,hq])
  subst this
  rw[hi]at hj;injection hj
theorem HF.sem_of_map (hK : Known P E) (n : Nat) (h : HF) {fn : Func} {body : Code} (hfn : E.fn h.f = some fn) (hb : fn.body = some body) (hn : (fn.name == "runtime.NumGoroutine") = false)
  {hid:Nat} {ops:Array Oper} {k:List Item} {o0:Oper} {x:Operand} {d it mp since last0 clock:Nat} {es:List (SV×SV×Nat)} (D:List Nat) {fr0 frT:Fr} {m0 mB:Mem}
  (e0:okO (fillB h.pre ⟨h.next,.e⟩ fun m=>Fr.make fn.ntmps h.args fun fr=>exec (E.cutAt hid) n [.code body] .auto fr m fun o=>Tree.leaf o)=true)
  (e1:outO (fillB h.pre ⟨h.next,.e⟩ fun m=>Fr.make fn.ntmps h.args fun fr=>exec (E.cutAt hid) n [.code body] .auto fr m fun o=>Tree.leaf o)=.stop (.code (.region hid ops false)::k) fr0 m0)
  (eT:(topF D fr0 fun f=>Tree.leaf f)=.leaf frT) (eB:(m0.set it none fun m=>Tree.leaf m)=.leaf mB)
  (h0:ops[0]? =some o0) (hop:o0.op=.next x false) (hgd:o0.guard=none) (hdst:o0.dst=some d) (hx:evalIn frT x=.ptr it 0) (hd:Nat.blt d frT.size=true) (hne:Nat.beq mp it=false)
  (hit:m0.get it=some (.miter (some mp) since [] last0)) (hmp:m0.get mp=some (.map es clock)) (hborn:(es.all fun e=>Nat.blt e.2.2 since)=true) (hnd:nodupB (es.map fun e=>e.2.2)=true) (hsl:Nat.ble since last0=true) (hsc:Nat.ble since clock=true)
  (turns:turnsB (.code (.region hid ops false)::k) frT mB it mp since clock (turnT (E.cutAt hid) n ops k d frT mB it mp since clock) es)
  (over:okT (frT.set d (.tuple [.bool false]) fun fre=>exec E n (.inRegion ops (List.range' 1 (ops.size-1))::k) .auto fre mB fun o=>match o with
    |.ret _ fr m=>match endsM mB m with
     |true=>results E fn m fr fun v=>match h.endsB v m with
      |true=>Tree.leaf ()
      |false=>.fail 201
     |false=>.fail 203
    |_=>.fail 202)=true):h.sem P:=by
 have over:=okT_holds over
 have e1':(fillB h.pre ⟨h.next,.e⟩ fun m=>Fr.make fn.ntmps h.args fun fr=>exec (E.cutAt hid) n [.code body] .auto fr m fun o=>Tree.leaf o).holds fun o=>o=.stop (.code (.region hid ops false)::k) fr0 m0:=by have:=okO_holds e0;rw[e1]at this;exact this
 obtain⟨ms,c1,c2⟩:=fillB_holds _ _ _ e1'
 obtain⟨fr,h1,h2,h3,h4⟩:=make_holds c1
 obtain⟨out,h5,h6⟩:=exec_ok (hK.cutAt hid).e (hK.cutAt hid).s hK.mix n _ _ _ _ _ _ h1
 have h5:out=.stop (.code (.region hid ops false)::k) fr0 m0:=h5
 subst h5
 have eT':(topF D fr0 fun f=>Tree.leaf f).holds fun f=>f=frT:=by rw[eT];exact rfl
 obtain⟨frT',t1,t2,t3⟩:=topF_holds _ _ _ eT'
 have t1:frT'=frT:=t1
 subst t1
 have eB':(m0.set it none fun m=>Tree.leaf m).holds fun m=>m=mB:=by rw[eB];exact rfl
 obtain⟨mB',b1,b2⟩:=Mem.set_holds eB'
 have b2:mB'=mB:=b2
 subst b2
 have hdl:d<frT'.size:=by simpa using hd
 have hne:mp≠it:=fun e=>by subst e;simp at hne
 obtain⟨fre,g1,g2⟩:=Fr.set_holds over
 obtain⟨out,g3,g4⟩:=exec_ok hK.e hK.s hK.mix n _ _ _ _ _ _ g2
 cases out with
 |stop _ _ _=>exact g3.elim
 |pan _ _ _=>exact g3.elim
 |ret p fr' m1=>
  dsimp only at g3
  split at g3
  ·rename_i hends
   have hend:Ends mB' (.ret p fr' m1):=fun j B hB hlt=>by
    have:=tbAllN_get hends j B hB
    rcases Bool.or_eq_true _ _▸this with q|q
    ·have:=Nat.le_of_ble_eq_true q;omega
    ·exact q
   have hloop:=mapLoop (P:=P) (out:=.ret p fr' m1) h0 hop hgd hdst hx hdl hne hit hmp (fun e he=>by simpa using List.all_eq_true.1 hborn e he) (nodupB_inj hnd) (Nat.le_of_ble_eq_true hsl) (Nat.le_of_ble_eq_true hsc)
    b1.2 (by rw[b1.1 it,if_pos rfl]) (fun j hj=>by rw[b1.1 j,if_neg hj]) hend (fun e he=>.inl (turnsB_of hK turns e he))
    (fun _ fre' hf=>Reach.weakF g4 (g1.1.trans hf.1.symm) (fun t=>.inr ((g1.2.2 t).trans (hf.2.2 t).symm)))
   exact HF.sem_of_reach hK.e h hfn hb hn ⟨ms,fr,c2,h2,h3,h4,p,fr',m1,Reach.trans h6 (Reach.weakF hloop t2 t3),g3⟩
  ·exact g3.elim
noncomputable def mapT(E:Env)(n:Nat)(h:HF)(hid ntmps:Nat)(body:Code):Tree Out:=fillB h.pre ⟨h.next,.e⟩ fun m=>Fr.make ntmps h.args fun fr=>exec (E.cutAt hid) n [.code body] .auto fr m fun o=>Tree.leaf o
noncomputable def mapFr(T:Tree Out)(D:List Nat):Fr:=frO (topF D (outO T).fr fun f=>Tree.leaf f)
noncomputable def mapIt(T:Tree Out)(D:List Nat)(t:Nat):Nat:=ptrO ((mapFr T D).get t)
noncomputable def mapMB(T:Tree Out)(D:List Nat)(t:Nat):Mem:=memO ((outO T).mem.set (mapIt T D t) none fun m=>Tree.leaf m)
noncomputable def mapIB(T:Tree Out)(D:List Nat)(t:Nat):Option Box:=(outO T).mem.get (mapIt T D t)
theorem HF.sem_map (hK : Known P E) (n : Nat) (h : HF) {fn : Func} {body : Code} (hid t d : Nat) (D : List Nat) (es : List (SV × SV × Nat)) (clock : Nat) (hfn : E.fn h.f = some fn) (hb : fn.body = some body) (hn : (fn.name == "runtime.NumGoroutine") = false) {T : Tree Out} (hT : T = mapT E n h hid fn.ntmps body)
  (e0:okO T=true) (e1:outO T=.stop (.code (.region hid (regO (outO T).items) false)::restO (outO T).items) (outO T).fr (outO T).mem)
  (eT:(topF D (outO T).fr fun f=>Tree.leaf f)=.leaf (mapFr T D)) (eB:((outO T).mem.set (mapIt T D t) none fun m=>Tree.leaf m)=.leaf (mapMB T D t))
  (h0:(regO (outO T).items)[0]? =some (firstO (regO (outO T).items))) (hop:(firstO (regO (outO T).items)).op=.next (.tmp t) false) (hgd:(firstO (regO (outO T).items)).guard=none) (hdst:(firstO (regO (outO T).items)).dst=some d)
  (hx:(mapFr T D).get t=.ptr (mapIt T D t) 0) (hd:Nat.blt d (mapFr T D).size=true) (hne:Nat.beq (mpO (mapIB T D t)) (mapIt T D t)=false)
  (hit:mapIB T D t=some (.miter (some (mpO (mapIB T D t))) (sinceO (mapIB T D t)) [] (lastO (mapIB T D t)))) (hmp:(outO T).mem.get (mpO (mapIB T D t))=some (.map es clock))
  (hborn:(es.all fun e=>Nat.blt e.2.2 (sinceO (mapIB T D t)))=true) (hnd:nodupB (es.map fun e=>e.2.2)=true) (hsl:Nat.ble (sinceO (mapIB T D t)) (lastO (mapIB T D t))=true) (hsc:Nat.ble (sinceO (mapIB T D t)) clock=true)
  (turns:turnsB (.code (.region hid (regO (outO T).items) false)::restO (outO T).items) (mapFr T D) (mapMB T D t) (mapIt T D t) (mpO (mapIB T D t)) (sinceO (mapIB T D t)) clock (turnT (E.cutAt hid) n (regO (outO T).items) (restO (outO T).items) d (mapFr T D) (mapMB T D t) (mapIt T D t) (mpO (mapIB T D t)) (sinceO (mapIB T D t)) clock) es)
  (over:okT ((mapFr T D).set d (.tuple [.bool false]) fun fre=>exec E n (.inRegion (regO (outO T).items) (List.range' 1 ((regO (outO T).items).size-1))::restO (outO T).items) .auto fre (mapMB T D t) fun o=>match o with
    |.ret _ fr m=>match endsM (mapMB T D t) m with
     |true=>results E fn m fr fun v=>match h.endsB v m with
      |true=>Tree.leaf ()
      |false=>.fail 201
     |false=>.fail 203
    |_=>.fail 202)=true):h.sem P:=by
 subst hT
 exact HF.sem_of_map hK n h hfn hb hn D e0 e1 eT eB h0 hop hgd hdst hx hd hne hit hmp hborn hnd hsl hsc turns over
end
theorem scall_extern {P : Program} {f : FuncId} {fn : Func} {e : Array Value → Sem Value} {args : List SV} {v : SV} (hf : P.funcs[f]? = some fn) (hname : (fn.name == "runtime.NumGoroutine") = false) (hb : fn.body.isNone = true) (hn : Extern.findNext fn = none) (he : Extern.find fn = some e)
  (h:∀R ρ n w (vs:List Value),RepL R ρ n w args vs→∃u,(e vs.toArray).run P w=.ok u w∧Rep R ρ n w v u):SCall P f args v:=by
 intro m w0 R0 ρ w vs hm hvs
 rw[run_callFunc_extern hf hname hb hn he]
 obtain⟨u,h1,h2⟩:=h _ _ _ _ _ hvs
 rw[h1]
 exact OpOut.same hm h2
def fIbs(f:Nat):Fact:=⟨f,fun args=>match args with
 |[.str s,.int .u8 c] =>some (.leaf (.int .i64 (Lib.indexByte s c.toNat.toUInt8)))
 |_=>none⟩
theorem o_ibs {P : Program} {f : FuncId} {fn : Func} (hf : P.funcs[f]? = some fn) (hname : (fn.name == "runtime.NumGoroutine") = false) (hb : fn.body.isNone = true) (hn : Extern.findNext fn = none) (he : Extern.find fn = some Extern.BytealgIndexByte.indexByte) : (fIbs f).ok P := fun args t ht => by
 simp only[fIbs]at ht
 split at ht
 ·rename_i s c
  injection ht with ht;subst ht
  refine scall_extern hf hname hb hn he fun R ρ n w vs hvs=>?_
  obtain⟨a,l1,rfl,ha,b,l2,rfl,hb,rfl⟩:=hvs
  have ha:a=.string ⟨⟨s⟩⟩:=ha
  have hb:b=.int .u8 c:=hb
  subst ha hb
  exact⟨_,Lib.run_indexByteString _ _ _,rfl⟩
 ·cases ht
def fCnt(f:Nat):Fact:=⟨f,fun args=>match args with
 |[.str s,.int .u8 c] =>some (.leaf (.int .i64 (Lib.countByte s c.toNat.toUInt8:Nat)))
 |_=>none⟩
theorem o_cnt {P : Program} {f : FuncId} {fn : Func} (hf : P.funcs[f]? = some fn) (hname : (fn.name == "runtime.NumGoroutine") = false) (hb : fn.body.isNone = true) (hn : Extern.findNext fn = none) (he : Extern.find fn = some Extern.BytealgCount.count) : (fCnt f).ok P := fun args t ht => by
 simp only[fCnt]at ht
 split at ht
 ·rename_i s c
  injection ht with ht;subst ht
  refine scall_extern hf hname hb hn he fun R ρ n w vs hvs=>?_
  obtain⟨a,l1,rfl,ha,b,l2,rfl,hb,rfl⟩:=hvs
  have ha:a=.string ⟨⟨s⟩⟩:=ha
  have hb:b=.int .u8 c:=hb
  subst ha hb
  exact⟨_,Lib.run_countString _ _ _,rfl⟩
 ·cases ht
end Go.Sx
namespace Go.Proofs.YthhncpfcimmnjaaGreatDoor
open Go.Sx
theorem hmix:Tryz.prog.follows .mixedOrders=true:=by kernel_rfl
theorem o_fi:(fIbs 317).ok Tryz.prog:=o_ibs (fn:=Tryz.f317) (by kernel_rfl) (by kernel_rfl) (by kernel_rfl) (by kernel_rfl) (by kernel_rfl)
theorem o_fc:(fCnt 396).ok Tryz.prog:=o_cnt (fn:=Tryz.f396) (by kernel_rfl) (by kernel_rfl) (by kernel_rfl) (by kernel_rfl) (by kernel_rfl)
noncomputable def Ec(k:List WFact):Env:=(Env.ofB Tryz.prog (sumOf [fIbs 317,fCnt 396]) (wrOf k) (pnOf []) (bxOf []) (fun _=>false) (fun _=>false) (fun _=>false) (fun _=>false)).heap
theorem hKc{k:List WFact}(hk:∀x∈k,x.ok Tryz.prog):Known Tryz.prog (Ec k):=(known_ofB hmix (fun x hx=>by
 simp only[List.mem_cons,List.not_mem_nil,or_false]at hx
 rcases hx with rfl|rfl
 ·exact o_fi
 ·exact o_fc) hk (fun x hx=>by cases hx) (fun x hx=>by cases hx) _ _ _ _).heap
def I(n:Int):SV:=.int .i64 n
theorem hf_sem{k:List WFact}(hk:∀x∈k,x.ok Tryz.prog){h:HF}(hc:okT (h.chk (Ec k) 1000000)=true):h.sem Tryz.prog:=h.sem_of (hKc hk) _ (okT_holds hc)
open Go.Sx Go.RowKit Go.Shelf
attribute [local go_sem] Oper.semAt_some
theorem cellA{W:World}{p:Addr}{v:Value}(o:Obj)(h:W.cell? p=some v):(W.alloc o).cell? p=some v:=cell_kept h (World.grownBy_alloc W o none) (fun r e=>by cases e)
def KpC(W W':World):Prop:=∀ (k:Nat) (arr:Array Value) (e:TypeId) (fz:Nat×Nat),W.heap[k]? =some (.cells arr e fz)→e≠261→e≠264→W'.heap[k]? =some (.cells arr e fz)
set_option pp.deepTerms false
set_option pp.deepTerms.threshold 3
set_option maxHeartbeats 4000000 in
/-- The iterator over one row with one run of one cell. -/
theorem all1_in(n:Nat)(hn:1≤n)(l Bs b off cap b2 off2 cap2:Nat)(J Jx:List Nat→World→Prop)
  (hY:∀pre x W,J pre W→pre.length<1→YieldAt Fence.wide (n-1) Tryz.prog l #[.agg #[.int .i64 1,.int .i64 1]] W fun e W'=>
    (e=.returned (.bool true)∧J (pre++[x]) W'∧KpC W W')∨(e=.returned (.bool false)∧Jx (pre++[x]) W'))
  (W:World) (hJ:AbidesFrom W.heap.size J) (hBs:W.cell? ⟨Bs,0,none⟩=some (.slice (some ⟨b,off,none⟩) 1 cap)) (hc0:W.cell? ⟨b,off,none⟩=some (.int .i64 1)) (hc1:W.cell? ⟨b,off+1,none⟩=some (.slice (some ⟨b2,off2,none⟩) 1 cap2))
  (hd0:W.cell? ⟨b2,off2,none⟩=some (.int .i64 1)) (hd1:W.cell? ⟨b2,off2+1,none⟩=some (.int .i64 2)) (h0:J [] W):
  CallsIn Fence.wide n Tryz.prog 657 #[.func (.yield l) #[] #[],.pointer (some ⟨Bs,0,none⟩)] W fun e W'=>(∃v,e=.returned v)∧
   ((∃ys,ys=[0] ∧J ys W')∨(∃pre,pre=[0] ∧Jx pre W')):=by
 refine callsIn_of_wp Tryz.func657 rfl trivial ?_ rfl
 simp only[Tryz.ntmps657,List.size_toArray,List.length_cons,List.length_nil,Nat.reduceAdd,Nat.reduceSub,Array.replicate_succ,Array.replicate_zero,List.push_toArray,List.append_toArray,List.nil_append,List.cons_append]
 gi_wp2
 refine wpIn_loop_rounds 2 ?_
 rw[roundsIn_succ]
 have hd0':(W.alloc (.cells #[.int .i64 1,.slice (some ⟨b2,off2,none⟩) 1 cap2] 132)).cell? ⟨b2,off2,none⟩=some (.int .i64 1):=cellA _ hd0
 have hd1':(W.alloc (.cells #[.int .i64 1,.slice (some ⟨b2,off2,none⟩) 1 cap2] 132)).cell? ⟨b2,off2+1,none⟩=some (.int .i64 2):=cellA _ hd1
 gi_wp2
 refine wpIn_loop_rounds 2 ?_
 rw[roundsIn_succ]
 gi_wp2
 refine wpIn_loop_rounds 2 ?_
 rw[roundsIn_succ]
 have hJ1:J [] (W.alloc (.cells #[.int .i64 1,.slice (some ⟨b2,off2,none⟩) 1 cap2] 132)):=hJ _ _ _ none h0 (World.grownBy_alloc W _ none) (fun r e=>by cases e)
 have hJ2:J [] ((W.alloc (.cells #[.int .i64 1,.slice (some ⟨b2,off2,none⟩) 1 cap2] 132)).alloc (.cells #[.int .i64 1,.int .i64 2] 134)):=hJ _ _ _ none hJ1 (World.grownBy_alloc _ _ none) (fun r e=>by cases e)
 obtain⟨fn,tmps,assign,body,hy,hR⟩:=hY [] 0 _ hJ2 (by simp)
 have hnew:=World.alloc_heap_new (W.alloc (.cells #[.int .i64 1,.slice (some ⟨b2,off2,none⟩) 1 cap2] 132)) (.cells #[.int .i64 1,.int .i64 2] 134)
 rw[World.size_alloc]at hnew
 gi_wp2
 refine hR.mono ?_
 rintro e W3 (⟨rfl,hJ3,hk3⟩|⟨rfl,hJx3⟩)
 ·have h3:=hk3 _ _ _ _ hnew (by decide) (by decide)
  have h31:W3.cell? ⟨W.heap.size+1,1,none⟩=some (.int .i64 2):=by simp[World.cell?,h3]
  gi_wp2
  rw[roundsIn_succ]
  gi_wp2
  rw[roundsIn_succ]
  gi_wp2
  rw[roundsIn_succ]
  gi_wp2
  go_end0
  exact⟨⟨_,rfl⟩,.inl ⟨_,rfl,hJ3⟩⟩
 ·gi_wp2
  refine bodyPost_ret (results_none rfl _ _ _) rfl ?_
  exact⟨⟨_,rfl⟩,.inr ⟨_,rfl,hJx3⟩⟩
theorem KpC.trans{A B C:World}(h:KpC A B)(k:KpC B C):KpC A C:=fun i arr e fz hi h1 h2=>k i arr e fz (h i arr e fz hi h1 h2) h1 h2
theorem KpC.of_grownBy{W W':World}{row:Option Nat}(hg:W.grownBy W' row)(hr:∀r,row=some r→∀arr e fz,W.heap[r]? =some (.cells arr e fz)→e=261∨e=264):KpC W W':=fun k arr e fz hk h1 h2=>by
 refine(hg.block k (Array.getElem?_eq_some_iff.1 hk).1 fun he=>?_).trans hk
 rcases hr k he.symm arr e fz hk with h|h
 ·exact h1 h
 ·exact h2 h
theorem KpC.alloc(W:World)(o:Obj):KpC W (W.alloc o):=.of_grownBy (World.grownBy_alloc W o none) (fun r e=>by cases e)
theorem KpC.putObj{w:World}(W:World)(l:Nat)(o o':Obj)(_:w.heap.size≤l)(h:W.heap[l]? =some o)(hc:o.isCells=false)(_:o.isWalk=false):KpC W (W.putObj l o'):=
 .of_grownBy (grownBy_putObj' W l o') (fun r e arr t fz hr=>by cases e;rw[h]at hr;cases hr;cases hc)
theorem KpC.appended{W w1:World}{n₀ B:Nat}{v v':Value}{k:Nat}{xs:List Value}{tmp:Obj}(hv:Boxed W B 264 v)(hrow:W.ownsRow n₀ 261 2 v k xs)(hgrow:(W.alloc tmp).grownBy w1 v.ownBlock):KpC W (w1.setCell ⟨B,0,none⟩ v'):=by
 have hv1:Boxed w1 B 264 v:=(hv.alloc tmp).kept hgrow (hv.not_row (by decide) hrow)
 refine((KpC.alloc W tmp).trans (.of_grownBy hgrow fun r e arr t fz hr=>?_)).trans (.of_grownBy (grownBy_setCell' w1 B v') fun r e arr t fz hr=>?_)
 ·rcases(hrow.alloc tmp).2 with⟨rfl,_⟩|⟨g,cap,cur,rfl,_,hgb,_⟩
  ·simp[Value.ownBlock]at e
  ·obtain rfl:g=r:=by simpa[Value.ownBlock]using e
   rw[hgb]at hr;cases hr;exact .inl rfl
 ·cases e
  rw[show w1.heap[B]? =_ from hv1]at hr;cases hr;exact .inr rfl
theorem two_new{W:World}(x y:Value){t:TypeId}:∀ (j:Nat) (u:Value),[x,y][j]? =some u→(W.alloc (.cells #[x,y] t)).cell? ((⟨W.heap.size,0,none⟩:Addr).add j)=some u:=fun j u h=>by
 rw[Addr.add_lit,Nat.zero_add]
 have hn:=World.alloc_heap_new W (.cells #[x,y] t)
 match j,h with
 |0,h=>cases h;unfold World.cell?;rw[hn];rfl
 |1,h=>cases h;unfold World.cell?;rw[hn];rfl
def cellsL(pre:List Nat):List Value:=pre.flatMap fun _=>[.int .i64 1,.int .i64 1]
theorem info261:(Tryz.prog.info? 261).map (fun i=>(i.zero,i.size,i.bytes))=some (some (.agg #[.int .i64 0,.int .i64 0]),2,16):=by kernel_rfl
theorem all_in(n:Nat)(v:Value)(w:World):
  CallsIn Fence.wide n Tryz.prog 609 #[.agg #[v]] w fun e w'=>e=.returned (.func (.func 657) #[] #[.pointer (some ⟨w.heap.size,0,none⟩)])∧w'=w.alloc (.cells #[v] 111):=by
 refine callsIn_of_wp Tryz.func609 rfl trivial ?_ rfl
 simp only[Tryz.ntmps609,List.size_toArray,List.length_cons,List.length_nil,Nat.reduceAdd,Nat.reduceSub,Array.replicate_succ,Array.replicate_zero,List.push_toArray,List.append_toArray,List.nil_append,List.cons_append]
 gi_wp2
 go_ret
 exact⟨rfl,rfl⟩
theorem all_stops(n:Nat)(hn:1≤n)(Bs b off cap b2 off2 cap2:Nat)(w:World)(hBs:w.cell? ⟨Bs,0,none⟩=some (.slice (some ⟨b,off,none⟩) 1 cap))(hc0:w.cell? ⟨b,off,none⟩=some (.int .i64 1))(hc1:w.cell? ⟨b,off+1,none⟩=some (.slice (some ⟨b2,off2,none⟩) 1 cap2))
  (hd0:w.cell? ⟨b2,off2,none⟩=some (.int .i64 1)) (hd1:w.cell? ⟨b2,off2+1,none⟩=some (.int .i64 2)):
  SeqStopsK Fence.wide n Tryz.prog 657 #[.pointer (some ⟨Bs,0,none⟩)] (fun _:Nat=>#[.agg #[.int .i64 1,.int .i64 1]]) KpC (fun ys=>ys=[0]) (fun pre=>pre=[0]) 1 w:=fun l J Jx W hW hJ _ hY h0=>by
 have low:∀{p:Addr} {v:Value},w.cell? p=some v→W.cell? p=some v:=fun {p v} h=>(hW.cell (p:=p) (by
  obtain⟨o,ho,_⟩:=cells_of_cell h
  exact(Array.getElem?_eq_some_iff.1 ho).1)).trans h
 exact all1_in n hn l Bs b off cap b2 off2 cap2 J Jx hY W hJ (low hBs) (low hc0) (low hc1) (low hd0) (low hd1) h0
set_option maxHeartbeats 4000000 in
theorem cells1_in(b off cap b2 off2 cap2:Nat)(w:World)(hc0:w.cell? ⟨b,off,none⟩=some (.int .i64 1))(hc1:w.cell? ⟨b,off+1,none⟩=some (.slice (some ⟨b2,off2,none⟩) 1 cap2))
  (hd0:w.cell? ⟨b2,off2,none⟩=some (.int .i64 1)) (hd1:w.cell? ⟨b2,off2+1,none⟩=some (.int .i64 2))
  (hvalid:∀w1,Below w.heap.size w w1→Calls Tryz.prog 222 #[.agg #[.slice (some ⟨b,off,none⟩) 1 cap]] w1 fun e w2=>e=.returned (.bool true)∧Below w1.heap.size w1 w2):
  Calls Tryz.prog 546 #[.agg #[.slice (some ⟨b,off,none⟩) 1 cap]] w fun e W'=>∃v,e=.returned v∧W'.ownsRow w.heap.size 261 2 v 1 (cellsL [0])∧Below w.heap.size w W':=by
 refine(callsIn_wide (n:=3)).1 ?_
 obtain⟨i0,hi,hz0,hz1,hz2⟩:=info_parts info261
 refine callsIn_of_wp_marks Tryz.func546 rfl trivial ?_ rfl
 simp only[Tryz.ntmps546,List.size_toArray,List.length_cons,List.length_nil,Nat.reduceAdd,Nat.reduceSub,Array.replicate_succ,Array.replicate_zero,List.push_toArray,List.append_toArray,List.nil_append,List.cons_append]
 have hB1:Below w.heap.size w (w.alloc (.cells #[.slice (some ⟨b,off,none⟩) 1 cap] 111)):=(Below.refl _ w).alloc (Nat.le_refl _) _
 have b1:=Boxed.new w 111 (.slice (some ⟨b,off,none⟩) 1 cap)
 gi_wp2_with (first
  |(refine⟨trivial,?_⟩;gi_at_call 222;refine(callsIn_wide.2 (hvalid _ hB1)).mono ?_;rintro e w2 ⟨rfl,hB2⟩;have b2':=(hB2.block _ (by simp)).trans b1;have h2c:w2.cell? ⟨w.heap.size,0,none⟩=some (.slice (some ⟨b,off,none⟩) 1 cap):=Boxed.cell b2';have h2d:=Boxed.cell ((Boxed.alloc (t:=111) b2' (.cells #[.slice none 0 0] 264))))
  |(refine⟨trivial,?_⟩;gi_at_call 609;refine(all_in _ _ _).mono ?_;rintro e w' ⟨rfl,rfl⟩))
 obtain⟨W0,hW0⟩:∃W0,(w2.alloc (.cells #[.slice none 0 0] 264)).alloc (.cells #[.slice (some ⟨b,off,none⟩) 1 cap] 111)=W0:=⟨_,rfl⟩
 have hs2:=hB2.size
 rw[World.size_alloc]at hs2
 have hsz:W0.heap.size=w2.heap.size+2:=by rw[←hW0];simp
 have hB0:Below w.heap.size w W0:=by rw[←hW0];exact(((hB1.trans (hB2.mono (by simp))).alloc (by omega) _).alloc (by simp;omega) _)
 have bO:Boxed W0 w2.heap.size 264 (.slice none 0 0):=by rw[←hW0];exact(Boxed.new w2 264 (.slice none 0 0)).alloc _
 have bS:Boxed W0 (w2.heap.size+1) 111 (.slice (some ⟨b,off,none⟩) 1 cap):=by
  rw[←hW0]
  have:=Boxed.new (w2.alloc (.cells #[.slice none 0 0] 264)) 111 (.slice (some ⟨b,off,none⟩) 1 cap)
  rwa [World.size_alloc]at this
 have low:∀{p:Addr} {v:Value},w.cell? p=some v→W0.cell? p=some v:=fun {p v} h=>(hB0.cell (p:=p) (by
  obtain⟨o,ho,_⟩:=cells_of_cell h
  exact(Array.getElem?_eq_some_iff.1 ho).1)).trans h
 have hst:=all_stops 2 (by omega) (w2.heap.size+1) b off cap b2 off2 cap2 W0 bS.cell (low hc0) (low hc1) (low hd0) (low hd1)
 try simp only[World.size_alloc]
 rw[hW0]
 refine wpIn_rangeFunc_ownH (n:=3) rfl (by omega) (gf:=657) (lb:=#[.pointer (some ⟨w2.heap.size+1,0,none⟩)]) rfl trivial (enters_of Tryz.func657 (by kernel_rfl) rfl)
  hst KpC.trans KpC.putObj (Below.refl _ _) (fun _=>rfl)
  (fun pre W=>(∃v,Boxed W w2.heap.size 264 v∧W.ownsRow w.heap.size 261 2 v pre.length (cellsL pre)∧True)∧Below w.heap.size w W)
  (fun _ _ _=>False)
  (OwnFrom.and (Own.from (holdsRow_own w.heap.size w2.heap.size 264 261 2 (fun pre=>pre.length) cellsL (fun _ _=>True)) _) (ownFrom_below (Nat.le_refl _) (by omega)))
  (fun _ _ _ _ _ hs _ _=>hs)
  ⟨⟨_,bO,World.ownsRow_nil _ _ _ _,trivial⟩,hB0⟩
  (fun x a' W=>∃Bx,w2.heap.size<Bx∧W.heap[Bx]? =some (.cells #[.int .i64 1,.int .i64 1] 261 (0,0))∧a'={tmps:=#[.agg #[.slice (some ⟨b,off,none⟩) 1 cap],.pointer (some ⟨w.heap.size,0,none⟩),.slice none 0 0,.pointer (some ⟨w2.heap.size,0,none⟩),.pointer (some ⟨Bx,0,none⟩),.agg #[.slice (some ⟨b,off,none⟩) 1 cap],.bool true,.bool false,.agg #[.slice (some ⟨b,off,none⟩) 1 cap],.func (.func 657) #[] #[.pointer (some ⟨w2.heap.size+1,0,none⟩)],.agg #[.int .i64 1,.int .i64 1],undef,undef,undef,undef,undef],defers:=[]})
  (fun x a' _ A B row hs hg hr=>by
    obtain⟨Bx,h1,h2,h3⟩:=hs
    exact⟨Bx,h1,(grownBy_keeps_cells hg (fun r e=>(hr r e).2) h2 rfl).trans h2,h3⟩) ?assign ?body ?done ?stop
 case assign=>
  rintro l pre x W K ⟨⟨v,hv,hrow,_⟩,hB⟩ hK
  gi_wp2
  exact hK _ _ ((KeepsOthers.alloc _ _).from _) (KpC.alloc _ _) ⟨⟨v,hv.alloc _,hrow.alloc _,trivial⟩,hB.alloc hB.size _⟩ ⟨W.heap.size,hv.lt,World.alloc_heap_new _ _,rfl⟩
 case body=>
  rintro l pre x a' W hl ⟨r,hr⟩ ⟨⟨v,hv,hrow,_⟩,hB⟩ ⟨Bx,hBx,bX,rfl⟩ hlt
  have hc:=hv.cell
  have hx0:W.cell? ⟨Bx,0,none⟩=some (.int .i64 1):=by simp[World.cell?,bX]
  have hx1:W.cell? ⟨Bx,1,none⟩=some (.int .i64 1):=by simp[World.cell?,bX]
  have hm:pre.length+1≤maxLen:=by simp only[maxLen];omega
  have hm2:(pre.length+1)*16≤140737488355328:=by omega
  have hm3:w.heap.size≤(W.alloc (.cells #[.int .i64 1,.int .i64 1] 261)).heap.size:=by
   have:=hB.size
   rw[World.size_alloc];omega
  have hm4:w.heap.size≤w2.heap.size:=by omega
  have h1c:∀u∈[Value.int .i64 1,Value.int .i64 1],u.oneCell'=true:=by simp[Value.oneCell']
  gi_wp2_with (gi_at_builtin;refine wpListIn_append_own _ rfl _ _ 264 rfl w.heap.size 261 i0 (.agg #[.int .i64 0,.int .i64 0]) 2 16 Tryz.underlying264 hi hz0 hz1 hz2 rfl (by decide) _ _ _ rfl (hrow.alloc _) ⟨W.heap.size,0,none⟩ 1 1 [.int .i64 1,.int .i64 1] rfl rfl (two_new _ _) h1c hm hm2 hm3 ?_;intro v' w1 hown' hgrow _;obtain⟨g',cap',rfl⟩:=ownsRow_succ hown';obtain⟨hv1,hv2,hr2,hk2,hb2⟩:=hv.appended (by decide) hrow hB.size hm4 hown' hgrow;have hkp:=KpC.appended (v':=.slice (some ⟨g',0,none⟩) (pre.length+1) cap') hv hrow hgrow;have hc1:=hv1.cell;have hf1:=hv1.frozen)
  have hr3:(w1.setCell ⟨w2.heap.size,0,none⟩ (.slice (some ⟨g',0,none⟩) (pre.length+1) cap')).ownsRow w.heap.size 261 2 (.slice (some ⟨g',0,none⟩) (pre.length+1) cap') (pre++[x]).length (cellsL (pre++[x])):=by
   rw[show cellsL (pre++[x])=cellsL pre++[.int .i64 1,.int .i64 1]from by simp[cellsL],List.length_append]
   exact hr2
  exact⟨hk2.from _,hkp,⟨⟨_,hv2,hr3⟩,hB.trans hb2⟩⟩
 case done=>
  rintro D ys W hD rfl ⟨⟨v,hv,hrow,_⟩,hB⟩ hK
  have hc:=hv.cell
  gi_wp2
  refine⟨by simp,.inl ⟨_,_,rfl,run_takeDeferred hK,?_⟩⟩
  exact⟨_,results_tmp rfl _ _ _,v,rfl,ownsRow_putObj hrow _ hK rfl,hB.trans (belowK_b (w:=w) (Nat.le_refl _) W D _ _ (by omega) hK rfl rfl)⟩
 case stop=>
  rintro D c pre W _ _ h _
  exact h.elim
theorem all0_in(n:Nat)(hn:1≤n)(l Bs:Nat)(J Jx:List Nat→World→Prop)(W:World)(hBs:W.cell? ⟨Bs,0,none⟩=some (.slice none 0 0))(h0:J [] W):
  CallsIn Fence.wide n Tryz.prog 657 #[.func (.yield l) #[] #[],.pointer (some ⟨Bs,0,none⟩)] W fun e W'=>(∃v,e=.returned v)∧
   ((∃ys,ys=[] ∧J ys W')∨(∃pre,pre=[0] ∧Jx pre W')):=by
 refine callsIn_of_wp Tryz.func657 rfl trivial ?_ rfl
 simp only[Tryz.ntmps657,List.size_toArray,List.length_cons,List.length_nil,Nat.reduceAdd,Nat.reduceSub,Array.replicate_succ,Array.replicate_zero,List.push_toArray,List.append_toArray,List.nil_append,List.cons_append]
 gi_wp2
 refine wpIn_loop_rounds 1 ?_
 rw[roundsIn_succ]
 gi_wp2
 go_end0
 exact⟨⟨_,rfl⟩,.inl ⟨_,rfl,h0⟩⟩
theorem all0_stops(n:Nat)(hn:1≤n)(Bs:Nat)(w:World)(hBs:w.cell? ⟨Bs,0,none⟩=some (.slice none 0 0)):
  SeqStopsK Fence.wide n Tryz.prog 657 #[.pointer (some ⟨Bs,0,none⟩)] (fun _:Nat=>#[.agg #[.int .i64 1,.int .i64 1]]) KpC (fun ys=>ys=[]) (fun pre=>pre=[0]) 0 w:=fun l J Jx W hW hJ _ hY h0=>by
 have low:∀{p:Addr} {v:Value},w.cell? p=some v→W.cell? p=some v:=fun {p v} h=>(hW.cell (p:=p) (by
  obtain⟨o,ho,_⟩:=cells_of_cell h
  exact(Array.getElem?_eq_some_iff.1 ho).1)).trans h
 exact all0_in n hn l Bs J Jx W (low hBs) h0
set_option maxHeartbeats 4000000 in
theorem cells0_in(w:World)(hvalid:∀w1,Below w.heap.size w w1→Calls Tryz.prog 222 #[.agg #[.slice none 0 0]] w1 fun e w2=>e=.returned (.bool true)∧Below w1.heap.size w1 w2):
  Calls Tryz.prog 546 #[.agg #[.slice none 0 0]] w fun e W'=>e=.returned (.slice none 0 0)∧Below w.heap.size w W':=by
 refine(callsIn_wide (n:=3)).1 ?_
 refine callsIn_of_wp_marks Tryz.func546 rfl trivial ?_ rfl
 simp only[Tryz.ntmps546,List.size_toArray,List.length_cons,List.length_nil,Nat.reduceAdd,Nat.reduceSub,Array.replicate_succ,Array.replicate_zero,List.push_toArray,List.append_toArray,List.nil_append,List.cons_append]
 have hB1:Below w.heap.size w (w.alloc (.cells #[.slice none 0 0] 111)):=(Below.refl _ w).alloc (Nat.le_refl _) _
 have b1:=Boxed.new w 111 (.slice none 0 0)
 gi_wp2_with (first
  |(refine⟨trivial,?_⟩;gi_at_call 222;refine(callsIn_wide.2 (hvalid _ hB1)).mono ?_;rintro e w2 ⟨rfl,hB2⟩;have b2':=(hB2.block _ (by simp)).trans b1;have h2c:w2.cell? ⟨w.heap.size,0,none⟩=some (.slice none 0 0):=Boxed.cell b2';have h2d:=Boxed.cell ((Boxed.alloc (t:=111) b2' (.cells #[.slice none 0 0] 264))))
  |(refine⟨trivial,?_⟩;gi_at_call 609;refine(all_in _ _ _).mono ?_;rintro e w' ⟨rfl,rfl⟩))
 obtain⟨W0,hW0⟩:∃W0,(w2.alloc (.cells #[.slice none 0 0] 264)).alloc (.cells #[.slice none 0 0] 111)=W0:=⟨_,rfl⟩
 have hs2:=hB2.size
 rw[World.size_alloc]at hs2
 have hsz:W0.heap.size=w2.heap.size+2:=by rw[←hW0];simp
 have hB0:Below w.heap.size w W0:=by rw[←hW0];exact(((hB1.trans (hB2.mono (by simp))).alloc (by omega) _).alloc (by simp;omega) _)
 have bO:Boxed W0 w2.heap.size 264 (.slice none 0 0):=by rw[←hW0];exact(Boxed.new w2 264 (.slice none 0 0)).alloc _
 have bS:Boxed W0 (w2.heap.size+1) 111 (.slice none 0 0):=by
  rw[←hW0]
  have:=Boxed.new (w2.alloc (.cells #[.slice none 0 0] 264)) 111 (.slice none 0 0)
  rwa [World.size_alloc]at this
 have hst:=all0_stops 2 (by omega) (w2.heap.size+1) W0 bS.cell
 try simp only[World.size_alloc]
 rw[hW0]
 refine wpIn_rangeFunc_ownH (n:=3) rfl (by omega) (gf:=657) (lb:=#[.pointer (some ⟨w2.heap.size+1,0,none⟩)]) rfl trivial (enters_of Tryz.func657 (by kernel_rfl) rfl)
  hst KpC.trans KpC.putObj (Below.refl _ _) (fun _=>rfl)
  (fun pre W=>(pre=pre∧Boxed W w2.heap.size 264 (.slice none 0 0))∧Below w.heap.size w W)
  (fun _ _ _=>False)
  (OwnFrom.and (Own.from (fun s A B row hs hg hr=>⟨rfl,boxed_own (β:=List Nat) w2.heap.size 264 (fun _=>.slice none 0 0) s A B row hs.2 hg hr⟩) _) (ownFrom_below (Nat.le_refl _) (by omega)))
  (fun _ _ _ _ _ hs _ _=>hs)
  ⟨⟨rfl,bO⟩,hB0⟩
  (fun x a' W=>True) (fun x a' _ A B row hs hg hr=>trivial) ?assign ?body ?done ?stop
 case assign=>
  rintro l pre x W K ⟨⟨_,hv⟩,hB⟩ hK
  gi_wp2
  exact hK _ _ ((KeepsOthers.alloc _ _).from _) (KpC.alloc _ _) (by exact⟨by simpa using hv.alloc _,hB.alloc hB.size _⟩) trivial
 case body=>
  rintro l pre x a' W hl ⟨r,hr⟩ _ _ hlt
  omega
 case done=>
  rintro D ys W hD rfl ⟨⟨_,hv⟩,hB⟩ hK
  have hc:=hv.cell
  gi_wp2
  refine⟨by simp,.inl ⟨_,_,rfl,run_takeDeferred hK,?_⟩⟩
  exact⟨_,results_tmp rfl _ _ _,rfl,hB.trans (belowK_b (w:=w) (Nat.le_refl _) W D _ _ (by omega) hK rfl rfl)⟩
 case stop=>
  rintro D c pre W _ _ h _
  exact h.elim
open Go.Sx Go.RowKit
theorem calls_data {f : FuncId} {args : List SV} {v : SV} {fn : Func} {body : Code} (hf : Tryz.prog.funcs[f]? = some fn) (hb : fn.body = some body) (hn : (fn.name == "runtime.NumGoroutine") = false) (h : SCall Tryz.prog f args v) (w : World) (vs : List Value) (hr : RepL (fun b => b < w.heap.size) (fun _ => (0, 0, 0)) 0 w args vs) :
  Calls Tryz.prog f vs.toArray w fun e w'=>∃u R ρ n,e=.returned u∧Below w.heap.size w w'∧Rep R ρ n w' v u:=by
 have hm:MRel w (RSet.all w) (fun _=>(0,0,0)) w ⟨0,.e⟩:=⟨⟨Below.refl _ _,trivial⟩,fun id B h=>(by cases h),fun id B h=>(by cases h),fun id B h=>(by cases h),fun id id' B B' h=>(by cases h),fun id B h=>(by cases h),fun b hb=>⟨hb,rfl⟩,fun id B h=>(by cases h)⟩
 have:=h ⟨0,.e⟩ w (RSet.all w) (fun _=>(0,0,0)) w vs hm (RepL.mono ⟨Nat.le_refl _,fun _ _=>rfl,fun b hb=>⟨.inl ⟨hb,hb⟩,rfl⟩⟩ _ _ hr)
 rw[callFunc_enter hf hb hn]at this
 exact Calls.mono this fun e w' ⟨u,he,ρ',g1,g2,g3⟩=>⟨u,_,_,_,he,g1.below.toBelow,g3⟩
abbrev tyRow:Ty:=.pair (.int .i64) (.list (.pair (.int .i64) (.int .i64)))
theorem valid1_s:SCall Tryz.prog 222 [.agg [.list tyRow [((1:Int),[((1:Int),(2:Int))])]]] (.bool true):=scall_closed hmix [] trivial 100000 .auto (by kernel_rfl) (by kernel_rfl) rfl
theorem valid0_s:SCall Tryz.prog 222 [.agg [.nilS]] (.bool true):=scall_closed hmix [] trivial 100000 .auto (by kernel_rfl) (by kernel_rfl) rfl
theorem valid1_w(b off cap b2 off2 cap2:Nat)(w:World)(h1:1≤cap)(h2:1≤cap2)(hc0:w.cell? ⟨b,off,none⟩=some (.int .i64 1))(hc1:w.cell? ⟨b,off+1,none⟩=some (.slice (some ⟨b2,off2,none⟩) 1 cap2))
  (hd0:w.cell? ⟨b2,off2,none⟩=some (.int .i64 1)) (hd1:w.cell? ⟨b2,off2+1,none⟩=some (.int .i64 2)):
  Calls Tryz.prog 222 #[.agg #[.slice (some ⟨b,off,none⟩) 1 cap]] w fun e w2=>e=.returned (.bool true)∧Below w.heap.size w w2:=by
 have lt:∀{p:Addr} {v:Value},w.cell? p=some v→p.block<w.heap.size:=fun {p v} h=>by
  obtain⟨o,ho,_⟩:=cells_of_cell h
  exact(Array.getElem?_eq_some_iff.1 ho).1
 have hin:RepD (fun b=>b<w.heap.size) w (.list (.pair (.int .i64) (.int .i64))) [((1:Int),(2:Int))] [.slice (some ⟨b2,off2,none⟩) 1 cap2] :=by
  refine⟨_,_,rfl,h2,fun _=>⟨b2,off2,rfl,lt hd0,fun i hi=>?_⟩⟩
  obtain rfl:i=0:=by have hi:i<1:=hi;omega
  refine⟨[.int .i64 1,.int .i64 2],rfl,fun j hj=>?_,[.int .i64 1],[.int .i64 2],rfl,rfl,rfl⟩
  have hj:j<2:=hj
  rcases Nat.lt_or_ge j 1 with h|h
  ·obtain rfl:j=0:=by omega
   exact hd0
  ·obtain rfl:j=1:=by omega
   exact hd1
 have hr:RepL (fun b=>b<w.heap.size) (fun _=>(0,0,0)) 0 w [.agg [.list tyRow [((1:Int),[((1:Int),(2:Int))])]]] [.agg #[.slice (some ⟨b,off,none⟩) 1 cap]] :=by
  refine⟨_,[],rfl,⟨[.slice (some ⟨b,off,none⟩) 1 cap],rfl,_,[],rfl,?_,rfl⟩,rfl⟩
  refine⟨_,_,rfl,h1,fun _=>⟨b,off,rfl,lt hc0,fun i hi=>?_⟩⟩
  obtain rfl:i=0:=by have hi:i<1:=hi;omega
  refine⟨[.int .i64 1,.slice (some ⟨b2,off2,none⟩) 1 cap2],rfl,fun j hj=>?_,[.int .i64 1],[.slice (some ⟨b2,off2,none⟩) 1 cap2],rfl,rfl,hin⟩
  have hj:j<2:=hj
  rcases Nat.lt_or_ge j 1 with h|h
  ·obtain rfl:j=0:=by omega
   exact hc0
  ·obtain rfl:j=1:=by omega
   exact hc1
 exact Calls.mono (calls_data Tryz.func222 rfl (by kernel_rfl) valid1_s w _ hr) fun e w' ⟨u,R,ρ,n,he,hb,hu⟩=>⟨by rw[he,show u=.bool true from hu],hb⟩
theorem valid0_w(w:World):Calls Tryz.prog 222 #[.agg #[.slice none 0 0]] w fun e w2=>e=.returned (.bool true)∧Below w.heap.size w w2:=
 Calls.mono (calls_data Tryz.func222 rfl (by kernel_rfl) valid0_s w [.agg #[.slice none 0 0]] ⟨_,[],rfl,⟨[.slice none 0 0],rfl,_,[],rfl,rfl,rfl⟩,rfl⟩) fun e w' ⟨u,R,ρ,n,he,hb,hu⟩=>⟨by rw[he,show u=.bool true from hu],hb⟩
theorem fill_ex:∀ (l:List (Nat×Box)) (m:Mem),∃m',Filled l m m'
 |[],m=>⟨m,rfl,fun id=>.inr ⟨fun B h=>(by simp at h),rfl⟩⟩
 |x::l,m=>by
  obtain⟨t,ht⟩:=tbSet_ex' x.1 m.tb (some x.2)
  obtain⟨m',h⟩:=fill_ex l ⟨m.next,t⟩
  have hs:MSet m x.1 (some x.2) ⟨m.next,t⟩:=⟨ht,rfl⟩
  exact⟨m',Filled.cons hs h⟩
def cells1F(i j nx:Nat):HF:=⟨546,[.agg [.vsl i 0 1 1 2 false]],nx,[(i,.vec [I 1,.vsl j 0 1 1 2 false]),(j,.vec [I 1,I 2])],.vsl nx 0 1 1 2 false,nx+1,[(nx,.vec [I 1,I 1])]⟩
theorem cells1_sem(i j nx:Nat)(hij:i≠j)(hi:i<nx)(hj:j<nx):(cells1F i j nx).sem Tryz.prog:=by
 obtain⟨m0,hm0⟩:=fill_ex [(i,.vec [I 1,.vsl j 0 1 1 2 false]),(j,.vec [I 1,I 2])] ⟨nx,.e⟩
 have g1:m0.get i=some (.vec [I 1,.vsl j 0 1 1 2 false]):=by
  rcases hm0.2 i with⟨B,h1,h2⟩|⟨h1,_⟩
  ·simp only[List.mem_cons,Prod.mk.injEq,List.not_mem_nil,or_false]at h1
   rcases h1 with⟨_,rfl⟩|⟨e,_⟩
   ·exact h2
   ·exact absurd e hij
  ·exact absurd List.mem_cons_self (h1 _)
 have g2:m0.get j=some (.vec [I 1,I 2]):=by
  rcases hm0.2 j with⟨B,h1,h2⟩|⟨h1,_⟩
  ·simp only[List.mem_cons,Prod.mk.injEq,List.not_mem_nil,or_false]at h1
   rcases h1 with⟨e,_⟩|⟨_,rfl⟩
   ·exact absurd e.symm hij
   ·exact h2
  ·exact absurd (List.mem_cons_of_mem _ List.mem_cons_self) (h1 _)
 have gn:m0.next=nx:=hm0.1
 obtain⟨t1,ht1⟩:=tbSet_ex' nx m0.tb (some (.vec [I 1,I 1]))
 have hp:MPush m0 (.vec [I 1,I 1]) ⟨nx+1,t1⟩:=⟨by rw[gn];exact ht1,by rw[gn]⟩
 have go:∀id,id≠nx→(⟨nx+1,t1⟩:Mem).get id=m0.get id:=fun id hid=>(ht1 id).trans (if_neg hid)
 refine⟨m0,⟨nx+1,t1⟩,hm0,fun w0 R0 ρ w vs hm hvs=>?_,rfl,fun x hx=>?_,fun x hx=>.inr ?_⟩
 ·obtain⟨u,l,rfl,⟨us,rfl,sv,l2,rfl,⟨hid,a,cap,rfl,k1,k2,_,ha,hcap⟩,hl2⟩,hl⟩:=hvs
  have hl:l=[] :=hl
  have hl2:l2=[] :=hl2
  subst hl hl2
  have ha:=ha (by omega)
  subst ha
  obtain⟨cs,hcs,hcell⟩:=vec_cells hm g1
  obtain⟨c0,l3,rfl,hc0,c1,l4,rfl,⟨hjd,a2,cap2,rfl,q1,q2,_,ha2,hcap2⟩,hl4⟩:=hcs
  have hl4:l4=[] :=hl4
  subst hl4
  have hc0:c0=.int .i64 1:=hc0
  subst hc0
  have ha2:=ha2 (by omega)
  subst ha2
  obtain⟨ds,hds,hdell⟩:=vec_cells hm g2
  obtain⟨d0,l5,rfl,hd0,d1,l6,rfl,hd1,hl6⟩:=hds
  have hl6:l6=[] :=hl6
  subst hl6
  have hd0:d0=.int .i64 1:=hd0
  have hd1:d1=.int .i64 2:=hd1
  subst hd0 hd1
  show OpPost Tryz.prog _ ((Go.callFunc 546 _).run Tryz.prog w)
  rw[callFunc_enter Tryz.func546 rfl (by kernel_rfl)]
  have e0:=hcell 0 (by simp)
  have e1:=hcell 1 (by simp)
  have f0:=hdell 0 (by simp)
  have f1:=hdell 1 (by simp)
  simp only[Nat.add_zero,List.getElem?_cons_zero,List.getElem?_cons_succ]at e0 e1 f0 f1
  refine Calls.mono (cells1_in (ρ i).1 (ρ i).2.1 cap (ρ j).1 (ρ j).2.1 cap2 w e0 e1 f0 f1 fun w1 hw1=>?_) fun e w' ⟨v,he,hown,hbel⟩=>?_
  ·have low:∀{p:Addr} {v:Value},w.cell? p=some v→w1.cell? p=some v:=fun {p v} h=>(hw1.cell (p:=p) (by
    obtain⟨o,ho,_⟩:=cells_of_cell h
    exact(Array.getElem?_eq_some_iff.1 ho).1)).trans h
   exact valid1_w _ _ _ _ _ _ w1 (by omega) (by omega) (low e0) (low e1) (low f0) (low f1)
  ·refine⟨v,he,?_⟩
   obtain⟨hxl,⟨_,h0⟩|⟨g,cp,cur,rfl,hg,hgb,hle,hmax,hsz,htk⟩⟩:=hown
   ·cases h0
   have hglt:g<w'.heap.size:=(Array.getElem?_eq_some_iff.1 hgb).1
   obtain⟨k1',k2'⟩:=hm.push (w':=w') (r:=(g,0,cur.size)) hp hbel.os hbel.tape hbel.output hbel.size (fun k hk=>hbel.block k hk) (fun _=>⟨hg,hglt⟩)
    (fun R n ρ' e'=>⟨cur,261,(0,0),hgb,unfrozen_zero _,(Nat.zero_add _).symm,by show 2≤cur.size;omega,by
      show RepL R ρ' n w' [I 1,I 1] ((cur.toList.drop 0).take 2)
      rw[List.drop_zero,show(2:Nat)=1*2 from rfl,htk]
      exact⟨_,_,rfl,rfl,_,_,rfl,rfl,rfl⟩⟩)
   exact⟨_,k1',k2',by show nx<nx+1;omega,_,cp,rfl,Nat.le_refl _,hle,fun h=>(by cases h),fun _=>by rw[gn,upd_same],by rw[gn,upd_same];show 0+cp*2≤cur.size;omega⟩
 ·obtain rfl:x=(nx,.vec [I 1,I 1]):=by simpa[cells1F]using hx
  refine⟨?_,.inr (Nat.le_refl _)⟩
  have:(⟨nx+1,t1⟩:Mem).get nx=some (.vec [I 1,I 1]):=(ht1 nx).trans (if_pos rfl)
  rw[this];rfl
 ·have hx:x=(i,.vec [I 1,.vsl j 0 1 1 2 false])∨x=(j,.vec [I 1,I 2]):=by simpa[cells1F]using hx
  rcases hx with rfl|rfl
  ·rw[go i (by omega),g1]
   unfold Go.Sx.sameBox
   simp[sameSVL,sameSV,I]
  ·rw[go j (by omega),g2];rfl
theorem below_grow{w0:World}{R0:RSet}{ρ:Rho}{w w':World}{m:Mem}(hm:MRel w0 R0 ρ w m)(hb:Below w.heap.size w w'):MRel w0 R0 ρ w' m∧MExt w0 R0 ρ w m ρ w' m:=by
 have hsz:=hb.size
 have hle:=hm.size_le
 have hro:∀b,RO w0 R0 ρ w m b→RO w0 R0 ρ w' m b:=fun b hb'=>by
  rcases hb' with h|⟨h1,h2,h3⟩
  ·exact .inl h
  ·exact .inr ⟨h1,by omega,h3⟩
 have he:MExt w0 R0 ρ w m ρ w' m:=⟨Nat.le_refl _,fun _ _=>rfl,fun b hb'=>⟨hro b hb',hb.block b (hm.ro_lt hb')⟩⟩
 exact⟨⟨hm.below.trans (hb.mono hle),hm.lt,hm.lo,fun id B h1 h2=>Nat.lt_of_lt_of_le (hm.hi id B h1 h2) hsz,hm.inj,fun id B h1=>BoxRel.mono he B (fun hs=>hb.block _ (hm.hi id B h1 hs)) (hm.box id B h1),fun b hb'=>⟨Nat.lt_of_lt_of_le (hm.hid.1 b hb').1 hsz,(hb.block b (hm.hid.1 b hb').1).trans (hm.hid.1 b hb').2⟩,hm.hid.2⟩,he⟩
theorem cells0_s:SCall Tryz.prog 546 [.agg [.nilS]] .nilS:=by
 intro m w0 R0 ρ w vs hm hvs
 obtain⟨u,l,rfl,⟨us,rfl,sv,l2,rfl,hsv,hl2⟩,hl⟩:=hvs
 have hl:l=[] :=hl
 have hl2:l2=[] :=hl2
 have hsv:sv=.slice none 0 0:=hsv
 subst hl hl2 hsv
 rw[callFunc_enter Tryz.func546 rfl (by kernel_rfl)]
 refine Calls.mono (cells0_in w fun w1 hw1=>valid0_w w1) fun e w' ⟨he,hbel⟩=>⟨_,he,?_⟩
 obtain⟨h1,h2⟩:=below_grow hm hbel
 exact⟨ρ,h1,h2,rfl⟩
def wFv0:HF:=⟨28,[(.agg [(I 40),(I 20),(I 1),(I 1),(I 1),(I 0),(I 2),(.bool false),(I 0),(I 0),(I 0),(I 0),(I 8000),(I 4000),(I 8000),(I 2),(I 0),(I 40),(I 180000),(I 0)])],13,[],(.bool true),16,[]⟩
theorem wFv0_s:wFv0.sem Tryz.prog:=hf_sem (k:=[]) (fun x hx=>by cases hx) (by kernel_rfl)
theorem wFv0_l:wFv0.okL Tryz.prog:=HF.okL_of_sem wFv0_s (by kernel_rfl)
noncomputable def wFv:WFact:=hlW 28 [wFv0]
theorem wFv_ok:wFv.ok Tryz.prog:=hlW_ok ⟨rfl,wFv0_l,trivial⟩
def wKv0:HF:=⟨29,[(.agg [(I 1),(I 1),(I 1000),(I 100000),(I 200),(I (-20000)),(I 20000),(I 1),(I 1),(I 1000),(I 100000),(I 200),(I (-20000)),(I 20000),(I 1),(I 1),(I 1000),(I 100000),(I 200),(I (-20000)),(I 20000),(I 1),(I 1),(I 1000),(I 100000),(I 200),(I (-20000)),(I 20000),(.bool false),(I 1000)])],13,[],(.bool true),18,[]⟩
theorem wKv0_s:wKv0.sem Tryz.prog:=hf_sem (k:=[]) (fun x hx=>by cases hx) (by kernel_rfl)
theorem wKv0_l:wKv0.okL Tryz.prog:=HF.okL_of_sem wKv0_s (by kernel_rfl)
noncomputable def wKv:WFact:=hlW 29 [wKv0]
theorem wKv_ok:wKv.ok Tryz.prog:=hlW_ok ⟨rfl,wKv0_l,trivial⟩
def wMc0:HF:=⟨353,[(.agg [(.vsl 138 0 8 8 3 false),(.vsl 140 0 12 12 3 false)])],155,[(138,(.vec [(I 40),(I 40),(I 0),(I 80),(I 40),(I 0),(I 40),(I 80),(I 0),(I 80),(I 80),(I 0),(I 40),(I 40),(I 20),(I 80),(I 40),(I 20),(I 40),(I 80),(I 20),(I 80),(I 80),(I 20)])),(140,(.vec [(I 0),(I 2),(I 3),(I 0),(I 3),(I 1),(I 4),(I 5),(I 7),(I 4),(I 7),(I 6),(I 0),(I 1),(I 5),(I 0),(I 5),(I 4),(I 2),(I 6),(I 7),(I 2),(I 7),(I 3),(I 0),(I 4),(I 6),(I 0),(I 6),(I 2),(I 1),(I 3),(I 7),(I 1),(I 7),(I 5)]))],(I 0),192,[]⟩
theorem wMc0_s:wMc0.sem Tryz.prog:=hf_sem (k:=[]) (fun x hx=>by cases hx) (by kernel_rfl)
theorem wMc0_l:wMc0.okL Tryz.prog:=HF.okL_of_sem wMc0_s (by kernel_rfl)
def wMc1:HF:=⟨353,[(.agg [(.vsl 138 0 8 8 3 false),(.vsl 821 0 12 12 3 false)])],823,[(138,(.vec [(I 40),(I 40),(I 0),(I 80),(I 40),(I 0),(I 40),(I 80),(I 0),(I 80),(I 80),(I 0),(I 40),(I 40),(I 20),(I 80),(I 40),(I 20),(I 40),(I 80),(I 20),(I 80),(I 80),(I 20)])),(821,(.vec [(I 0),(I 2),(I 3),(I 0),(I 3),(I 1),(I 4),(I 5),(I 7),(I 4),(I 7),(I 6),(I 0),(I 1),(I 5),(I 0),(I 5),(I 4),(I 2),(I 6),(I 7),(I 2),(I 7),(I 3),(I 0),(I 4),(I 6),(I 0),(I 6),(I 2),(I 1),(I 3),(I 7),(I 1),(I 7),(I 5)]))],(I 0),860,[]⟩
theorem wMc1_s:wMc1.sem Tryz.prog:=hf_sem (k:=[]) (fun x hx=>by cases hx) (by kernel_rfl)
theorem wMc1_l:wMc1.okL Tryz.prog:=HF.okL_of_sem wMc1_s (by kernel_rfl)
noncomputable def wMc:WFact:=hlW 353 [wMc0,wMc1]
theorem wMc_ok:wMc.ok Tryz.prog:=hlW_ok ⟨rfl,wMc0_l,rfl,wMc1_l,trivial⟩
def wBl0:HF:=⟨435,[(.vsl 983 0 8 8 4 false)],1008,[(983,(.vec [(I 61),(I 40),(I 80),(I 40),(I 40),(I 40),(I 61),(I 40),(I 61),(I 80),(I 40),(I 80),(I 80),(I 80),(I 61),(I 80),(I 40),(I 61),(I 40),(I 40),(I 40),(I 80),(I 40),(I 61),(I 80),(I 61),(I 80),(I 80),(I 80),(I 40),(I 80),(I 61)]))],(.bool true),1018,[]⟩
def wBl_es:List (SV×SV×Nat):=[((.agg [(I 61),(I 40)]),(I 0),0),((.agg [(I 80),(I 40)]),(I 0),1),((.agg [(I 40),(I 40)]),(I 0),2),((.agg [(I 61),(I 80)]),(I 0),3),((.agg [(I 40),(I 80)]),(I 0),4),((.agg [(I 80),(I 80)]),(I 0),5),((.agg [(I 40),(I 61)]),(I 0),6),((.agg [(I 80),(I 61)]),(I 0),7)]
theorem wBl0_s:wBl0.sem Tryz.prog:=HF.sem_map (hKc (k:=[]) (fun x hx=>by cases hx)) 1000000 wBl0 (fn:=Tryz.f435) (body:=bodyO Tryz.f435) 9 31 32 [7,32,33,34,35,36,37] wBl_es 8 (by kernel_rfl) (by kernel_rfl) (by kernel_rfl) rfl
 (by kernel_rfl) (by kernel_rfl) (by kernel_rfl) (by kernel_rfl) (by kernel_rfl) (by kernel_rfl) (by kernel_rfl) (by kernel_rfl) (by kernel_rfl) (by kernel_rfl) (by kernel_rfl) (by kernel_rfl) (by kernel_rfl) (by kernel_rfl) (by kernel_rfl) (by kernel_rfl) (by kernel_rfl)
 (⟨fun s=>⟨by kernel_rfl,by kernel_rfl,by kernel_rfl,by kernel_rfl⟩,⟨fun s=>⟨by kernel_rfl,by kernel_rfl,by kernel_rfl,by kernel_rfl⟩,⟨fun s=>⟨by kernel_rfl,by kernel_rfl,by kernel_rfl,by kernel_rfl⟩,⟨fun s=>⟨by kernel_rfl,by kernel_rfl,by kernel_rfl,by kernel_rfl⟩,⟨fun s=>⟨by kernel_rfl,by kernel_rfl,by kernel_rfl,by kernel_rfl⟩,⟨fun s=>⟨by kernel_rfl,by kernel_rfl,by kernel_rfl,by kernel_rfl⟩,⟨fun s=>⟨by kernel_rfl,by kernel_rfl,by kernel_rfl,by kernel_rfl⟩,⟨fun s=>⟨by kernel_rfl,by kernel_rfl,by kernel_rfl,by kernel_rfl⟩,trivial⟩⟩⟩⟩⟩⟩⟩⟩) (by kernel_rfl)
theorem wBl0_l:wBl0.okL Tryz.prog:=HF.okL_of_sem wBl0_s (by kernel_rfl)
noncomputable def wBl:WFact:=hlW 435 [wBl0]
theorem wBl_ok:wBl.ok Tryz.prog:=hlW_ok ⟨rfl,wBl0_l,trivial⟩
theorem okMc:∀x∈[wMc],x.ok Tryz.prog:=fun x hx=>by cases hx with|head=>exact wMc_ok|tail _ h=>cases h
def wCt0:HF:=⟨500,[(.agg [(.vsl 138 0 8 8 3 false),(.vsl 140 0 12 12 3 false)])],157,[(138,(.vec [(I 40),(I 40),(I 0),(I 80),(I 40),(I 0),(I 40),(I 80),(I 0),(I 80),(I 80),(I 0),(I 40),(I 40),(I 20),(I 80),(I 40),(I 20),(I 40),(I 80),(I 20),(I 80),(I 80),(I 20)])),(140,(.vec [(I 0),(I 2),(I 3),(I 0),(I 3),(I 1),(I 4),(I 5),(I 7),(I 4),(I 7),(I 6),(I 0),(I 1),(I 5),(I 0),(I 5),(I 4),(I 2),(I 6),(I 7),(I 2),(I 7),(I 3),(I 0),(I 4),(I 6),(I 0),(I 6),(I 2),(I 1),(I 3),(I 7),(I 1),(I 7),(I 5)]))],(.mp 158),327,[(158,(.map [((.agg [(I 0),(I 2)]),(I 1),0),((.agg [(I 2),(I 3)]),(I 1),1),((.agg [(I 3),(I 0)]),(I 1),2),((.agg [(I 0),(I 3)]),(I 1),3),((.agg [(I 3),(I 1)]),(I 1),4),((.agg [(I 1),(I 0)]),(I 1),5),((.agg [(I 4),(I 5)]),(I 1),6),((.agg [(I 5),(I 7)]),(I 1),7),((.agg [(I 7),(I 4)]),(I 1),8),((.agg [(I 4),(I 7)]),(I 1),9),((.agg [(I 7),(I 6)]),(I 1),10),((.agg [(I 6),(I 4)]),(I 1),11),((.agg [(I 0),(I 1)]),(I 1),12),((.agg [(I 1),(I 5)]),(I 1),13),((.agg [(I 5),(I 0)]),(I 1),14),((.agg [(I 0),(I 5)]),(I 1),15),((.agg [(I 5),(I 4)]),(I 1),16),((.agg [(I 4),(I 0)]),(I 1),17),((.agg [(I 2),(I 6)]),(I 1),18),((.agg [(I 6),(I 7)]),(I 1),19),((.agg [(I 7),(I 2)]),(I 1),20),((.agg [(I 2),(I 7)]),(I 1),21),((.agg [(I 7),(I 3)]),(I 1),22),((.agg [(I 3),(I 2)]),(I 1),23),((.agg [(I 0),(I 4)]),(I 1),24),((.agg [(I 4),(I 6)]),(I 1),25),((.agg [(I 6),(I 0)]),(I 1),26),((.agg [(I 0),(I 6)]),(I 1),27),((.agg [(I 6),(I 2)]),(I 1),28),((.agg [(I 2),(I 0)]),(I 1),29),((.agg [(I 1),(I 3)]),(I 1),30),((.agg [(I 3),(I 7)]),(I 1),31),((.agg [(I 7),(I 1)]),(I 1),32),((.agg [(I 1),(I 7)]),(I 1),33),((.agg [(I 7),(I 5)]),(I 1),34),((.agg [(I 5),(I 1)]),(I 1),35)] 36))]⟩
theorem wCt0_s:wCt0.sem Tryz.prog:=hf_sem (k:=[wMc]) okMc (by kernel_rfl)
theorem wCt0_l:wCt0.ok Tryz.prog:=HF.ok_of_sem wCt0_s
noncomputable def wCt:WFact:=hfW 500 [wCt0]
theorem wCt_ok:wCt.ok Tryz.prog:=hfW_ok ⟨rfl,wCt0_l,trivial⟩
theorem okCt:∀x∈[wCt],x.ok Tryz.prog:=fun x hx=>by cases hx with|head=>exact wCt_ok|tail _ h=>cases h
def wBd0:HF:=⟨427,[(.agg [(.vsl 138 0 8 8 3 false),(.vsl 140 0 12 12 3 false)])],156,[(138,(.vec [(I 40),(I 40),(I 0),(I 80),(I 40),(I 0),(I 40),(I 80),(I 0),(I 80),(I 80),(I 0),(I 40),(I 40),(I 20),(I 80),(I 40),(I 20),(I 40),(I 80),(I 20),(I 80),(I 80),(I 20)])),(140,(.vec [(I 0),(I 2),(I 3),(I 0),(I 3),(I 1),(I 4),(I 5),(I 7),(I 4),(I 7),(I 6),(I 0),(I 1),(I 5),(I 0),(I 5),(I 4),(I 2),(I 6),(I 7),(I 2),(I 7),(I 3),(I 0),(I 4),(I 6),(I 0),(I 6),(I 2),(I 1),(I 3),(I 7),(I 1),(I 7),(I 5)]))],.nilS,328,[]⟩
def wBd_es:List (SV×SV×Nat):=[((.agg [(I 0),(I 2)]),(I 1),0),((.agg [(I 2),(I 3)]),(I 1),1),((.agg [(I 3),(I 0)]),(I 1),2),((.agg [(I 0),(I 3)]),(I 1),3),((.agg [(I 3),(I 1)]),(I 1),4),((.agg [(I 1),(I 0)]),(I 1),5),((.agg [(I 4),(I 5)]),(I 1),6),((.agg [(I 5),(I 7)]),(I 1),7),((.agg [(I 7),(I 4)]),(I 1),8),((.agg [(I 4),(I 7)]),(I 1),9),((.agg [(I 7),(I 6)]),(I 1),10),((.agg [(I 6),(I 4)]),(I 1),11),((.agg [(I 0),(I 1)]),(I 1),12),((.agg [(I 1),(I 5)]),(I 1),13),((.agg [(I 5),(I 0)]),(I 1),14),((.agg [(I 0),(I 5)]),(I 1),15),((.agg [(I 5),(I 4)]),(I 1),16),((.agg [(I 4),(I 0)]),(I 1),17),((.agg [(I 2),(I 6)]),(I 1),18),((.agg [(I 6),(I 7)]),(I 1),19),((.agg [(I 7),(I 2)]),(I 1),20),((.agg [(I 2),(I 7)]),(I 1),21),((.agg [(I 7),(I 3)]),(I 1),22),((.agg [(I 3),(I 2)]),(I 1),23),((.agg [(I 0),(I 4)]),(I 1),24),((.agg [(I 4),(I 6)]),(I 1),25),((.agg [(I 6),(I 0)]),(I 1),26),((.agg [(I 0),(I 6)]),(I 1),27),((.agg [(I 6),(I 2)]),(I 1),28),((.agg [(I 2),(I 0)]),(I 1),29),((.agg [(I 1),(I 3)]),(I 1),30),((.agg [(I 3),(I 7)]),(I 1),31),((.agg [(I 7),(I 1)]),(I 1),32),((.agg [(I 1),(I 7)]),(I 1),33),((.agg [(I 7),(I 5)]),(I 1),34),((.agg [(I 5),(I 1)]),(I 1),35)]
theorem wBd0_s:wBd0.sem Tryz.prog:=HF.sem_map (hKc (k:=[wCt]) okCt) 1000000 wBd0 (fn:=Tryz.f427) (body:=bodyO Tryz.f427) 4 10 11 [5,6,11,12,13,14,15,16,17,18,19,20,21,22,23,24,25] wBd_es 36 (by kernel_rfl) (by kernel_rfl) (by kernel_rfl) rfl
 (by kernel_rfl) (by kernel_rfl) (by kernel_rfl) (by kernel_rfl) (by kernel_rfl) (by kernel_rfl) (by kernel_rfl) (by kernel_rfl) (by kernel_rfl) (by kernel_rfl) (by kernel_rfl) (by kernel_rfl) (by kernel_rfl) (by kernel_rfl) (by kernel_rfl) (by kernel_rfl) (by kernel_rfl)
 (⟨fun s=>⟨by kernel_rfl,by kernel_rfl,by kernel_rfl,by kernel_rfl⟩,⟨fun s=>⟨by kernel_rfl,by kernel_rfl,by kernel_rfl,by kernel_rfl⟩,⟨fun s=>⟨by kernel_rfl,by kernel_rfl,by kernel_rfl,by kernel_rfl⟩,⟨fun s=>⟨by kernel_rfl,by kernel_rfl,by kernel_rfl,by kernel_rfl⟩,⟨fun s=>⟨by kernel_rfl,by kernel_rfl,by kernel_rfl,by kernel_rfl⟩,⟨fun s=>⟨by kernel_rfl,by kernel_rfl,by kernel_rfl,by kernel_rfl⟩,⟨fun s=>⟨by kernel_rfl,by kernel_rfl,by kernel_rfl,by kernel_rfl⟩,⟨fun s=>⟨by kernel_rfl,by kernel_rfl,by kernel_rfl,by kernel_rfl⟩,⟨fun s=>⟨by kernel_rfl,by kernel_rfl,by kernel_rfl,by kernel_rfl⟩,⟨fun s=>⟨by kernel_rfl,by kernel_rfl,by kernel_rfl,by kernel_rfl⟩,⟨fun s=>⟨by kernel_rfl,by kernel_rfl,by kernel_rfl,by kernel_rfl⟩,⟨fun s=>⟨by kernel_rfl,by kernel_rfl,by kernel_rfl,by kernel_rfl⟩,⟨fun s=>⟨by kernel_rfl,by kernel_rfl,by kernel_rfl,by kernel_rfl⟩,⟨fun s=>⟨by kernel_rfl,by kernel_rfl,by kernel_rfl,by kernel_rfl⟩,⟨fun s=>⟨by kernel_rfl,by kernel_rfl,by kernel_rfl,by kernel_rfl⟩,⟨fun s=>⟨by kernel_rfl,by kernel_rfl,by kernel_rfl,by kernel_rfl⟩,⟨fun s=>⟨by kernel_rfl,by kernel_rfl,by kernel_rfl,by kernel_rfl⟩,⟨fun s=>⟨by kernel_rfl,by kernel_rfl,by kernel_rfl,by kernel_rfl⟩,⟨fun s=>⟨by kernel_rfl,by kernel_rfl,by kernel_rfl,by kernel_rfl⟩,⟨fun s=>⟨by kernel_rfl,by kernel_rfl,by kernel_rfl,by kernel_rfl⟩,⟨fun s=>⟨by kernel_rfl,by kernel_rfl,by kernel_rfl,by kernel_rfl⟩,⟨fun s=>⟨by kernel_rfl,by kernel_rfl,by kernel_rfl,by kernel_rfl⟩,⟨fun s=>⟨by kernel_rfl,by kernel_rfl,by kernel_rfl,by kernel_rfl⟩,⟨fun s=>⟨by kernel_rfl,by kernel_rfl,by kernel_rfl,by kernel_rfl⟩,⟨fun s=>⟨by kernel_rfl,by kernel_rfl,by kernel_rfl,by kernel_rfl⟩,⟨fun s=>⟨by kernel_rfl,by kernel_rfl,by kernel_rfl,by kernel_rfl⟩,⟨fun s=>⟨by kernel_rfl,by kernel_rfl,by kernel_rfl,by kernel_rfl⟩,⟨fun s=>⟨by kernel_rfl,by kernel_rfl,by kernel_rfl,by kernel_rfl⟩,⟨fun s=>⟨by kernel_rfl,by kernel_rfl,by kernel_rfl,by kernel_rfl⟩,⟨fun s=>⟨by kernel_rfl,by kernel_rfl,by kernel_rfl,by kernel_rfl⟩,⟨fun s=>⟨by kernel_rfl,by kernel_rfl,by kernel_rfl,by kernel_rfl⟩,⟨fun s=>⟨by kernel_rfl,by kernel_rfl,by kernel_rfl,by kernel_rfl⟩,⟨fun s=>⟨by kernel_rfl,by kernel_rfl,by kernel_rfl,by kernel_rfl⟩,⟨fun s=>⟨by kernel_rfl,by kernel_rfl,by kernel_rfl,by kernel_rfl⟩,⟨fun s=>⟨by kernel_rfl,by kernel_rfl,by kernel_rfl,by kernel_rfl⟩,⟨fun s=>⟨by kernel_rfl,by kernel_rfl,by kernel_rfl,by kernel_rfl⟩,trivial⟩⟩⟩⟩⟩⟩⟩⟩⟩⟩⟩⟩⟩⟩⟩⟩⟩⟩⟩⟩⟩⟩⟩⟩⟩⟩⟩⟩⟩⟩⟩⟩⟩⟩⟩⟩) (by kernel_rfl)
theorem wBd0_l:wBd0.okL Tryz.prog:=HF.okL_of_sem wBd0_s (by kernel_rfl)
noncomputable def wBd:WFact:=hlW 427 [wBd0]
theorem wBd_ok:wBd.ok Tryz.prog:=hlW_ok ⟨rfl,wBd0_l,trivial⟩
theorem hCe0:(cells1F 1223 1221 1457).ok Tryz.prog:=HF.ok_of_sem (cells1_sem 1223 1221 1457 (by decide) (by decide) (by decide))
noncomputable def wCe:WFact:=⟨546,fun args m=>match args with
 |[.agg [.nilS]] =>some (.leaf (.nilS,m))
 |args=>hfRun args m [cells1F 1223 1221 1457]⟩
theorem wCe_ok:wCe.ok Tryz.prog:=by
 intro args m t ht
 simp only[wCe]at ht
 split at ht
 ·injection ht with ht;subst ht
  exact cells0_s m
 ·exact hfW_ok (f:=546) (l:=[cells1F 1223 1221 1457]) ⟨rfl,hCe0,trivial⟩ _ m t ht
noncomputable def kBase:List WFact:=[wCe,wBl,wBd,wMc,wKv,wFv]
theorem ok_kBase:∀x∈kBase,x.ok Tryz.prog:=by
 intro x hx
 simp only[kBase,List.mem_cons,List.not_mem_nil,or_false]at hx
 rcases hx with rfl|rfl|rfl|rfl|rfl|rfl
 ·exact wCe_ok
 ·exact wBl_ok
 ·exact wBd_ok
 ·exact wMc_ok
 ·exact wKv_ok
 ·exact wFv_ok
def wOrCoh0:HF:=⟨355,[(.agg [(.vsl 138 0 8 8 3 false),(.vsl 140 0 12 12 3 false)])],156,[(138,(.vec [(I 40),(I 40),(I 0),(I 80),(I 40),(I 0),(I 40),(I 80),(I 0),(I 80),(I 80),(I 0),(I 40),(I 40),(I 20),(I 80),(I 40),(I 20),(I 40),(I 80),(I 20),(I 80),(I 80),(I 20)])),(140,(.vec [(I 0),(I 2),(I 3),(I 0),(I 3),(I 1),(I 4),(I 5),(I 7),(I 4),(I 7),(I 6),(I 0),(I 1),(I 5),(I 0),(I 5),(I 4),(I 2),(I 6),(I 7),(I 2),(I 7),(I 3),(I 0),(I 4),(I 6),(I 0),(I 6),(I 2),(I 1),(I 3),(I 7),(I 1),(I 7),(I 5)]))],(.bool true),326,[]⟩
theorem wOrCoh0_s:wOrCoh0.sem Tryz.prog:=hf_sem (k:=kBase) ok_kBase (by kernel_rfl)
theorem wOrCoh0_l:wOrCoh0.okL Tryz.prog:=HF.okL_of_sem wOrCoh0_s (by kernel_rfl)
noncomputable def wOrCoh:WFact:=hlW 355 [wOrCoh0]
theorem wOrCoh_ok:wOrCoh.ok Tryz.prog:=hlW_ok ⟨rfl,wOrCoh0_l,trivial⟩
noncomputable def kwOrCoh:List WFact:=wOrCoh::kBase
theorem ok_kwOrCoh:∀x∈kwOrCoh,x.ok Tryz.prog:=List.forall_mem_cons.2 ⟨wOrCoh_ok,ok_kBase⟩
def wMeVol0:HF:=⟨432,[(.agg [(.vsl 138 0 8 8 3 false),(.vsl 821 0 12 12 3 false)])],822,[(138,(.vec [(I 40),(I 40),(I 0),(I 80),(I 40),(I 0),(I 40),(I 80),(I 0),(I 80),(I 80),(I 0),(I 40),(I 40),(I 20),(I 80),(I 40),(I 20),(I 40),(I 80),(I 20),(I 80),(I 80),(I 20)])),(821,(.vec [(I 0),(I 2),(I 3),(I 0),(I 3),(I 1),(I 4),(I 5),(I 7),(I 4),(I 7),(I 6),(I 0),(I 1),(I 5),(I 0),(I 5),(I 4),(I 2),(I 6),(I 7),(I 2),(I 7),(I 3),(I 0),(I 4),(I 6),(I 0),(I 6),(I 2),(I 1),(I 3),(I 7),(I 1),(I 7),(I 5)]))],(I 192000),835,[]⟩
theorem wMeVol0_s:wMeVol0.sem Tryz.prog:=hf_sem (k:=kwOrCoh) ok_kwOrCoh (by kernel_rfl)
theorem wMeVol0_l:wMeVol0.okL Tryz.prog:=HF.okL_of_sem wMeVol0_s (by kernel_rfl)
noncomputable def wMeVol:WFact:=hlW 432 [wMeVol0]
theorem wMeVol_ok:wMeVol.ok Tryz.prog:=hlW_ok ⟨rfl,wMeVol0_l,trivial⟩
noncomputable def kwMeVol:List WFact:=wMeVol::kwOrCoh
theorem ok_kwMeVol:∀x∈kwMeVol,x.ok Tryz.prog:=List.forall_mem_cons.2 ⟨wMeVol_ok,ok_kwOrCoh⟩
def wToShe0:HF:=⟨431,[(.agg [(.vsl 138 0 8 8 3 false),(.vsl 140 0 12 12 3 false)])],301,[(138,(.vec [(I 40),(I 40),(I 0),(I 80),(I 40),(I 0),(I 40),(I 80),(I 0),(I 80),(I 80),(I 0),(I 40),(I 40),(I 20),(I 80),(I 40),(I 20),(I 40),(I 80),(I 20),(I 80),(I 80),(I 20)])),(140,(.vec [(I 0),(I 2),(I 3),(I 0),(I 3),(I 1),(I 4),(I 5),(I 7),(I 4),(I 7),(I 6),(I 0),(I 1),(I 5),(I 0),(I 5),(I 4),(I 2),(I 6),(I 7),(I 2),(I 7),(I 3),(I 0),(I 4),(I 6),(I 0),(I 6),(I 2),(I 1),(I 3),(I 7),(I 1),(I 7),(I 5)]))],(.vsl 796 0 1 1 1 false),797,[(796,(.vec [(.vsl 734 0 12 12 1 false)])),(734,(.vec [(I 0),(I 1),(I 2),(I 3),(I 4),(I 5),(I 6),(I 7),(I 8),(I 9),(I 10),(I 11)]))]⟩
theorem wToShe0_s:wToShe0.sem Tryz.prog:=hf_sem (k:=kwMeVol) ok_kwMeVol (by kernel_rfl)
theorem wToShe0_l:wToShe0.ok Tryz.prog:=HF.ok_of_sem wToShe0_s
noncomputable def wToShe:WFact:=hfW 431 [wToShe0]
theorem wToShe_ok:wToShe.ok Tryz.prog:=hfW_ok ⟨rfl,wToShe0_l,trivial⟩
noncomputable def kwToShe:List WFact:=wToShe::kwMeVol
theorem ok_kwToShe:∀x∈kwToShe,x.ok Tryz.prog:=List.forall_mem_cons.2 ⟨wToShe_ok,ok_kwMeVol⟩
def wReChe0:HF:=⟨285,[(.agg [(.vsl 138 0 8 8 3 false),(.vsl 140 0 12 12 3 false)])],154,[(138,(.vec [(I 40),(I 40),(I 0),(I 80),(I 40),(I 0),(I 40),(I 80),(I 0),(I 80),(I 80),(I 0),(I 40),(I 40),(I 20),(I 80),(I 40),(I 20),(I 40),(I 80),(I 20),(I 80),(I 80),(I 20)])),(140,(.vec [(I 0),(I 2),(I 3),(I 0),(I 3),(I 1),(I 4),(I 5),(I 7),(I 4),(I 7),(I 6),(I 0),(I 1),(I 5),(I 0),(I 5),(I 4),(I 2),(I 6),(I 7),(I 2),(I 7),(I 3),(I 0),(I 4),(I 6),(I 0),(I 6),(I 2),(I 1),(I 3),(I 7),(I 1),(I 7),(I 5)]))],(I 0),822,[]⟩
theorem wReChe0_s:wReChe0.sem Tryz.prog:=hf_sem (k:=kwToShe) ok_kwToShe (by kernel_rfl)
theorem wReChe0_l:wReChe0.okL Tryz.prog:=HF.okL_of_sem wReChe0_s (by kernel_rfl)
noncomputable def wReChe:WFact:=hlW 285 [wReChe0]
theorem wReChe_ok:wReChe.ok Tryz.prog:=hlW_ok ⟨rfl,wReChe0_l,trivial⟩
noncomputable def kwReChe:List WFact:=wReChe::kwToShe
theorem ok_kwReChe:∀x∈kwReChe,x.ok Tryz.prog:=List.forall_mem_cons.2 ⟨wReChe_ok,ok_kwToShe⟩
def wSeCut0:HF:=⟨359,[(.agg [(.vsl 138 0 8 8 3 false),(.vsl 140 0 12 12 3 false)]),(I 10)],175,[(138,(.vec [(I 40),(I 40),(I 0),(I 80),(I 40),(I 0),(I 40),(I 80),(I 0),(I 80),(I 80),(I 0),(I 40),(I 40),(I 20),(I 80),(I 40),(I 20),(I 40),(I 80),(I 20),(I 80),(I 80),(I 20)])),(140,(.vec [(I 0),(I 2),(I 3),(I 0),(I 3),(I 1),(I 4),(I 5),(I 7),(I 4),(I 7),(I 6),(I 0),(I 1),(I 5),(I 0),(I 5),(I 4),(I 2),(I 6),(I 7),(I 2),(I 7),(I 3),(I 0),(I 4),(I 6),(I 0),(I 6),(I 2),(I 1),(I 3),(I 7),(I 1),(I 7),(I 5)]))],(.tuple [(.vsl 983 0 8 8 4 false),(I 0)]),984,[(983,(.vec [(I 61),(I 40),(I 80),(I 40),(I 40),(I 40),(I 61),(I 40),(I 61),(I 80),(I 40),(I 80),(I 80),(I 80),(I 61),(I 80),(I 40),(I 61),(I 40),(I 40),(I 40),(I 80),(I 40),(I 61),(I 80),(I 61),(I 80),(I 80),(I 80),(I 40),(I 80),(I 61)]))]⟩
theorem wSeCut0_s:wSeCut0.sem Tryz.prog:=hf_sem (k:=kwReChe) ok_kwReChe (by kernel_rfl)
theorem wSeCut0_l:wSeCut0.ok Tryz.prog:=HF.ok_of_sem wSeCut0_s
noncomputable def wSeCut:WFact:=hfW 359 [wSeCut0]
theorem wSeCut_ok:wSeCut.ok Tryz.prog:=hfW_ok ⟨rfl,wSeCut0_l,trivial⟩
noncomputable def kwSeCut:List WFact:=wSeCut::kwReChe
theorem ok_kwSeCut:∀x∈kwSeCut,x.ok Tryz.prog:=List.forall_mem_cons.2 ⟨wSeCut_ok,ok_kwReChe⟩
def wStSli0:HF:=⟨161,[(.vsl 136 0 1 1 2 false),(.agg [(I 40),(I 20),(I 1),(I 1),(I 1),(I 0),(I 2),(.bool false),(I 0),(I 0),(I 0),(I 0),(I 8000),(I 4000),(I 8000),(I 2),(I 0),(I 40),(I 180000),(I 0)])],150,[(136,(.vec [(.vsl 138 0 8 8 3 false),(.vsl 140 0 12 12 3 false)])),(138,(.vec [(I 40),(I 40),(I 0),(I 80),(I 40),(I 0),(I 40),(I 80),(I 0),(I 80),(I 80),(I 0),(I 40),(I 40),(I 20),(I 80),(I 40),(I 20),(I 40),(I 80),(I 20),(I 80),(I 80),(I 20)])),(140,(.vec [(I 0),(I 2),(I 3),(I 0),(I 3),(I 1),(I 4),(I 5),(I 7),(I 4),(I 7),(I 6),(I 0),(I 1),(I 5),(I 0),(I 5),(I 4),(I 2),(I 6),(I 7),(I 2),(I 7),(I 3),(I 0),(I 4),(I 6),(I 0),(I 6),(I 2),(I 1),(I 3),(I 7),(I 1),(I 7),(I 5)]))],(.tuple [(.vsl 1183 0 1 1 1 false),(I 0)]),1224,[(1183,(.vec [(.vsl 1223 0 1 1 2 false)])),(1223,(.vec [(I 1),(.vsl 1221 0 1 1 2 false)])),(1221,(.vec [(I 1),(I 2)]))]⟩
theorem wStSli0_s:wStSli0.sem Tryz.prog:=hf_sem (k:=kwSeCut) ok_kwSeCut (by kernel_rfl)
theorem wStSli0_l:wStSli0.ok Tryz.prog:=HF.ok_of_sem wStSli0_s
noncomputable def wStSli:WFact:=hfW 161 [wStSli0]
theorem wStSli_ok:wStSli.ok Tryz.prog:=hfW_ok ⟨rfl,wStSli0_l,trivial⟩
noncomputable def kwStSli:List WFact:=wStSli::kwSeCut
theorem ok_kwStSli:∀x∈kwStSli,x.ok Tryz.prog:=List.forall_mem_cons.2 ⟨wStSli_ok,ok_kwSeCut⟩
def wLaTra0:HF:=⟨228,[(.vsl 1183 0 1 1 1 false),(.vsl 1224 0 1 1 1 true),(I 0),(.agg [(I 40),(I 20),(I 1),(I 1),(I 1),(I 0),(I 2),(.bool false),(I 0),(I 0),(I 0),(I 0),(I 8000),(I 4000),(I 8000),(I 2),(I 0),(I 40),(I 180000),(I 0)])],1228,[(1183,(.vec [(.vsl 1223 0 1 1 2 false)])),(1224,(.vec [.nilS])),(1223,(.vec [(I 1),(.vsl 1221 0 1 1 2 false)])),(1221,(.vec [(I 1),(I 2)]))],(.tuple [(.vsl 1515 0 1 1 3 false),(I 0)]),1516,[(1515,(.vec [(I 2),(.bool false),(.vsl 1513 0 1 1 2 false)])),(1513,(.vec [(I 1),(I 1)]))]⟩
theorem wLaTra0_s:wLaTra0.sem Tryz.prog:=hf_sem (k:=kwStSli) ok_kwStSli (by kernel_rfl)
theorem wLaTra0_l:wLaTra0.ok Tryz.prog:=HF.ok_of_sem wLaTra0_s
noncomputable def wLaTra:WFact:=hfW 228 [wLaTra0]
theorem wLaTra_ok:wLaTra.ok Tryz.prog:=hfW_ok ⟨rfl,wLaTra0_l,trivial⟩
noncomputable def kwLaTra:List WFact:=wLaTra::kwStSli
theorem ok_kwLaTra:∀x∈kwLaTra,x.ok Tryz.prog:=List.forall_mem_cons.2 ⟨wLaTra_ok,ok_kwStSli⟩
def wToPat0:HF:=⟨163,[(.vsl 1183 0 1 1 1 false),(.vsl 1224 0 1 1 1 true),(.agg [(I 40),(I 20),(I 1),(I 1),(I 1),(I 0),(I 2),(.bool false),(I 0),(I 0),(I 0),(I 0),(I 8000),(I 4000),(I 8000),(I 2),(I 0),(I 40),(I 180000),(I 0)])],1225,[(1183,(.vec [(.vsl 1223 0 1 1 2 false)])),(1224,(.vec [.nilS])),(1223,(.vec [(I 1),(.vsl 1221 0 1 1 2 false)])),(1221,(.vec [(I 1),(I 2)]))],(.tuple [(.vsl 1690 0 6 6 6 false),(I 0)]),1691,[(1690,(.vec [(I 1),(I 0),(I 0),(I 20),(I 0),.nilS,(I 6),(I 0),(I 0),(I 0),(I 0),.nilS,(I 4),(I 0),(I 0),(I 0),(I 0),.nilS,(I 2),(I 0),(I 0),(I 0),(I 200),(.vsl 1623 0 2 2 2 false),(I 5),(I 0),(I 0),(I 0),(I 0),.nilS,(I 3),(I 2),(I 0),(I 0),(I 100),(.vsl 1625 0 1 1 2 false)])),(1623,(.vec [(I 1),(I 0),(I 1),(I 1)])),(1625,(.vec [(I 1),(I 1)]))]⟩
theorem wToPat0_s:wToPat0.sem Tryz.prog:=hf_sem (k:=kwLaTra) ok_kwLaTra (by kernel_rfl)
theorem wToPat0_l:wToPat0.ok Tryz.prog:=HF.ok_of_sem wToPat0_s
noncomputable def wToPat:WFact:=hfW 163 [wToPat0]
theorem wToPat_ok:wToPat.ok Tryz.prog:=hfW_ok ⟨rfl,wToPat0_l,trivial⟩
noncomputable def kwToPat:List WFact:=wToPat::kwLaTra
theorem ok_kwToPat:∀x∈kwToPat,x.ok Tryz.prog:=List.forall_mem_cons.2 ⟨wToPat_ok,ok_kwLaTra⟩
def wEmCom0:HF:=⟨124,[(.vsl 1690 0 6 6 6 false),(.agg [(I 40),(I 20),(I 1),(I 1),(I 1),(I 0),(I 2),(.bool false),(I 0),(I 0),(I 0),(I 0),(I 8000),(I 4000),(I 8000),(I 2),(I 0),(I 40),(I 180000),(I 0)])],1691,[(1690,(.vec [(I 1),(I 0),(I 0),(I 20),(I 0),.nilS,(I 6),(I 0),(I 0),(I 0),(I 0),.nilS,(I 4),(I 0),(I 0),(I 0),(I 0),.nilS,(I 2),(I 0),(I 0),(I 0),(I 200),(.vsl 1623 0 2 2 2 false),(I 5),(I 0),(I 0),(I 0),(I 0),.nilS,(I 3),(I 2),(I 0),(I 0),(I 100),(.vsl 1625 0 1 1 2 false)])),(1623,(.vec [(I 1),(I 0),(I 1),(I 1)])),(1625,(.vec [(I 1),(I 1)]))],(.tuple [(.vsl 1763 0 7 7 8 false),(I 0)]),1764,[(1763,(.vec [(I 0),(I 20),(I 0),(I 0),(I 20),(I 0),(I 8000),(I 0),(I 1107),(I 0),(I 0),(I 0),(I 0),(I 0),(I 0),(I 0),(I 1),(I 8),(I 0),(I 0),(I 0),(I (-2)),(I 0),(I 0),(I 0),(I 3),(I 60),(I 20),(I 0),(I 0),(I 0),(I 0),(I 0),(I 3),(I 60),(I 60),(I 0),(I 0),(I 0),(I 0),(I 1),(I 8),(I 0),(I 0),(I 0),(I 0),(I 0),(I 0),(I 1),(I 24),(I 0),(I 0),(I 0),(I 4),(I 4000),(I 0)]))]⟩
theorem wEmCom0_s:wEmCom0.sem Tryz.prog:=hf_sem (k:=kwToPat) ok_kwToPat (by kernel_rfl)
theorem wEmCom0_l:wEmCom0.ok Tryz.prog:=HF.ok_of_sem wEmCom0_s
noncomputable def wEmCom:WFact:=hfW 124 [wEmCom0]
theorem wEmCom_ok:wEmCom.ok Tryz.prog:=hfW_ok ⟨rfl,wEmCom0_l,trivial⟩
noncomputable def kwEmCom:List WFact:=wEmCom::kwToPat
theorem ok_kwEmCom:∀x∈kwEmCom,x.ok Tryz.prog:=List.forall_mem_cons.2 ⟨wEmCom_ok,ok_kwToPat⟩
def wJoPro0:HF:=⟨92,[(.vsl 136 0 1 1 2 false),(.agg [(I 40),(I 20),(I 1),(I 1),(I 1),(I 0),(I 2),(.bool false),(I 0),(I 0),(I 0),(I 0),(I 8000),(I 4000),(I 8000),(I 2),(I 0),(I 40),(I 180000),(I 0)]),(.agg [(I 1),(I 1),(I 1000),(I 100000),(I 200),(I (-20000)),(I 20000),(I 1),(I 1),(I 1000),(I 100000),(I 200),(I (-20000)),(I 20000),(I 1),(I 1),(I 1000),(I 100000),(I 200),(I (-20000)),(I 20000),(I 1),(I 1),(I 1000),(I 100000),(I 200),(I (-20000)),(I 20000),(.bool false),(I 1000)])],145,[(136,(.vec [(.vsl 138 0 8 8 3 false),(.vsl 140 0 12 12 3 false)])),(138,(.vec [(I 40),(I 40),(I 0),(I 80),(I 40),(I 0),(I 40),(I 80),(I 0),(I 80),(I 80),(I 0),(I 40),(I 40),(I 20),(I 80),(I 40),(I 20),(I 40),(I 80),(I 20),(I 80),(I 80),(I 20)])),(140,(.vec [(I 0),(I 2),(I 3),(I 0),(I 3),(I 1),(I 4),(I 5),(I 7),(I 4),(I 7),(I 6),(I 0),(I 1),(I 5),(I 0),(I 5),(I 4),(I 2),(I 6),(I 7),(I 2),(I 7),(I 3),(I 0),(I 4),(I 6),(I 0),(I 6),(I 2),(I 1),(I 3),(I 7),(I 1),(I 7),(I 5)]))],(.tuple [(.vsl 1795 0 15 15 8 false),(.vsl 1183 0 1 1 1 false),(I 0)]),1819,[(1795,(.vec [(I 1140),(I 32),(I 0),(I 0),(I 0),(I 0),(I 0),(I 0),(I 1104),(I 32),(I 0),(I 0),(I 0),(I 0),(I 0),(I 180000),(I 28),(I 0),(I 0),(I 0),(I 0),(I 0),(I 0),(I 0),(I 1190),(I 32),(I 0),(I 0),(I 0),(I 0),(I 0),(I 0),(I 1109),(I 32),(I 0),(I 0),(I 0),(I 0),(I 0),(I 180000),(I 0),(I 20),(I 0),(I 0),(I 20),(I 0),(I 8000),(I 0),(I 1107),(I 0),(I 0),(I 0),(I 0),(I 0),(I 0),(I 0),(I 1),(I 8),(I 0),(I 0),(I 0),(I (-2)),(I 0),(I 0),(I 0),(I 3),(I 60),(I 20),(I 0),(I 0),(I 0),(I 0),(I 0),(I 3),(I 60),(I 60),(I 0),(I 0),(I 0),(I 0),(I 1),(I 8),(I 0),(I 0),(I 0),(I 0),(I 0),(I 0),(I 1),(I 24),(I 0),(I 0),(I 0),(I 4),(I 4000),(I 0),(I 1107),(I 0),(I 0),(I 0),(I 0),(I 0),(I 0),(I 0),(I 1104),(I 32),(I 0),(I 0),(I 0),(I 0),(I 0),(I 0),(I 1140),(I 32),(I 0),(I 0),(I 0),(I 0),(I 0),(I 0)])),(1183,(.vec [(.vsl 1223 0 1 1 2 false)])),(1223,(.vec [(I 1),(.vsl 1221 0 1 1 2 false)])),(1221,(.vec [(I 1),(I 2)]))]⟩
theorem wJoPro0_s:wJoPro0.sem Tryz.prog:=hf_sem (k:=kwEmCom) ok_kwEmCom (by kernel_rfl)
theorem wJoPro0_l:wJoPro0.ok Tryz.prog:=HF.ok_of_sem wJoPro0_s
noncomputable def wJoPro:WFact:=hfW 92 [wJoPro0]
theorem wJoPro_ok:wJoPro.ok Tryz.prog:=hfW_ok ⟨rfl,wJoPro0_l,trivial⟩
noncomputable def kwJoPro:List WFact:=wJoPro::kwEmCom
theorem ok_kwJoPro:∀x∈kwJoPro,x.ok Tryz.prog:=List.forall_mem_cons.2 ⟨wJoPro_ok,ok_kwEmCom⟩
def wGcPri0:HF:=⟨93,[(.agg [(I 1140),(I 32),(I 0),(I 0),(I 0),(I 0),(I 0),(I 0)])],1821,[],(.tuple [(.str [77,49,52,48,32,83,48]),(I 0)]),1828,[]⟩
theorem wGcPri0_s:wGcPri0.sem Tryz.prog:=hf_sem (k:=kwJoPro) ok_kwJoPro (by kernel_rfl)
theorem wGcPri0_l:wGcPri0.okL Tryz.prog:=HF.okL_of_sem wGcPri0_s (by kernel_rfl)
def wGcPri1:HF:=⟨93,[(.agg [(I 1104),(I 32),(I 0),(I 0),(I 0),(I 0),(I 0),(I 180000)])],1822,[],(.tuple [(.str [77,49,48,52,32,83,49,56,48,48,48,48]),(I 0)]),1829,[]⟩
theorem wGcPri1_s:wGcPri1.sem Tryz.prog:=hf_sem (k:=kwJoPro) ok_kwJoPro (by kernel_rfl)
theorem wGcPri1_l:wGcPri1.okL Tryz.prog:=HF.okL_of_sem wGcPri1_s (by kernel_rfl)
def wGcPri2:HF:=⟨93,[(.agg [(I 28),(I 0),(I 0),(I 0),(I 0),(I 0),(I 0),(I 0)])],1823,[],(.tuple [(.str [71,50,56]),(I 0)]),1828,[]⟩
theorem wGcPri2_s:wGcPri2.sem Tryz.prog:=hf_sem (k:=kwJoPro) ok_kwJoPro (by kernel_rfl)
theorem wGcPri2_l:wGcPri2.okL Tryz.prog:=HF.okL_of_sem wGcPri2_s (by kernel_rfl)
def wGcPri3:HF:=⟨93,[(.agg [(I 1190),(I 32),(I 0),(I 0),(I 0),(I 0),(I 0),(I 0)])],1824,[],(.tuple [(.str [77,49,57,48,32,83,48]),(I 0)]),1831,[]⟩
theorem wGcPri3_s:wGcPri3.sem Tryz.prog:=hf_sem (k:=kwJoPro) ok_kwJoPro (by kernel_rfl)
theorem wGcPri3_l:wGcPri3.okL Tryz.prog:=HF.okL_of_sem wGcPri3_s (by kernel_rfl)
def wGcPri4:HF:=⟨93,[(.agg [(I 1109),(I 32),(I 0),(I 0),(I 0),(I 0),(I 0),(I 180000)])],1825,[],(.tuple [(.str [77,49,48,57,32,83,49,56,48,48,48,48]),(I 0)]),1832,[]⟩
theorem wGcPri4_s:wGcPri4.sem Tryz.prog:=hf_sem (k:=kwJoPro) ok_kwJoPro (by kernel_rfl)
theorem wGcPri4_l:wGcPri4.okL Tryz.prog:=HF.okL_of_sem wGcPri4_s (by kernel_rfl)
def wGcPri5:HF:=⟨93,[(.agg [(I 0),(I 20),(I 0),(I 0),(I 20),(I 0),(I 8000),(I 0)])],1826,[],(.tuple [(.str [71,48,32,90,50,48,32,70,56,48,48,48]),(I 0)]),1829,[]⟩
theorem wGcPri5_s:wGcPri5.sem Tryz.prog:=hf_sem (k:=kwJoPro) ok_kwJoPro (by kernel_rfl)
theorem wGcPri5_l:wGcPri5.okL Tryz.prog:=HF.okL_of_sem wGcPri5_s (by kernel_rfl)
def wGcPri6:HF:=⟨93,[(.agg [(I 1107),(I 0),(I 0),(I 0),(I 0),(I 0),(I 0),(I 0)])],1827,[],(.tuple [(.str [77,49,48,55]),(I 0)]),1834,[]⟩
theorem wGcPri6_s:wGcPri6.sem Tryz.prog:=hf_sem (k:=kwJoPro) ok_kwJoPro (by kernel_rfl)
theorem wGcPri6_l:wGcPri6.okL Tryz.prog:=HF.okL_of_sem wGcPri6_s (by kernel_rfl)
def wGcPri7:HF:=⟨93,[(.agg [(I 1),(I 8),(I 0),(I 0),(I 0),(I (-2)),(I 0),(I 0)])],1828,[],(.tuple [(.str [71,49,32,69,45,50]),(I 0)]),1831,[]⟩
theorem wGcPri7_s:wGcPri7.sem Tryz.prog:=hf_sem (k:=kwJoPro) ok_kwJoPro (by kernel_rfl)
theorem wGcPri7_l:wGcPri7.okL Tryz.prog:=HF.okL_of_sem wGcPri7_s (by kernel_rfl)
def wGcPri8:HF:=⟨93,[(.agg [(I 0),(I 3),(I 60),(I 20),(I 0),(I 0),(I 0),(I 0)])],1829,[],(.tuple [(.str [71,48,32,88,54,48,32,89,50,48]),(I 0)]),1832,[]⟩
theorem wGcPri8_s:wGcPri8.sem Tryz.prog:=hf_sem (k:=kwJoPro) ok_kwJoPro (by kernel_rfl)
theorem wGcPri8_l:wGcPri8.okL Tryz.prog:=HF.okL_of_sem wGcPri8_s (by kernel_rfl)
def wGcPri9:HF:=⟨93,[(.agg [(I 0),(I 3),(I 60),(I 60),(I 0),(I 0),(I 0),(I 0)])],1830,[],(.tuple [(.str [71,48,32,88,54,48,32,89,54,48]),(I 0)]),1833,[]⟩
theorem wGcPri9_s:wGcPri9.sem Tryz.prog:=hf_sem (k:=kwJoPro) ok_kwJoPro (by kernel_rfl)
theorem wGcPri9_l:wGcPri9.okL Tryz.prog:=HF.okL_of_sem wGcPri9_s (by kernel_rfl)
def wGcPri10:HF:=⟨93,[(.agg [(I 1),(I 8),(I 0),(I 0),(I 0),(I 0),(I 0),(I 0)])],1831,[],(.tuple [(.str [71,49,32,69,48]),(I 0)]),1834,[]⟩
theorem wGcPri10_s:wGcPri10.sem Tryz.prog:=hf_sem (k:=kwJoPro) ok_kwJoPro (by kernel_rfl)
theorem wGcPri10_l:wGcPri10.okL Tryz.prog:=HF.okL_of_sem wGcPri10_s (by kernel_rfl)
def wGcPri11:HF:=⟨93,[(.agg [(I 1),(I 24),(I 0),(I 0),(I 0),(I 4),(I 4000),(I 0)])],1832,[],(.tuple [(.str [71,49,32,69,52,32,70,52,48,48,48]),(I 0)]),1835,[]⟩
theorem wGcPri11_s:wGcPri11.sem Tryz.prog:=hf_sem (k:=kwJoPro) ok_kwJoPro (by kernel_rfl)
theorem wGcPri11_l:wGcPri11.okL Tryz.prog:=HF.okL_of_sem wGcPri11_s (by kernel_rfl)
def wGcPri12:HF:=⟨93,[(.agg [(I 1104),(I 32),(I 0),(I 0),(I 0),(I 0),(I 0),(I 0)])],1834,[],(.tuple [(.str [77,49,48,52,32,83,48]),(I 0)]),1841,[]⟩
theorem wGcPri12_s:wGcPri12.sem Tryz.prog:=hf_sem (k:=kwJoPro) ok_kwJoPro (by kernel_rfl)
theorem wGcPri12_l:wGcPri12.okL Tryz.prog:=HF.okL_of_sem wGcPri12_s (by kernel_rfl)
noncomputable def wGcPri:WFact:=hlW 93 [wGcPri0,wGcPri1,wGcPri2,wGcPri3,wGcPri4,wGcPri5,wGcPri6,wGcPri7,wGcPri8,wGcPri9,wGcPri10,wGcPri11,wGcPri12]
theorem wGcPri_ok:wGcPri.ok Tryz.prog:=hlW_ok ⟨rfl,wGcPri0_l,rfl,wGcPri1_l,rfl,wGcPri2_l,rfl,wGcPri3_l,rfl,wGcPri4_l,rfl,wGcPri5_l,rfl,wGcPri6_l,rfl,wGcPri7_l,rfl,wGcPri8_l,rfl,wGcPri9_l,rfl,wGcPri10_l,rfl,wGcPri11_l,rfl,wGcPri12_l,trivial⟩
noncomputable def kwGcPri:List WFact:=wGcPri::kwJoPro
theorem ok_kwGcPri:∀x∈kwGcPri,x.ok Tryz.prog:=List.forall_mem_cons.2 ⟨wGcPri_ok,ok_kwJoPro⟩
def wLiSta0:HF:=⟨94,[(.vsl 1819 0 15 15 1 true),(I 4)],1835,[(1819,(.vec [(.str [77,49,52,48,32,83,48]),(.str [77,49,48,52,32,83,49,56,48,48,48,48]),(.str [71,50,56]),(.str [77,49,57,48,32,83,48]),(.str [77,49,48,57,32,83,49,56,48,48,48,48]),(.str [71,48,32,90,50,48,32,70,56,48,48,48]),(.str [77,49,48,55]),(.str [71,49,32,69,45,50]),(.str [71,48,32,88,54,48,32,89,50,48]),(.str [71,48,32,88,54,48,32,89,54,48]),(.str [71,49,32,69,48]),(.str [71,49,32,69,52,32,70,52,48,48,48]),(.str [77,49,48,55]),(.str [77,49,48,52,32,83,48]),(.str [77,49,52,48,32,83,48])]))],(.tuple [(.agg [(.vsl 1839 0 15 15 1 false),(I 1),(I 1),(I 4),(I 0),(I 0)]),(I 0)]),1840,[(1839,(.vec [(.str [77,49,52,48,32,83,48]),(.str [77,49,48,52,32,83,49,56,48,48,48,48]),(.str [71,50,56]),(.str [77,49,57,48,32,83,48]),(.str [77,49,48,57,32,83,49,56,48,48,48,48]),(.str [71,48,32,90,50,48,32,70,56,48,48,48]),(.str [77,49,48,55]),(.str [71,49,32,69,45,50]),(.str [71,48,32,88,54,48,32,89,50,48]),(.str [71,48,32,88,54,48,32,89,54,48]),(.str [71,49,32,69,48]),(.str [71,49,32,69,52,32,70,52,48,48,48]),(.str [77,49,48,55]),(.str [77,49,48,52,32,83,48]),(.str [77,49,52,48,32,83,48])]))]⟩
theorem wLiSta0_s:wLiSta0.sem Tryz.prog:=hf_sem (k:=kwGcPri) ok_kwGcPri (by kernel_rfl)
theorem wLiSta0_l:wLiSta0.ok Tryz.prog:=HF.ok_of_sem wLiSta0_s
noncomputable def wLiSta:WFact:=hfW 94 [wLiSta0]
theorem wLiSta_ok:wLiSta.ok Tryz.prog:=hfW_ok ⟨rfl,wLiSta0_l,trivial⟩
noncomputable def kwLiSta:List WFact:=wLiSta::kwGcPri
theorem ok_kwLiSta:∀x∈kwLiSta,x.ok Tryz.prog:=List.forall_mem_cons.2 ⟨wLiSta_ok,ok_kwGcPri⟩
def wFiVal0:HF:=⟨143,[(.agg [(I 1),(I 1),(I 1000),(I 100000),(I 200),(I (-20000)),(I 20000),(I 1),(I 1),(I 1000),(I 100000),(I 200),(I (-20000)),(I 20000),(I 1),(I 1),(I 1000),(I 100000),(I 200),(I (-20000)),(I 20000),(I 1),(I 1),(I 1000),(I 100000),(I 200),(I (-20000)),(I 20000),(.bool false),(I 1000),(I 1),(.bool false),(I 0),(I 0),(I 0),(I 0),(I 0),(I 0),(I 0),(I 0),(I 0),.nilS,.nilS,(I 0),(I 0),(I 0),(I 0),(I 0),(I 0),(I 0),(I 0),(I 0),(I 0),(.bool false),(I 0),(.bool false),(I 0),(I 0),(I 0),(I 0),(I 0),(I 0),(I 0),(I 10),(I 1),(I 1000),(I 0),(I 255000),(I 0),(I 10),(I 1),(I 1000),(I 0),(I 255000),(I 1000),(I 290000),(I 50),(I 500),(I 10000),(I 0),(I 0),(I 5000),(I 0),(I 0),(.bool false),(I 1000),(I 120000),(I 100),(I 200),(I 5000),(I 0),(I 0),(I 5000),(I 0),(I 0),(.bool false),(I 0),(I 0),(I 0),(I 170000),(I 0),(I 0)])],1934,[],(.bool true),1953,[]⟩
theorem wFiVal0_s:wFiVal0.sem Tryz.prog:=hf_sem (k:=kwLiSta) ok_kwLiSta (by kernel_rfl)
theorem wFiVal0_l:wFiVal0.okL Tryz.prog:=HF.okL_of_sem wFiVal0_s (by kernel_rfl)
def wFiVal1:HF:=⟨143,[(.agg [(I 1),(I 1),(I 1000),(I 100000),(I 200),(I (-20000)),(I 20000),(I 1),(I 1),(I 1000),(I 100000),(I 200),(I (-20000)),(I 20000),(I 1),(I 1),(I 1000),(I 100000),(I 200),(I (-20000)),(I 20000),(I 1),(I 1),(I 1000),(I 100000),(I 200),(I (-20000)),(I 20000),(.bool false),(I 1000),(I 1),(.bool false),(I 0),(I 0),(I 0),(I 0),(I 0),(I 0),(I 0),(I 0),(I 0),.nilS,.nilS,(I 0),(I 0),(I 0),(I 0),(I 0),(I 0),(I 0),(I 0),(I 0),(I 0),(.bool false),(I 0),(.bool false),(I 0),(I 0),(I 0),(I 0),(I 0),(I 0),(I 0),(I 10),(I 1),(I 1000),(I 0),(I 255000),(I 0),(I 10),(I 1),(I 1000),(I 0),(I 255000),(I 1000),(I 290000),(I 50),(I 500),(I 10000),(I 0),(I 0),(I 5000),(I 0),(I 0),(.bool false),(I 1000),(I 120000),(I 100),(I 200),(I 5000),(I 0),(I 0),(I 5000),(I 0),(I 0),(.bool false),(I 0),(I 1),(I 0),(I 170000),(I 0),(I 0)])],1991,[],(.bool true),2010,[]⟩
theorem wFiVal1_s:wFiVal1.sem Tryz.prog:=hf_sem (k:=kwLiSta) ok_kwLiSta (by kernel_rfl)
theorem wFiVal1_l:wFiVal1.okL Tryz.prog:=HF.okL_of_sem wFiVal1_s (by kernel_rfl)
noncomputable def wFiVal:WFact:=hlW 143 [wFiVal0,wFiVal1]
theorem wFiVal_ok:wFiVal.ok Tryz.prog:=hlW_ok ⟨rfl,wFiVal0_l,rfl,wFiVal1_l,trivial⟩
noncomputable def kwFiVal:List WFact:=wFiVal::kwLiSta
theorem ok_kwFiVal:∀x∈kwFiVal,x.ok Tryz.prog:=List.forall_mem_cons.2 ⟨wFiVal_ok,ok_kwLiSta⟩
def wPoTic0:HF:=⟨139,[(.agg [(I 1),(I 1),(I 1000),(I 100000),(I 200),(I (-20000)),(I 20000),(I 1),(I 1),(I 1000),(I 100000),(I 200),(I (-20000)),(I 20000),(I 1),(I 1),(I 1000),(I 100000),(I 200),(I (-20000)),(I 20000),(I 1),(I 1),(I 1000),(I 100000),(I 200),(I (-20000)),(I 20000),(.bool false),(I 1000),(I 1),(.bool false),(I 0),(I 0),(I 0),(I 0),(I 0),(I 0),(I 0),(I 0),(I 0),.nilS,.nilS,(I 0),(I 0),(I 0),(I 0),(I 0),(I 0),(I 0),(I 0),(I 0),(I 0),(.bool false),(I 0),(.bool false),(I 0),(I 0),(I 0),(I 0),(I 0),(I 0),(I 0),(I 10),(I 1),(I 1000),(I 0),(I 255000),(I 0),(I 10),(I 1),(I 1000),(I 0),(I 255000),(I 1000),(I 290000),(I 50),(I 500),(I 10000),(I 0),(I 0),(I 5000),(I 0),(I 0),(.bool false),(I 1000),(I 120000),(I 100),(I 200),(I 5000),(I 0),(I 0),(I 5000),(I 0),(I 0),(.bool false),(I 0),(I 1),(I 0),(I 170000),(I 0),(I 0)]),(.agg [(.vsl 1970 0 16 16 1 false),(I 0),(.bool false),(I 0)]),(.agg [(I 20000),(I 20000)])],1978,[(1970,(.vec [(.str [0,0,0,0,0,0,0,0,0,0,0,0,0,0,0,0,0,0,0,0,0,0,0,0,0,0,0,0,0,0,0,0,0,0,0,0,0,0,0,0,0,0,0,0,0,0,0,0,0,0,0,0,0,0,0,0,0,0,0,0,0,0,0,0]),(.str [0,0,0,0,0,0,0,0,0,0,0,0,0,0,0,0,0,0,0,0,0,0,0,0,0,0,0,0,0,0,0,0,0,0,0,0,0,0,0,0,0,0,0,0,0,0,0,0,0,0,0,0,0,0,0,0,0,0,0,0,0,0,0,0]),(.str [0,0,0,0,0,0,0,0,0,0,0,0,0,0,0,0,0,0,0,0,0,0,0,0,0,0,0,0,0,0,0,0,0,0,0,0,0,0,0,0,0,0,0,0,0,0,0,0,0,0,0,0,0,0,0,0,0,0,0,0,0,0,0,0]),(.str [0,0,0,0,0,0,0,0,0,0,0,0,0,0,0,0,0,0,0,0,0,0,0,0,0,0,0,0,0,0,0,0,0,0,0,0,0,0,0,0,0,0,0,0,0,0,0,0,0,0,0,0,0,0,0,0,0,0,0,0,0,0,0,0]),(.str [0,0,0,0,0,0,0,0,0,0,0,0,0,0,0,0,0,0,0,0,0,0,0,0,0,0,0,0,0,0,0,0,0,0,0,0,0,0,0,0,0,0,0,0,0,0,0,0,0,0,0,0,0,0,0,0,0,0,0,0,0,0,0,0]),(.str [0,0,0,0,0,0,0,0,0,0,0,0,0,0,0,0,0,0,0,0,0,0,0,0,0,0,0,0,0,0,0,0,0,0,0,0,0,0,0,0,0,0,0,0,0,0,0,0,0,0,0,0,0,0,0,0,0,0,0,0,0,0,0,0]),(.str [0,0,0,0,0,0,0,0,0,0,0,0,0,0,0,0,0,0,0,0,0,0,0,0,0,0,0,0,0,0,0,0,0,0,0,0,0,0,0,0,0,0,0,0,0,0,0,0,0,0,0,0,0,0,0,0,0,0,0,0,0,0,0,0]),(.str [0,0,0,0,0,0,0,0,0,0,0,0,0,0,0,0,0,0,0,0,0,0,0,0,0,0,0,0,0,0,0,0,0,0,0,0,0,0,0,0,0,0,0,0,0,0,0,0,0,0,0,0,0,0,0,0,0,0,0,0,0,0,0,0]),(.str [0,0,0,0,0,0,0,0,0,0,0,0,0,0,0,0,0,0,0,0,0,0,0,0,0,0,0,0,0,0,0,0,0,0,0,0,0,0,0,0,0,0,0,0,0,0,0,0,0,0,0,0,0,0,0,0,0,0,0,0,0,0,0,0]),(.str [0,0,0,0,0,0,0,0,0,0,0,0,0,0,0,0,0,0,0,0,0,0,0,0,0,0,0,0,0,0,0,0,0,0,0,0,0,0,0,0,0,0,0,0,0,0,0,0,0,0,0,0,0,0,0,0,0,0,0,0,0,0,0,0]),(.str [0,0,0,0,0,0,0,0,0,0,0,0,0,0,0,0,0,0,0,0,0,0,0,0,0,0,0,0,0,0,0,0,0,0,0,0,0,0,0,0,0,0,0,0,0,0,0,0,0,0,0,0,0,0,0,0,0,0,0,0,0,0,0,0]),(.str [0,0,0,0,0,0,0,0,0,0,0,0,0,0,0,0,0,0,0,0,0,0,0,0,0,0,0,0,0,0,0,0,0,0,0,0,0,0,0,0,0,0,0,0,0,0,0,0,0,0,0,0,0,0,0,0,0,0,0,0,0,0,0,0]),(.str [0,0,0,0,0,0,0,0,0,0,0,0,0,0,0,0,0,0,0,0,0,0,0,0,0,0,0,0,0,0,0,0,0,0,0,0,0,0,0,0,0,0,0,0,0,0,0,0,0,0,0,0,0,0,0,0,0,0,0,0,0,0,0,0]),(.str [0,0,0,0,0,0,0,0,0,0,0,0,0,0,0,0,0,0,0,0,0,0,0,0,0,0,0,0,0,0,0,0,0,0,0,0,0,0,0,0,0,0,0,0,0,0,0,0,0,0,0,0,0,0,0,0,0,0,0,0,0,0,0,0]),(.str [0,0,0,0,0,0,0,0,0,0,0,0,0,0,0,0,0,0,0,0,0,0,0,0,0,0,0,0,0,0,0,0,0,0,0,0,0,0,0,0,0,0,0,0,0,0,0,0,0,0,0,0,0,0,0,0,0,0,0,0,0,0,0,0]),(.str [0,0,0,0,0,0,0,0,0,0,0,0,0,0,0,0,0,0,0,0,0,0,0,0,0,0,0,0,0,0,0,0,0,0,0,0,0,0,0,0,0,0,0,0,0,0,0,0,0,0,0,0,0,0,0,0,0,0,0,0,0,0,0,0])]))],(.tuple [(.agg [(I 1),(I 1),(I 1000),(I 100000),(I 200),(I (-20000)),(I 20000),(I 1),(I 1),(I 1000),(I 100000),(I 200),(I (-20000)),(I 20000),(I 1),(I 1),(I 1000),(I 100000),(I 200),(I (-20000)),(I 20000),(I 1),(I 1),(I 1000),(I 100000),(I 200),(I (-20000)),(I 20000),(.bool false),(I 1000),(I 1),(.bool false),(I 0),(I 0),(I 0),(I 0),(I 0),(I 0),(I 0),(I 0),(I 0),.nilS,.nilS,(I 0),(I 0),(I 0),(I 0),(I 0),(I 0),(I 0),(I 0),(I 0),(I 0),(.bool false),(I 0),(.bool false),(I 0),(I 0),(I 0),(I 0),(I 0),(I 0),(I 0),(I 10),(I 1),(I 1000),(I 0),(I 255000),(I 0),(I 10),(I 1),(I 1000),(I 0),(I 255000),(I 1000),(I 290000),(I 50),(I 500),(I 10000),(I 20000),(I 0),(I 5000),(I 1),(I 0),(.bool false),(I 1000),(I 120000),(I 100),(I 200),(I 5000),(I 20000),(I 0),(I 5000),(I 1),(I 0),(.bool false),(I 0),(I 1),(I 1),(I 170000),(I 20000),(I 20000)]),(.agg [(.vsl 1988 0 16 16 1 false),(I 0),(.bool false),(I 0)]),(.agg [(I 0),(I 0),(I 0),(I 0)]),(.agg [(I 0),(I 0)])]),2010,[(1988,(.vec [(.str [0,0,0,0,0,0,0,0,0,0,0,0,0,0,0,0,0,0,0,0,0,0,0,0,0,0,0,0,0,0,0,0,0,0,0,0,0,0,0,0,0,0,0,0,0,0,0,0,0,0,0,0,0,0,0,0,0,0,0,0,0,0,0,0]),(.str [0,0,0,0,0,0,0,0,0,0,0,0,0,0,0,0,0,0,0,0,0,0,0,0,0,0,0,0,0,0,0,0,0,0,0,0,0,0,0,0,0,0,0,0,0,0,0,0,0,0,0,0,0,0,0,0,0,0,0,0,0,0,0,0]),(.str [0,0,0,0,0,0,0,0,0,0,0,0,0,0,0,0,0,0,0,0,0,0,0,0,0,0,0,0,0,0,0,0,0,0,0,0,0,0,0,0,0,0,0,0,0,0,0,0,0,0,0,0,0,0,0,0,0,0,0,0,0,0,0,0]),(.str [0,0,0,0,0,0,0,0,0,0,0,0,0,0,0,0,0,0,0,0,0,0,0,0,0,0,0,0,0,0,0,0,0,0,0,0,0,0,0,0,0,0,0,0,0,0,0,0,0,0,0,0,0,0,0,0,0,0,0,0,0,0,0,0]),(.str [0,0,0,0,0,0,0,0,0,0,0,0,0,0,0,0,0,0,0,0,0,0,0,0,0,0,0,0,0,0,0,0,0,0,0,0,0,0,0,0,0,0,0,0,0,0,0,0,0,0,0,0,0,0,0,0,0,0,0,0,0,0,0,0]),(.str [0,0,0,0,0,0,0,0,0,0,0,0,0,0,0,0,0,0,0,0,0,0,0,0,0,0,0,0,0,0,0,0,0,0,0,0,0,0,0,0,0,0,0,0,0,0,0,0,0,0,0,0,0,0,0,0,0,0,0,0,0,0,0,0]),(.str [0,0,0,0,0,0,0,0,0,0,0,0,0,0,0,0,0,0,0,0,0,0,0,0,0,0,0,0,0,0,0,0,0,0,0,0,0,0,0,0,0,0,0,0,0,0,0,0,0,0,0,0,0,0,0,0,0,0,0,0,0,0,0,0]),(.str [0,0,0,0,0,0,0,0,0,0,0,0,0,0,0,0,0,0,0,0,0,0,0,0,0,0,0,0,0,0,0,0,0,0,0,0,0,0,0,0,0,0,0,0,0,0,0,0,0,0,0,0,0,0,0,0,0,0,0,0,0,0,0,0]),(.str [0,0,0,0,0,0,0,0,0,0,0,0,0,0,0,0,0,0,0,0,0,0,0,0,0,0,0,0,0,0,0,0,0,0,0,0,0,0,0,0,0,0,0,0,0,0,0,0,0,0,0,0,0,0,0,0,0,0,0,0,0,0,0,0]),(.str [0,0,0,0,0,0,0,0,0,0,0,0,0,0,0,0,0,0,0,0,0,0,0,0,0,0,0,0,0,0,0,0,0,0,0,0,0,0,0,0,0,0,0,0,0,0,0,0,0,0,0,0,0,0,0,0,0,0,0,0,0,0,0,0]),(.str [0,0,0,0,0,0,0,0,0,0,0,0,0,0,0,0,0,0,0,0,0,0,0,0,0,0,0,0,0,0,0,0,0,0,0,0,0,0,0,0,0,0,0,0,0,0,0,0,0,0,0,0,0,0,0,0,0,0,0,0,0,0,0,0]),(.str [0,0,0,0,0,0,0,0,0,0,0,0,0,0,0,0,0,0,0,0,0,0,0,0,0,0,0,0,0,0,0,0,0,0,0,0,0,0,0,0,0,0,0,0,0,0,0,0,0,0,0,0,0,0,0,0,0,0,0,0,0,0,0,0]),(.str [0,0,0,0,0,0,0,0,0,0,0,0,0,0,0,0,0,0,0,0,0,0,0,0,0,0,0,0,0,0,0,0,0,0,0,0,0,0,0,0,0,0,0,0,0,0,0,0,0,0,0,0,0,0,0,0,0,0,0,0,0,0,0,0]),(.str [0,0,0,0,0,0,0,0,0,0,0,0,0,0,0,0,0,0,0,0,0,0,0,0,0,0,0,0,0,0,0,0,0,0,0,0,0,0,0,0,0,0,0,0,0,0,0,0,0,0,0,0,0,0,0,0,0,0,0,0,0,0,0,0]),(.str [0,0,0,0,0,0,0,0,0,0,0,0,0,0,0,0,0,0,0,0,0,0,0,0,0,0,0,0,0,0,0,0,0,0,0,0,0,0,0,0,0,0,0,0,0,0,0,0,0,0,0,0,0,0,0,0,0,0,0,0,0,0,0,0]),(.str [0,0,0,0,0,0,0,0,0,0,0,0,0,0,0,0,0,0,0,0,0,0,0,0,0,0,0,0,0,0,0,0,0,0,0,0,0,0,0,0,0,0,0,0,0,0,0,0,0,0,0,0,0,0,0,0,0,0,0,0,0,0,0,0])]))]⟩
theorem wPoTic0_s:wPoTic0.sem Tryz.prog:=hf_sem (k:=kwFiVal) ok_kwFiVal (by kernel_rfl)
theorem wPoTic0_l:wPoTic0.ok Tryz.prog:=HF.ok_of_sem wPoTic0_s
noncomputable def wPoTic:WFact:=hfW 139 [wPoTic0]
theorem wPoTic_ok:wPoTic.ok Tryz.prog:=hfW_ok ⟨rfl,wPoTic0_l,trivial⟩
noncomputable def kwPoTic:List WFact:=wPoTic::kwFiVal
theorem ok_kwPoTic:∀x∈kwPoTic,x.ok Tryz.prog:=List.forall_mem_cons.2 ⟨wPoTic_ok,ok_kwFiVal⟩
def wPoAcc0:HF:=⟨88,[(.agg [(I 1),(I 1),(I 1000),(I 100000),(I 200),(I (-20000)),(I 20000),(I 1),(I 1),(I 1000),(I 100000),(I 200),(I (-20000)),(I 20000),(I 1),(I 1),(I 1000),(I 100000),(I 200),(I (-20000)),(I 20000),(I 1),(I 1),(I 1000),(I 100000),(I 200),(I (-20000)),(I 20000),(.bool false),(I 1000),(I 1),(.bool false),(I 0),(I 0),(I 0),(I 0),(I 0),(I 0),(I 0),(I 0),(I 0),.nilS,.nilS,(I 0),(I 0),(I 0),(I 0),(I 0),(I 0),(I 0),(I 0),(I 0),(I 0),(.bool false),(I 0),(.bool false),(I 0),(I 0),(I 0),(I 0),(I 0),(I 0),(I 0),(I 10),(I 1),(I 1000),(I 0),(I 255000),(I 0),(I 10),(I 1),(I 1000),(I 0),(I 255000),(I 1000),(I 290000),(I 50),(I 500),(I 10000),(I 0),(I 0),(I 5000),(I 0),(I 0),(.bool false),(I 1000),(I 120000),(I 100),(I 200),(I 5000),(I 0),(I 0),(I 5000),(I 0),(I 0),(.bool false),(I 0),(I 0),(I 0),(I 170000),(I 0),(I 0)]),(.agg [(.vsl 1905 0 16 16 1 false),(I 0),(.bool false),(I 0)]),(I 1),(.agg [(I 1140),(I 32),(I 0),(I 0),(I 0),(I 0),(I 0),(I 0)])],1926,[(1905,(.vec [(.str [0,0,0,0,0,0,0,0,0,0,0,0,0,0,0,0,0,0,0,0,0,0,0,0,0,0,0,0,0,0,0,0,0,0,0,0,0,0,0,0,0,0,0,0,0,0,0,0,0,0,0,0,0,0,0,0,0,0,0,0,0,0,0,0]),(.str [0,0,0,0,0,0,0,0,0,0,0,0,0,0,0,0,0,0,0,0,0,0,0,0,0,0,0,0,0,0,0,0,0,0,0,0,0,0,0,0,0,0,0,0,0,0,0,0,0,0,0,0,0,0,0,0,0,0,0,0,0,0,0,0]),(.str [0,0,0,0,0,0,0,0,0,0,0,0,0,0,0,0,0,0,0,0,0,0,0,0,0,0,0,0,0,0,0,0,0,0,0,0,0,0,0,0,0,0,0,0,0,0,0,0,0,0,0,0,0,0,0,0,0,0,0,0,0,0,0,0]),(.str [0,0,0,0,0,0,0,0,0,0,0,0,0,0,0,0,0,0,0,0,0,0,0,0,0,0,0,0,0,0,0,0,0,0,0,0,0,0,0,0,0,0,0,0,0,0,0,0,0,0,0,0,0,0,0,0,0,0,0,0,0,0,0,0]),(.str [0,0,0,0,0,0,0,0,0,0,0,0,0,0,0,0,0,0,0,0,0,0,0,0,0,0,0,0,0,0,0,0,0,0,0,0,0,0,0,0,0,0,0,0,0,0,0,0,0,0,0,0,0,0,0,0,0,0,0,0,0,0,0,0]),(.str [0,0,0,0,0,0,0,0,0,0,0,0,0,0,0,0,0,0,0,0,0,0,0,0,0,0,0,0,0,0,0,0,0,0,0,0,0,0,0,0,0,0,0,0,0,0,0,0,0,0,0,0,0,0,0,0,0,0,0,0,0,0,0,0]),(.str [0,0,0,0,0,0,0,0,0,0,0,0,0,0,0,0,0,0,0,0,0,0,0,0,0,0,0,0,0,0,0,0,0,0,0,0,0,0,0,0,0,0,0,0,0,0,0,0,0,0,0,0,0,0,0,0,0,0,0,0,0,0,0,0]),(.str [0,0,0,0,0,0,0,0,0,0,0,0,0,0,0,0,0,0,0,0,0,0,0,0,0,0,0,0,0,0,0,0,0,0,0,0,0,0,0,0,0,0,0,0,0,0,0,0,0,0,0,0,0,0,0,0,0,0,0,0,0,0,0,0]),(.str [0,0,0,0,0,0,0,0,0,0,0,0,0,0,0,0,0,0,0,0,0,0,0,0,0,0,0,0,0,0,0,0,0,0,0,0,0,0,0,0,0,0,0,0,0,0,0,0,0,0,0,0,0,0,0,0,0,0,0,0,0,0,0,0]),(.str [0,0,0,0,0,0,0,0,0,0,0,0,0,0,0,0,0,0,0,0,0,0,0,0,0,0,0,0,0,0,0,0,0,0,0,0,0,0,0,0,0,0,0,0,0,0,0,0,0,0,0,0,0,0,0,0,0,0,0,0,0,0,0,0]),(.str [0,0,0,0,0,0,0,0,0,0,0,0,0,0,0,0,0,0,0,0,0,0,0,0,0,0,0,0,0,0,0,0,0,0,0,0,0,0,0,0,0,0,0,0,0,0,0,0,0,0,0,0,0,0,0,0,0,0,0,0,0,0,0,0]),(.str [0,0,0,0,0,0,0,0,0,0,0,0,0,0,0,0,0,0,0,0,0,0,0,0,0,0,0,0,0,0,0,0,0,0,0,0,0,0,0,0,0,0,0,0,0,0,0,0,0,0,0,0,0,0,0,0,0,0,0,0,0,0,0,0]),(.str [0,0,0,0,0,0,0,0,0,0,0,0,0,0,0,0,0,0,0,0,0,0,0,0,0,0,0,0,0,0,0,0,0,0,0,0,0,0,0,0,0,0,0,0,0,0,0,0,0,0,0,0,0,0,0,0,0,0,0,0,0,0,0,0]),(.str [0,0,0,0,0,0,0,0,0,0,0,0,0,0,0,0,0,0,0,0,0,0,0,0,0,0,0,0,0,0,0,0,0,0,0,0,0,0,0,0,0,0,0,0,0,0,0,0,0,0,0,0,0,0,0,0,0,0,0,0,0,0,0,0]),(.str [0,0,0,0,0,0,0,0,0,0,0,0,0,0,0,0,0,0,0,0,0,0,0,0,0,0,0,0,0,0,0,0,0,0,0,0,0,0,0,0,0,0,0,0,0,0,0,0,0,0,0,0,0,0,0,0,0,0,0,0,0,0,0,0]),(.str [0,0,0,0,0,0,0,0,0,0,0,0,0,0,0,0,0,0,0,0,0,0,0,0,0,0,0,0,0,0,0,0,0,0,0,0,0,0,0,0,0,0,0,0,0,0,0,0,0,0,0,0,0,0,0,0,0,0,0,0,0,0,0,0])]))],(.tuple [(.agg [(I 1),(I 1),(I 1000),(I 100000),(I 200),(I (-20000)),(I 20000),(I 1),(I 1),(I 1000),(I 100000),(I 200),(I (-20000)),(I 20000),(I 1),(I 1),(I 1000),(I 100000),(I 200),(I (-20000)),(I 20000),(I 1),(I 1),(I 1000),(I 100000),(I 200),(I (-20000)),(I 20000),(.bool false),(I 1000),(I 1),(.bool false),(I 0),(I 0),(I 0),(I 0),(I 0),(I 0),(I 0),(I 0),(I 0),.nilS,.nilS,(I 0),(I 0),(I 0),(I 0),(I 0),(I 0),(I 0),(I 0),(I 0),(I 0),(.bool false),(I 0),(.bool false),(I 0),(I 0),(I 0),(I 0),(I 0),(I 0),(I 0),(I 10),(I 1),(I 1000),(I 0),(I 255000),(I 0),(I 10),(I 1),(I 1000),(I 0),(I 255000),(I 1000),(I 290000),(I 50),(I 500),(I 10000),(I 0),(I 0),(I 5000),(I 0),(I 0),(.bool false),(I 1000),(I 120000),(I 100),(I 200),(I 5000),(I 0),(I 0),(I 5000),(I 0),(I 0),(.bool false),(I 0),(I 1),(I 0),(I 170000),(I 0),(I 0)]),(.agg [(.vsl 1942 0 16 16 1 false),(I 0),(.bool false),(I 0)]),(.bool false),(I 0)]),1943,[(1942,(.vec [(.str [0,0,0,0,0,0,0,0,0,0,0,0,0,0,0,0,0,0,0,0,0,0,0,0,0,0,0,0,0,0,0,0,0,0,0,0,0,0,0,0,0,0,0,0,0,0,0,0,0,0,0,0,0,0,0,0,0,0,0,0,0,0,0,0]),(.str [0,0,0,0,0,0,0,0,0,0,0,0,0,0,0,0,0,0,0,0,0,0,0,0,0,0,0,0,0,0,0,0,0,0,0,0,0,0,0,0,0,0,0,0,0,0,0,0,0,0,0,0,0,0,0,0,0,0,0,0,0,0,0,0]),(.str [0,0,0,0,0,0,0,0,0,0,0,0,0,0,0,0,0,0,0,0,0,0,0,0,0,0,0,0,0,0,0,0,0,0,0,0,0,0,0,0,0,0,0,0,0,0,0,0,0,0,0,0,0,0,0,0,0,0,0,0,0,0,0,0]),(.str [0,0,0,0,0,0,0,0,0,0,0,0,0,0,0,0,0,0,0,0,0,0,0,0,0,0,0,0,0,0,0,0,0,0,0,0,0,0,0,0,0,0,0,0,0,0,0,0,0,0,0,0,0,0,0,0,0,0,0,0,0,0,0,0]),(.str [0,0,0,0,0,0,0,0,0,0,0,0,0,0,0,0,0,0,0,0,0,0,0,0,0,0,0,0,0,0,0,0,0,0,0,0,0,0,0,0,0,0,0,0,0,0,0,0,0,0,0,0,0,0,0,0,0,0,0,0,0,0,0,0]),(.str [0,0,0,0,0,0,0,0,0,0,0,0,0,0,0,0,0,0,0,0,0,0,0,0,0,0,0,0,0,0,0,0,0,0,0,0,0,0,0,0,0,0,0,0,0,0,0,0,0,0,0,0,0,0,0,0,0,0,0,0,0,0,0,0]),(.str [0,0,0,0,0,0,0,0,0,0,0,0,0,0,0,0,0,0,0,0,0,0,0,0,0,0,0,0,0,0,0,0,0,0,0,0,0,0,0,0,0,0,0,0,0,0,0,0,0,0,0,0,0,0,0,0,0,0,0,0,0,0,0,0]),(.str [0,0,0,0,0,0,0,0,0,0,0,0,0,0,0,0,0,0,0,0,0,0,0,0,0,0,0,0,0,0,0,0,0,0,0,0,0,0,0,0,0,0,0,0,0,0,0,0,0,0,0,0,0,0,0,0,0,0,0,0,0,0,0,0]),(.str [0,0,0,0,0,0,0,0,0,0,0,0,0,0,0,0,0,0,0,0,0,0,0,0,0,0,0,0,0,0,0,0,0,0,0,0,0,0,0,0,0,0,0,0,0,0,0,0,0,0,0,0,0,0,0,0,0,0,0,0,0,0,0,0]),(.str [0,0,0,0,0,0,0,0,0,0,0,0,0,0,0,0,0,0,0,0,0,0,0,0,0,0,0,0,0,0,0,0,0,0,0,0,0,0,0,0,0,0,0,0,0,0,0,0,0,0,0,0,0,0,0,0,0,0,0,0,0,0,0,0]),(.str [0,0,0,0,0,0,0,0,0,0,0,0,0,0,0,0,0,0,0,0,0,0,0,0,0,0,0,0,0,0,0,0,0,0,0,0,0,0,0,0,0,0,0,0,0,0,0,0,0,0,0,0,0,0,0,0,0,0,0,0,0,0,0,0]),(.str [0,0,0,0,0,0,0,0,0,0,0,0,0,0,0,0,0,0,0,0,0,0,0,0,0,0,0,0,0,0,0,0,0,0,0,0,0,0,0,0,0,0,0,0,0,0,0,0,0,0,0,0,0,0,0,0,0,0,0,0,0,0,0,0]),(.str [0,0,0,0,0,0,0,0,0,0,0,0,0,0,0,0,0,0,0,0,0,0,0,0,0,0,0,0,0,0,0,0,0,0,0,0,0,0,0,0,0,0,0,0,0,0,0,0,0,0,0,0,0,0,0,0,0,0,0,0,0,0,0,0]),(.str [0,0,0,0,0,0,0,0,0,0,0,0,0,0,0,0,0,0,0,0,0,0,0,0,0,0,0,0,0,0,0,0,0,0,0,0,0,0,0,0,0,0,0,0,0,0,0,0,0,0,0,0,0,0,0,0,0,0,0,0,0,0,0,0]),(.str [0,0,0,0,0,0,0,0,0,0,0,0,0,0,0,0,0,0,0,0,0,0,0,0,0,0,0,0,0,0,0,0,0,0,0,0,0,0,0,0,0,0,0,0,0,0,0,0,0,0,0,0,0,0,0,0,0,0,0,0,0,0,0,0]),(.str [0,0,0,0,0,0,0,0,0,0,0,0,0,0,0,0,0,0,0,0,0,0,0,0,0,0,0,0,0,0,0,0,0,0,0,0,0,0,0,0,0,0,0,0,0,0,0,0,0,0,0,0,0,0,0,0,0,0,0,0,0,0,0,0])]))]⟩
theorem wPoAcc0_s:wPoAcc0.sem Tryz.prog:=hf_sem (k:=kwPoTic) ok_kwPoTic (by kernel_rfl)
theorem wPoAcc0_l:wPoAcc0.ok Tryz.prog:=HF.ok_of_sem wPoAcc0_s
noncomputable def wPoAcc:WFact:=hfW 88 [wPoAcc0]
theorem wPoAcc_ok:wPoAcc.ok Tryz.prog:=hfW_ok ⟨rfl,wPoAcc0_l,trivial⟩
noncomputable def kwPoAcc:List WFact:=wPoAcc::kwPoTic
theorem ok_kwPoAcc:∀x∈kwPoAcc,x.ok Tryz.prog:=List.forall_mem_cons.2 ⟨wPoAcc_ok,ok_kwPoTic⟩
def wLiSen0:HF:=⟨95,[(.agg [(.vsl 1862 0 15 15 1 false),(I 1),(I 1),(I 4),(I 0),(I 0)])],1867,[(1862,(.vec [(.str [77,49,52,48,32,83,48]),(.str [77,49,48,52,32,83,49,56,48,48,48,48]),(.str [71,50,56]),(.str [77,49,57,48,32,83,48]),(.str [77,49,48,57,32,83,49,56,48,48,48,48]),(.str [71,48,32,90,50,48,32,70,56,48,48,48]),(.str [77,49,48,55]),(.str [71,49,32,69,45,50]),(.str [71,48,32,88,54,48,32,89,50,48]),(.str [71,48,32,88,54,48,32,89,54,48]),(.str [71,49,32,69,48]),(.str [71,49,32,69,52,32,70,52,48,48,48]),(.str [77,49,48,55]),(.str [77,49,48,52,32,83,48]),(.str [77,49,52,48,32,83,48])]))],(.tuple [(.agg [(.vsl 1873 0 15 15 1 false),(I 1),(I 2),(I 4),(I 0),(I 1)]),(.agg [(.bool false),(.str [78,49,32,77,49,52,48,32,83,48,42,49,48,48]),(.bool false)]),(.bool true)]),1875,[(1873,(.vec [(.str [77,49,52,48,32,83,48]),(.str [77,49,48,52,32,83,49,56,48,48,48,48]),(.str [71,50,56]),(.str [77,49,57,48,32,83,48]),(.str [77,49,48,57,32,83,49,56,48,48,48,48]),(.str [71,48,32,90,50,48,32,70,56,48,48,48]),(.str [77,49,48,55]),(.str [71,49,32,69,45,50]),(.str [71,48,32,88,54,48,32,89,50,48]),(.str [71,48,32,88,54,48,32,89,54,48]),(.str [71,49,32,69,48]),(.str [71,49,32,69,52,32,70,52,48,48,48]),(.str [77,49,48,55]),(.str [77,49,48,52,32,83,48]),(.str [77,49,52,48,32,83,48])]))]⟩
theorem wLiSen0_s:wLiSen0.sem Tryz.prog:=hf_sem (k:=kwPoAcc) ok_kwPoAcc (by kernel_rfl)
theorem wLiSen0_l:wLiSen0.ok Tryz.prog:=HF.ok_of_sem wLiSen0_s
noncomputable def wLiSen:WFact:=hfW 95 [wLiSen0]
theorem wLiSen_ok:wLiSen.ok Tryz.prog:=hfW_ok ⟨rfl,wLiSen0_l,trivial⟩
noncomputable def kwLiSen:List WFact:=wLiSen::kwPoAcc
theorem ok_kwLiSen:∀x∈kwLiSen,x.ok Tryz.prog:=List.forall_mem_cons.2 ⟨wLiSen_ok,ok_kwPoAcc⟩
def wLiRec0:HF:=⟨135,[(.agg [(I 1)]),(.agg [(.bool false),(.str [78,49,32,77,49,52,48,32,83,48,42,49,48,48]),(.bool false)])],1915,[],(.tuple [(.agg [(I 2)]),(.str [77,49,52,48,32,83,48]),(.agg [(.bool true),(.str [111,107,32,49,42,50,49]),(.bool false)]),(.bool true)]),1921,[]⟩
theorem wLiRec0_s:wLiRec0.sem Tryz.prog:=hf_sem (k:=kwLiSen) ok_kwLiSen (by kernel_rfl)
theorem wLiRec0_l:wLiRec0.ok Tryz.prog:=HF.ok_of_sem wLiRec0_s
noncomputable def wLiRec:WFact:=hfW 135 [wLiRec0]
theorem wLiRec_ok:wLiRec.ok Tryz.prog:=hfW_ok ⟨rfl,wLiRec0_l,trivial⟩
noncomputable def kwLiRec:List WFact:=wLiRec::kwLiSen
theorem ok_kwLiRec:∀x∈kwLiRec,x.ok Tryz.prog:=List.forall_mem_cons.2 ⟨wLiRec_ok,ok_kwLiSen⟩
def wWorks0:HF:=⟨7,[],0,[],(.bool true),2061,[]⟩
theorem wWorks0_s:wWorks0.sem Tryz.prog:=hf_sem (k:=kwLiRec) ok_kwLiRec (by kernel_rfl)
theorem wWorks0_l:wWorks0.okL Tryz.prog:=HF.okL_of_sem wWorks0_s (by kernel_rfl)
theorem mix:Tryz.prog.follows .mixedOrders=true:=by kernel_rfl
theorem hB{l:List Fact}{k:List WFact}{j:List PFact}{i:List BFact}(ty ls rd cu:List Nat)(hl:allOk Tryz.prog l)(hk:∀x∈k,x.ok Tryz.prog)(hj:∀x∈j,x.ok Tryz.prog)(hi:∀x∈i,x.ok Tryz.prog):Known Tryz.prog (Env.ofB Tryz.prog (sumOf l) (wrOf k) (pnOf j) (bxOf i) (rdOf ty) (rdOf ls) (rdOf rd) (rdOf cu)):=known_ofB mix hl.all hk hj hi _ _ _ _
structure Ax where
 num:Int
 den:Int
 speed:Int
 accel:Int
 jerk:Int
 min:Int
 max:Int
structure Ma where
 x:Ax
 y:Ax
 z:Ax
 e:Ax
 xy:Bool
 ticks:Int
def Ma.cells(m:Ma):List SV:=[I64 m.x.num,I64 m.x.den,I64 m.x.speed,I64 m.x.accel,I64 m.x.jerk,I64 m.x.min,I64 m.x.max,
 I64 m.y.num,I64 m.y.den,I64 m.y.speed,I64 m.y.accel,I64 m.y.jerk,I64 m.y.min,I64 m.y.max,
 I64 m.z.num,I64 m.z.den,I64 m.z.speed,I64 m.z.accel,I64 m.z.jerk,I64 m.z.min,I64 m.z.max,
 I64 m.e.num,I64 m.e.den,I64 m.e.speed,I64 m.e.accel,I64 m.e.jerk,I64 m.e.min,I64 m.e.max,.bool m.xy,I64 m.ticks]
def Ma.sv(m:Ma):SV:=.agg m.cells
def inR(n lo hi:Int):Bool:=decide (lo≤n)&&decide (n≤hi)
theorem inR_iff{n lo hi:Int}:inR n lo hi=true↔lo≤n∧n≤hi:=by simp[inR]
def Ax.ok(a:Ax):Bool:=inR a.num 1 65536&&inR a.den 1 a.num&&inR a.speed 1 1048576&&inR a.accel 1 16777216&&inR a.jerk 1 1048576&&decide (a.min≤a.max)&&decide (-1048576≤a.min)&&decide (a.max≤1048576)
theorem Ax.ok_iff(a:Ax):a.ok=true↔(1≤a.num∧a.num≤65536)∧(1≤a.den∧a.den≤a.num)∧(1≤a.speed∧a.speed≤1048576)∧(1≤a.accel∧a.accel≤16777216)∧(1≤a.jerk∧a.jerk≤1048576)∧a.min≤a.max∧-1048576≤a.min∧a.max≤1048576:=by
 simp only[Ax.ok,Bool.and_eq_true,inR_iff,decide_eq_true_eq,and_assoc]
def Ma.ok(m:Ma):Bool:=m.x.ok&& (m.y.ok&& (m.z.ok&& (m.e.ok&&inR m.ticks 1 1048576)))
theorem Ma.ok_iff(m:Ma):m.ok=true↔m.x.ok=true∧m.y.ok=true∧m.z.ok=true∧m.e.ok=true∧1≤m.ticks∧m.ticks≤1048576:=by
 simp only[Ma.ok,Bool.and_eq_true,inR_iff]
structure St where
 pitch:Int
 height:Int
 walls:Int
 top:Int
 bottom:Int
 pattern:Int
 spacing:Int
 support:Bool
 reach:Int
 gap:Int
 brim:Int
 skirt:Int
 drop:Int
 feed:Int
 travel:Int
 retract:Int
 minTime:Int
 minFeed:Int
 nozzle:Int
 bed:Int
def St.cells(s:St):List SV:=[I64 s.pitch,I64 s.height,I64 s.walls,I64 s.top,I64 s.bottom,I64 s.pattern,I64 s.spacing,.bool s.support,I64 s.reach,I64 s.gap,I64 s.brim,I64 s.skirt,I64 s.drop,I64 s.feed,I64 s.travel,I64 s.retract,I64 s.minTime,I64 s.minFeed,I64 s.nozzle,I64 s.bed]
def St.sv(s:St):SV:=.agg s.cells
def evR(n lo hi:Int):Bool:=inR n lo hi&& (n.tmod 2==0)
def St.ok(s:St):Bool:=evR s.pitch 32 1024&& (evR s.height 4 1024&& (inR s.walls 0 8&& (inR s.top 0 16&& (inR s.bottom 0 16&& (inR s.pattern 0 3&& (inR s.spacing 1 64&& (inR s.reach 0 64&& (inR s.gap 0 64&& (inR s.brim 0 64&& (inR s.skirt 0 63&& (inR s.drop 1 1073741824&& (inR s.retract 0 65536&& (inR s.feed 1 1048576&& (inR s.travel 1 1048576&& (inR s.minTime 0 1048576&& (inR s.minFeed 1 s.feed&& (inR s.nozzle 0 400000&&inR s.bed 0 400000)))))))))))))))))
theorem holds_bool{b c:Bool}(h:b=true↔c=true):SV.bool b=SV.bool c:=congrArg SV.bool (Bool.eq_iff_iff.2 h)
theorem s_wi(n a b:Int):SCall Tryz.prog 77 [I64 n,I64 a,I64 b] (.bool (inR n a b)):=
 scall_v mix [] trivial 1000 (.fork (.lit (.lit (.lit .all))) (.lit (.lit (.lit .all))))
  (t:=.node (decide (n≥a))
 (.leaf (SV.bool (decide (n≤b))))
 (.leaf (SV.bool false)))
   (by kernel_rfl) (by simp only[Tree.holds,sL,ne_eq,beq_iff_eq,bne_iff_ne,eq_self,beq_eq_false_iff_ne,bne_eq_false_iff_eq,implies_true];(repeat' (first|apply And.intro|intro _));all_goals(refine holds_bool ?_;rw[inR_iff];(try simp only[decide_eq_true_eq,Bool.false_eq_true,false_iff]);omega)) (by kernel_rfl) (by kernel_rfl)
def fWi:Fact:=⟨77,fun args=>match args with
 |[.int .i64 n,.int .i64 a,.int .i64 b] =>some (.node (inR n a b) (.leaf (.bool true)) (.leaf (.bool false)))
 |_=>none⟩
theorem o_wi:fWi.ok Tryz.prog:=fun args t ht=>by
 simp only[fWi]at ht
 split at ht
 ·rename_i n a b
  injection ht with ht;subst ht
  have:=s_wi n a b
  exact⟨fun h=>by rw[h]at this;exact this,fun h=>by rw[h]at this;exact this⟩
 ·cases ht
theorem s_wiR(n a b:Int):SCall Tryz.prog 47 [I64 n,I64 a,I64 b] (.bool (inR n a b)):=
 scall_v mix [] trivial 1000 (.fork (.lit (.lit (.lit .all))) (.lit (.lit (.lit .all))))
  (t:=.node (decide (n≥a))
 (.leaf (SV.bool (decide (n≤b))))
 (.leaf (SV.bool false)))
   (by kernel_rfl) (by simp only[Tree.holds,sL,ne_eq,beq_iff_eq,bne_iff_ne,eq_self,beq_eq_false_iff_ne,bne_eq_false_iff_eq,implies_true];(repeat' (first|apply And.intro|intro _));all_goals(refine holds_bool ?_;rw[inR_iff];(try simp only[decide_eq_true_eq,Bool.false_eq_true,false_iff]);omega)) (by kernel_rfl) (by kernel_rfl)
def fWiR:Fact:=⟨47,fun args=>match args with
 |[.int .i64 n,.int .i64 a,.int .i64 b] =>some (.node (inR n a b) (.leaf (.bool true)) (.leaf (.bool false)))
 |_=>none⟩
theorem o_wiR:fWiR.ok Tryz.prog:=fun args t ht=>by
 simp only[fWiR]at ht
 split at ht
 ·rename_i n a b
  injection ht with ht;subst ht
  have:=s_wiR n a b
  exact⟨fun h=>by rw[h]at this;exact this,fun h=>by rw[h]at this;exact this⟩
 ·cases ht
theorem s_ev(n a b:Int):SCall Tryz.prog 76 [I64 n,I64 a,I64 b] (.bool (evR n a b)):=
 scall_v mix [fWi] ⟨o_wi,trivial⟩ 1000 (.fork (.ln 3 (.lit .all)) (.ln 3 (.lit .all)))
  (t:=.node (inR n a b)
 (.req (true) (.leaf (SV.bool (n.tmod 2==0))))
 (.leaf (SV.bool false)))
   (by kernel_rfl) (by simp only[Tree.holds,sL,ne_eq,beq_iff_eq,bne_iff_ne,eq_self,beq_eq_false_iff_ne,bne_eq_false_iff_eq,implies_true];(repeat' (first|apply And.intro|intro _));all_goals(unfold evR;simp[*])) (by kernel_rfl) (by kernel_rfl)
theorem s_maOk(m:Ma):SCall Tryz.prog 29 [m.sv] (.bool m.ok):=
 scall_v mix [] trivial 1000 (.go (.lit (.fork (.ln 3 (.fork (.ln 37 (.lit .all)) (.ln 4 (.fork (.ln 5 (.fork (.ln 30 (.lit .all)) (.lit (.lit (.fork (.ln 5 (.fork (.ln 25 (.lit .all)) (.lit (.lit (.fork (.ln 5 (.fork (.ln 20 (.lit .all)) (.lit (.lit (.fork (.ln 5 (.fork (.ln 15 (.lit .all)) (.ln 5 (.fork (.ln 9 (.lit .all)) (.lit (.lit (.fork (.ln 5 (.fork (.ln 4 (.lit .all)) (.lit (.lit (.fork (.ln 5 (.fork .all (.go (.lit (.fork (.ln 3 (.fork (.ln 37 (.lit .all)) (.ln 4 (.fork (.ln 5 (.fork (.ln 30 (.lit .all)) (.lit (.lit (.fork (.ln 5 (.fork (.ln 25 (.lit .all)) (.lit (.lit (.fork (.ln 5 (.fork (.ln 20 (.lit .all)) (.lit (.lit (.fork (.ln 5 (.fork (.ln 15 (.lit .all)) (.ln 5 (.fork (.ln 9 (.lit .all)) (.lit (.lit (.fork (.ln 5 (.fork (.ln 4 (.lit .all)) (.lit (.lit (.fork (.ln 5 (.fork .all (.go (.lit (.fork (.ln 3 (.fork (.ln 37 (.lit .all)) (.ln 4 (.fork (.ln 5 (.fork (.ln 30 (.lit .all)) (.lit (.lit (.fork (.ln 5 (.fork (.ln 25 (.lit .all)) (.lit (.lit (.fork (.ln 5 (.fork (.ln 20 (.lit .all)) (.lit (.lit (.fork (.ln 5 (.fork (.ln 15 (.lit .all)) (.ln 5 (.fork (.ln 9 (.lit .all)) (.lit (.lit (.fork (.ln 5 (.fork (.ln 4 (.lit .all)) (.lit (.lit (.fork (.ln 5 (.fork .all (.go (.lit (.fork (.ln 3 (.fork (.ln 37 (.lit .all)) (.ln 4 (.fork (.ln 5 (.fork (.ln 30 (.lit .all)) (.lit (.lit (.fork (.ln 5 (.fork (.ln 25 (.lit .all)) (.lit (.lit (.fork (.ln 5 (.fork (.ln 20 (.lit .all)) (.lit (.lit (.fork (.ln 5 (.fork (.ln 15 (.lit .all)) (.ln 5 (.fork (.ln 9 (.lit .all)) (.lit (.lit (.fork (.ln 5 (.fork (.ln 4 (.lit .all)) (.lit (.lit (.fork (.ln 5 (.fork .all (.go (.lit (.fork (.lit (.lit (.lit .all))) (.lit (.lit (.lit .all)))))))) (.ln 5 (.lit .all))))))) (.ln 10 (.lit .all))))))))) (.ln 21 (.lit .all))))))) (.ln 26 (.lit .all))))))) (.ln 31 (.lit .all))))))) (.ln 36 (.lit .all)))))) (.ln 41 (.lit .all))))))) (.ln 5 (.lit .all))))))) (.ln 10 (.lit .all))))))))) (.ln 21 (.lit .all))))))) (.ln 26 (.lit .all))))))) (.ln 31 (.lit .all))))))) (.ln 36 (.lit .all)))))) (.ln 41 (.lit .all))))))) (.ln 5 (.lit .all))))))) (.ln 10 (.lit .all))))))))) (.ln 21 (.lit .all))))))) (.ln 26 (.lit .all))))))) (.ln 31 (.lit .all))))))) (.ln 36 (.lit .all)))))) (.ln 41 (.lit .all))))))) (.ln 5 (.lit .all))))))) (.ln 10 (.lit .all))))))))) (.ln 21 (.lit .all))))))) (.ln 26 (.lit .all))))))) (.ln 31 (.lit .all))))))) (.ln 36 (.lit .all)))))) (.ln 41 (.lit .all)))))
  (t:=.req (true) (.node (decide (m.x.num≥1)) (.node (!decide (m.x.num≤65536)) (.leaf (.bool false)) (.node (decide (m.x.den≥1)) (.node (!decide (m.x.den≤m.x.num)) (.leaf (.bool false)) (.node (decide (m.x.speed≥1)) (.node (!decide (m.x.speed≤1048576)) (.leaf (.bool false)) (.node (decide (m.x.accel≥1)) (.node (!decide (m.x.accel≤16777216)) (.leaf (.bool false)) (.node (decide (m.x.jerk≥1)) (.node (!decide (m.x.jerk≤1048576)) (.leaf (.bool false)) (.node (decide (m.x.min>m.x.max)) (.leaf (.bool false)) (.node (decide (m.x.min≥-1048576)) (.node (!decide (m.x.min≤1048576)) (.leaf (.bool false)) (.node (decide (m.x.max≥-1048576)) (.node (!decide (m.x.max≤1048576)) (.leaf (.bool false)) (.req true (.node (decide (m.y.num≥1)) (.node (!decide (m.y.num≤65536)) (.leaf (.bool false)) (.node (decide (m.y.den≥1)) (.node (!decide (m.y.den≤m.y.num)) (.leaf (.bool false)) (.node (decide (m.y.speed≥1)) (.node (!decide (m.y.speed≤1048576)) (.leaf (.bool false)) (.node (decide (m.y.accel≥1)) (.node (!decide (m.y.accel≤16777216)) (.leaf (.bool false)) (.node (decide (m.y.jerk≥1)) (.node (!decide (m.y.jerk≤1048576)) (.leaf (.bool false)) (.node (decide (m.y.min>m.y.max)) (.leaf (.bool false)) (.node (decide (m.y.min≥-1048576)) (.node (!decide (m.y.min≤1048576)) (.leaf (.bool false)) (.node (decide (m.y.max≥-1048576)) (.node (!decide (m.y.max≤1048576)) (.leaf (.bool false)) (.req true (.node (decide (m.z.num≥1)) (.node (!decide (m.z.num≤65536)) (.leaf (.bool false)) (.node (decide (m.z.den≥1)) (.node (!decide (m.z.den≤m.z.num)) (.leaf (.bool false)) (.node (decide (m.z.speed≥1)) (.node (!decide (m.z.speed≤1048576)) (.leaf (.bool false)) (.node (decide (m.z.accel≥1)) (.node (!decide (m.z.accel≤16777216)) (.leaf (.bool false)) (.node (decide (m.z.jerk≥1)) (.node (!decide (m.z.jerk≤1048576)) (.leaf (.bool false)) (.node (decide (m.z.min>m.z.max)) (.leaf (.bool false)) (.node (decide (m.z.min≥-1048576)) (.node (!decide (m.z.min≤1048576)) (.leaf (.bool false)) (.node (decide (m.z.max≥-1048576)) (.node (!decide (m.z.max≤1048576)) (.leaf (.bool false)) (.req true (.node (decide (m.e.num≥1)) (.node (!decide (m.e.num≤65536)) (.leaf (.bool false)) (.node (decide (m.e.den≥1)) (.node (!decide (m.e.den≤m.e.num)) (.leaf (.bool false)) (.node (decide (m.e.speed≥1)) (.node (!decide (m.e.speed≤1048576)) (.leaf (.bool false)) (.node (decide (m.e.accel≥1)) (.node (!decide (m.e.accel≤16777216)) (.leaf (.bool false)) (.node (decide (m.e.jerk≥1)) (.node (!decide (m.e.jerk≤1048576)) (.leaf (.bool false)) (.node (decide (m.e.min>m.e.max)) (.leaf (.bool false)) (.node (decide (m.e.min≥-1048576)) (.node (!decide (m.e.min≤1048576)) (.leaf (.bool false)) (.node (decide (m.e.max≥-1048576)) (.node (!decide (m.e.max≤1048576)) (.leaf (.bool false)) (.node (decide (m.ticks≥1)) (.leaf (.bool (decide (m.ticks≤1048576)))) (.leaf (.bool false)))) (.leaf (.bool false)))) (.leaf (.bool false))))) (.leaf (.bool false)))) (.leaf (.bool false)))) (.leaf (.bool false)))) (.leaf (.bool false)))) (.leaf (.bool false))))) (.leaf (.bool false)))) (.leaf (.bool false))))) (.leaf (.bool false)))) (.leaf (.bool false)))) (.leaf (.bool false)))) (.leaf (.bool false)))) (.leaf (.bool false))))) (.leaf (.bool false)))) (.leaf (.bool false))))) (.leaf (.bool false)))) (.leaf (.bool false)))) (.leaf (.bool false)))) (.leaf (.bool false)))) (.leaf (.bool false))))) (.leaf (.bool false)))) (.leaf (.bool false))))) (.leaf (.bool false)))) (.leaf (.bool false)))) (.leaf (.bool false)))) (.leaf (.bool false)))) (.leaf (.bool false))))
  (by kernel_rfl) (by simp only[Tree.holds,eq_self,true_and,Bool.not_eq_true',Bool.not_eq_false',decide_eq_true_eq,decide_eq_false_iff_not,Bool.and_eq_true,beq_iff_eq];(repeat' (first|apply And.intro|intro _));all_goals(refine holds_bool ?_;rw[Ma.ok_iff];(try simp only[Ax.ok_iff,decide_eq_true_eq,Bool.false_eq_true,false_iff]);first|(intro hh;omega)|(constructor<;>intro hh<;>(try simp only[and_assoc])<;>(repeat' apply And.intro)<;>omega))) (by kernel_rfl) (by kernel_rfl)
theorem s_maOkR(m:Ma):SCall Tryz.prog 32 [m.sv] (.bool m.ok):=
 scall_v mix [] trivial 1000 (.go (.lit (.fork (.ln 37 (.lit .all)) (.ln 3 (.fork (.ln 33 (.lit .all)) (.ln 3 (.fork (.ln 29 (.lit .all)) (.ln 5 (.fork (.ln 23 (.lit .all)) (.ln 3 (.fork (.ln 19 (.lit .all)) (.ln 3 (.fork (.ln 15 (.lit .all)) (.ln 3 (.fork (.ln 11 (.lit .all)) (.ln 3 (.fork (.ln 7 (.lit .all)) (.ln 3 (.fork (.ln 3 (.lit .all)) (.ln 3 (.fork .all (.fork (.ln 7 (.lit .all)) (.ln 3 (.fork (.ln 3 (.lit .all)) (.ln 3 (.fork .all (.go (.lit (.fork (.ln 37 (.lit .all)) (.ln 3 (.fork (.ln 33 (.lit .all)) (.ln 3 (.fork (.ln 29 (.lit .all)) (.ln 5 (.fork (.ln 23 (.lit .all)) (.ln 3 (.fork (.ln 19 (.lit .all)) (.ln 3 (.fork (.ln 15 (.lit .all)) (.ln 3 (.fork (.ln 11 (.lit .all)) (.ln 3 (.fork (.ln 7 (.lit .all)) (.ln 3 (.fork (.ln 3 (.lit .all)) (.ln 3 (.fork .all (.fork (.ln 7 (.lit .all)) (.ln 3 (.fork (.ln 3 (.lit .all)) (.ln 3 (.fork .all (.go (.lit (.fork (.ln 37 (.lit .all)) (.ln 3 (.fork (.ln 33 (.lit .all)) (.ln 3 (.fork (.ln 29 (.lit .all)) (.ln 5 (.fork (.ln 23 (.lit .all)) (.ln 3 (.fork (.ln 19 (.lit .all)) (.ln 3 (.fork (.ln 15 (.lit .all)) (.ln 3 (.fork (.ln 11 (.lit .all)) (.ln 3 (.fork (.ln 7 (.lit .all)) (.ln 3 (.fork (.ln 3 (.lit .all)) (.ln 3 (.fork .all (.fork (.ln 7 (.lit .all)) (.ln 3 (.fork (.ln 3 (.lit .all)) (.ln 3 (.fork .all (.go (.lit (.fork (.ln 37 (.lit .all)) (.ln 3 (.fork (.ln 33 (.lit .all)) (.ln 3 (.fork (.ln 29 (.lit .all)) (.ln 5 (.fork (.ln 23 (.lit .all)) (.ln 3 (.fork (.ln 19 (.lit .all)) (.ln 3 (.fork (.ln 15 (.lit .all)) (.ln 3 (.fork (.ln 11 (.lit .all)) (.ln 3 (.fork (.ln 7 (.lit .all)) (.ln 3 (.fork (.ln 3 (.lit .all)) (.ln 3 (.fork .all (.fork (.ln 7 (.lit .all)) (.ln 3 (.fork (.ln 3 (.lit .all)) (.ln 3 (.fork .all (.go (.lit (.fork (.lit (.lit (.lit .all))) (.lit (.lit (.lit .all))))))))))))))))))))))))))))))))))))))))))))))))))))))))))))))))))))))))))))))))))))))))))))))))))))))))))))))
  (t:=.req (true) (.node (decide (m.x.num<1)) (.leaf (.bool false)) (.node (decide (m.x.num>65536)) (.leaf (.bool false)) (.node (decide (m.x.den<1)) (.leaf (.bool false)) (.node (decide (m.x.den>m.x.num)) (.leaf (.bool false)) (.node (decide (m.x.speed<1)) (.leaf (.bool false)) (.node (decide (m.x.speed>1048576)) (.leaf (.bool false)) (.node (decide (m.x.accel<1)) (.leaf (.bool false)) (.node (decide (m.x.accel>16777216)) (.leaf (.bool false)) (.node (decide (m.x.jerk<1)) (.leaf (.bool false)) (.node (decide (m.x.jerk>1048576)) (.leaf (.bool false)) (.node (decide (m.x.min>m.x.max)) (.leaf (.bool false)) (.node (decide (m.x.min < -1048576)) (.leaf (.bool false)) (.node (decide (m.x.max>1048576)) (.leaf (.bool false)) (.req true (.node (decide (m.y.num<1)) (.leaf (.bool false)) (.node (decide (m.y.num>65536)) (.leaf (.bool false)) (.node (decide (m.y.den<1)) (.leaf (.bool false)) (.node (decide (m.y.den>m.y.num)) (.leaf (.bool false)) (.node (decide (m.y.speed<1)) (.leaf (.bool false)) (.node (decide (m.y.speed>1048576)) (.leaf (.bool false)) (.node (decide (m.y.accel<1)) (.leaf (.bool false)) (.node (decide (m.y.accel>16777216)) (.leaf (.bool false)) (.node (decide (m.y.jerk<1)) (.leaf (.bool false)) (.node (decide (m.y.jerk>1048576)) (.leaf (.bool false)) (.node (decide (m.y.min>m.y.max)) (.leaf (.bool false)) (.node (decide (m.y.min < -1048576)) (.leaf (.bool false)) (.node (decide (m.y.max>1048576)) (.leaf (.bool false)) (.req true (.node (decide (m.z.num<1)) (.leaf (.bool false)) (.node (decide (m.z.num>65536)) (.leaf (.bool false)) (.node (decide (m.z.den<1)) (.leaf (.bool false)) (.node (decide (m.z.den>m.z.num)) (.leaf (.bool false)) (.node (decide (m.z.speed<1)) (.leaf (.bool false)) (.node (decide (m.z.speed>1048576)) (.leaf (.bool false)) (.node (decide (m.z.accel<1)) (.leaf (.bool false)) (.node (decide (m.z.accel>16777216)) (.leaf (.bool false)) (.node (decide (m.z.jerk<1)) (.leaf (.bool false)) (.node (decide (m.z.jerk>1048576)) (.leaf (.bool false)) (.node (decide (m.z.min>m.z.max)) (.leaf (.bool false)) (.node (decide (m.z.min < -1048576)) (.leaf (.bool false)) (.node (decide (m.z.max>1048576)) (.leaf (.bool false)) (.req true (.node (decide (m.e.num<1)) (.leaf (.bool false)) (.node (decide (m.e.num>65536)) (.leaf (.bool false)) (.node (decide (m.e.den<1)) (.leaf (.bool false)) (.node (decide (m.e.den>m.e.num)) (.leaf (.bool false)) (.node (decide (m.e.speed<1)) (.leaf (.bool false)) (.node (decide (m.e.speed>1048576)) (.leaf (.bool false)) (.node (decide (m.e.accel<1)) (.leaf (.bool false)) (.node (decide (m.e.accel>16777216)) (.leaf (.bool false)) (.node (decide (m.e.jerk<1)) (.leaf (.bool false)) (.node (decide (m.e.jerk>1048576)) (.leaf (.bool false)) (.node (decide (m.e.min>m.e.max)) (.leaf (.bool false)) (.node (decide (m.e.min < -1048576)) (.leaf (.bool false)) (.node (decide (m.e.max>1048576)) (.leaf (.bool false)) (.node (decide (m.ticks≥1)) (.leaf (.bool (decide (m.ticks≤1048576)))) (.leaf (.bool false)))))))))))))))))))))))))))))))))))))))))))))))))))))))))))
  (by kernel_rfl) (by simp only[Tree.holds,eq_self,true_and,Bool.not_eq_true',Bool.not_eq_false',decide_eq_true_eq,decide_eq_false_iff_not,Bool.and_eq_true,beq_iff_eq];(repeat' (first|apply And.intro|intro _));all_goals(refine holds_bool ?_;rw[Ma.ok_iff];(try simp only[Ax.ok_iff,decide_eq_true_eq,Bool.false_eq_true,false_iff]);first|(intro hh;omega)|(constructor<;>intro hh<;>(try simp only[and_assoc])<;>(repeat' apply And.intro)<;>omega))) (by kernel_rfl) (by kernel_rfl)
def sel(x y:Bool):Bool:=match x==false with
 |true=>y
 |false=>true
theorem sel_not(a b:Bool):sel (!a) (!b)=!(a&&b):=by cases a<;>cases b<;>rfl
theorem not_off(a:Bool):((!a)==false)=a:=by cases a<;>rfl
def St.okM(s:St):Bool:=(sel (!evR s.pitch 32 1024) (!evR s.height 4 1024)==false)&& ((sel (sel (!inR s.walls 0 8) (!inR s.top 0 16)) (!inR s.bottom 0 16)==false)&& ((sel (!inR s.pattern 0 3) (!inR s.spacing 1 64)==false)&& ((sel (sel (sel (!inR s.reach 0 64) (!inR s.gap 0 64)) (!inR s.brim 0 64)) (!inR s.skirt 0 63)==false)&& ((sel (!inR s.drop 1 1073741824) (!inR s.retract 0 65536)==false)&& ((sel (sel (sel (!inR s.feed 1 1048576) (!inR s.travel 1 1048576)) (!inR s.minTime 0 1048576)) (!inR s.minFeed 1 s.feed)==false)&& ((sel (!inR s.nozzle 0 400000) (!inR s.bed 0 400000)==false)&&true))))))
theorem okM_eq(s:St):s.okM=s.ok:=by
 unfold St.okM St.ok
 simp only[sel_not,not_off,Bool.and_true,Bool.and_assoc]
def fWb:Fact:=⟨77,fun args=>match args with
 |[.int .i64 n,.int .i64 a,.int .i64 b] =>some (.leaf (.bool (inR n a b)))
 |_=>none⟩
theorem o_wb:fWb.ok Tryz.prog:=fun args t ht=>by
 simp only[fWb]at ht
 split at ht
 ·rename_i n a b
  injection ht with ht;subst ht
  exact s_wi n a b
 ·cases ht
def fEb:Fact:=⟨76,fun args=>match args with
 |[.int .i64 n,.int .i64 a,.int .i64 b] =>some (.leaf (.bool (evR n a b)))
 |_=>none⟩
theorem o_eb:fEb.ok Tryz.prog:=fun args t ht=>by
 simp only[fEb]at ht
 split at ht
 ·rename_i n a b
  injection ht with ht;subst ht
  exact s_ev n a b
 ·cases ht
theorem s_stOk(s:St):SCall Tryz.prog 28 [s.sv] (.bool s.ok):=
 scall_v mix [fWb,fEb] ⟨o_wb,o_eb,trivial⟩ 1000 (.allM)
  (t:=.leaf (.bool s.okM))
  (by kernel_rfl) (by exact congrArg SV.bool (okM_eq s)) (by kernel_rfl) (by kernel_rfl)
theorem s_stOkR(s:St):SCall Tryz.prog 31 [s.sv] (.bool s.ok):=
 scall_v mix [fWiR] ⟨o_wiR,trivial⟩ 1000 (.fork (.ln 5 (.fork (.ln 9 (.lit .all)) (.lit (.lit (.fork (.ln 7 (.fork .all (.fork (.ln 3 (.fork (.ln 5 (.fork (.ln 5 (.fork (.ln 5 (.fork (.ln 3 (.fork (.ln 3 (.fork (.ln 5 (.fork (.ln 5 (.fork (.ln 3 (.fork (.ln 3 (.fork (.ln 5 (.fork (.ln 5 (.fork (.ln 3 (.fork (.ln 5 (.fork (.ln 4 (.fork (.ln 4 (.fork (.lit .all) (.lit .all))) (.ln 4 (.lit .all)))) (.ln 8 (.lit .all)))) (.ln 13 (.lit .all)))) (.lit (.lit (.lit .all))))) (.ln 7 (.lit .all)))) (.ln 12 (.lit .all)))) (.ln 15 (.lit .all)))) (.lit (.lit (.lit .all))))) (.ln 7 (.lit .all)))) (.ln 12 (.lit .all)))) (.ln 15 (.lit .all)))) (.lit (.lit (.lit .all))))) (.ln 7 (.lit .all)))) (.ln 12 (.lit .all)))) (.ln 17 (.lit .all)))) (.ln 20 (.lit .all))))) (.ln 7 (.lit .all))))))) (.ln 15 (.lit .all)))
  (t:=.node (inR s.pitch 32 1024) (.req true (.node (s.pitch.tmod 2 != 0) (.leaf (.bool false)) (.node (inR s.height 4 1024) (.req true (.node (s.height.tmod 2 != 0) (.leaf (.bool false)) (.node (inR s.walls 0 8) (.node (inR s.top 0 16) (.node (inR s.bottom 0 16) (.node (inR s.pattern 0 3) (.node (inR s.spacing 1 64) (.node (inR s.reach 0 64) (.node (inR s.gap 0 64) (.node (inR s.brim 0 64) (.node (inR s.skirt 0 63) (.node (inR s.drop 1 1073741824) (.node (inR s.feed 1 1048576) (.node (inR s.travel 1 1048576) (.node (inR s.retract 0 65536) (.node (inR s.minTime 0 1048576) (.node (inR s.minFeed 1 s.feed) (.node (inR s.nozzle 0 400000) (.node (inR s.bed 0 400000) (.leaf (.bool true)) (.leaf (.bool false))) (.leaf (.bool false))) (.leaf (.bool false))) (.leaf (.bool false))) (.leaf (.bool false))) (.leaf (.bool false))) (.leaf (.bool false))) (.leaf (.bool false))) (.leaf (.bool false))) (.leaf (.bool false))) (.leaf (.bool false))) (.leaf (.bool false))) (.leaf (.bool false))) (.leaf (.bool false))) (.leaf (.bool false))) (.leaf (.bool false))) (.leaf (.bool false))))) (.leaf (.bool false))))) (.leaf (.bool false)))
  (by kernel_rfl) (by
   simp only[Tree.holds]
   unfold St.ok
   (repeat' (first|apply And.intro|intro _))
   all_goals simp_all[evR]) (by kernel_rfl) (by kernel_rfl)
def asMa:List SV→Option Ma
 |[.int .i64 a0,.int .i64 a1,.int .i64 a2,.int .i64 a3,.int .i64 a4,.int .i64 a5,.int .i64 a6,.int .i64 a7,.int .i64 a8,.int .i64 a9,.int .i64 a10,.int .i64 a11,.int .i64 a12,.int .i64 a13,.int .i64 a14,.int .i64 a15,.int .i64 a16,.int .i64 a17,.int .i64 a18,.int .i64 a19,.int .i64 a20,.int .i64 a21,.int .i64 a22,.int .i64 a23,.int .i64 a24,.int .i64 a25,.int .i64 a26,.int .i64 a27,.bool xy,.int .i64 t] =>some ⟨⟨a0,a1,a2,a3,a4,a5,a6⟩,⟨a7,a8,a9,a10,a11,a12,a13⟩,⟨a14,a15,a16,a17,a18,a19,a20⟩,⟨a21,a22,a23,a24,a25,a26,a27⟩,xy,t⟩
 |_=>none
theorem asMa_eq{l:List SV}{m:Ma}(h:asMa l=some m):l=m.cells:=by
 unfold asMa at h
 split at h
 ·injection h with h;subst h;rfl
 ·cases h
def asSt:List SV→Option St
 |[.int .i64 a0,.int .i64 a1,.int .i64 a2,.int .i64 a3,.int .i64 a4,.int .i64 a5,.int .i64 a6,.bool b,.int .i64 a7,.int .i64 a8,.int .i64 a9,.int .i64 a10,.int .i64 a11,.int .i64 a12,.int .i64 a13,.int .i64 a14,.int .i64 a15,.int .i64 a16,.int .i64 a17,.int .i64 a18] =>some ⟨a0,a1,a2,a3,a4,a5,a6,b,a7,a8,a9,a10,a11,a12,a13,a14,a15,a16,a17,a18⟩
 |_=>none
theorem asSt_eq{l:List SV}{m:St}(h:asSt l=some m):l=m.cells:=by
 unfold asSt at h
 split at h
 ·injection h with h;subst h;rfl
 ·cases h
def factS(f:FuncId):Fact:=⟨f,fun args=>match args with
 |[.agg l] =>match asSt l with
  |some s=>some (.leaf (.bool s.ok))
  |none=>none
 |_=>none⟩
def factM(f:FuncId):Fact:=⟨f,fun args=>match args with
 |[.agg l] =>match asMa l with
  |some s=>some (.leaf (.bool s.ok))
  |none=>none
 |_=>none⟩
def fSt:Fact:=factS 28
def fStR:Fact:=factS 31
def fMa:Fact:=factM 29
def fMaR:Fact:=factM 32
theorem factS_ok{f:FuncId}(k:∀s:St,SCall Tryz.prog f [s.sv] (.bool s.ok)):(factS f).ok Tryz.prog:=fun args t ht=>by
 simp only[factS]at ht
 split at ht
 ·split at ht
  ·rename_i hm
   injection ht with ht;subst ht
   rw[asSt_eq hm];exact k _
  ·cases ht
 ·cases ht
theorem factM_ok{f:FuncId}(k:∀s:Ma,SCall Tryz.prog f [s.sv] (.bool s.ok)):(factM f).ok Tryz.prog:=fun args t ht=>by
 simp only[factM]at ht
 split at ht
 ·split at ht
  ·rename_i hm
   injection ht with ht;subst ht
   rw[asMa_eq hm];exact k _
  ·cases ht
 ·cases ht
theorem o_st:fSt.ok Tryz.prog:=factS_ok s_stOk
theorem o_stR:fStR.ok Tryz.prog:=factS_ok s_stOkR
theorem o_ma:fMa.ok Tryz.prog:=factM_ok s_maOk
theorem o_maR:fMaR.ok Tryz.prog:=factM_ok s_maOkR
def chk(s:St)(m:Ma):Bool:=s.ok&& (m.ok&&!(decide (i64.wrap (i64.wrap (s.pitch*s.pitch)*s.height)<i64.wrap (4*s.drop))))
theorem s_chk(s:St)(m:Ma):SCall Tryz.prog 8 [s.sv,m.sv] (I64 (if chk s m then 0 else 1)):=
 scall_v mix [fSt,fMa] ⟨o_st,o_ma,trivial⟩ 1000 (.fork (.ln 16 (.lit .all)) (.ln 3 (.fork (.ln 12 (.lit .all)) (.ln 12 (.fork .all .all)))))
  (t:=.node (!s.ok)
 (.leaf (SV.int IntKind.i64 1))
 (.node (!m.ok)
  (.leaf (SV.int IntKind.i64 1))
  (.node (decide (i64.wrap (i64.wrap (s.pitch*s.pitch)*s.height)<i64.wrap (4*s.drop)))
   (.leaf (SV.int IntKind.i64 1))
   (.leaf (SV.int IntKind.i64 0)))))
   (by kernel_rfl) (by unfold chk;generalize decide ((_:Int)<_)=d;cases s.ok<;>cases m.ok<;>cases d<;>simp[Tree.holds]<;>rfl) (by kernel_rfl) (by kernel_rfl)
theorem s_chkR(s:St)(m:Ma):SCall Tryz.prog 12 [s.sv,m.sv] (I64 (if chk s m then 0 else 1)):=
 scall_v mix [fStR,fMaR] ⟨o_stR,o_maR,trivial⟩ 1000 (.fork (.ln 16 (.lit .all)) (.ln 3 (.fork (.ln 12 (.lit .all)) (.ln 12 (.fork .all .all)))))
  (t:=.node (!s.ok)
 (.leaf (SV.int IntKind.i64 1))
 (.node (!m.ok)
  (.leaf (SV.int IntKind.i64 1))
  (.node (decide (i64.wrap (i64.wrap (s.pitch*s.pitch)*s.height)<i64.wrap (4*s.drop)))
   (.leaf (SV.int IntKind.i64 1))
   (.leaf (SV.int IntKind.i64 0)))))
   (by kernel_rfl) (by unfold chk;generalize decide ((_:Int)<_)=d;cases s.ok<;>cases m.ok<;>cases d<;>simp[Tree.holds]<;>rfl) (by kernel_rfl) (by kernel_rfl)
def pg0:List UInt8:=List.map (fun n=>UInt8.ofNat (Int.toNat n)) (List.replicate 64 0)
def fZer:Fact:=⟨33,fun args=>match args with
 |[] =>some (.leaf (.str pg0))
 |_=>none⟩
theorem s_zer :SCall Tryz.prog 33 [] (.str pg0):=
 scall_v mix [] trivial 1000 (.all)
  (t:=.req (true) (.leaf (SV.str (pg0))))
  (by kernel_rfl) (by first|trivial|exact⟨rfl,rfl⟩|exact n_req rfl rfl) (by kernel_rfl) (by kernel_rfl)
theorem o_zer:fZer.ok Tryz.prog:=fun args t ht=>by
 simp only[fZer]at ht
 split at ht
 ·injection ht with ht;subst ht;exact s_zer
 ·cases ht
def pn0_p:Plan:=.fork (.lit (.lit (.lit .all))) (.lit (.lit (.fork .all .all)))
noncomputable def pn0_t(n:Int):Tree Stop:= .node (decide (n<2)) (.leaf (.done (.tuple [.agg [.list Ty.str [],.int .i64 0,.bool false,.int .i64 0],.int .i64 1]))) (.node (decide (n>256)) (.leaf (.done (.tuple [.agg [.list Ty.str [],.int .i64 0,.bool false,.int .i64 0],.int .i64 1]))) (.leaf (.at (loopOf Tryz.prog 9 0) 25 (slotsS 25 [(0,.int .i64 n),(2,.ptr 0 0),(4,.ptr 1 0)]) [some (.cells [SV.nilS,.int .i64 0,.bool false,.int .i64 0]),some (.cells [SV.nilS,.int .i64 0,.bool false,.int .i64 0])])))
theorem pn0(n:Int):segR (Env.of Tryz.prog (sumOf [])) 1000 (fnOf Tryz.prog 9) .str (keepS 25 [0,2,4]) (codeS Tryz.prog 9) pn0_p (startS Tryz.prog 9 [I64 n]) [] =pn0_t n:=by kernel_rfl
def pn1_p:Plan:=.fork (.all) (.all)
noncomputable def pn1_t(n:Int)(l:List (List UInt8)):Tree Stop:= .node (decide ((↑l.length:Int)<n)) (.req true (.req (decide ((l.length+1)*16≤140737488355328)) (.leaf (.at (loopOf Tryz.prog 9 0) 25 (slotsS 25 [(0,.int .i64 n),(2,.ptr 0 0),(4,.ptr 1 0)]) [some (.cells [SV.nilS,.int .i64 0,.bool false,.int .i64 0]),some (.cells [SV.row 2,.int .i64 0,.bool false,.int .i64 0]),some (.rows Ty.str (l++[pg0]))])))) (.leaf (.done (.tuple [.agg [.list Ty.str l,.int .i64 0,.bool false,.int .i64 0],.int .i64 0])))
theorem pn1(n:Int)(l:List (List UInt8)):segR (Env.of Tryz.prog (sumOf [])) 1000 (fnOf Tryz.prog 9) .str (keepS 25 [0,2,4]) (loopOf Tryz.prog 9 0) pn1_p (slotsS 25 [(0,I64 n),(2,.ptr 0 0),(4,.ptr 1 0)]) [some (.cells [.nilS,I64 0,.bool false,I64 0]),some (.cells [.row 2,I64 0,.bool false,I64 0]),some (.rows .str l)] =pn1_t n l:=by kernel_rfl
def qn0_p:Plan:=.fork (.lit (.lit (.lit .all))) (.lit (.lit (.fork .all .all)))
noncomputable def qn0_t(n:Int):Tree Stop:= .node (decide (n<2)) (.leaf (.done (.tuple [.agg [.list Ty.str [],.int .i64 0,.bool false,.int .i64 0],.int .i64 1]))) (.node (decide (n>256)) (.leaf (.done (.tuple [.agg [.list Ty.str [],.int .i64 0,.bool false,.int .i64 0],.int .i64 1]))) (.leaf (.at (loopOf Tryz.prog 13 0) 25 (slotsS 25 [(0,.int .i64 n),(2,.ptr 0 0),(4,.ptr 1 0),(5,.int .i64 0)]) [some (.cells [SV.nilS,.int .i64 0,.bool false,.int .i64 0]),some (.cells [SV.nilS,.int .i64 0,.bool false,.int .i64 0])])))
theorem qn0(n:Int):segR (Env.of Tryz.prog (sumOf [fZer])) 1000 (fnOf Tryz.prog 13) .str (keepS 25 [0,2,4,5]) (codeS Tryz.prog 13) qn0_p (startS Tryz.prog 13 [I64 n]) [] =qn0_t n:=by kernel_rfl
def qn1_p:Plan:=.fork (.all) (.all)
noncomputable def qn1_t(n:Int)(l:List (List UInt8))(i:Int):Tree Stop:= .node (decide (i<n)) (.req (decide ((l.length+1)*16≤140737488355328)) (.leaf (.at (loopOf Tryz.prog 13 0) 25 (slotsS 25 [(0,.int .i64 n),(2,.ptr 0 0),(4,.ptr 1 0),(5,.int .i64 (i64.wrap (i+1)))]) [some (.cells [SV.nilS,.int .i64 0,.bool false,.int .i64 0]),some (.cells [SV.row 2,.int .i64 0,.bool false,.int .i64 0]),some (.rows Ty.str (l++[pg0]))]))) (.leaf (.done (.tuple [.agg [.list Ty.str l,.int .i64 0,.bool false,.int .i64 0],.int .i64 0])))
theorem qn1(n:Int)(l:List (List UInt8))(i:Int):segR (Env.of Tryz.prog (sumOf [fZer])) 1000 (fnOf Tryz.prog 13) .str (keepS 25 [0,2,4,5]) (loopOf Tryz.prog 13 0) qn1_p (slotsS 25 [(0,I64 n),(2,.ptr 0 0),(4,.ptr 1 0),(5,I64 i)]) [some (.cells [.nilS,I64 0,.bool false,I64 0]),some (.cells [.row 2,I64 0,.bool false,I64 0]),some (.rows .str l)] =qn1_t n l i:=by kernel_rfl
end Go.Proofs.YthhncpfcimmnjaaGreatDoor
namespace Go.Sx
open Go.RowKit
section
variable {α:Type} {Φ:α→Prop}
end
inductive Wk (nz:Bool) (boxes:List (Option Box)) (fz:List Nat):SV→SV→Prop where
 |same (x:SV):Wk nz boxes fz x x
 |top (x:SV):Wk nz boxes fz x .top
 |nil (h:nz=true):Wk nz boxes fz .nilS (.row boxes.length)
 |frz {id:Nat} {t:Ty} {l:List t.T} (hid:id∈fz) (hb:boxes[id]? =some (some (.rows t l))):Wk nz boxes fz (.row id) (.list t l)
def WkL(nz:Bool)(boxes:List (Option Box))(fz:List Nat):List SV→List SV→Prop
 |[],[] =>True
 |x::xs,y::ys=>Wk nz boxes fz x y∧WkL nz boxes fz xs ys
 |_,_=>False
def WkK(nz:Bool)(boxes:List (Option Box))(fz:List Nat):List (Nat×SV)→List (Nat×SV)→Prop
 |[],[] =>True
 |x::xs,y::ys=>x.1=y.1∧Wk nz boxes fz x.2 y.2∧WkK nz boxes fz xs ys
 |_,_=>False
inductive WkB (nz:Bool) (boxes:List (Option Box)) (fz:List Nat):Box→Box→Prop where
 |same (B:Box):WkB nz boxes fz B B
 |cells {cs ds:List SV} (h:WkL nz boxes fz cs ds):WkB nz boxes fz (.cells cs) (.cells ds)
def WkBs(nz:Bool)(boxes:List (Option Box))(fz:List Nat):Nat→List (Option Box)→List (Option Box)→Prop
 |_,[],[] =>nz=false
 |_,[],some (.rows _ [])::[] =>True
 |i,_::bs,none::bs'=>WkBs nz boxes fz (i+1) bs bs'
 |i,some B::bs,some B'::bs'=>i∉fz∧WkB nz boxes fz B B'∧WkBs nz boxes fz (i+1) bs bs'
 |_,_,_=>False
section
variable {nz:Bool} {boxes:List (Option Box)} {fz:List Nat}
theorem WkL.length:∀{l l':List SV},WkL nz boxes fz l l'→l'.length=l.length
 |[],[],_=>rfl
 |x::xs,y::ys,h=>by simp[WkL.length h.2]
theorem WkL.get:∀{l l':List SV},WkL nz boxes fz l l'→∀{i:Nat} {y:SV},l'[i]? =some y→∃x,l[i]? =some x∧Wk nz boxes fz x y
 |[],[],_,i,y,h=>by simp at h
 |x::xs,z::ys,h,0,y,hy=>by
  simp at hy;subst hy
  exact⟨x,rfl,h.1⟩
 |x::xs,z::ys,h,i+1,y,hy=>by
  simpa using WkL.get h.2 (i:=i) (y:=y) (by simpa using hy)
theorem WkK.lookup:∀{ks ks':List (Nat×SV)},WkK nz boxes fz ks ks'→∀i,Wk nz boxes fz ((ks.lookup i).getD .top) ((ks'.lookup i).getD .top)
 |[],[],_,i=>.same _
 |x::xs,y::ys,h,i=>by
  obtain⟨h1,h2,h3⟩:=h
  obtain⟨a,x⟩:=x
  obtain⟨b,y⟩:=y
  dsimp only at h1 h2
  subst h1
  simp only[List.lookup]
  cases(i==a)with
  |true=>exact h2
  |false=>exact WkK.lookup h3 i
theorem slotsS_wk{n:Nat}{ks ks':List (Nat×SV)}(h:WkK nz boxes fz ks ks'):WkL nz boxes fz (slotsS n ks) (slotsS n ks'):=by
 unfold slotsS
 induction List.range n with
 |nil=>trivial
 |cons i l ih=>exact⟨h.lookup i,ih⟩
theorem WkBs.len:∀{i:Nat} {bs bs':List (Option Box)},WkBs nz boxes fz i bs bs'→bs.length≤bs'.length
 |_,[],[],_=>Nat.le_refl _
 |_,[],some (.rows _ [])::[],_=>by simp
 |i,_::bs,none::bs',h=>by simpa using WkBs.len (i:=i+1) (bs:=bs) (bs':=bs') h
 |i,some B::bs,some B'::bs',h=>by simpa using WkBs.len (i:=i+1) h.2.2
theorem WkBs.len2(hz:nz=true):∀{i:Nat} {bs bs':List (Option Box)},WkBs nz boxes fz i bs bs'→bs.length<bs'.length
 |_,[],[],h=>by rw[show nz=false from h]at hz;cases hz
 |_,[],some (.rows _ [])::[],_=>by simp
 |i,_::bs,none::bs',h=>by simpa using WkBs.len2 hz (i:=i+1) (bs:=bs) (bs':=bs') h
 |i,some B::bs,some B'::bs',h=>by simpa using WkBs.len2 hz (i:=i+1) h.2.2
theorem WkBs.get:∀{i:Nat} {bs bs':List (Option Box)},WkBs nz boxes fz i bs bs'→∀{j:Nat} {B':Box},(bs'[j]?).join=some B'→(∃B,(bs[j]?).join=some B∧i+j∉fz∧WkB nz boxes fz B B')∨(j=bs.length∧∃t,B'=.rows t [])
 |_,[],[],_,j,B',h=>by simp at h
 |_,[],some (.rows t [])::[],_,0,B',h=>by
  simp at h;subst h
  exact .inr ⟨rfl,t,rfl⟩
 |_,[],some (.rows t [])::[],_,j+1,B',h=>by simp at h
 |i,_::bs,none::bs',h,0,B',hj=>by simp at hj
 |i,x::bs,none::bs',h,j+1,B',hj=>by
  have:=WkBs.get (i:=i+1) (bs:=bs) (bs':=bs') h (j:=j) (B':=B') (by simpa using hj)
  simpa[Nat.add_assoc,Nat.add_comm 1 j]using this
 |i,some B::bs,some C::bs',h,0,B',hj=>by
  simp at hj;subst hj
  exact .inl ⟨B,rfl,by simpa using h.1,h.2.1⟩
 |i,some B::bs,some C::bs',h,j+1,B',hj=>by
  have:=WkBs.get (i:=i+1) h.2.2 (j:=j) (B':=B') (by simpa using hj)
  simpa[Nat.add_assoc,Nat.add_comm 1 j]using this
theorem SRelD.weak{ds:List Deferred}{slots slots':List SV}{boxes':List (Option Box)}{fr fr':Fr}{m m':Mem}(hc:Canon slots boxes fr m)(hc':Canon slots' boxes' fr' m')(hs:WkL nz boxes fz slots slots')(hb:WkBs nz boxes fz 0 boxes boxes'){w0:World}{R0:RSet}{ρ:Rho}{w:World}{a:Act}(h:SRelD ds w0 R0 ρ w fr m a):
  SRelD ds w0 R0 (upd ρ boxes.length (0,0,0)) w fr' m' a∧∀b,RO w0 R0 ρ w m b→RO w0 R0 (upd ρ boxes.length (0,0,0)) w m' b:=by
 obtain⟨h1,h2,h3⟩:=h
 have hlen:=hb.len
 have hn:m.next=boxes.length:=hc.next
 have hn':m'.next=boxes'.length:=hc'.next
 -- where each box comes from
 have hg:∀id B',m'.get id=some B'→(∃B,m.get id=some B∧id≠boxes.length∧id∉fz∧WkB nz boxes fz B B')∨(id=boxes.length∧∃t,B'=.rows t []):=fun id B' hB=>by
  rw[hc'.box]at hB
  rcases hb.get hB with⟨B,k1,k2,k3⟩|k
  ·refine .inl ⟨B,by rw[hc.box];exact k1,fun e=>?_,by simpa using k2,k3⟩
   subst e
   simp at k1
  ·exact .inr k
 have hsol:∀{B B':Box} {r:Nat×Nat×Nat},WkB nz boxes fz B B'→(solid r B'↔solid r B):=fun hw=>by
  cases hw with
  |same=>exact Iff.rfl
  |cells=>exact Iff.rfl
 have hro:∀b,RO w0 R0 ρ w m b→RO w0 R0 (upd ρ boxes.length (0,0,0)) w m' b:=fun b hb2=>by
  rcases hb2 with hb2|⟨k1,k2,k3,k4⟩
  ·exact .inl hb2
  ·refine .inr ⟨k1,k2,fun id B' hB hs'=>?_,k4⟩
   rcases hg id B' hB with⟨B,g1,g2,g3,g4⟩|⟨rfl,t,rfl⟩
   ·rw[upd_other _ _ g2]at hs' ⊢
    exact k3 id B g1 ((hsol g4).1 hs')
   ·rw[upd_same]at hs';exact absurd hs' (Nat.lt_irrefl _)
 have e:Ext (RO w0 R0 ρ w m) ρ m.next w (RO w0 R0 (upd ρ boxes.length (0,0,0)) w m') (upd ρ boxes.length (0,0,0)) m'.next w:=⟨by omega,fun id hid=>upd_other _ _ (by omega),fun b hb2=>⟨hro b hb2,rfl⟩⟩
 have hval:∀ (x y:SV) (v:Value),Wk nz boxes fz x y→Rep (RO w0 R0 ρ w m) ρ m.next w x v→Rep (RO w0 R0 (upd ρ boxes.length (0,0,0)) w m') (upd ρ boxes.length (0,0,0)) m'.next w y v:=by
  intro x y v hw hr
  cases hw with
  |same=>exact Rep.mono e _ _ hr
  |top=>trivial
  |nil hz=>
   rw[show v=_ from hr]
   have hx:=hb.len2 hz
   exact⟨by omega,none,by rw[upd_same],fun h0=>by rw[upd_same]at h0;exact absurd h0 (Nat.lt_irrefl _)⟩
  |frz hid hb1=>
   rename_i id t l
   obtain⟨_,a,hu,ha⟩:=hr
   have hgid:m.get id=some (.rows t l):=by rw[hc.box,hb1];rfl
   obtain⟨b1,b2,hp⟩:=h1.box id _ hgid
   refine⟨a,(ρ id).2.2,by rw[hu,b1],b2,fun h0=>?_⟩
   have h0:0< (ρ id).2.2:=Nat.lt_of_lt_of_le h0 b2
   obtain⟨arr,el,fr,k1,k2,k3,k4⟩:=hp h0
   refine⟨(ρ id).1,0,ha h0,.inr ⟨h1.lo id _ hgid h0,h1.hi id _ hgid h0,fun id' B' hB hs' heq=>?_,h1.hid.2 id _ hgid h0⟩,fun i hi=>?_⟩
   ·rcases hg id' B' hB with⟨B,g1,g2,g3,g4⟩|⟨rfl,t,rfl⟩
    ·rw[upd_other _ _ g2]at hs' heq
     have:=h1.inj id' id B _ g1 hgid ((hsol g4).1 hs') h0 heq
     subst this
     exact g3 hid
    ·rw[upd_same]at hs';exact absurd hs' (Nat.lt_irrefl _)
   ·obtain⟨cs,c1,c2,c3⟩:=k4 i hi
    refine⟨cs,c1,fun j hj=>?_,RepD.mono e.keep _ _ _ c3⟩
    rw[cell_of_row w _ _ arr el fr k1,Nat.zero_add]
    exact c2 j hj
 have hvalL:∀ (xs ys:List SV) (vs:List Value),WkL nz boxes fz xs ys→RepL (RO w0 R0 ρ w m) ρ m.next w xs vs→RepL (RO w0 R0 (upd ρ boxes.length (0,0,0)) w m') (upd ρ boxes.length (0,0,0)) m'.next w ys vs:=by
  intro xs
  induction xs with
  |nil=>
   intro ys vs hw hr
   cases ys with
   |nil=>exact hr
   |cons _ _=>exact hw.elim
  |cons x xs ih=>
   intro ys vs hw hr
   cases ys with
   |nil=>exact hw.elim
   |cons y ys=>
    obtain⟨u,us,rfl,r1,r2⟩:=hr
    exact⟨u,us,rfl,hval x y u hw.1 r1,ih ys us hw.2 r2⟩
 refine⟨⟨⟨h1.below,fun id B' hB=>?_,fun id B' hB hs'=>?_,fun id B' hB hs'=>?_,fun id id' B' C' hB hC hs1 hs2 heq=>?_,fun id B' hB=>?_,h1.hid.1,fun id B' hB hs'=>?_⟩,⟨?_,fun t=>?_⟩,h3⟩,hro⟩
 ·rw[hn']
  rw[hc'.box]at hB
  rcases Nat.lt_or_ge id boxes'.length with k|k
  ·exact k
  ·rw[List.getElem?_eq_none k]at hB;cases hB
 ·rcases hg id B' hB with⟨B,g1,g2,g3,g4⟩|⟨rfl,t,rfl⟩
  ·rw[upd_other _ _ g2]at hs' ⊢;exact h1.lo id B g1 ((hsol g4).1 hs')
  ·rw[upd_same]at hs';exact absurd hs' (Nat.lt_irrefl _)
 ·rcases hg id B' hB with⟨B,g1,g2,g3,g4⟩|⟨rfl,t,rfl⟩
  ·rw[upd_other _ _ g2]at hs' ⊢;exact h1.hi id B g1 ((hsol g4).1 hs')
  ·rw[upd_same]at hs';exact absurd hs' (Nat.lt_irrefl _)
 ·rcases hg id B' hB with⟨B,g1,g2,g3,g4⟩|⟨rfl,t,rfl⟩
  ·rcases hg id' C' hC with⟨C,g1',g2',g3',g4'⟩|⟨rfl,t',rfl⟩
   ·rw[upd_other _ _ g2]at hs1 heq;rw[upd_other _ _ g2']at hs2 heq
    exact h1.inj id id' B C g1 g1' ((hsol g4).1 hs1) ((hsol g4').1 hs2) heq
   ·rw[upd_same]at hs2;exact absurd hs2 (Nat.lt_irrefl _)
  ·rw[upd_same]at hs1;exact absurd hs1 (Nat.lt_irrefl _)
 ·rcases hg id B' hB with⟨B,g1,g2,g3,g4⟩|⟨rfl,t,rfl⟩
  ·rw[upd_other _ _ g2]
   cases g4 with
   |same=>exact BoxRel.mono e _ (fun _=>rfl) (h1.box id _ g1)
   |cells hw=>
    obtain⟨arr,el,fr2,k1,k2,k3⟩:=h1.box id _ g1
    exact⟨arr,el,fr2,k1,k2,hvalL _ _ _ hw k3⟩
  ·rw[upd_same]
   exact⟨rfl,Nat.le_refl _,fun h0=>absurd h0 (Nat.lt_irrefl _)⟩
 ·rcases hg id B' hB with⟨B,g1,g2,g3,g4⟩|⟨rfl,t,rfl⟩
  ·rw[upd_other _ _ g2]at hs' ⊢;exact h1.hid.2 id B g1 ((hsol g4).1 hs')
  ·rw[upd_same]at hs';exact absurd hs' (Nat.lt_irrefl _)
 ·rw[hc'.size,hs.length,←hc.size];exact h2.1
 ·rw[hc'.get t,List.getD_eq_getElem?_getD]
  cases hx:slots'[t]? with
  |none=>
   have ht:slots'.length≤t:=by simpa using hx
   have:a.tmps.getD t Go.undef=Go.undef:=by
    rw[Array.getD_eq_getD_getElem?,Array.getElem?_eq_none (by rw[←h2.1,hc.size,←hs.length];exact ht)]
    rfl
   rw[this];exact rfl
  |some y=>
   obtain⟨x,hx1,hw⟩:=hs.get hx
   refine hval x y _ hw ?_
   have:=h2.2 t
   rw[hc.get t,List.getD_eq_getElem?_getD,hx1]at this
   exact this
end
theorem runsR_weak{P:Program}(nz:Bool){fn:Func}{v:SV}{items:List Item}{slots slots':List SV}{boxes boxes':List (Option Box)}(fz:List Nat)(hs:WkL nz boxes fz slots slots')(hb:WkBs nz boxes fz 0 boxes boxes')(h:RunsR P fn v items slots' boxes'):RunsR P fn v items slots boxes:=by
 intro fr m hc w0 R0 ρ w a hS b cs
 obtain⟨fr',m',hc'⟩:=Canon.of (slots:=slots') (boxes:=boxes')
 obtain⟨h1,h2⟩:=SRelD.weak hc hc' hs hb hS
 obtain⟨ρ',w',a',todo,u,q1,q2,q3,q4,q5,q6⟩:=h fr' m' hc' w0 R0 _ w a h1 b cs
 exact⟨ρ',w',a',todo,u,q1,q2,fun b hb2=>q3 b (h2 b hb2),q4,q5,q6⟩
end Go.Sx
namespace Go.Proofs.YthhncpfcimmnjaaGreatDoor
open Go.Sx
theorem kW{l:List Fact}(hl:allOk Tryz.prog l):Known Tryz.prog (Env.of Tryz.prog (sumOf l)):=known_of mix (sumOf_ok l hl.all)
theorem k000:Known Tryz.prog (Env.of Tryz.prog (sumOf [])):=kW trivial
theorem w64{x:Int}(h0: -9223372036854775808≤x)(h1:x≤9223372036854775807):i64.wrap x=x:=wrap64 h0 h1
theorem n_dec{α:Type}{L:α→Prop}{p:Prop}[Decidable p]{T F:Tree α}(h:p→T.holds L)(h':¬p→F.holds L):(Tree.node (decide p) T F).holds L:=⟨fun e=>h (of_decide_eq_true e),fun e=>h' (of_decide_eq_false e)⟩
theorem n_req{α:Type}{L:α→Prop}{b:Bool}{T:Tree α}(h:b=true)(h':T.holds L):(Tree.req b T).holds L:=⟨h,h'⟩
def flL(n:Int):List (List UInt8):=List.replicate n.toNat pg0
def flC(n:Int):List SV:=[.list .str (flL n),I64 0,.bool false,I64 0]
def flV(n:Int):SV:=.agg (flC n)
def flNo:SV:=.agg [.list .str [],I64 0,.bool false,I64 0]
def flOk(n:Int):Bool:=inR n 2 256
def flNew(n:Int):SV:=if flOk n then .tuple [flV n,I64 0]else .tuple [flNo,I64 1]
theorem flNew_yes{n:Int}(h:flOk n=true):flNew n=.tuple [flV n,I64 0] :=by unfold flNew;rw[h];rfl
theorem flNew_no{n:Int}(h:flOk n=false):flNew n=.tuple [flNo,I64 1] :=by unfold flNew;rw[h];rfl
theorem flNew_data(n:Int):(flNew n).data=true:=by
 cases h:flOk n
 ·rw[flNew_no h];rfl
 ·rw[flNew_yes h];rfl
abbrev slN(n:Int):List SV:=slotsS 25 [(0,I64 n),(2,.ptr 0 0),(4,.ptr 1 0)]
abbrev slQ(n i:Int):List SV:=slotsS 25 [(0,I64 n),(2,.ptr 0 0),(4,.ptr 1 0),(5,I64 i)]
abbrev bxN(l:List (List UInt8)):List (Option Box):=[some (.cells [.nilS,I64 0,.bool false,I64 0]),some (.cells [.row 2,I64 0,.bool false,I64 0]),some (.rows .str l)]
theorem rep_snoc(k:Nat):List.replicate k pg0++[pg0] =List.replicate (k+1) pg0:=by
 rw[List.replicate_succ']
theorem pn_loop(n:Int)(hn:2≤n∧n≤256):∀ (d k:Nat),(k:Int)+d=n→RunsR Tryz.prog (fnOf Tryz.prog 9) (.tuple [flV n,I64 0]) (loopOf Tryz.prog 9 0) (slN n) (bxN (List.replicate k pg0))
 |d,k,hk=>by
  have hl:(List.replicate k pg0).length=k:=List.length_replicate
  refine runsR_seg k000 (n:=1000) (hint:=.str) (keep:=keepS 25 [0,2,4]) (p:=pn1_p) rfl ?_
  erw [pn1 n (List.replicate k pg0)]
  unfold pn1_t
  refine n_dec (fun h=>n_req rfl (n_req (decide_eq_true (by omega)) ⟨slotsS_len _ _,?_⟩)) fun h=>?_
  ·rw[hl]at h
   match d,hk with
   |0,hk=>omega
   |d+1,hk=>rw[rep_snoc];exact pn_loop n hn d (k+1) (by omega)
  ·rw[hl]at h
   have:k=n.toNat:=by omega
   subst this
   rfl
theorem qn_loop(n:Int)(hn:2≤n∧n≤256):∀ (d k:Nat),(k:Int)+d=n→RunsR Tryz.prog (fnOf Tryz.prog 13) (.tuple [flV n,I64 0]) (loopOf Tryz.prog 13 0) (slQ n k) (bxN (List.replicate k pg0))
 |d,k,hk=>by
  have hl:(List.replicate k pg0).length=k:=List.length_replicate
  have w1:i64.wrap ((k:Int)+1)=((k+1:Nat):Int):=by rw[w64 (by omega) (by omega)];omega
  refine runsR_seg (kW (l:=[fZer]) ⟨o_zer,trivial⟩) (n:=1000) (hint:=.str) (keep:=keepS 25 [0,2,4,5]) (p:=qn1_p) rfl ?_
  erw [qn1 n (List.replicate k pg0) k]
  unfold qn1_t
  refine n_dec (fun h=>n_req (decide_eq_true (by omega)) ⟨slotsS_len _ _,?_⟩) fun h=>?_
  ·match d,hk with
   |0,hk=>omega
   |d+1,hk=>rw[rep_snoc,w1];exact qn_loop n hn d (k+1) (by omega)
  ·have:k=n.toNat:=by omega
   subst this
   rfl
theorem s_flNew(n:Int):SCall Tryz.prog 9 [I64 n] (flNew n):=by
 refine scallR_loops rfl (flNew_data n) (by kernel_rfl) (runsR_seg k000 (n:=1000) (hint:=.str) (keep:=keepS 25 [0,2,4]) (p:=pn0_p) (boxes:=[]) (flNew_data n) ?_)
 have q:=pn0 n
 unfold startS codeS at q
 erw [q]
 unfold pn0_t
 refine n_dec (fun h=>?_) fun h=>n_dec (fun h'=>?_) fun h'=>⟨slotsS_len _ _,?_⟩
 ·rw[flNew_no (by unfold flOk inR;simp;omega)];rfl
 ·rw[flNew_no (by unfold flOk inR;simp;omega)];rfl
 ·rw[flNew_yes (inR_iff.2 (by omega))]
  have r:=pn_loop n (by omega) n.toNat 0 (by omega)
  exact runsR_weak true [] (slots':=slN n) (boxes':=bxN []) (slotsS_wk ⟨rfl,.same _,rfl,.same _,rfl,.same _,trivial⟩) ⟨by simp,.same _,by simp,.cells ⟨.nil rfl,.same _,.same _,.same _,trivial⟩,trivial⟩ r
theorem s_flNewR(n:Int):SCall Tryz.prog 13 [I64 n] (flNew n):=by
 refine scallR_loops rfl (flNew_data n) (by kernel_rfl) (runsR_seg (kW (l:=[fZer]) ⟨o_zer,trivial⟩) (n:=1000) (hint:=.str) (keep:=keepS 25 [0,2,4,5]) (p:=qn0_p) (boxes:=[]) (flNew_data n) ?_)
 have q:=qn0 n
 unfold startS codeS at q
 erw [q]
 unfold qn0_t
 refine n_dec (fun h=>?_) fun h=>n_dec (fun h'=>?_) fun h'=>⟨slotsS_len _ _,?_⟩
 ·rw[flNew_no (by unfold flOk inR;simp;omega)];rfl
 ·rw[flNew_no (by unfold flOk inR;simp;omega)];rfl
 ·rw[flNew_yes (inR_iff.2 (by omega))]
  have r:=qn_loop n (by omega) n.toNat 0 (by omega)
  exact runsR_weak true [] (slots':=slQ n 0) (boxes':=bxN []) (slotsS_wk ⟨rfl,.same _,rfl,.same _,rfl,.same _,rfl,.same _,trivial⟩) ⟨by simp,.same _,by simp,.cells ⟨.nil rfl,.same _,.same _,.same _,trivial⟩,trivial⟩ r
def wldC(s:St)(m:Ma)(n:Int):List SV:=[SV.int IntKind.i64 s.pitch,SV.int IntKind.i64 s.height,SV.int IntKind.i64 s.walls,SV.int IntKind.i64 s.top,SV.int IntKind.i64 s.bottom,SV.int IntKind.i64 s.pattern,SV.int IntKind.i64 s.spacing,SV.bool s.support,SV.int IntKind.i64 s.reach,SV.int IntKind.i64 s.gap,SV.int IntKind.i64 s.brim,SV.int IntKind.i64 s.skirt,SV.int IntKind.i64 s.drop,SV.int IntKind.i64 s.feed,SV.int IntKind.i64 s.travel,SV.int IntKind.i64 s.retract,SV.int IntKind.i64 s.minTime,SV.int IntKind.i64 s.minFeed,SV.int IntKind.i64 s.nozzle,SV.int IntKind.i64 s.bed,SV.int IntKind.i64 m.x.num,SV.int IntKind.i64 m.x.den,SV.int IntKind.i64 m.x.speed,SV.int IntKind.i64 m.x.accel,SV.int IntKind.i64 m.x.jerk,SV.int IntKind.i64 m.x.min,SV.int IntKind.i64 m.x.max,SV.int IntKind.i64 m.y.num,SV.int IntKind.i64 m.y.den,SV.int IntKind.i64 m.y.speed,SV.int IntKind.i64 m.y.accel,SV.int IntKind.i64 m.y.jerk,SV.int IntKind.i64 m.y.min,SV.int IntKind.i64 m.y.max,SV.int IntKind.i64 m.z.num,SV.int IntKind.i64 m.z.den,SV.int IntKind.i64 m.z.speed,SV.int IntKind.i64 m.z.accel,SV.int IntKind.i64 m.z.jerk,SV.int IntKind.i64 m.z.min,SV.int IntKind.i64 m.z.max,SV.int IntKind.i64 m.e.num,SV.int IntKind.i64 m.e.den,SV.int IntKind.i64 m.e.speed,SV.int IntKind.i64 m.e.accel,SV.int IntKind.i64 m.e.jerk,SV.int IntKind.i64 m.e.min,SV.int IntKind.i64 m.e.max,SV.bool m.xy,SV.int IntKind.i64 m.ticks,SV.nilS,SV.nilS,SV.nilS,SV.nilS,SV.int IntKind.i64 0,SV.int IntKind.i64 0,SV.int IntKind.i64 0,SV.int IntKind.i64 0,SV.int IntKind.i64 0,SV.int IntKind.i64 1,SV.nilS,SV.bool true,SV.int IntKind.i64 m.x.num,SV.int IntKind.i64 m.x.den,SV.int IntKind.i64 m.x.speed,SV.int IntKind.i64 m.x.accel,SV.int IntKind.i64 m.x.jerk,SV.int IntKind.i64 m.x.min,SV.int IntKind.i64 m.x.max,SV.int IntKind.i64 m.y.num,SV.int IntKind.i64 m.y.den,SV.int IntKind.i64 m.y.speed,SV.int IntKind.i64 m.y.accel,SV.int IntKind.i64 m.y.jerk,SV.int IntKind.i64 m.y.min,SV.int IntKind.i64 m.y.max,SV.int IntKind.i64 m.z.num,SV.int IntKind.i64 m.z.den,SV.int IntKind.i64 m.z.speed,SV.int IntKind.i64 m.z.accel,SV.int IntKind.i64 m.z.jerk,SV.int IntKind.i64 m.z.min,SV.int IntKind.i64 m.z.max,SV.int IntKind.i64 m.e.num,SV.int IntKind.i64 m.e.den,SV.int IntKind.i64 m.e.speed,SV.int IntKind.i64 m.e.accel,SV.int IntKind.i64 m.e.jerk,SV.int IntKind.i64 m.e.min,SV.int IntKind.i64 m.e.max,SV.bool m.xy,SV.int IntKind.i64 m.ticks,SV.int IntKind.i64 1,SV.bool false,SV.int IntKind.i64 0,SV.int IntKind.i64 0,SV.int IntKind.i64 0,SV.int IntKind.i64 0,SV.int IntKind.i64 0,SV.int IntKind.i64 0,SV.int IntKind.i64 0,SV.int IntKind.i64 0,SV.int IntKind.i64 0,SV.nilS,SV.nilS,SV.int IntKind.i64 0,SV.int IntKind.i64 0,SV.int IntKind.i64 0,SV.int IntKind.i64 0,SV.int IntKind.i64 0,SV.int IntKind.i64 0,SV.int IntKind.i64 0,SV.int IntKind.i64 0,SV.int IntKind.i64 0,SV.int IntKind.i64 0,SV.bool false,SV.int IntKind.i64 0,SV.bool false,SV.int IntKind.i64 0,SV.int IntKind.i64 0,SV.int IntKind.i64 0,SV.int IntKind.i64 0,SV.int IntKind.i64 0,SV.int IntKind.i64 0,SV.int IntKind.i64 0,SV.int IntKind.i64 10,SV.int IntKind.i64 1,SV.int IntKind.i64 1000,SV.int IntKind.i64 0,SV.int IntKind.i64 255000,SV.int IntKind.i64 0,SV.int IntKind.i64 10,SV.int IntKind.i64 1,SV.int IntKind.i64 1000,SV.int IntKind.i64 0,SV.int IntKind.i64 255000,SV.int IntKind.i64 1000,SV.int IntKind.i64 290000,SV.int IntKind.i64 50,SV.int IntKind.i64 500,SV.int IntKind.i64 10000,SV.int IntKind.i64 0,SV.int IntKind.i64 0,SV.int IntKind.i64 5000,SV.int IntKind.i64 0,SV.int IntKind.i64 0,SV.bool false,SV.int IntKind.i64 1000,SV.int IntKind.i64 120000,SV.int IntKind.i64 100,SV.int IntKind.i64 200,SV.int IntKind.i64 5000,SV.int IntKind.i64 0,SV.int IntKind.i64 0,SV.int IntKind.i64 5000,SV.int IntKind.i64 0,SV.int IntKind.i64 0,SV.bool false,SV.int IntKind.i64 0,SV.int IntKind.i64 0,SV.int IntKind.i64 0,SV.int IntKind.i64 170000,SV.int IntKind.i64 0,SV.int IntKind.i64 0,SV.list Ty.str (flL n),SV.int IntKind.i64 0,SV.bool false,SV.int IntKind.i64 0,SV.int IntKind.i64 0,SV.int IntKind.i64 0,SV.int IntKind.i64 0,SV.int IntKind.i64 0,SV.int IntKind.i64 20000,SV.int IntKind.i64 20000,SV.int IntKind.i64 4400,SV.int IntKind.i64 4,SV.int IntKind.i64 400,SV.int IntKind.i64 20000,SV.int IntKind.i64 800,SV.int IntKind.i64 2,SV.int IntKind.i64 400,SV.int IntKind.i64 20000,SV.int IntKind.i64 0,SV.int IntKind.i64 0,SV.int IntKind.i64 0,SV.nilS,SV.int IntKind.i64 0,SV.bool false,SV.bool false,SV.bool false]
def wld0:List SV:=[SV.int IntKind.i64 0,SV.int IntKind.i64 0,SV.int IntKind.i64 0,SV.int IntKind.i64 0,SV.int IntKind.i64 0,SV.int IntKind.i64 0,SV.int IntKind.i64 0,SV.bool false,SV.int IntKind.i64 0,SV.int IntKind.i64 0,SV.int IntKind.i64 0,SV.int IntKind.i64 0,SV.int IntKind.i64 0,SV.int IntKind.i64 0,SV.int IntKind.i64 0,SV.int IntKind.i64 0,SV.int IntKind.i64 0,SV.int IntKind.i64 0,SV.int IntKind.i64 0,SV.int IntKind.i64 0,SV.int IntKind.i64 0,SV.int IntKind.i64 0,SV.int IntKind.i64 0,SV.int IntKind.i64 0,SV.int IntKind.i64 0,SV.int IntKind.i64 0,SV.int IntKind.i64 0,SV.int IntKind.i64 0,SV.int IntKind.i64 0,SV.int IntKind.i64 0,SV.int IntKind.i64 0,SV.int IntKind.i64 0,SV.int IntKind.i64 0,SV.int IntKind.i64 0,SV.int IntKind.i64 0,SV.int IntKind.i64 0,SV.int IntKind.i64 0,SV.int IntKind.i64 0,SV.int IntKind.i64 0,SV.int IntKind.i64 0,SV.int IntKind.i64 0,SV.int IntKind.i64 0,SV.int IntKind.i64 0,SV.int IntKind.i64 0,SV.int IntKind.i64 0,SV.int IntKind.i64 0,SV.int IntKind.i64 0,SV.int IntKind.i64 0,SV.bool false,SV.int IntKind.i64 0,SV.nilS,SV.nilS,SV.nilS,SV.nilS,SV.int IntKind.i64 0,SV.int IntKind.i64 0,SV.int IntKind.i64 0,SV.int IntKind.i64 0,SV.int IntKind.i64 0,SV.int IntKind.i64 0,SV.nilS,SV.bool false,SV.int IntKind.i64 0,SV.int IntKind.i64 0,SV.int IntKind.i64 0,SV.int IntKind.i64 0,SV.int IntKind.i64 0,SV.int IntKind.i64 0,SV.int IntKind.i64 0,SV.int IntKind.i64 0,SV.int IntKind.i64 0,SV.int IntKind.i64 0,SV.int IntKind.i64 0,SV.int IntKind.i64 0,SV.int IntKind.i64 0,SV.int IntKind.i64 0,SV.int IntKind.i64 0,SV.int IntKind.i64 0,SV.int IntKind.i64 0,SV.int IntKind.i64 0,SV.int IntKind.i64 0,SV.int IntKind.i64 0,SV.int IntKind.i64 0,SV.int IntKind.i64 0,SV.int IntKind.i64 0,SV.int IntKind.i64 0,SV.int IntKind.i64 0,SV.int IntKind.i64 0,SV.int IntKind.i64 0,SV.int IntKind.i64 0,SV.bool false,SV.int IntKind.i64 0,SV.int IntKind.i64 0,SV.bool false,SV.int IntKind.i64 0,SV.int IntKind.i64 0,SV.int IntKind.i64 0,SV.int IntKind.i64 0,SV.int IntKind.i64 0,SV.int IntKind.i64 0,SV.int IntKind.i64 0,SV.int IntKind.i64 0,SV.int IntKind.i64 0,SV.nilS,SV.nilS,SV.int IntKind.i64 0,SV.int IntKind.i64 0,SV.int IntKind.i64 0,SV.int IntKind.i64 0,SV.int IntKind.i64 0,SV.int IntKind.i64 0,SV.int IntKind.i64 0,SV.int IntKind.i64 0,SV.int IntKind.i64 0,SV.int IntKind.i64 0,SV.bool false,SV.int IntKind.i64 0,SV.bool false,SV.int IntKind.i64 0,SV.int IntKind.i64 0,SV.int IntKind.i64 0,SV.int IntKind.i64 0,SV.int IntKind.i64 0,SV.int IntKind.i64 0,SV.int IntKind.i64 0,SV.int IntKind.i64 0,SV.int IntKind.i64 0,SV.int IntKind.i64 0,SV.int IntKind.i64 0,SV.int IntKind.i64 0,SV.int IntKind.i64 0,SV.int IntKind.i64 0,SV.int IntKind.i64 0,SV.int IntKind.i64 0,SV.int IntKind.i64 0,SV.int IntKind.i64 0,SV.int IntKind.i64 0,SV.int IntKind.i64 0,SV.int IntKind.i64 0,SV.int IntKind.i64 0,SV.int IntKind.i64 0,SV.int IntKind.i64 0,SV.int IntKind.i64 0,SV.int IntKind.i64 0,SV.int IntKind.i64 0,SV.int IntKind.i64 0,SV.bool false,SV.int IntKind.i64 0,SV.int IntKind.i64 0,SV.int IntKind.i64 0,SV.int IntKind.i64 0,SV.int IntKind.i64 0,SV.int IntKind.i64 0,SV.int IntKind.i64 0,SV.int IntKind.i64 0,SV.int IntKind.i64 0,SV.int IntKind.i64 0,SV.bool false,SV.int IntKind.i64 0,SV.int IntKind.i64 0,SV.int IntKind.i64 0,SV.int IntKind.i64 0,SV.int IntKind.i64 0,SV.int IntKind.i64 0,SV.nilS,SV.int IntKind.i64 0,SV.bool false,SV.int IntKind.i64 0,SV.int IntKind.i64 0,SV.int IntKind.i64 0,SV.int IntKind.i64 0,SV.int IntKind.i64 0,SV.int IntKind.i64 0,SV.int IntKind.i64 0,SV.int IntKind.i64 0,SV.int IntKind.i64 0,SV.int IntKind.i64 0,SV.int IntKind.i64 0,SV.int IntKind.i64 0,SV.int IntKind.i64 0,SV.int IntKind.i64 0,SV.int IntKind.i64 0,SV.int IntKind.i64 0,SV.int IntKind.i64 0,SV.int IntKind.i64 0,SV.nilS,SV.int IntKind.i64 0,SV.bool false,SV.bool false,SV.bool false]
def factC(f:FuncId):Fact:=⟨f,fun args=>match args with
 |[.agg l,.agg k] =>match asSt l with
  |some s=>match asMa k with
   |some m=>some (.node (chk s m) (.leaf (I64 0)) (.leaf (I64 1)))
   |none=>none
  |none=>none
 |_=>none⟩
def factN(f:FuncId):Fact:=⟨f,fun args=>match args with
 |[.int .i64 n] =>some (.node (flOk n) (.leaf (.tuple [flV n,I64 0])) (.leaf (.tuple [flNo,I64 1])))
 |_=>none⟩
def factT(f:FuncId):Fact:=⟨f,fun args=>match args with
 |[.agg l] =>match asMa l with
  |some s=>some (.req s.ok (.leaf (.bool true)))
  |none=>none
 |_=>none⟩
def fMaT:Fact:=factT 29
def fMaTR:Fact:=factT 32
def fChk:Fact:=factC 8
def fChkR:Fact:=factC 12
def fFln:Fact:=factN 9
def fFlnR:Fact:=factN 13
theorem factC_ok{f:FuncId}(k:∀ (s:St) (m:Ma),SCall Tryz.prog f [s.sv,m.sv] (I64 (if chk s m then 0 else 1))):(factC f).ok Tryz.prog:=fun args t ht=>by
 simp only[factC]at ht
 split at ht
 ·split at ht
  ·rename_i s hs
   split at ht
   ·rename_i m hm
    injection ht with ht;subst ht
    rw[asSt_eq hs,asMa_eq hm]
    have q:=k s m
    exact⟨fun h=>by rw[h]at q;exact q,fun h=>by rw[h]at q;exact q⟩
   ·cases ht
  ·cases ht
 ·cases ht
theorem factN_ok{f:FuncId}(k:∀n:Int,SCall Tryz.prog f [I64 n] (flNew n)):(factN f).ok Tryz.prog:=fun args t ht=>by
 simp only[factN]at ht
 split at ht
 ·rename_i n
  injection ht with ht;subst ht
  have q:=k n
  exact⟨fun h=>by rw[flNew_yes h]at q;exact q,fun h=>by rw[flNew_no h]at q;exact q⟩
 ·cases ht
theorem factT_ok{f:FuncId}(k:∀s:Ma,SCall Tryz.prog f [s.sv] (.bool s.ok)):(factT f).ok Tryz.prog:=fun args t ht=>by
 simp only[factT]at ht
 split at ht
 ·split at ht
  ·rename_i s hm
   injection ht with ht;subst ht
   rw[asMa_eq hm]
   intro h
   have q:=k s
   rw[h]at q;exact q
  ·cases ht
 ·cases ht
theorem o_maT:fMaT.ok Tryz.prog:=factT_ok s_maOk
theorem o_maTR:fMaTR.ok Tryz.prog:=factT_ok s_maOkR
theorem o_chk:fChk.ok Tryz.prog:=factC_ok s_chk
theorem o_chkR:fChkR.ok Tryz.prog:=factC_ok s_chkR
theorem o_fln:fFln.ok Tryz.prog:=factN_ok s_flNew
theorem o_flnR:fFlnR.ok Tryz.prog:=factN_ok s_flNewR
def newV(s:St)(m:Ma)(n:Int):SV:=if chk s m&&flOk n then .tuple [.agg (wldC s m n),I64 0]else .tuple [.agg wld0,I64 1]
theorem chk_ma{s:St}{m:Ma}(h:chk s m=true):m.ok=true:=by
 unfold chk at h;simp only[Bool.and_eq_true]at h;exact h.2.1
theorem newV_yes{s:St}{m:Ma}{n:Int}(h:chk s m=true)(h':flOk n=true):newV s m n=.tuple [.agg (wldC s m n),I64 0] :=by unfold newV;rw[h,h'];rfl
theorem newV_no{s:St}{m:Ma}{n:Int}(h:chk s m=false):newV s m n=.tuple [.agg wld0,I64 1] :=by unfold newV;rw[h];rfl
theorem newV_no'{s:St}{m:Ma}{n:Int}(h:chk s m=true)(h':flOk n=false):newV s m n=.tuple [.agg wld0,I64 1] :=by unfold newV;rw[h,h'];rfl
theorem newV_data(s:St)(m:Ma)(n:Int):(newV s m n).data=true:=by
 unfold newV;cases(chk s m&&flOk n)<;>rfl
theorem s_new(s:St)(m:Ma)(n:Int):SCall Tryz.prog 4 [s.sv,m.sv,I64 n] (newV s m n):=
 scall_v mix [fChk,fFln,fMaT] ⟨o_chk,o_fln,o_maT,trivial⟩ 1000 (.fork (.lit (.fork (.ln 279 (.lit .all)) (.lit .all))) (.lit .all))
  (t:=.node (chk s m) (.node (flOk n) (.req (m.ok) (.req true (.req (true) (.req true (.req (true) (.req true (.req (true) (.leaf (.tuple [.agg (wldC s m n),.int .i64 0]))))))))) (.leaf (.tuple [.agg wld0,.int .i64 1]))) (.leaf (.tuple [.agg wld0,.int .i64 1])))
  (by kernel_rfl) (by
   refine⟨fun h=>⟨fun h'=>?_,fun h'=>?_⟩,fun h=>?_⟩
   ·rw[newV_yes h h']
    have hm:=chk_ma h
    first|exact⟨hm,rfl,rfl,rfl,rfl,rfl,rfl,rfl⟩|(repeat' (first|rfl|exact hm|constructor))
   ·rw[newV_no' h h'];rfl
   ·rw[newV_no h];rfl) (by kernel_rfl) (by exact newV_data s m n)
theorem s_newR(s:St)(m:Ma)(n:Int):SCall Tryz.prog 5 [s.sv,m.sv,I64 n] (newV s m n):=
 scall_v mix [fChkR,fFlnR,fMaTR] ⟨o_chkR,o_flnR,o_maTR,trivial⟩ 1000 (.fork (.lit (.fork (.ln 290 (.lit .all)) (.lit .all))) (.lit .all))
  (t:=.node (chk s m) (.node (flOk n) (.req (m.ok) (.req true (.req (true) (.req true (.req (true) (.req true (.req (true) (.leaf (.tuple [.agg (wldC s m n),.int .i64 0]))))))))) (.leaf (.tuple [.agg wld0,.int .i64 1]))) (.leaf (.tuple [.agg wld0,.int .i64 1])))
  (by kernel_rfl) (by
   refine⟨fun h=>⟨fun h'=>?_,fun h'=>?_⟩,fun h=>?_⟩
   ·rw[newV_yes h h']
    have hm:=chk_ma h
    first|exact⟨hm,rfl,rfl,rfl,rfl,rfl,rfl,rfl⟩|(repeat' (first|rfl|exact hm|constructor))
   ·rw[newV_no' h h'];rfl
   ·rw[newV_no h];rfl) (by kernel_rfl) (by exact newV_data s m n)
def fs0_p:Plan:=.fork (.ln 17 (.lit .all)) (.ln 17 (.lit .all))
noncomputable def fs0_t(l:List (List UInt8)):Tree Stop:= .node ((↑l.length:Int) !=(↑l.length:Int)) (.leaf (.done (.bool false))) (.leaf (.at (loopOf Tryz.prog 22 0) 52 (slotsS 52 [(2,.ptr 0 0),(3,.ptr 1 0),(36,.int .i64 (↑l.length:Int)),(37,.int .i64 0)]) [some (.cells [.list Ty.str l,.int .i64 0,.bool false,.int .i64 0]),some (.cells [.list Ty.str l,.int .i64 0,.bool false,.int .i64 0])]))
theorem fs0(l:List (List UInt8)):segR (Env.of Tryz.prog (sumOf [])) 1000 (fnOf Tryz.prog 22) .unit (keepS 52 [2,3,36,37]) (codeS Tryz.prog 22) fs0_p (startS Tryz.prog 22 [.agg [.list .str l,I64 0,.bool false,I64 0],.agg [.list .str l,I64 0,.bool false,I64 0]]) [] =fs0_t l:=by kernel_rfl
def fs1_p:Plan:=.fork (.fork (.all) (.all)) (.all)
noncomputable def fs1_t(l:List (List UInt8))(i:Int):Tree Stop:= .node (decide (i< (↑l.length:Int))) (.req (decide (0≤i)&&decide (i< (↑l.length:Int))) (.req (decide (0≤i)&&decide (i< (↑l.length:Int))) (.node (!l.getD i.toNat ([] :List UInt8)==l.getD i.toNat ([] :List UInt8)) (.leaf (.done (.bool false))) (.leaf (.at (loopOf Tryz.prog 22 0) 52 (slotsS 52 [(2,.ptr 0 0),(3,.ptr 1 0),(36,.int .i64 (↑l.length:Int)),(37,.int .i64 (i64.wrap (i+1)))]) [some (.cells [.list Ty.str l,.int .i64 0,.bool false,.int .i64 0]),some (.cells [.list Ty.str l,.int .i64 0,.bool false,.int .i64 0])]))))) (.leaf (.done (.bool true)))
theorem fs1(l:List (List UInt8))(i:Int):segR (Env.of Tryz.prog (sumOf [])) 1000 (fnOf Tryz.prog 22) .unit (keepS 52 [2,3,36,37]) (loopOf Tryz.prog 22 0) fs1_p (slotsS 52 [(2,.ptr 0 0),(3,.ptr 1 0),(36,I64 l.length),(37,I64 i)]) [some (.cells [.list .str l,I64 0,.bool false,I64 0]),some (.cells [.list .str l,I64 0,.bool false,I64 0])] =fs1_t l i:=by kernel_rfl
abbrev slS(l:List (List UInt8))(i:Int):List SV:=slotsS 52 [(2,.ptr 0 0),(3,.ptr 1 0),(36,I64 l.length),(37,I64 i)]
abbrev fcS(l:List (List UInt8)):List SV:=[.list .str l,I64 0,.bool false,I64 0]
abbrev bxS(l:List (List UInt8)):List (Option Box):=[some (.cells (fcS l)),some (.cells (fcS l))]
theorem fs_loop(l:List (List UInt8))(hl:l.length≤1000):∀ (d i:Nat),i+d=l.length→RunsR Tryz.prog (fnOf Tryz.prog 22) (.bool true) (loopOf Tryz.prog 22 0) (slS l i) (bxS l)
 |d,i,hi=>by
  have w1:i64.wrap ((i:Int)+1)=((i+1:Nat):Int):=by rw[w64 (by omega) (by omega)];omega
  refine runsR_seg k000 (n:=1000) (hint:=.unit) (keep:=keepS 52 [2,3,36,37]) (p:=fs1_p) rfl ?_
  erw [fs1 l i]
  unfold fs1_t
  rw[w1]
  match d,hi with
  |0,hi=>refine n_dec (fun h=>absurd h (by omega)) fun _=>?_;rfl
  |d+1,hi=>
   refine n_dec (fun h=>?_) fun h=>absurd (by omega) h
   have r:=fs_loop l hl d (i+1) (by omega)
   refine n_req (by simp;omega) (n_req (by simp;omega) ⟨fun e=>?_,fun _=>⟨slotsS_len _ _,r⟩⟩)
   rw[beq_self_eq_true]at e;cases e
theorem s_flSame(l:List (List UInt8))(hl:l.length≤1000):SCall Tryz.prog 22 [.agg (fcS l),.agg (fcS l)] (.bool true):=by
 refine scallR_loops rfl rfl (by kernel_rfl) (runsR_seg k000 (n:=1000) (hint:=.unit) (keep:=keepS 52 [2,3,36,37]) (p:=fs0_p) (boxes:=[]) rfl ?_)
 have q:=fs0 l
 unfold startS codeS at q
 erw [q]
 unfold fs0_t
 refine⟨fun e=>?_,fun _=>⟨slotsS_len _ _,fs_loop l hl l.length 0 (by omega)⟩⟩
 rw[bne_self_eq_false]at e;cases e
def fWks:Fact:=⟨7,fun args=>match args with
 |[] =>some (.leaf (.bool true))
 |_=>none⟩
def factA(f:FuncId):Fact:=⟨f,fun args=>match args with
 |[.agg l,.agg k,.int .i64 n] =>match asSt l with
  |some s=>match asMa k with
   |some m=>some (.req (chk s m&&flOk n) (.leaf (.tuple [.agg (wldC s m n),I64 0])))
   |none=>none
  |none=>none
 |_=>none⟩
def factB(f:FuncId):Fact:=⟨f,fun args=>match args with
 |[.agg l,.agg k,.int .i64 n] =>match asSt l with
  |some s=>match asMa k with
   |some m=>some (.req (!(chk s m&&flOk n)) (.leaf (.tuple [.agg wld0,I64 1])))
   |none=>none
  |none=>none
 |_=>none⟩
theorem factA_ok{f:FuncId}(k:∀s m n,SCall Tryz.prog f [St.sv s,Ma.sv m,I64 n] (newV s m n)):(factA f).ok Tryz.prog:=fun args t ht=>by
 simp only[factA]at ht
 split at ht
 ·rename_i n
  split at ht
  ·rename_i s hs
   split at ht
   ·rename_i m hm
    injection ht with ht;subst ht
    rw[asSt_eq hs,asMa_eq hm]
    intro h
    have q:=k s m n
    unfold newV at q
    rw[h]at q;exact q
   ·cases ht
  ·cases ht
 ·cases ht
theorem factB_ok{f:FuncId}(k:∀s m n,SCall Tryz.prog f [St.sv s,Ma.sv m,I64 n] (newV s m n)):(factB f).ok Tryz.prog:=fun args t ht=>by
 simp only[factB]at ht
 split at ht
 ·rename_i n
  split at ht
  ·rename_i s hs
   split at ht
   ·rename_i m hm
    injection ht with ht;subst ht
    rw[asSt_eq hs,asMa_eq hm]
    intro h
    have q:=k s m n
    unfold newV at q
    rw[Bool.not_eq_true']at h
    rw[h]at q;exact q
   ·cases ht
  ·cases ht
 ·cases ht
def fNewA:Fact:=factA 4
def fNewAR:Fact:=factA 5
def fNewB:Fact:=factB 4
def fNewBR:Fact:=factB 5
theorem o_newA:fNewA.ok Tryz.prog:=factA_ok s_new
theorem o_newAR:fNewAR.ok Tryz.prog:=factA_ok s_newR
theorem o_newB:fNewB.ok Tryz.prog:=factB_ok s_new
theorem o_newBR:fNewBR.ok Tryz.prog:=factB_ok s_newR
def eqL(l l':List (List UInt8)):Bool:=decide (l=l'∧l.length≤1000)
theorem eqL_on{l l':List (List UInt8)}(h:eqL l l'=true):l=l'∧l.length≤1000:=of_decide_eq_true h
theorem eqL_self{l:List (List UInt8)}(h:l.length≤1000):eqL l l=true:=decide_eq_true ⟨rfl,h⟩
def fFsm:Fact:=⟨22,fun args=>match args with
 |[.agg [.list .str l,.int .i64 0,.bool false,.int .i64 0],.agg [.list .str l',.int .i64 0,.bool false,.int .i64 0]] =>some (.req (eqL l l') (.leaf (.bool true)))
 |_=>none⟩
theorem o_fsm:fFsm.ok Tryz.prog:=fun args t ht=>by
 simp only[fFsm]at ht
 split at ht
 ·injection ht with ht;subst ht
  intro h
  obtain⟨e,hl⟩:=eqL_on h
  subst e
  exact s_flSame _ hl
 ·cases ht
theorem flL_len{n:Int}(h:flOk n=true):(flL n).length≤1000:=by
 have:=inR_iff.1 h
 unfold flL
 rw[List.length_replicate];omega
theorem s_works:SCall Tryz.prog 7 [] (.bool true):=fun m=>wWorks0_l [] m rfl
theorem o_wks:fWks.ok Tryz.prog:=fun args t ht=>by
 simp only[fWks]at ht
 split at ht
 ·injection ht with ht;subst ht;exact s_works
 ·cases ht
theorem s_lawA(s:St)(m:Ma)(n:Int)(h:(chk s m&&flOk n)=true):SCall Tryz.prog 3 [s.sv,m.sv,I64 n] (.bool true):=
 scall_v mix [fNewA,fNewAR,fFsm,fWks] ⟨o_newA,o_newAR,o_fsm,o_wks,trivial⟩ 1000 (.fork (.ln 37 (.lit .all)) (.ln 5 (.fork (.ln 31 (.lit .all)) (.ln 17 (.go (.ln 9 (.go (.ln 5 (.go (.ln 37 (.go (.ln 9 (.go (.ln 4 (.fork (.ln 121 (.go (.ln 8 (.go (.ln 70 (.go (.ln 7 (.lit .all)))))))) (.ln 144 (.lit .all)))))))))))))))))
  (t:=.req (chk s m&&flOk n) (.req (chk s m&&flOk n) (.node (!(s.pitch==s.pitch&& (s.height==s.height&& (s.walls==s.walls&& (s.top==s.top&& (s.bottom==s.bottom&& (s.pattern==s.pattern&& (s.spacing==s.spacing&& (s.support==s.support&& (s.reach==s.reach&& (s.gap==s.gap&& (s.brim==s.brim&& (s.skirt==s.skirt&& (s.drop==s.drop&& (s.feed==s.feed&& (s.travel==s.travel&& (s.retract==s.retract&& (s.minTime==s.minTime&& (s.minFeed==s.minFeed&& (s.nozzle==s.nozzle&& (s.bed==s.bed&&true))))))))))))))))))))) (.leaf (.bool false)) (.node (!(m.x.num==m.x.num&& (m.x.den==m.x.den&& (m.x.speed==m.x.speed&& (m.x.accel==m.x.accel&& (m.x.jerk==m.x.jerk&& (m.x.min==m.x.min&& (m.x.max==m.x.max&&true))))))&& (m.y.num==m.y.num&& (m.y.den==m.y.den&& (m.y.speed==m.y.speed&& (m.y.accel==m.y.accel&& (m.y.jerk==m.y.jerk&& (m.y.min==m.y.min&& (m.y.max==m.y.max&&true))))))&& (m.z.num==m.z.num&& (m.z.den==m.z.den&& (m.z.speed==m.z.speed&& (m.z.accel==m.z.accel&& (m.z.jerk==m.z.jerk&& (m.z.min==m.z.min&& (m.z.max==m.z.max&&true))))))&& (m.e.num==m.e.num&& (m.e.den==m.e.den&& (m.e.speed==m.e.speed&& (m.e.accel==m.e.accel&& (m.e.jerk==m.e.jerk&& (m.e.min==m.e.min&& (m.e.max==m.e.max&&true))))))&&true)))&& (m.xy==m.xy&& (m.ticks==m.ticks&&true)))) (.leaf (.bool false)) (.node (m.x.num==m.x.num&& (m.x.den==m.x.den&& (m.x.speed==m.x.speed&& (m.x.accel==m.x.accel&& (m.x.jerk==m.x.jerk&& (m.x.min==m.x.min&& (m.x.max==m.x.max&&true))))))&& (m.y.num==m.y.num&& (m.y.den==m.y.den&& (m.y.speed==m.y.speed&& (m.y.accel==m.y.accel&& (m.y.jerk==m.y.jerk&& (m.y.min==m.y.min&& (m.y.max==m.y.max&&true))))))&& (m.z.num==m.z.num&& (m.z.den==m.z.den&& (m.z.speed==m.z.speed&& (m.z.accel==m.z.accel&& (m.z.jerk==m.z.jerk&& (m.z.min==m.z.min&& (m.z.max==m.z.max&&true))))))&& (m.e.num==m.e.num&& (m.e.den==m.e.den&& (m.e.speed==m.e.speed&& (m.e.accel==m.e.accel&& (m.e.jerk==m.e.jerk&& (m.e.min==m.e.min&& (m.e.max==m.e.max&&true))))))&&true)))&& (m.xy==m.xy&& (m.ticks==m.ticks&&true))) (.req (eqL (flL n) (flL n)) (.leaf (.bool true))) (.leaf (.bool false)))))))
  (by kernel_rfl) (by
   have h2:flOk n=true:=by rw[Bool.and_eq_true]at h;exact h.2
   refine n_req h (n_req h ⟨fun e=>?_,fun _=>⟨fun e=>?_,fun _=>⟨fun _=>n_req (eqL_self (flL_len h2)) rfl,fun e=>?_⟩⟩⟩)
   all_goals(exfalso;simp at e)) (by kernel_rfl) (by kernel_rfl)
theorem s_lawB(s:St)(m:Ma)(n:Int)(h:(!(chk s m&&flOk n))=true):SCall Tryz.prog 3 [s.sv,m.sv,I64 n] (.bool true):=
 scall_v mix [fNewB,fNewBR,fWks] ⟨o_newB,o_newBR,o_wks,trivial⟩ 3000 (.auto)
  (t:=.req (!(chk s m&&flOk n)) (.req (!(chk s m&&flOk n)) (.leaf (SV.bool true))))
  (by kernel_rfl) (by
   exact n_req h (n_req h rfl)) (by kernel_rfl) (by kernel_rfl)
theorem s_law(s:St)(m:Ma)(n:Int):SCall Tryz.prog 3 [s.sv,m.sv,I64 n] (.bool true):=by
 cases h:(chk s m&&flOk n)with
 |true=>exact s_lawA s m n h
 |false=>exact s_lawB s m n (by rw[h];rfl)
end Go.Proofs.YthhncpfcimmnjaaGreatDoor
