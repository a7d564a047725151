/-
  ZH: an argument C9 can be read as data is a datum of the evaluator.
-/
import Derived.Test.YtnkaepnblikcdaaGreatVP8
import Derived.ProofKit
set_option maxRecDepth 100000
set_option linter.unusedVariables false
set_option linter.unusedSimpArgs false
namespace Go.Sx
open Go.RowKit
section
variable {P:Program} {E:Env} {α:Type}
theorem SCall.calls {f : FuncId} {fn : Func} {body : Code} {args : List SV} {v : SV} (h : SCall P f args v) (hv : v.data = true) (hf : P.funcs[f]? = some fn) (hb : fn.body = some body) (hn : (fn.name == "runtime.NumGoroutine") = false) (w : World) (vs : List Value) (bR : j8 (fun b => b < w.heap.size) (fun _ => (0, 0, 0)) 0 w args vs) (hg : ET w) :
  Calls P f vs.toArray w fun e w'=>∃u,e=.returned u∧Below w.heap.size w w'∧aJ (fun b=>b<w'.heap.size) (fun _=>(0,0,0)) 0 w' v u:=by
 have hm:aQ w (.all w) (fun _=>(0,0,0)) w ⟨0,.e⟩:=⟨⟨Below.refl _ _,hg⟩,fun id B h=>(by cases h),fun id B h=>(by cases h),fun id B h=>(by cases h),fun id bY B B' h=>(by cases h),fun id B h=>(by cases h),fun b hb=>⟨hb,rfl⟩,fun id B h=>(by cases h)⟩
 have BQ:Ext (fun b=>b<w.heap.size) (fun _=>(0,0,0)) 0 w (RO w (.all w) (fun _=>(0,0,0)) w ⟨0,.e⟩) (fun _=>(0,0,0)) 0 w:=⟨bA _,fun _ _=>rfl,fun b hb=>⟨.inl ⟨hb,hb⟩,rfl⟩⟩
 have h1:=h ⟨0,.e⟩ w (.all w) (fun _=>(0,0,0)) w vs hm (j8.mono BQ _ _ bR)
 rw[nS hf hb hn]at h1
 refine Calls.mono h1 fun e w' ⟨u,he,ρ',g1,g2,g3⟩=>⟨u,he,g1.below.toBelow,?_⟩
 refine aJ.data (fun b hb=>?_) v u hv g3
 exact g1.mB hb
end
end Go.Sx
namespace Go.Sx
open Go.RowKit Go.WideShapes
def lay.nY(u:Ty):Nat→Ty
 |0=>.unit
 |1=>u
 |n+2=>.pair u (lay.nY u (n+1))
def lay.goF(P:Program)(ty:TypeId→Option Ty):Nat→List Field→Option Ty
 |_,[] =>some .unit
 |off,[f] =>match ty f.type with
  |some u=>if f.offset=off∧P.cellsOf f.type=u.sz then some u else none
  |none=>none
 |off,f::fs=>match ty f.type with
  |some a=>if f.offset=off∧P.cellsOf f.type=a.sz then(match lay.goF P ty (off+a.sz) fs with
   |some b=>some (.pair a b)
   |none=>none)else none
  |none=>none
def lay(P:Program):Nat→TypeId→Option Ty
 |0,_=>none
 |d+1,t=>match P.underlying t with
  |some .bool=>some .bool
  |some (.int k)=>some (.int k)
  |some .string=>some .str
  |some (.slice e)=>match lay P d e with
   |some u=>if P.cellsOf e=u.sz∧0<u.sz then some (.list u)else none
   |none=>none
  |some (.struct fs)=>match lay.goF P (lay P d) 0 fs.toList with
   |some u=>if P.cellsOf t=u.sz then some u else none
   |none=>none
  |some (.array n e)=>match lay P d e with
   |some u=>if P.cellsOf e=u.sz∧P.cellsOf t=(lay.nY u n).sz then some (lay.nY u n)else none
   |none=>none
  |_=>none
theorem exists_list{α:Type}{Q:Nat→α→Prop}:∀ (n:Nat),(∀i,i<n→∃y,Q i y)→∃l:List α,l.length=n∧∀i (h:i<l.length),Q i l[i]
 |0,_=>⟨[],rfl,fun i h=>absurd h (tu _)⟩
 |n+1,h=>by
  obtain⟨l,hl,hq⟩:=exists_list n fun i hi=>h i (Nat.lt_succ_of_lt hi)
  obtain⟨y,hy⟩:=h n (aia n)
  refine⟨l++[y],by simp[hl],fun i hi=>?_⟩
  by_cases h1:i<l.length
  ·rw[aBL h1];exact hq i h1
  ·have:i=n:=by simp at hi;omega
   subst this
   rw[aBK (by omega)]
   simpa[hl]using hy
theorem add_none{a:Addr}(h:a.spot=none)(k:Nat):a.add k=⟨a.block,a.off+k,none⟩:=by
 obtain⟨b,o,s⟩:=a
 subst h
 by_cases hk:k=0<;>simp[Addr.add,hk]
theorem add_spot{a:Addr}(h:a.spot=none){k:Nat}:(a.add k).spot=none:=by rw[add_none h]
section
variable {H:Type} {enc:TypeId×Value→H} {P:Program} {W:World}
def IsD(W:World)(u:Ty)(cs:List Value):Prop:=∃y:u.T,u.fits y∧p7 (fun b=>b<W.heap.size) W u y cs
theorem rep_lay{u:Ty}:∀ (n:Nat) (cs:List Value),cs.length=(lay.nY u n).sz→(∀i,i<n→IsD W u ((cs.drop (i*u.sz)).take u.sz))→IsD W (lay.nY u n) cs
 |0,cs,h,_=>⟨(),trivial,List.length_eq_zero_iff.mp h⟩
 |1,cs,h,hi=>by
  have:=hi 0 (by omega)
  have hc:cs.length=u.sz:=h
  have h2:(cs.drop (0*u.sz)).take u.sz=cs:=by simp[←hc]
  rw[h2]at this
  exact this
 |n+2,cs,h,hi=>by
  obtain⟨y1,f1,r1⟩:=hi 0 (by omega)
  have hc:cs.length=u.sz+(lay.nY u (n+1)).sz:=h
  obtain⟨y2,f2,r2⟩:=rep_lay (u:=u) (n+1) (cs.drop u.sz) (by simp[hc]) fun i nI=>by
   have:=hi (i+1) (by omega)
   rw[List.drop_drop]
   rwa [show u.sz+i*u.sz=(i+1)*u.sz by rw[uM];omega]
  exact⟨(y1,y2),⟨f1,f2⟩,_,_,(aBI u.sz cs).symm,by simpa using r1,r2⟩
theorem lay_rep:∀ (d:Nat) (t:TypeId) (u:Ty),lay P d t=some u→∀ (n:Nat) (cs:List Value) (x),DataW.trod enc P W 0 (fun _=>true) true n t cs=some x→IsD W u cs
 |0,_,_,h=>by simp[lay]at h
 |d+1,t,u,h=>fun n cs x hx=>by
  have ih:=lay_rep d
  have hF:∀ (fs:List Field) (off:Nat) (u:Ty),lay.goF P (lay P d) off fs=some u→off+u.sz=cs.length→
    (∀f∈fs,∃m y,DataW.trod enc P W 0 (fun _=>true) true m f.type ((cs.drop f.offset).take (P.cellsOf f.type))=some y)→IsD W u (cs.drop off):=by
   intro fs
   induction fs with
   |nil=>
    intro off u h hl _
    simp only[lay.goF,uK]at h
    subst h
    exact⟨(),trivial,List.length_eq_zero_iff.mp (by simp[Ty.sz]at hl;simp;omega)⟩
   |cons f fs ihf=>
    intro off u h hl hm
    obtain⟨m,y,hy⟩:=hm f mO
    cases fs with
    |nil=>
     unfold lay.goF at h
     split at h
     ·rename_i u' hu'
      split at h
      ·rename_i hc
       injection h with h;subst h
       have:=ih _ _ hu' _ _ _ hy
       rw[hc.1,hc.2]at this
       rwa [List.take_of_length_le (by simp;omega)]at this
      ·cases h
     ·cases h
    |cons g gs=>
     unfold lay.goF at h
     split at h
     ·rename_i a ha
      split at h
      ·rename_i hc
       split at h
       ·rename_i b hb
        injection h with h;subst h
        have h1:=ih _ _ ha _ _ _ hy
        rw[hc.1,hc.2]at h1
        obtain⟨y1,f1,r1⟩:=h1
        obtain⟨y2,f2,r2⟩:=ihf (off+a.sz) b hb (by simp only[Ty.sz]at hl;omega) fun f' hf'=>hm f' (rX _ hf')
        refine⟨(y1,y2),⟨f1,f2⟩,_,_,?_,r1,r2⟩
        rw[←List.drop_drop,aBI]
       ·cases h
      ·cases h
     ·cases h
  unfold lay at h
  split at h
  ·rename_i ht
   injection h with h;subst h
   obtain⟨b,rfl,_⟩:=DataW.trod_bool ht hx
   exact⟨b,trivial,rfl⟩
  ·rename_i k ht
   injection h with h;subst h
   obtain⟨i,rfl,_,hw⟩:=DataW.trod_int ht hx
   exact⟨i,hw,rfl⟩
  ·rename_i ht
   injection h with h;subst h
   obtain⟨s,rfl,_,hw⟩:=DataW.trod_string ht hx
   exact⟨s.data.toList,by simpa[Ty.fits]using hw,rfl⟩
  ·rename_i e ht
   split at h
   ·rename_i u' hu'
    split at h
    ·rename_i hc
     injection h with h;subst h
     rcases DataW.trod_slice ht hx with⟨rfl,_⟩|⟨a,len,cap,Nv,rest,n',rfl,rfl,rfl,_,hl,hm,pq,hi,_,_⟩
     ·exact⟨([] :List u'.T),⟨rW _,fun x hx=>(by cases hx)⟩,none,0,rfl,bA _,fun h0=>absurd h0 (gZ _)⟩
     ·have key:∀i,i<len→∃y:u'.T,u'.fits y∧a.spot=none∧a.block<W.heap.size∧∃cs:List Value,cs.length=u'.sz∧(∀j,j<u'.sz→W.cell? ⟨a.block,a.off+(i*u'.sz+j),none⟩=cs[j]?)∧p7 (fun b=>b<W.heap.size) W u' y cs:=by
       intro i cW
       have h1:=hi i cW
       rw[cc (by omega)]at h1
       obtain⟨cs,hcs,Ts⟩:=Option.bind_eq_some_iff.mp h1
       unfold World.cells? at hcs
       simp only[rW,pc]at hcs
       have bD:=mapM_some_length hcs
       simp only[List.length_range]at bD
       have yg:∀j,j<u'.sz→W.cell? ((a.add (i*P.cellsOf e)).add j)=cs[j]? :=fun j hj=>mapM_some_get hcs j j (by rw[EP (by omega)])
       obtain⟨y,f,r⟩:=ih _ _ hu' _ _ _ Ts
       have bj:a.spot=none:=by
        have h1:=hi 0 (by omega)
        rw[cc (by omega)]at h1
        obtain⟨cs,hcs,_⟩:=Option.bind_eq_some_iff.mp h1
        unfold World.cells? at hcs
        simp only[rW,pc]at hcs
        have bD:=mapM_some_length hcs
        simp only[List.length_range]at bD
        have h2:=mapM_some_get hcs 0 0 (by rw[EP (by omega)])
        rw[cc (by omega)]at h2
        have:=World.cell?_spot h2
        simpa[Addr.add]using this
       have T8:=yg 0 hc.2
       rw[cc (by omega)]at T8
       refine⟨y,f,bj,?_,cs,by omega,fun j hj=>?_,r⟩
       ·refine Nat.lt_of_not_le fun hge=>?_
        unfold World.cell? at T8
        rw[show((a.add (i*P.cellsOf e)).add 0).block=a.block by rw[add_none (add_spot bj),add_none bj],aiC hge]at T8
        simp at T8
       ·rw[←yg j hj,hc.1,add_none (add_spot bj),add_none bj]
        simp only[AA]
      obtain⟨l,TK,hq⟩:=exists_list len key
      subst TK
      refine⟨l,⟨UM hl hm,fun x hx=>?_⟩,some a,cap,rfl,hl,fun h0=>?_⟩
      ·obtain⟨i,uz,rfl⟩:=NE hx
       exact(hq i uz).1
      ·obtain⟨_,hs,hb,_⟩:=hq 0 h0
       refine⟨a.block,a.off,by rw[←hs],hb,fun i uz=>?_⟩
       obtain⟨_,_,_,cs,c1,c2,c3⟩:=hq i uz
       exact⟨cs,c1,c2,c3⟩
    ·cases h
   ·cases h
  ·rename_i fs ht
   split at h
   ·rename_i u' hu'
    split at h
    ·rename_i hc
     injection h with h;subst h
     obtain⟨xs,n',rfl,_,hcs,sX,hf⟩:=DataW.trod_struct ht hx
     have:=hF fs.toList 0 _ hu' (by omega) fun f hfm=>by
      obtain⟨i,uz,rfl⟩:=NE hfm
      have:=hf i _ (by rw[←Cg];exact cc uz)
      rw[cc (by simp at uz;omega)]at this
      exact⟨_,_,this⟩
     simpa using this
    ·cases h
   ·cases h
  ·rename_i k e ht
   split at h
   ·rename_i u' hu'
    split at h
    ·rename_i hc
     injection h with h;subst h
     cases n with
     |zero=>simp[DataW.trod]at hx
     |succ n=>
      unfold DataW.trod at hx
      simp only[ht]at hx
      split at hx
      case isFalse=>cases hx
      rename_i hl
      obtain⟨xs,hp,_⟩:=Option.map_eq_some_iff.mp hx
      rw[hc.1]at hp
      refine rep_lay k cs (by omega) fun i uz=>?_
      have hlx:=mapM_some_length hp
      have:=mapM_some_get hp i i (by rw[EP uz])
      rw[cc (by simp at hlx;omega)]at this
      exact ih _ _ hu' _ _ _ this
    ·cases h
   ·cases h
  ·cases h
theorem argOf_agg{t:TypeId}{u:Ty}{d:Nat}{v:Value}{x:DataW H}{ps:List MemPlace}(hu:lay P d t=some u){fs:Array Field}(ht:P.underlying t=some (.struct fs)){r:_root_.Go.Reach}{b0:Nat}(hval:Value.okWide P W r b0 t v)
  (hd:DataW.Trod enc P W 0 (fun _=>true) true t v x ps):∃y:u.T,u.fits y∧aJ (fun b=>b<W.heap.size) (fun _=>(0,0,0)) 0 W (.agg (flat u y)) v:=by
 obtain⟨cs,rfl,_⟩:=okWide_struct ht hval
 obtain⟨n,hn⟩:=hd
 obtain⟨y,f,r⟩:=lay_rep d t u hu n _ _ hn
 exact⟨y,f,cs.toList,rfl,(p7.flat u y _ r).2⟩
theorem argOf_one{t:TypeId}{u:Ty}{d:Nat}{v:Value}{x:DataW H}{ps:List MemPlace}(hu:lay P d t=some u)(BK:v.cells=#[v])
  (hd:DataW.Trod enc P W 0 (fun _=>true) true t v x ps):∃y:u.T,u.fits y∧j8 (fun b=>b<W.heap.size) (fun _=>(0,0,0)) 0 W (flat u y) [v] :=by
 obtain⟨n,hn⟩:=hd
 rw[BK]at hn
 obtain⟨y,f,r⟩:=lay_rep d t u hu n _ _ hn
 exact⟨y,f,(p7.flat u y _ r).2⟩
theorem argOf_int{t:TypeId}{k:IntKind}{d:Nat}{v:Value}{x:DataW H}{ps:List MemPlace}(hu:lay P (d+1) t=some (.int k))(ht:P.underlying t=some (.int k)){r:_root_.Go.Reach}{b0:Nat}(hval:Value.okWide P W r b0 t v)
  (hd:DataW.Trod enc P W 0 (fun _=>true) true t v x ps):∃y:Int,(Lit.int k y).wf=true∧aJ (fun b=>b<W.heap.size) (fun _=>(0,0,0)) 0 W (.int k y) v:=by
 obtain⟨i,rfl⟩:=okWide_int ht hval
 obtain⟨y,f,u,us,e,r,_⟩:=argOf_one hu rfl hd
 injection e with e1 e2;subst e1
 exact⟨y,f,r⟩
theorem argOf_bool{t:TypeId}{d:Nat}{v:Value}{x:DataW H}{ps:List MemPlace}(hu:lay P (d+1) t=some .bool)(ht:P.underlying t=some .bool){r:_root_.Go.Reach}{b0:Nat}(hval:Value.okWide P W r b0 t v)
  (hd:DataW.Trod enc P W 0 (fun _=>true) true t v x ps):∃y:Bool,aJ (fun b=>b<W.heap.size) (fun _=>(0,0,0)) 0 W (.bool y) v:=by
 obtain⟨i,rfl⟩:=okWide_bool ht hval
 obtain⟨y,f,u,us,e,r,_⟩:=argOf_one hu rfl hd
 injection e with e1 e2;subst e1
 exact⟨y,r⟩
theorem argOf_list{t e:TypeId}{u:Ty}{d:Nat}{v:Value}{x:DataW H}{ps:List MemPlace}(hu:lay P (d+1) t=some (.list u))(ht:P.underlying t=some (.slice e)){r:_root_.Go.Reach}{b0:Nat}(hval:Value.okWide P W r b0 t v)
  (hd:DataW.Trod enc P W 0 (fun _=>true) true t v x ps):∃y:List u.T,(y.length≤maxLen∧∀x∈y,u.fits x)∧aJ (fun b=>b<W.heap.size) (fun _=>(0,0,0)) 0 W (.list u y) v:=by
 obtain⟨a,len,cap,rfl⟩:=okWide_slice ht hval
 obtain⟨y,f,w,us,e,r,_⟩:=argOf_one hu rfl hd
 injection e with e1 e2;subst e1
 exact⟨y,f,r⟩
end
end Go.Sx
namespace Go.Sx
open Go.RowKit
theorem SCall.calls_some {P : Program} {f : FuncId} {fn : Func} {args : List SV} {v : SV} (h : SCall P f args v) (hv : v.data = true) (hf : P.funcs[f]? = some fn) (hb : fn.body.isSome = true) (hn : (fn.name == "runtime.NumGoroutine") = false) (w : World) (vs : List Value) (bR : j8 (fun b => b < w.heap.size) (fun _ => (0, 0, 0)) 0 w args vs) (hg : ET w) :
  Calls P f vs.toArray w fun e w'=>∃u,e=.returned u∧Below w.heap.size w w'∧aJ (fun b=>b<w'.heap.size) (fun _=>(0,0,0)) 0 w' v u:=by
 obtain⟨body,hb⟩:=Option.isSome_iff_exists.mp hb
 exact h.calls hv hf hb hn w vs bR hg
end Go.Sx
