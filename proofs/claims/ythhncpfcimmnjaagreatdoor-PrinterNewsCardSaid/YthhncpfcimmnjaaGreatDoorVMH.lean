/-
  ZH: an argument that can be read as data is a datum of the evaluator.
-/
import Derived.Test.YthhncpfcimmnjaaGreatDoorVM4
import Derived.ProofKit
set_option maxRecDepth 100000
set_option linter.unusedVariables false
set_option linter.unusedSimpArgs false
namespace Go.Sx
open Go.RowKit
section moves
variable {P:Program} {b:Frame} {a:Act} {k:List Item} {cs:List Frame} {w:World}
end moves
section
variable {P:Program} {E:Env} {α:Type}
theorem SCall.calls {f : FuncId} {fn : Func} {body : Code} {args : List SV} {v : SV} (h : SCall P f args v) (hv : v.data = true) (hf : P.funcs[f]? = some fn) (hb : fn.body = some body) (hn : (fn.name == "runtime.NumGoroutine") = false) (w : World) (vs : List Value) (hvs : RepL (fun b => b < w.heap.size) (fun _ => (0, 0, 0)) 0 w args vs) (hg : Gnd w) :
  Calls P f vs.toArray w fun e w'=>∃u,e=.returned u∧Below w.heap.size w w'∧Rep (fun b=>b<w'.heap.size) (fun _=>(0,0,0)) 0 w' v u:=by
 have hm:MRel w (.all w) (fun _=>(0,0,0)) w ⟨0,.e⟩:=⟨⟨Below.refl _ _,hg⟩,fun id B h=>(by cases h),fun id B h=>(by cases h),fun id B h=>(by cases h),fun id id' B B' h=>(by cases h),fun id B h=>(by cases h),fun b hb=>⟨hb,rfl⟩,fun id B h=>(by cases h)⟩
 have hext:Ext (fun b=>b<w.heap.size) (fun _=>(0,0,0)) 0 w (RO w (.all w) (fun _=>(0,0,0)) w ⟨0,.e⟩) (fun _=>(0,0,0)) 0 w:=⟨Nat.le_refl _,fun _ _=>rfl,fun b hb=>⟨.inl ⟨hb,hb⟩,rfl⟩⟩
 have h1:=h ⟨0,.e⟩ w (.all w) (fun _=>(0,0,0)) w vs hm (RepL.mono hext _ _ hvs)
 rw[callFunc_enter hf hb hn]at h1
 refine Calls.mono h1 fun e w' ⟨u,he,ρ',g1,g2,g3⟩=>⟨u,he,g1.below.toBelow,?_⟩
 refine Rep.data (fun b hb=>?_) v u hv g3
 exact g1.ro_lt hb
end
end Go.Sx
namespace Go.Sx
open Go.RowKit Go.WideShapes
def lay.rep(u:Ty):Nat→Ty
 |0=>.unit
 |1=>u
 |n+2=>.pair u (lay.rep u (n+1))
def lay.goF(P:Program)(ty:TypeId→Option Ty):Nat→List Field→Option Ty
 |_,[] =>some .unit
 |off,[f] =>match ty f.type with
  |some u=>if f.offset=off∧P.cellsOf f.type=u.sz then some u else none
  |none=>none
 |off,f::fs=>match ty f.type with
  |some a=>if f.offset=off∧P.cellsOf f.type=a.sz then(match lay.goF P ty (off+a.sz) fs with
   |some b=>some (.pair a b)
   |none=>none)else none
  |none=>none
def lay(P:Program):Nat→TypeId→Option Ty
 |0,_=>none
 |d+1,t=>match P.underlying t with
  |some .bool=>some .bool
  |some (.int k)=>some (.int k)
  |some .string=>some .str
  |some (.slice e)=>match lay P d e with
   |some u=>if P.cellsOf e=u.sz∧0<u.sz then some (.list u)else none
   |none=>none
  |some (.struct fs)=>match lay.goF P (lay P d) 0 fs.toList with
   |some u=>if P.cellsOf t=u.sz then some u else none
   |none=>none
  |some (.array n e)=>match lay P d e with
   |some u=>if P.cellsOf e=u.sz∧P.cellsOf t=(lay.rep u n).sz then some (lay.rep u n)else none
   |none=>none
  |_=>none
def Ty.fits:(t:Ty)→t.T→Prop
 |.unit,_=>True
 |.int k,n=>(Lit.int k n).wf=true
 |.bool,_=>True
 |.str,s=>List.length s≤maxLen
 |.list t,l=>List.length l≤maxLen∧∀x∈(show List t.T from l),t.fits x
 |.pair a b,x=>a.fits x.1∧b.fits x.2
theorem exists_list{α:Type}{Q:Nat→α→Prop}:∀ (n:Nat),(∀i,i<n→∃y,Q i y)→∃l:List α,l.length=n∧∀i (h:i<l.length),Q i l[i]
 |0,_=>⟨[],rfl,fun i h=>absurd h (Nat.not_lt_zero _)⟩
 |n+1,h=>by
  obtain⟨l,hl,hq⟩:=exists_list n fun i hi=>h i (Nat.lt_succ_of_lt hi)
  obtain⟨y,hy⟩:=h n (Nat.lt_succ_self n)
  refine⟨l++[y],by simp[hl],fun i hi=>?_⟩
  by_cases h1:i<l.length
  ·rw[List.getElem_append_left h1];exact hq i h1
  ·have:i=n:=by simp at hi;omega
   subst this
   rw[List.getElem_append_right (by omega)]
   simpa[hl]using hy
theorem add_none{a:Addr}(h:a.spot=none)(k:Nat):a.add k=⟨a.block,a.off+k,none⟩:=by
 obtain⟨b,o,s⟩:=a
 subst h
 by_cases hk:k=0<;>simp[Addr.add,hk]
theorem add_spot{a:Addr}(h:a.spot=none){k:Nat}:(a.add k).spot=none:=by rw[add_none h]
section
variable {H:Type} {enc:TypeId×Value→H} {P:Program} {W:World}
def IsD(W:World)(u:Ty)(cs:List Value):Prop:=∃y:u.T,u.fits y∧RepD (fun b=>b<W.heap.size) W u y cs
theorem rep_lay{u:Ty}:∀ (n:Nat) (cs:List Value),cs.length=(lay.rep u n).sz→(∀i,i<n→IsD W u ((cs.drop (i*u.sz)).take u.sz))→IsD W (lay.rep u n) cs
 |0,cs,h,_=>⟨(),trivial,List.length_eq_zero_iff.mp h⟩
 |1,cs,h,hi=>by
  have:=hi 0 (by omega)
  have hc:cs.length=u.sz:=h
  have h2:(cs.drop (0*u.sz)).take u.sz=cs:=by simp[←hc]
  rw[h2]at this
  exact this
 |n+2,cs,h,hi=>by
  obtain⟨y1,f1,r1⟩:=hi 0 (by omega)
  have hc:cs.length=u.sz+(lay.rep u (n+1)).sz:=h
  obtain⟨y2,f2,r2⟩:=rep_lay (u:=u) (n+1) (cs.drop u.sz) (by simp[hc]) fun i hin=>by
   have:=hi (i+1) (by omega)
   rw[List.drop_drop]
   rwa [show u.sz+i*u.sz=(i+1)*u.sz by rw[Nat.add_mul];omega]
  exact⟨(y1,y2),⟨f1,f2⟩,_,_,(List.take_append_drop u.sz cs).symm,by simpa using r1,r2⟩
theorem lay_rep:∀ (d:Nat) (t:TypeId) (u:Ty),lay P d t=some u→∀ (n:Nat) (cs:List Value) (x),DataW.trod enc P W 0 (fun _=>true) true n t cs=some x→IsD W u cs
 |0,_,_,h=>by simp[lay]at h
 |d+1,t,u,h=>fun n cs x hx=>by
  have ih:=lay_rep d
  have hF:∀ (fs:List Field) (off:Nat) (u:Ty),lay.goF P (lay P d) off fs=some u→off+u.sz=cs.length→
    (∀f∈fs,∃m y,DataW.trod enc P W 0 (fun _=>true) true m f.type ((cs.drop f.offset).take (P.cellsOf f.type))=some y)→IsD W u (cs.drop off):=by
   intro fs
   induction fs with
   |nil=>
    intro off u h hl _
    simp only[lay.goF,Option.some.injEq]at h
    subst h
    exact⟨(),trivial,List.length_eq_zero_iff.mp (by simp[Ty.sz]at hl;simp;omega)⟩
   |cons f fs ihf=>
    intro off u h hl hm
    obtain⟨m,y,hy⟩:=hm f List.mem_cons_self
    cases fs with
    |nil=>
     unfold lay.goF at h
     split at h
     ·rename_i u' hu'
      split at h
      ·rename_i hc
       injection h with h;subst h
       have:=ih _ _ hu' _ _ _ hy
       rw[hc.1,hc.2]at this
       rwa [List.take_of_length_le (by simp;omega)]at this
      ·cases h
     ·cases h
    |cons g gs=>
     unfold lay.goF at h
     split at h
     ·rename_i a ha
      split at h
      ·rename_i hc
       split at h
       ·rename_i b hb
        injection h with h;subst h
        have h1:=ih _ _ ha _ _ _ hy
        rw[hc.1,hc.2]at h1
        obtain⟨y1,f1,r1⟩:=h1
        obtain⟨y2,f2,r2⟩:=ihf (off+a.sz) b hb (by simp only[Ty.sz]at hl;omega) fun f' hf'=>hm f' (List.mem_cons_of_mem _ hf')
        refine⟨(y1,y2),⟨f1,f2⟩,_,_,?_,r1,r2⟩
        rw[←List.drop_drop,List.take_append_drop]
       ·cases h
      ·cases h
     ·cases h
  unfold lay at h
  split at h
  ·rename_i ht
   injection h with h;subst h
   obtain⟨b,rfl,_⟩:=DataW.trod_bool ht hx
   exact⟨b,trivial,rfl⟩
  ·rename_i k ht
   injection h with h;subst h
   obtain⟨i,rfl,_,hw⟩:=DataW.trod_int ht hx
   exact⟨i,hw,rfl⟩
  ·rename_i ht
   injection h with h;subst h
   obtain⟨s,rfl,_,hw⟩:=DataW.trod_string ht hx
   exact⟨s.data.toList,by simpa[Ty.fits]using hw,rfl⟩
  ·rename_i e ht
   split at h
   ·rename_i u' hu'
    split at h
    ·rename_i hc
     injection h with h;subst h
     rcases DataW.trod_slice ht hx with⟨rfl,_⟩|⟨a,len,cap,elems,rest,n',rfl,rfl,rfl,_,hl,hm,hel,hi,_,_⟩
     ·exact⟨([] :List u'.T),⟨Nat.zero_le _,fun x hx=>(by cases hx)⟩,none,0,rfl,Nat.le_refl _,fun h0=>absurd h0 (Nat.lt_irrefl _)⟩
     ·have key:∀i,i<len→∃y:u'.T,u'.fits y∧a.spot=none∧a.block<W.heap.size∧∃cs:List Value,cs.length=u'.sz∧(∀j,j<u'.sz→W.cell? ⟨a.block,a.off+(i*u'.sz+j),none⟩=cs[j]?)∧RepD (fun b=>b<W.heap.size) W u' y cs:=by
       intro i hlt
       have h1:=hi i hlt
       rw[List.getElem?_eq_getElem (by omega)]at h1
       obtain⟨cs,hcs,htr⟩:=Option.bind_eq_some_iff.mp h1
       unfold World.cells? at hcs
       simp only[Nat.zero_le,if_true]at hcs
       have hlen:=mapM_some_length hcs
       simp only[List.length_range]at hlen
       have hget:∀j,j<u'.sz→W.cell? ((a.add (i*P.cellsOf e)).add j)=cs[j]? :=fun j hj=>mapM_some_get hcs j j (by rw[List.getElem?_range (by omega)])
       obtain⟨y,f,r⟩:=ih _ _ hu' _ _ _ htr
       have hs':a.spot=none:=by
        have h1:=hi 0 (by omega)
        rw[List.getElem?_eq_getElem (by omega)]at h1
        obtain⟨cs,hcs,_⟩:=Option.bind_eq_some_iff.mp h1
        unfold World.cells? at hcs
        simp only[Nat.zero_le,if_true]at hcs
        have hlen:=mapM_some_length hcs
        simp only[List.length_range]at hlen
        have h2:=mapM_some_get hcs 0 0 (by rw[List.getElem?_range (by omega)])
        rw[List.getElem?_eq_getElem (by omega)]at h2
        have:=World.cell?_spot h2
        simpa[Addr.add]using this
       have h00:=hget 0 hc.2
       rw[List.getElem?_eq_getElem (by omega)]at h00
       refine⟨y,f,hs',?_,cs,by omega,fun j hj=>?_,r⟩
       ·refine Nat.lt_of_not_le fun hge=>?_
        unfold World.cell? at h00
        rw[show((a.add (i*P.cellsOf e)).add 0).block=a.block by rw[add_none (add_spot hs'),add_none hs'],Array.getElem?_eq_none hge]at h00
        simp at h00
       ·rw[←hget j hj,hc.1,add_none (add_spot hs'),add_none hs']
        simp only[Nat.add_assoc]
      obtain⟨l,hll,hq⟩:=exists_list len key
      subst hll
      refine⟨l,⟨Nat.le_trans hl hm,fun x hx=>?_⟩,some a,cap,rfl,hl,fun h0=>?_⟩
      ·obtain⟨i,hi',rfl⟩:=List.getElem_of_mem hx
       exact(hq i hi').1
      ·obtain⟨_,hs,hb,_⟩:=hq 0 h0
       refine⟨a.block,a.off,by rw[←hs],hb,fun i hi'=>?_⟩
       obtain⟨_,_,_,cs,c1,c2,c3⟩:=hq i hi'
       exact⟨cs,c1,c2,c3⟩
    ·cases h
   ·cases h
  ·rename_i fs ht
   split at h
   ·rename_i u' hu'
    split at h
    ·rename_i hc
     injection h with h;subst h
     obtain⟨xs,n',rfl,_,hcs,hxs,hf⟩:=DataW.trod_struct ht hx
     have:=hF fs.toList 0 _ hu' (by omega) fun f hfm=>by
      obtain⟨i,hi',rfl⟩:=List.getElem_of_mem hfm
      have:=hf i _ (by rw[←Array.getElem?_toList];exact List.getElem?_eq_getElem hi')
      rw[List.getElem?_eq_getElem (by simp at hi';omega)]at this
      exact⟨_,_,this⟩
     simpa using this
    ·cases h
   ·cases h
  ·rename_i k e ht
   split at h
   ·rename_i u' hu'
    split at h
    ·rename_i hc
     injection h with h;subst h
     cases n with
     |zero=>simp[DataW.trod]at hx
     |succ n=>
      unfold DataW.trod at hx
      simp only[ht]at hx
      split at hx
      case isFalse=>cases hx
      rename_i hl
      obtain⟨xs,hp,_⟩:=Option.map_eq_some_iff.mp hx
      rw[hc.1]at hp
      refine rep_lay k cs (by omega) fun i hi'=>?_
      have hlx:=mapM_some_length hp
      have:=mapM_some_get hp i i (by rw[List.getElem?_range hi'])
      rw[List.getElem?_eq_getElem (by simp at hlx;omega)]at this
      exact ih _ _ hu' _ _ _ this
    ·cases h
   ·cases h
  ·cases h
theorem argOf_agg{t:TypeId}{u:Ty}{d:Nat}{v:Value}{x:DataW H}{ps:List MemPlace}(hu:lay P d t=some u){fs:Array Field}(ht:P.underlying t=some (.struct fs)){r:_root_.Go.Reach}{b0:Nat}(hval:Value.okWide P W r b0 t v)
  (hd:DataW.Trod enc P W 0 (fun _=>true) true t v x ps):∃y:u.T,u.fits y∧Rep (fun b=>b<W.heap.size) (fun _=>(0,0,0)) 0 W (.agg (flat u y)) v:=by
 obtain⟨cs,rfl,_⟩:=okWide_struct ht hval
 obtain⟨n,hn⟩:=hd
 obtain⟨y,f,r⟩:=lay_rep d t u hu n _ _ hn
 exact⟨y,f,cs.toList,rfl,(RepD.flat u y _ r).2⟩
theorem argOf_one{t:TypeId}{u:Ty}{d:Nat}{v:Value}{x:DataW H}{ps:List MemPlace}(hu:lay P d t=some u)(hone:v.cells=#[v])
  (hd:DataW.Trod enc P W 0 (fun _=>true) true t v x ps):∃y:u.T,u.fits y∧RepL (fun b=>b<W.heap.size) (fun _=>(0,0,0)) 0 W (flat u y) [v] :=by
 obtain⟨n,hn⟩:=hd
 rw[hone]at hn
 obtain⟨y,f,r⟩:=lay_rep d t u hu n _ _ hn
 exact⟨y,f,(RepD.flat u y _ r).2⟩
theorem argOf_int{t:TypeId}{k:IntKind}{d:Nat}{v:Value}{x:DataW H}{ps:List MemPlace}(hu:lay P (d+1) t=some (.int k))(ht:P.underlying t=some (.int k)){r:_root_.Go.Reach}{b0:Nat}(hval:Value.okWide P W r b0 t v)
  (hd:DataW.Trod enc P W 0 (fun _=>true) true t v x ps):∃y:Int,(Lit.int k y).wf=true∧Rep (fun b=>b<W.heap.size) (fun _=>(0,0,0)) 0 W (.int k y) v:=by
 obtain⟨i,rfl⟩:=okWide_int ht hval
 obtain⟨y,f,u,us,e,r,_⟩:=argOf_one hu rfl hd
 injection e with e1 e2;subst e1
 exact⟨y,f,r⟩
theorem argOf_bool{t:TypeId}{d:Nat}{v:Value}{x:DataW H}{ps:List MemPlace}(hu:lay P (d+1) t=some .bool)(ht:P.underlying t=some .bool){r:_root_.Go.Reach}{b0:Nat}(hval:Value.okWide P W r b0 t v)
  (hd:DataW.Trod enc P W 0 (fun _=>true) true t v x ps):∃y:Bool,Rep (fun b=>b<W.heap.size) (fun _=>(0,0,0)) 0 W (.bool y) v:=by
 obtain⟨i,rfl⟩:=okWide_bool ht hval
 obtain⟨y,f,u,us,e,r,_⟩:=argOf_one hu rfl hd
 injection e with e1 e2;subst e1
 exact⟨y,r⟩
theorem argOf_list{t e:TypeId}{u:Ty}{d:Nat}{v:Value}{x:DataW H}{ps:List MemPlace}(hu:lay P (d+1) t=some (.list u))(ht:P.underlying t=some (.slice e)){r:_root_.Go.Reach}{b0:Nat}(hval:Value.okWide P W r b0 t v)
  (hd:DataW.Trod enc P W 0 (fun _=>true) true t v x ps):∃y:List u.T,(y.length≤maxLen∧∀x∈y,u.fits x)∧Rep (fun b=>b<W.heap.size) (fun _=>(0,0,0)) 0 W (.list u y) v:=by
 obtain⟨a,len,cap,rfl⟩:=okWide_slice ht hval
 obtain⟨y,f,w,us,e,r,_⟩:=argOf_one hu rfl hd
 injection e with e1 e2;subst e1
 exact⟨y,f,r⟩
end
end Go.Sx
namespace Go.Sx
open Go.RowKit
theorem SCall.calls_some {P : Program} {f : FuncId} {fn : Func} {args : List SV} {v : SV} (h : SCall P f args v) (hv : v.data = true) (hf : P.funcs[f]? = some fn) (hb : fn.body.isSome = true) (hn : (fn.name == "runtime.NumGoroutine") = false) (w : World) (vs : List Value) (hvs : RepL (fun b => b < w.heap.size) (fun _ => (0, 0, 0)) 0 w args vs) (hg : Gnd w) :
  Calls P f vs.toArray w fun e w'=>∃u,e=.returned u∧Below w.heap.size w w'∧Rep (fun b=>b<w'.heap.size) (fun _=>(0,0,0)) 0 w' v u:=by
 obtain⟨body,hb⟩:=Option.isSome_iff_exists.mp hb
 exact h.calls hv hf hb hn w vs hvs hg
end Go.Sx
namespace Go.Sx
variable {H:Type} {enc:TypeId×Value→H}
theorem returnsIn_both{a:Assume}{C:Checked}{os:Os}{f:FuncId}{fn:Func}{s:ChangeSpec}{conds:List PathCond}{apart fresh handsOn again:Bool}{X:World→Array Value→Prop}
  (hX:∀ (w w':World) (args:Array Value),w.heap=w'.heap→X w args→X w' args)
  (own:ownKnob C.prog.godebug=none) (started:os.Started) (noInit:C.prog.inits.idxOf? f=none) (hfn:C.prog.funcs[f]? =some fn)
  (witness:∃ (w:World) (tape:Tape) (i:Input),w.os=os∧(w.forCall tape i).Shaped C.prog∧i.vars=[] ∧Input.okWide C.prog (w.forCall tape i) .any w.heap.size f i∧
    ((s.pre enc C.prog fn conds apart (w.forCall tape i).memory i.args∧X (w.forCall tape i).memory i.args)∧sizedMet enc C.prog fn (OpenSpec.ofChange s) apart (w.forCall tape i).memory i.args)∧a.holds C.prog (lone (Frame.enter C.prog f i.args .normal) [] (w.forCall tape i)))
  (contract:∀ (W:World) (base:Nat) (args:Array Value) (ds gs:List (DataW H)) (before:List MemPlace),
    (∀ (j:Nat) t v,fn.params[j]? =some t→args[j]? =some v→Value.okWide C.prog W .any base t v)→
    DataW.Whole enc C.prog fn.params.toList s.vars apart W args.toList ds gs before→
    W.ShapedOpen C.prog→X W args→
    Calls C.prog f args W fun e W'=>∃v,e=.returned v∧s.post enc C.prog fn apart fresh handsOn again W args v W'):
  ReturnsInHanded a C os f .any (fun w args=>(s.pre enc C.prog fn conds apart w args∧X w args)∧sizedMet enc C.prog fn (OpenSpec.ofChange s) apart w args) (s.post enc C.prog fn apart fresh handsOn again):=by
 refine returnsInHanded_of_calls own started noInit witness ?_
 intro w tape i _ hsh _ hok hpre _
 obtain⟨_,_,_,fn',hfn',_,_,_,_,hval⟩:=hok
 have e:fn'=fn:=Option.some.inj (hfn'.symm.trans hfn)
 subst e
 obtain⟨⟨⟨ds,gs,before,hw,hc⟩,hx⟩,hz⟩:=hpre
 have hw':=DataW.Whole.of_heap (w':=w.forCall tape i) (by rfl) hw
 refine(contract (w.forCall tape i) w.heap.size i.args ds gs before hval hw' hsh (hX _ _ _ (by rfl) hx)).mono fun e W' ⟨v,he,hp⟩=>?_
 subst he
 exact ChangeSpec.post_blind hp
end Go.Sx
