/-
  Evaluator, contracts, plain law.
-/
import Derived.Test.YtnkaepnblikcdaaGreatVS4
import Derived.Test.YtnkaepnblikcdaaGreatVS3
import Derived.Test.YtnkaepnblikcdaaGreatVS6
import Derived.Shelf.SlSortCmp.WholeK
import Derived.Shelf.SlicesG.Cmp
import Derived.Ground.SlsfProg
import Derived.Ground.SlgcProg
import Derived.Test.YtnkaepnblikcdaaGreatVS5
set_option maxRecDepth 100000
set_option linter.unusedVariables false
set_option linter.unusedSimpArgs false
open Go.IntKind (i64 u64 u8)
namespace Go.Sx
open Go.RowKit
theorem xw1{β:Type}{Φ:β->Prop}:∀ (t:Tree β),(∀x,t.holds (λy=>y=x)->Φ x)->t.says Φ
 |.leaf a,h=>h a rfl
 |.node b t f,h=>⟨λhb=>xw1 t λx hx=>h x ⟨λ_=>hx,λhb'=>by rw[hb]at hb';cases hb'⟩,λhb=>xw1 f λx hx=>h x ⟨λhb'=>(by rw[hb]at hb';cases hb'),λ_=>hx⟩⟩
 |.req b t,h=>λhb=>xw1 t λx hx=>h x ⟨hb,hx⟩
 |.fail _,_=>trivial
noncomputable def goS(E:Env)(n:Nat)(f:FuncId)(args:List SV)(m:Mem):Tree Ex:=
 match E.fn f with
 |some fn=>match fn.body with
  | some body => match fn.name == "runtime.NumGoroutine" with
    |false=>Fr.make fn.ntmps args λfr=>exec E n [.code body] .all fr m λo=>match o with
     |.ret _ fr m=>results E fn m fr λv=>.leaf (.ok v m)
     |.pan v _ m=>.leaf (.pan v m)
     |.stop _ _ _=>.fail 200
    |true=>.fail 143
  |none=>.fail 144
 |none=>.fail 145
noncomputable def goP(E:Env)(n:Nat)(f:FuncId):PFact:=⟨f,λargs m=>some (goS E n f args m)⟩
theorem qz1{P:Program}{E:Env}(hK:Known P E)(n:Nat)(f:FuncId):(goP E n f).ok P:=by
 intro args m t ht;cases ht
 refine xw1 _ λx h=>?_
 unfold goS at h
 split at h
 .rename_i fn hfn
  have hf:=hK.e.fn f fn hfn
  split at h
  .rename_i body hb
   split at h
   .rename_i hn
    obtain⟨fr,h1,h2,h3,h4⟩:=q26 h;obtain⟨out,h5,h6⟩:=z29 hK.e hK.s hK.mix n _ _ _ _ _ _ h1
    cases out with
    |stop it fr' m'=>cases h5
    |ret p' fr' mc=>
     dsimp only at h5;obtain⟨v',h7,h8⟩:=y39 hK.e h5;have h7:Ex.ok v' mc=x:=h7;subst h7;intro w0 R0 ρ w vs hm hvs;show zc1 P _ ((Go.callFunc f vs.toArray).run P w);rw[zD6 hf hb hn];exact zE5 hf hb h6 h8 hm (qv6 h2 h3 h4 hvs)
    |pan v' fr' mc=>
     have h5:Ex.pan v' mc=x:=h5;subst h5;intro w0 R0 ρ w vs hm hvs;show zc7 P _ ((Go.callFunc f vs.toArray).run P w);rw[zD6 hf hb hn];have hfr:=qv6 h2 h3 h4 hvs;intro cs
     let b:Frame:={ (default:Frame)with fn:=f,kind:=.normal}
     have henter:Frame.enter P f vs.toArray .normal=b.at {tmps:=vs.toArray++Array.replicate (fn.ntmps-vs.toArray.size) Go.undef,defers:=[]} [.code body] :=by
      simp[Frame.enter,Frame.at,hf,hb,b]
     obtain⟨ρ',w',a',todo,u,g1,g2,g3,g4⟩:=h6 w0 R0 ρ w {tmps:=vs.toArray++Array.replicate (fn.ntmps-vs.toArray.size) Go.undef,defers:=[]} ⟨hm,hfr,rfl⟩ b cs;exact⟨.panicked [{v:=u,recovered:=false}],w',_,⟨u,rfl,ρ',g1.1,g2,g3⟩,by rw[henter];exact g4,rfl,rfl,g1.2.2,_,hf⟩
   .exact h.elim
  .exact h.elim
 .exact h.elim
def qO7(d:Tmp)(c:Call):Bool:=match c.callee with
 |.value g=>match g with
  |.tmp t=>Nat.beq t d&&c.args.toList.isEmpty
  |_=>false
 |_=>false
def qV6(ops:List Oper):Option (Tmp×FuncId×List Operand):=match ops with
 |[o1,o2] =>match o1.guard,o2.guard,o2.dst with
  |none,none,none=>match o1.dst with
   |some d=>match o1.op with
    |.makeFunc (.func g) first cap=>match o2.op with
     |.defer c=>match first.toList.isEmpty&&qO7 d c with
      |true=>some (d,g,cap.toList)
      |false=>none
     |_=>none
    |_=>none
   |none=>none
  |_,_,_=>none
 |_=>none
theorem qV7{ops:List Oper}{x:Tmp×FuncId×List Operand}(h:qV6 ops=some x):∃o1 o2 cap c,ops=[o1,o2] /\o1.op=.makeFunc (.func x.2.1) #[] cap/\o1.guard=none/\o1.dst=some x.1/\o2.op=.defer c/\c.callee=.value (.tmp x.1)/\c.args=#[] /\o2.guard=none/\o2.dst=none/\cap.toList=x.2.2:=by
 unfold qV6 at h
 split at h
 .rename_i o1 o2
  split at h
  .rename_i g1 g2 g3
   split at h
   .rename_i d hd
    split at h
    .rename_i g first cap hop
     split at h
     .rename_i c hc
      split at h
      .rename_i hb
       cases h;rw[Bool.and_eq_true]at hb
       have e1:first=#[] :=by
        have:=hb.1;apply Array.ext'
        simpa using this
       subst e1;have h2:=hb.2;unfold qO7 at h2
       split at h2
       .rename_i g' hg'
        split at h2
        .rename_i t
         rw[Bool.and_eq_true]at h2;have e2:=Nat.eq_of_beq_eq_true h2.1;subst e2;refine⟨o1,o2,cap,c,rfl,hop,g1,hd,hc,hg',?_,g2,g3,rfl⟩;apply Array.ext'
         simpa using h2.2
        .cases h2
       .cases h2
      .cases h
     .cases h
    .cases h
   .cases h
  .cases h
 .cases h
def yY6(ops:List Oper):Option Tmp:=match ops with
 |o::_=>match o.guard with
  |none=>match o.op with
   |.call c=>match c.callee with
    |.builtin .recover=>o.dst
    |_=>none
   |_=>none
  |some _=>none
 |[] =>none
theorem yY7{P:Program}{ops:List Oper}{d:Tmp}(h:yY6 ops=some d):∃o rest,ops=o::rest/\o.guard=none/\o.dst=some d/\∀ev w,(Go.execOp ev o).run P w=.ok .recover w:=by
 unfold yY6 at h
 split at h
 .rename_i o rest
  split at h
  .rename_i hg
   split at h
   .rename_i c hop
    split at h
    .rename_i hc
     refine⟨o,rest,rfl,hg,h,λev w=>?_⟩;obtain⟨dst,op,ty,pos,after,guard⟩:=o;dsimp only at hop;subst hop;simp[Go.execOp,resolve,invoke,builtin,hc]
    .cases h
   .cases h
  .cases h
 .cases h
section
variable {α:Type}
noncomputable def yY8(Ec Eb:Env)(n:Nat)(g:FuncId)(caps:List SV)(hand:SV)(m:Mem)(k:Mem->Tree α):Tree α:=
 match Eb.fn g with
 |some fg=>match fg.body with
  | some cg => match fg.name == "runtime.NumGoroutine" with
    |false=>Fr.make fg.ntmps caps λfr=>exec Ec n [.code cg] .all fr m λo=>match o with
     |.stop items fr m=>match items with
      |.code c::kg=>match c with
       |.region _ ops false=>match yY6 ops.toList with
        |some d=>yS9 fr (some d) hand λfr=>exec Eb n (.inRegion ops (List.range' 1 (ops.size-1))::kg) .all fr m λo=>match o with
         |.ret _ fr m=>results Eb fg m fr λ_=>k m
         |_=>.fail 204
        |none=>.fail 203
       |_=>.fail 203
      |_=>.fail 203
     |_=>.fail 203
    |true=>.fail 143
  |none=>.fail 144
 |none=>.fail 145
noncomputable def zR0(Ea Eb Ec:Env)(n:Nat)(f:FuncId)(args:List SV)(m:Mem):Tree (SV×Mem):=
 match Eb.fn f with
 |some fn=>match fn.body with
  | some body => match fn.name == "runtime.NumGoroutine" with
    |false=>Fr.make fn.ntmps args λfr=>exec Ea n [.code body] .all fr m λo=>match o with
     |.stop items fr1 m=>match items with
      |.code c::k=>match c with
       |.region _ ops false=>match qV6 ops.toList with
        |some x=>yS9 fr1 (some x.1) .top λfr=>exec Eb n k .all fr m λo=>match o with
         |.ret _ fr m=>yY8 Ec Eb n x.2.1 (x.2.2.map (o7 fr1)) (.raw .nilIface) m λm=>results Eb fn m fr λv=>.leaf (v,m)
         |.pan u fr m=>yY8 Ec Eb n x.2.1 (x.2.2.map (o7 fr1)) u m λm=>results Eb fn m fr λv=>.leaf (v,m)
         |_=>.fail 202
        |none=>.fail 201
       |_=>.fail 201
      |_=>.fail 201
     |_=>.fail 201
    |true=>.fail 143
  |none=>.fail 144
 |none=>.fail 145
end
noncomputable def zR1(Ea Eb Ec:Env)(n:Nat)(f:FuncId):WFact:=⟨f,λargs m=>some (zR0 Ea Eb Ec n f args m)⟩
theorem yY9{P:Program}{Ec Eb:Env}(hc:Known P Ec)(hb:Known P Eb){n:Nat}{g:FuncId}{caps:List SV}{m:Mem}{α:Type}{k:Mem->Tree α}{L:α->Prop}{r:Fin}(h:(yY8 Ec Eb n g caps r.hand m k).holds L):
  ∃m',(k m').holds L/\∀w0 R0 ρ w (a:Act) (b:Frame) (cs:List Frame) (todo:List Item) (u:Value) (cap:Array Value),MRel w0 R0 ρ w m->j7 (RO w0 R0 ρ w m) ρ m.next w caps cap.toList->a.defers=[{target:=.fn (.func g) cap,args:=#[]}] ->
   Rep (RO w0 R0 ρ w m) ρ m.next w r.hand (r.got u)->∃ρ' w',MRel w0 R0 ρ' w' m'/\n7 w0 R0 ρ w m ρ' w' m'/\Steps P (lone {b.at a todo with mode:=r.mode u} cs w) (lone {b.at {a with defers:=[]} todo with mode:=.returning} cs w'):=by
 unfold yY8 at h
 split at h
 case h_2=>cases h
 rename_i fg hfg;have hfg:=hb.e.fn g fg hfg
 split at h
 case h_2=>cases h
 rename_i cg hbg
 split at h
 case h_2=>cases h
 rename_i hng;obtain⟨frg,h1,h2,h3,h4⟩:=q26 h;obtain⟨out,h5,h6⟩:=z29 hc.e hc.s hc.mix n _ _ _ _ _ _ h1
 cases out with
 |ret p fr' m'=>cases h5
 |pan v fr' m'=>cases h5
 |stop items fr1 m1=>
  dsimp only at h5
  split at h5
  case h_2=>cases h5
  rename_i c kg
  split at h5
  case h_2=>cases h5
  rename_i i0 opsg
  split at h5
  case h_2=>cases h5
  rename_i d0 hrec;obtain⟨o0,rest,hops,hog,hod,hrun⟩:=yY7 (P:=P) hrec;obtain⟨fr2,h7,h8⟩:=yT0 h5;obtain⟨out2,h9,h10⟩:=z29 hb.e hb.s hb.mix n _ _ _ _ _ _ h8
  cases out2 with
  |stop it fr' m'=>cases h9
  |pan v fr' m'=>cases h9
  |ret p3 fr3 m3=>
   dsimp only at h9;obtain⟨vg,h11,h12⟩:=y39 hb.e h9;refine⟨m3,h11,λw0 R0 ρ w a b cs todo u cap hm hcap hdef hhand=>?_⟩
   have hop:opsg[0]? =some o0:=by rw[<-Array.getElem?_toList,hops];rfl
   have hszg:0<opsg.size:=by rw[<-Array.length_toList,hops];simp
   have hMrun:r.mode u≠.run:=by cases r<;>simp[Fin.mode]
   have hstep2:=step_defer (P:=P) (fr:={b.at a todo with mode:=r.mode u}) (cs:=cs) (w:=w) (d:={target:=.fn (.func g) cap,args:=#[]}) (ds:=[]) (fv:=.func g) (cap:=cap) (f:=g) (args:=cap) hMrun hdef rfl (by
    show(Go.callFunc g (#[] ++cap)).run P w=_;rw[Array.empty_append]
    exact zD6 hfg hbg hng _ _)
   let bg:Frame:={ (default:Frame)with fn:=g,kind:=.deferred}
   have henter:Frame.enter P g cap .deferred=bg.at {tmps:=cap.toList.toArray++Array.replicate (fg.ntmps-cap.toList.toArray.size) Go.undef,defers:=[]} [.code cg] :=by
    simp[Frame.enter,Frame.at,hfg,hbg,bg]
   obtain⟨ρ1,w1,a1,s1,x1,st1⟩:=h6 w0 R0 ρ w {tmps:=cap.toList.toArray++Array.replicate (fg.ntmps-cap.toList.toArray.size) Go.undef,defers:=[]} ⟨hm,qv6 h2 h3 h4 hcap,rfl⟩ bg ({{b.at a todo with mode:=r.mode u} with defers:=[]}::cs)
   have hrange:List.range opsg.size=0::List.range' 1 (opsg.size-1):=by
    rw[List.range_eq_range',show opsg.size=(opsg.size-1)+1 by omega,List.range'_succ];simp
   have hstep3:=step_region (P:=P) (b:=bg) (a:=a1) (k:=kg) (cs:={{b.at a todo with mode:=r.mode u} with defers:=[]}::cs) (w:=w1) (ops:=opsg) (id:=i0);rw[hrange]at hstep3
   have hstep4:=yZ2 (P:=P) (b:=bg) (a:=a1) (k:=kg) (cs:={{b.at a todo with mode:=r.mode u} with defers:=[]}::cs) (cs':={{b.at a todo with mode:=r.mode2 u} with defers:=[]}::cs) (w:=w1) (ops:=opsg) (i:=0) (rest:=List.range' 1 (opsg.size-1)) (v:=r.got u) rfl hop hog (hrun _ _) (by
    cases r with
    |ret v0 bs=>exact .inr ⟨rfl,rfl,rfl⟩
    |pan v0 bs=>exact .inl rfl)
   rw[hod]at hstep4;have s2:zd5 [] w0 R0 ρ1 w1 fr2 m1 (a1.put (some d0) (r.got u)):=⟨s1.1,zb4.put s1.2.1 h7 (Rep.mono x1 _ _ hhand),by rw[yT1];exact s1.2.2⟩;obtain⟨ρ2,w2,a2,todo2,g1,g2,g3⟩:=h10 w0 R0 ρ1 w1 _ s2 bg ({{b.at a todo with mode:=r.mode2 u} with defers:=[]}::cs);obtain⟨u3,r1,r2⟩:=h12 w0 R0 ρ2 w2 a2 g1;have hstep5:=step_going_returned (P:=P) (fr:={bg.at a2 todo2 with mode:=.returning}) (c:={{b.at a todo with mode:=r.mode2 u} with defers:=[]}) (cs:=cs) (w:=w2) (v:=u3) rfl ⟨rfl,g1.2.2,fg,hfg,r1⟩
   have hsettle:settle (r.mode2 u)=.returning:=by cases r<;>rfl
   refine⟨ρ2,w2,g1.1,x1.trans g2,?_⟩;rw[henter]at hstep2;refine .head hstep2 (Steps.trans st1 (.head hstep3 (.head hstep4 (Steps.trans g3 (.one ?_)))));rw[hstep5];dsimp only;rw[hsettle];rfl
theorem zR2{P:Program}{Ea Eb Ec:Env}(ha:Known P Ea)(hb:Known P Eb)(hc:Known P Ec)(n:Nat)(f:FuncId):(zR1 Ea Eb Ec n f).ok P:=by
 intro args m t ht;cases ht
 refine xw1 _ λy h=>?_
 unfold zR0 at h
 split at h
 case h_2=>cases h
 rename_i fn hfn;have hf:=hb.e.fn f fn hfn
 split at h
 case h_2=>cases h
 rename_i body hbd
 split at h
 case h_2=>cases h
 rename_i hn;obtain⟨fr,h1,h2,h3,h4⟩:=q26 h;obtain⟨out,h5,h6⟩:=z29 ha.e ha.s ha.mix n _ _ _ _ _ _ h1
 cases out with
 |ret p fr' m'=>cases h5
 |pan v fr' m'=>cases h5
 |stop items fr1 m1=>
  dsimp only at h5
  split at h5
  case h_2=>cases h5
  rename_i c k
  split at h5
  case h_2=>cases h5
  rename_i id ops
  split at h5
  case h_2=>cases h5
  rename_i x hlay;obtain⟨o1,o2,cap,c,hops,g1,g1g,g1d,g2,g2c,g2a,g2g,g2d,hcap⟩:=qV7 hlay;obtain⟨fr2,h7,h8⟩:=yT0 h5;obtain⟨out2,h9,h10⟩:=z29 hb.e hb.s hb.mix n _ _ _ _ _ _ h8
  -- all that is left, for both ends
  have fin:∀ (r:Fin) (fr3:Fr) (m2:Mem),(yY8 Ec Eb n x.2.1 (x.2.2.map (o7 fr1)) r.hand m2 λm=>results Eb fn m fr3 λv=>.leaf (v,m)).holds (λz=>z=y)->
    (∀ds w0 R0 ρ w a,zd5 ds w0 R0 ρ w fr2 m1 a->∀ (b:Frame) (cs:List Frame),∃ρ' w' a' todo u,zd5 ds w0 R0 ρ' w' fr3 m2 a'/\n7 w0 R0 ρ w m1 ρ' w' m2/\Rep (RO w0 R0 ρ' w' m2) ρ' m2.next w' r.hand (r.got u)/\Steps P (lone (b.at a k) cs w) (lone {b.at a' todo with mode:=r.mode u} cs w'))->ze4 P f args m y:=by
   intro r fr3 m2 hr hgo;obtain⟨m3,h11,h12⟩:=yY9 hc hb hr;obtain⟨v,h13,h14⟩:=y39 hb.e h11;have h13:(v,m3)=y:=h13;subst h13;intro w0 R0 ρ w vs hm hvs;show zc1 P _ ((Go.callFunc f vs.toArray).run P w);rw[zD6 hf hbd hn];have hfr:=qv6 h2 h3 h4 hvs;intro cs
   let b:Frame:={ (default:Frame)with fn:=f,kind:=.normal}
   have henter:Frame.enter P f vs.toArray .normal=b.at {tmps:=vs.toArray++Array.replicate (fn.ntmps-vs.toArray.size) Go.undef,defers:=[]} [.code body] :=by
    simp[Frame.enter,Frame.at,hf,hbd,b]
   obtain⟨ρ1,w1,a1,s1,x1,st1⟩:=h6 w0 R0 ρ w {tmps:=vs.toArray++Array.replicate (fn.ntmps-vs.toArray.size) Go.undef,defers:=[]} ⟨hm,hfr,rfl⟩ b cs
   have hda:x.1<a1.tmps.size:=by rw[<-s1.2.1.1];exact h7.2.1 _ rfl
   obtain⟨e,a2,w2,⟨rfl,rfl,rfl⟩,harr⟩:=zR3 (P:=P) (id:=id) hops g1 g1g g1d g2 g2c g2a g2g g2d a1 w1 hda b k cs
   have s2:zd5 [{target:=.fn (.func x.2.1) (cap.map a1.eval),args:=#[]}] w0 R0 ρ1 w2 fr2 m1 {tmps:=a1.tmps.setIfInBounds x.1 (.func (.func x.2.1) #[] (cap.map a1.eval)),defers:={target:=.fn (.func x.2.1) (cap.map a1.eval),args:=#[]}::a1.defers}:=
    ⟨s1.1,zb4.put (d:=some x.1) (u:=.func (.func x.2.1) #[] (cap.map a1.eval)) s1.2.1 h7 trivial,by rw[s1.2.2]⟩
   obtain⟨ρ3,w3,a3,todo,u,s3,x3,hu,st3⟩:=hgo _ w0 R0 ρ1 w2 _ s2 b cs
   have hcv:j7 (RO w0 R0 ρ3 w3 m2) ρ3 m2.next w3 (x.2.2.map (o7 fr1)) (cap.map a1.eval).toList:=by
    rw[Array.toList_map,hcap];exact j7.mono x3 _ _ (j7.map _ _ _ λz _=>s1.2.1.eval z)
   obtain⟨ρ4,w4,g5,g6,st4⟩:=h12 w0 R0 ρ3 w3 a3 b cs todo u (cap.map a1.eval) s3.1 hcv s3.2.2 hu;obtain⟨uv,r1,r2⟩:=h14 w0 R0 ρ4 w4 {a3 with defers:=[]} (⟨g5,s3.2.1.mono g6,rfl⟩:zd5 [] w0 R0 ρ4 w4 fr3 m3 {a3 with defers:=[]});exact⟨.returned uv,w4,_,⟨uv,rfl,ρ4,g5,x1.trans (x3.trans g6),r2⟩,by rw[henter];exact Steps.trans st1 (Steps.trans harr (Steps.trans st3 st4)),rfl,rfl,rfl,rfl,fn,hf,r1⟩
  cases out2 with
  |stop it fr' m'=>cases h9
  |ret p3 fr3 m2=>
   dsimp only at h9
   refine fin (.ret .undef []) fr3 m2 h9 λds w0 R0 ρ w a hs b cs=>?_
   obtain⟨ρ',w',a',todo,q1,q2,q3⟩:=h10 w0 R0 ρ w a hs b cs;exact⟨ρ',w',a',todo,.nilIface,q1,q2,rfl,q3⟩
  |pan v fr3 m2=>
   dsimp only at h9
   refine fin (.pan v []) fr3 m2 h9 λds w0 R0 ρ w a hs b cs=>?_
   obtain⟨ρ',w',a',todo,u,q1,q2,q3,q4⟩:=h10 w0 R0 ρ w a hs b cs;exact⟨ρ',w',a',todo,u,q1,q2,q3,q4⟩
end Go.Sx
namespace Go.Proofs
open Go.Shelf Go.RowKit Go.Lib Go.Sort
def Tryz.sortRc_ren:Ren:=⟨fun|6=>256|15=>286|14=>285|28=>317|29=>318|20=>309|21=>310|22=>311|23=>312|24=>313|25=>314|26=>315|27=>316|46=>326|47=>327|48=>328|49=>329|50=>330|57=>336|n=>n,fun|22=>190|24=>134|25=>239|3=>3|39=>170|0=>0|53=>281|55=>225|4=>4|46=>274|45=>273|50=>278|5=>5|9=>9|66=>287|70=>161|76=>295|77=>164|n=>n,fun|n=>n⟩
theorem Tryz.sortRc:SlLaysF0.n6 Tryz.prog Tryz.sortRc_ren:={
 mixed:=by kernel_rfl
 f6:=⟨Tryz.f256.name,by decide,Tryz.func256.trans (congrArg some (by kernel_rfl))⟩
 f14:=⟨Tryz.f285.name,by decide,Tryz.func285.trans (congrArg some (by kernel_rfl))⟩
 f15:=Tryz.func286.trans (congrArg some (by kernel_rfl))
 f20:=⟨Tryz.f309.name,by decide,Tryz.func309.trans (congrArg some (by kernel_rfl))⟩
 f21:=⟨Tryz.f310.name,by decide,Tryz.func310.trans (congrArg some (by kernel_rfl))⟩
 f22:=⟨Tryz.f311.name,by decide,Tryz.func311.trans (congrArg some (by kernel_rfl))⟩
 f23:=⟨Tryz.f312.name,by decide,Tryz.func312.trans (congrArg some (by kernel_rfl))⟩
 f24:=⟨Tryz.f313.name,by decide,Tryz.func313.trans (congrArg some (by kernel_rfl))⟩
 f25:=⟨Tryz.f314.name,by decide,Tryz.func314.trans (congrArg some (by kernel_rfl))⟩
 f26:=⟨Tryz.f315.name,by decide,Tryz.func315.trans (congrArg some (by kernel_rfl))⟩
 f27:=⟨Tryz.f316.name,by decide,Tryz.func316.trans (congrArg some (by kernel_rfl))⟩
 f28:=Tryz.func317.trans (congrArg some (by kernel_rfl))
 f29:=Tryz.func318.trans (congrArg some (by kernel_rfl))
 f46:=⟨Tryz.f326.name,by decide,Tryz.func326.trans (congrArg some (by kernel_rfl))⟩
 f47:=Tryz.func327.trans (congrArg some (by kernel_rfl))
 f48:=Tryz.func328.trans (congrArg some (by kernel_rfl))
 f49:=⟨Tryz.f329.name,by decide,Tryz.func329.trans (congrArg some (by kernel_rfl))⟩
 f50:=⟨Tryz.f330.name,by decide,Tryz.func330.trans (congrArg some (by kernel_rfl))⟩
 f57:=⟨Tryz.f336.name,by decide,Tryz.func336.trans (congrArg some (by kernel_rfl))⟩
 t0:=Tryz.underlying0
 a0:=Tryz.isAgg0
 z0:=Tryz.sizeOf0
 v0:=Tryz.zeroValue0
 t3:=Tryz.underlying3
 a3:=Tryz.isAgg3
 z3:=Tryz.sizeOf3
 v3:=Tryz.zeroValue3
 t4:=Tryz.underlying4
 a4:=Tryz.isAgg4
 z4:=Tryz.sizeOf4
 v4:=Tryz.zeroValue4
 t5:=Tryz.underlying5
 a5:=Tryz.isAgg5
 z5:=Tryz.sizeOf5
 v5:=Tryz.zeroValue5
 t9:=Tryz.underlying9
 a9:=Tryz.isAgg9
 z9:=Tryz.sizeOf9
 v9:=Tryz.zeroValue9
 t22:=Tryz.underlying190
 a22:=Tryz.isAgg190
 z22:=Tryz.sizeOf190
 v22:=Tryz.zeroValue190
 t25:=Tryz.underlying239
 a25:=Tryz.isAgg239
 z25:=Tryz.sizeOf239
 v25:=Tryz.zeroValue239
 t39:=Tryz.underlying170
 a39:=Tryz.isAgg170
 z39:=Tryz.sizeOf170
 v39:=Tryz.zeroValue170
 t45:=Tryz.underlying273
 a45:=Tryz.isAgg273
 z45:=Tryz.sizeOf273
 v45:=Tryz.zeroValue273
 t46:=Tryz.underlying274
 a46:=Tryz.isAgg274
 z46:=Tryz.sizeOf274
 v46:=Tryz.zeroValue274
 t50:=Tryz.underlying278
 a50:=Tryz.isAgg278
 z50:=Tryz.sizeOf278
 v50:=Tryz.zeroValue278
 t53:=Tryz.underlying281
 a53:=Tryz.isAgg281
 z53:=Tryz.sizeOf281
 v53:=Tryz.zeroValue281
 t55:=Tryz.underlying225
 a55:=Tryz.isAgg225
 z55:=Tryz.sizeOf225
 v55:=Tryz.zeroValue225
 t66:=Tryz.underlying287
 a66:=Tryz.isAgg287
 z66:=Tryz.sizeOf287
 v66:=Tryz.zeroValue287
 t70:=Tryz.underlying161
 a70:=Tryz.isAgg161
 z70:=Tryz.sizeOf161
 v70:=Tryz.zeroValue161
 t76:=Tryz.underlying295
 a76:=Tryz.isAgg295
 z76:=Tryz.sizeOf295
 v76:=Tryz.zeroValue295
 t77:=Tryz.underlying164
 a77:=Tryz.isAgg164
 z77:=Tryz.sizeOf164
 v77:=Tryz.zeroValue164 }
def Tryz.cmpInt_ren:Ren:=⟨fun|5=>258|7=>287|n=>n,fun|22=>3|3=>3|4=>4|n=>n,fun|n=>n⟩
theorem Tryz.cmpInt:SlLaysC2.n5 Tryz.prog Tryz.cmpInt_ren:={
 mixed:=by kernel_rfl
 f5:=⟨Tryz.f258.name,by decide,Tryz.func258.trans (congrArg some (by kernel_rfl))⟩
 f7:=⟨Tryz.f287.name,by decide,Tryz.func287.trans (congrArg some (by kernel_rfl))⟩
 t3:=Tryz.underlying3
 a3:=Tryz.isAgg3
 z3:=Tryz.sizeOf3
 v3:=Tryz.zeroValue3
 t4:=Tryz.underlying4
 a4:=Tryz.isAgg4
 z4:=Tryz.sizeOf4
 v4:=Tryz.zeroValue4
 t22:=Tryz.underlying3
 a22:=Tryz.isAgg3
 z22:=Tryz.sizeOf3
 v22:=Tryz.zeroValue3 }
end Go.Proofs
namespace Go.Proofs.YtnkaepnblikcdaaGreat
open Go.Sx Go.RowKit Go.Lib Go.Sort
def zZ0(x:RT):List Value:=[.int .i64 x.1,.int .i64 x.2.1,.int .i64 x.2.2.1,.int .i64 x.2.2.2.1,.int .i64 x.2.2.2.2.1.1,.int .i64 x.2.2.2.2.1.2.1,.int .i64 x.2.2.2.2.1.2.2.1,.int .i64 x.2.2.2.2.1.2.2.2,.int .i64 x.2.2.2.2.2.1,.int .i64 x.2.2.2.2.2.2.1,.int .i64 x.2.2.2.2.2.2.2.1,.int .i64 x.2.2.2.2.2.2.2.2]
theorem zZ1(x:RT):∀v∈zZ0 x,v.oneCell'=true:=by
 intro v hv;simp only[zZ0,List.mem_cons,List.not_mem_nil,or_false]at hv
 rcases hv with rfl|rfl|rfl|rfl|rfl|rfl|rfl|rfl|rfl|rfl|rfl|rfl<;>rfl
set_option maxHeartbeats 1000000 in
theorem zo7(x y:RT)(W:World):Calls pP 257 #[.agg (zZ0 x).toArray,.agg (zZ0 y).toArray] W λe w'=>e=.returned (.int .i64 (Lib.compareInt x.2.1 y.2.1))/\∃q os',w'=grow (W.drewN q) os':=by
 have hcon:=λW'=>AnyG.cmp_Compare_int Tryz.cmpInt x.2.1 y.2.1 W'
 change ∀W',Calls pP 258 _ _ _ at hcon
 generalize Lib.compareInt x.2.1 y.2.1=r at hcon ⊢;unfold zZ0
 go_enter Tryz.func257,Tryz.ntmps257
 go_wp2_with (go_at_call 258;refine(hcon _).mono ?_;rintro e w' ⟨rfl,rfl⟩)
 go_ret
 exact⟨rfl,0,_,by rw[alloc_eq_grow,alloc_eq_grow,grow_grow];rfl⟩
theorem q13(x y:RT):ltOf (λx y:RT=>Lib.compareInt x.2.1 y.2.1) x y=decide (x.2.1<y.2.1):=by
 unfold ltOf Lib.compareInt
 by_cases h1:x.2.1<y.2.1
 .simp[h1]
 .by_cases h2:y.2.1<x.2.1<;>simp[h1,h2]
theorem xJ7:SWO (ltOf λx y:RT=>Lib.compareInt x.2.1 y.2.1) where
 irrefl x:=by rw[q13];simp
 trans x y z h1 h2:=by rw[q13]at *;simp at *;omega
 ntrans x y z h1 h2:=by rw[q13]at *;simp at *;omega
theorem qO5(w:World):(isAgg 134).run pP w=.ok true w:=by
 simp[isAgg,run_underlying Tryz.underlying134]
theorem qM3:(pP.info? 134).map (λi=>(i.zero,i.size,i.bytes))=some (some (.agg #[.int .i64 0,.int .i64 0,.int .i64 0,.int .i64 0,.int .i64 0,.int .i64 0,.int .i64 0,.int .i64 0,.int .i64 0,.int .i64 0,.int .i64 0,.int .i64 0]),12,96):=by kernel_rfl
theorem xz5(w:World):(Go.sizeOf 134).run pP w=.ok 12 w:=by
 obtain⟨i0,hi0,hz0,hz1,hz2⟩:=info_parts qM3;simp[Go.sizeOf,typeInfo,hi0,hz1]
theorem xA7(blk cap:Nat)(d:Array RT)(w:World)(hH:HoldsK zZ0 12 w blk 0 d)(hblk:blk<w.heap.size)(hsz:d.size<4611686018427387904):
  Calls pP 256 #[.slice (some ⟨blk,0,none⟩) d.size cap,.func (.func 257) #[] #[]] w λe w'=>e=.returned (.tuple #[])/\∃d' n os,PermIn 0 d.size d d'/\SortedIn (ltOf λx y:RT=>Lib.compareInt x.2.1 y.2.1) 0 d.size d'/\w'=sortWorldK zZ0 12 w blk 0 n d' os:=by
 have eg:∀args w,(Go.callFunc 257 args).run pP w=.ok (.enter 257 args) w:=enters_of Tryz.func257 (by kernel_rfl) rfl;have hcon:=AnyQ.slices_SortFunc Tryz.sortRc 12 qO5 xz5 zZ0 (λ_=>rfl) zZ1 (λx y=>Lib.compareInt x.2.1 y.2.1) xJ7 257 #[] blk 0 cap d w eg (λ_ _ _ _ x y=>zo7 x y _) hH hblk hsz;exact hcon
open Go.Sx
theorem xp7 :SCall pP 256 [.list xW5 [],.fn 257 [] []] (.tuple []):=
 o8 mix [] trivial 2000 (.auto)
  (t:=.req true (.leaf (SV.tuple [])))
  (by kernel_rfl) (by exact⟨rfl,rfl⟩) (by kernel_rfl) (by kernel_rfl)
theorem MRel.grown{w0:World}{R0:RSet}{ρ:Rho}{w w':World}{m:Mem}(h:MRel w0 R0 ρ w m)(hos:w'.os=w.os)(ht:w'.tape=w.tape)(hp:w'.output=w.output)(hsz:w.heap.size<=w'.heap.size)(hold:∀k,k<w.heap.size->w'.heap[k]? =w.heap[k]?):MRel w0 R0 ρ w' m/\n7 w0 R0 ρ w m ρ w' m:=by
 have hro:∀b,RO w0 R0 ρ w m b->RO w0 R0 ρ w' m b:=λb hb=>by
  rcases hb with hb|⟨h1,h2,h3⟩
  .exact .inl hb
  .exact .inr ⟨h1,by omega,h3⟩
 have e:n7 w0 R0 ρ w m ρ w' m:=⟨Nat.le_refl _,λ_ _=>rfl,λb hb=>⟨hro b hb,hold b (h.ro_lt hb)⟩⟩;have hs0:=h.size_le;exact⟨⟨h.below.trans ⟨hos,ht,hp,hsz,λk hk=>hold k (by omega)⟩,h.lt,h.lo,λk C hk hs=>Nat.lt_of_lt_of_le (h.hi k C hk hs) hsz,h.inj,λk C hk=>za2.mono e C (λhs=>hold _ (h.hi k C hk hs)) (h.box k C hk),λb hb=>⟨by have:=(h.hid.1 b hb).1;omega,(hold b (h.hid.1 b hb).1).trans (h.hid.1 b hb).2⟩,h.hid.2⟩,e⟩
theorem y01{R:Nat->Prop}{w:World}{x:RT}{v:List Value}:p8 R w xW5 x v↔v=zZ0 x:=by
 constructor
 .intro h
  simp only[xW5,p8]at h;obtain⟨_,_,rfl,rfl,_,_,rfl,rfl,_,_,rfl,rfl,_,_,rfl,rfl,_,_,rfl,⟨_,_,rfl,rfl,_,_,rfl,rfl,_,_,rfl,rfl,rfl⟩,_,_,rfl,rfl,_,_,rfl,rfl,_,_,rfl,rfl,rfl⟩:=h;rfl
 .rintro rfl
  simp only[xW5,p8];exact⟨[_],_,rfl,rfl,[_],_,rfl,rfl,[_],_,rfl,rfl,[_],_,rfl,rfl,[_,_,_,_],_,rfl,⟨[_],_,rfl,rfl,[_],_,rfl,rfl,[_],_,rfl,rfl,rfl⟩,[_],_,rfl,rfl,[_],_,rfl,rfl,[_],_,rfl,rfl,rfl⟩
theorem xA8{l:List RT}{d':Array RT}(hd:zS5 (l.map yW9))(hp:PermIn 0 l.toArray.size l.toArray d')(hs:SortedIn (ltOf λx y:RT=>Lib.compareInt x.2.1 y.2.1) 0 l.toArray.size d'):d'.toList=(xA2 (l.map yW9)).map Rc.t:=by
 obtain⟨p1,p2,p3⟩:=hp
 have e1:(d'.extract 0 l.toArray.size).toList=d'.toList:=by rw[<-p1];simp
 have e2:(l.toArray.extract 0 l.toArray.size).toList=l:=by simp
 rw[e1,e2]at p3
 have asc:∀ (k:List RT),(∀i j,i<j->j<k.length->¬(k.getD j default).2.1< (k.getD i default).2.1)->zr0 (k.map yW9):=by
  intro k
  induction k with
  |nil=>intro _;trivial
  |cons x k ih=>
   intro h;refine⟨λy hy=>?_,ih λi j hij hj=>?_⟩
   .obtain⟨z,hz,rfl⟩:=List.mem_map.1 hy
    obtain⟨j,hj,rfl⟩:=List.getElem_of_mem hz;have:=h 0 (j+1) (by omega) (by simpa using hj);simp only[List.getD_cons_zero,List.getD_cons_succ]at this;rw[List.getD_eq_getElem?_getD,List.getElem?_eq_getElem hj]at this;show x.2.1<=k[j].2.1;simp only[Option.getD_some]at this;omega
   .have:=h (i+1) (j+1) (by omega) (by simpa using hj)
    simpa using this
 have key:=xA4 hd (p3.map yW9) (asc d'.toList λi j hij hj=>by
  have hj':j<l.toArray.size:=by rw[<-p1];simpa using hj
  have:=hs i j (Nat.zero_le _) hij hj';rw[q13]at this;have:=of_decide_eq_false this
  have g:∀t,t<d'.size->d'.toList.getD t default=d'[t]! :=λt ht=>by
   rw[List.getD_eq_getElem?_getD,Array.getElem?_toList,Array.getElem?_eq_getElem ht,getElem!_pos d' t ht];rfl
  have hjs:j<d'.size:=by simpa using hj
  rw[g j hjs,g i (by omega)]
  exact this)
 rw[<-key,xK2]
theorem qu0(d:Array RT)(t:Nat)(h:t<d.size*12):(flatK zZ0 12 d)[t]? =(zZ0 d[t / 12]!)[t % 12]? :=by
 have h1:t< (flatK zZ0 12 d).size:=by rw[size_flatK];exact h
 have h2:t % 12< (zZ0 d[t / 12]!).length:=by show t % 12<12;omega
 rw[Array.getElem?_eq_getElem h1,List.getElem?_eq_getElem h2];have:=get_flatK zZ0 12 d t h;rw[getElem!_pos (flatK zZ0 12 d) t h1,getElem!_pos (zZ0 d[t / 12]!) (t % 12) h2]at this;rw[this]
noncomputable def x38:WFact:=⟨256,λargs m=>match args with
 |[x,y] =>match x with
  |.row id=>match y with
   |.fn g first cap=>match Nat.beq g 257&& (first.isEmpty&&cap.isEmpty)with
    |true=>match m.get id with
     |some B=>match B with
      |.rows t l=>if h:t=xW5 then some (.req (l.length<=1000&&zS3 ((h▸l:List xW5.T).map yW9)) (m.set id (some (.rows xW5 ((xA2 ((h▸l:List xW5.T).map yW9)).map Rc.t))) λm=>.leaf (.tuple [],m)))else none
      |_=>none
     |none=>none
    |false=>none
   |_=>none
  |_=>none
 |_=>none⟩
theorem xA6{m m':Mem}{id:Nat}{l:List RT}(hg:m.get id=some (.rows xW5 l))(hl:l.length<=1000)(hd:zS5 (l.map yW9))(hm':zc0 m id (some (.rows xW5 ((xA2 (l.map yW9)).map Rc.t))) m'):ze4 pP 256 [.row id,.fn 257 [] []] m (.tuple [],m'):=by
 intro w0 R0 ρ w vs hm hvs;obtain⟨a,us,rfl,hra,b,us2,rfl,hrb,hnil⟩:=hvs;rw[show us2=[]from hnil];obtain⟨hid,ad,rfl,had⟩:=hra;obtain⟨fv,fu,rfl,h5,h6⟩:=hrb;rw[show fv=[]from h5,show fu=[]from h6];obtain⟨b1,b2,b3⟩:=hm.box id _ hg;have b1:l.length=(ρ id).2.1:=b1;have b2:l.length<=(ρ id).2.2:=b2
 by_cases h0:l=[]
 .subst h0
  have q:=xp7 m w0 R0 ρ w [.slice ad (ρ id).2.1 (ρ id).2.2,.func (.func 257) #[] #[]] hm ⟨_,_,rfl,⟨ad,(ρ id).2.2,by rw[<-b1];rfl,Nat.zero_le _,λhp=>absurd hp (Nat.lt_irrefl 0)⟩,_,_,rfl,⟨[],[],rfl,rfl,rfl⟩,rfl⟩
  have eg:∀k,m'.get k=m.get k:=λk=>by
   rw[hm'.1 k]
   split;.rename_i e;rw[e,hg];rfl
   .rfl
  refine zc1.mono (λu w' hu=>?_) q;obtain⟨ρ',g1,g2,g3⟩:=hu;refine⟨ρ',g1.congr eg hm'.2,⟨by rw[hm'.2];exact g2.le,g2.same,λb hb=>?_⟩,g3⟩;obtain⟨k1,k2⟩:=g2.keep b hb;exact⟨by rw[RO.congr eg];exact k1,k2⟩
 .have hpos:0<l.length:=List.length_pos_iff.2 h0
  have hc0:0< (ρ id).2.2:=by omega
  obtain⟨arr,e,fr,q1,q2,q3,q4⟩:=b3 hc0;have q3:arr.size=(ρ id).2.2*12:=q3;have blk:=hm.hi id _ hg hc0;rw[had hc0,<-b1]
  have cells:∀i (hi:i<l.length) j,j<12->arr[i*12+j]? =(zZ0 l[i])[j]? :=λi hi j hj=>by
   obtain⟨cs,k1,k2,k3⟩:=q4 i hi;rw[show cs=zZ0 l[i]from y01.1 k3]at k2;exact k2 j hj
  have hH:HoldsK zZ0 12 w (ρ id).1 0 l.toArray:=by
   intro j hj;rw[size_flatK]at hj
   have hj:j<l.length*12:=by simpa using hj
   have hi:j / 12<l.length:=by omega
   have hlt:j<arr.size:=by rw[q3];have:=Nat.mul_le_mul_right 12 b2;omega
   rw[Nat.zero_add];refine⟨?_,yd6 q1 q2.1 (by omega)⟩;rw[cell_of_row w _ _ arr e fr q1];have c:=cells (j / 12) hi (j % 12) (by omega);rw[show j / 12*12+j % 12=j by omega]at c;rw[c];have f:=qu0 l.toArray j (by simpa using hj)
   have hsz:j< (flatK zZ0 12 l.toArray).size:=by rw[size_flatK];simpa using hj
   rw[Array.getElem?_eq_getElem hsz]at f;rw[getElem!_pos (flatK zZ0 12 l.toArray) j hsz];show _=some (_root_.id (flatK zZ0 12 l.toArray)[j]);rw[show(l.toArray[j / 12]! :RT)=l[j / 12] by simp[hi]]at f;exact f.symm
  have hrun:=xA7 (ρ id).1 (ρ id).2.2 l.toArray w hH blk (by simp;omega);dsimp only;rw[zD6 (P:=pP) Tryz.func256 (body:=_) rfl (by kernel_rfl)]
  refine Calls.mono hrun λex w' ⟨he,d',n,os,hp,hs,hw⟩=>⟨_,he,?_⟩
  have hd':=xA8 hd hp hs
  have hsz':d'.size=l.length:=by have:=hp.1;simpa using this
  -- the world grown
  have gw:(grow (Sort.ahead w n) os).heap.size=w.heap.size+os.size:=by simp[grow,Sort.ahead]
  obtain⟨m1,m2⟩:=MRel.grown (w':=grow (Sort.ahead w n) os) hm rfl rfl rfl (by rw[gw];omega) (λk hk=>heap_grow_old (Sort.ahead w n) os hk)
  have hw2:w'=putRowK zZ0 12 (grow (Sort.ahead w n) os) (ρ id).1 0 d':=by
   rw[hw];unfold sortWorldK;exact(putRowK_grow zZ0 12 (Sort.ahead w n) os (ρ id).1 0 d' blk).symm
  have hq1:(grow (Sort.ahead w n) os).heap[(ρ id).1]? =some (.cells arr e fr):=(heap_grow_old (Sort.ahead w n) os blk).trans q1
  have hheap:w'.heap[(ρ id).1]? =some (.cells (putCells _root_.id 0 (flatK zZ0 12 d') arr) e fr):=by
   rw[hw2];show((grow (Sort.ahead w n) os).heap.modify (ρ id).1 _)[(ρ id).1]? =_;rw[Array.getElem?_modify,if_pos rfl,hq1];rfl
  have hoth:∀k,k≠(ρ id).1->w'.heap[k]? =(grow (Sort.ahead w n) os).heap[k]? :=λk hk=>by
   rw[hw2];show((grow (Sort.ahead w n) os).heap.modify (ρ id).1 _)[k]? =_;rw[Array.getElem?_modify,if_neg (Ne.symm hk)]
  have hs1:w'.heap.size=(grow (Sort.ahead w n) os).heap.size:=by
   rw[hw2];show((grow (Sort.ahead w n) os).heap.modify (ρ id).1 _).size=_;rw[Array.size_modify]
  have ho:w'.os=(grow (Sort.ahead w n) os).os:=by rw[hw2];rfl
  have ht:w'.tape=(grow (Sort.ahead w n) os).tape:=by rw[hw2];rfl
  have hpt:w'.output=(grow (Sort.ahead w n) os).output:=by rw[hw2];rfl
  have lenS:((xA2 (l.map yW9)).map Rc.t).length=l.length:=by rw[List.length_map,(xA5 _).length_eq,List.length_map]
  obtain⟨g1,g2⟩:=m1.setBox (B':=.rows xW5 ((xA2 (l.map yW9)).map Rc.t)) hg hc0 hm' ho ht hpt hs1 hoth λR e'=>by
   refine⟨lenS.trans b1,Nat.le_trans (Nat.le_of_eq lenS) b2,λ_=>⟨_,_,_,hheap,⟨λi hi=>q2.1 i (by simpa[putCells]using hi),q2.2⟩,(show(putCells _root_.id 0 (flatK zZ0 12 d') arr).size=arr.size by simp[putCells]).trans q3,λi hi=>⟨zZ0 ((xA2 (l.map yW9)).map Rc.t)[i],rfl,λj hj=>?_,y01.2 rfl⟩⟩⟩;have hi:i<l.length:=Nat.lt_of_lt_of_eq hi lenS;have hj:j<12:=hj
   have hlt:i*12+j<arr.size:=by rw[q3];have:=Nat.mul_le_mul_right 12 b2;omega
   have hk:i*12+j< (flatK zZ0 12 d').size:=by rw[size_flatK,hsz'];omega
   show(putCells _root_.id 0 (flatK zZ0 12 d') arr)[i*12+j]? =_;unfold putCells;rw[Array.getElem?_mapIdx,Array.getElem?_eq_getElem hlt];simp only[Option.map_some];rw[if_pos (by omega),Nat.sub_zero];have f:=qu0 d' (i*12+j) (by rw[hsz'];omega);rw[show(i*12+j) / 12=i by omega,show(i*12+j) % 12=j by omega,Array.getElem?_eq_getElem hk]at f;rw[getElem!_pos (flatK zZ0 12 d') (i*12+j) hk];show some (flatK zZ0 12 d')[i*12+j] =_;rw[f]
   have:(d'[i]! :RT)=((xA2 (l.map yW9)).map Rc.t)[i] :=by
    have hi':i<d'.size:=by omega
    rw[getElem!_pos d' i hi'];simp only[<-hd',Array.getElem_toList]
   rw[this]
  exact⟨ρ,g1,m2.trans g2,[],rfl,rfl⟩
theorem yx3:x38.ok pP:=by
 intro args m t ht;simp only[x38]at ht
 split at ht
 .split at ht
  .rename_i id
   split at ht
   .rename_i g first cap
    split at ht
    .rename_i hb
     rw[Bool.and_eq_true,Bool.and_eq_true]at hb;have e1:=Nat.eq_of_beq_eq_true hb.1
     have e2:first=[] :=by simpa using hb.2.1
     have e3:cap=[] :=by simpa using hb.2.2
     subst e1 e2 e3
     split at ht
     .rename_i B hB
      split at ht
      .rename_i ty l
       split at ht
       .rename_i hty
        subst hty;cases ht;intro h;rw[Bool.and_eq_true]at h
        exact Mem.set_says λm' hm'=>xA6 hB (of_decide_eq_true h.1) (zS4.1 h.2) hm'
       .cases ht
      .cases ht
     .cases ht
    .cases ht
   .cases ht
  .cases ht
 .cases ht
def ze8:Plan:=.fork (.lit (.lit (.lit .all))) (.lit (.lit (.fork .all .all)))
noncomputable def ze9(f:Fl):Tree Stop:= .req (o6 f) (.node (!flB f) (.leaf (.done (.list xW5 []))) (.node (f.dead) (.leaf (.done (.list xW5 []))) (.leaf (.at (v5 pP 191 0) 48 (j9 48 [(1,.ptr 0 0),(3,SV.nilS),(16,.list Ty.str f.pages),(17,J (↑f.pages.length:Int)),(18,J 0)]) [some (.cells f.cells)]))))
theorem aa0(f:Fl):w9 (Env.of pP (v7 [z64])) 1000 (j8 pP 191) xW5 (x9 48 [1,3,16,17,18]) (u9 pP 191) ze8 (u7 pP 191 [f.sv]) [] =ze9 f:=by kernel_rfl
def zf0:Plan:=.fork (.fork (.ln 9 (.lit .all)) (.fork (.ln 9 (.fork .all .all)) (.ln 9 (.lit .all)))) .all
noncomputable def zf1(f:Fl)(l:List RT)(i:Int):Tree Stop:= .node (i< (↑f.pages.length:Int)) (.req (0<=i&&i< (↑f.pages.length:Int)) (.req (List.length (f.pages.getD i.toNat ([] :List UInt8))<=100000) (.node (List.length (f.pages.getD i.toNat ([] :List UInt8))<64) (.leaf (.at (v5 pP 191 0) 48 (j9 48 [(1,.ptr 0 0),(3,SV.row 1),(16,.list Ty.str f.pages),(17,J (↑f.pages.length:Int)),(18,J (i64.wrap (i+1)))]) [some (.cells f.cells),some (.rows xW5 l)])) (.node (zQ0 (f.pages.getD i.toNat ([] :List UInt8))) (.req (!(↑f.pages.length:Int)==0) (.node ((n8 (f.pages.getD i.toNat ([] :List UInt8))).seq.tmod (↑f.pages.length:Int)==i) (.req ((l.length+ [(n8 (f.pages.getD i.toNat ([] :List UInt8))).t].length)*96<=140737488355328) (.leaf (.at (v5 pP 191 0) 48 (j9 48 [(1,.ptr 0 0),(3,SV.row 1),(16,.list Ty.str f.pages),(17,J (↑f.pages.length:Int)),(18,J (i64.wrap (i+1)))]) [some (.cells f.cells),some (.rows xW5 (l++[(n8 (f.pages.getD i.toNat ([] :List UInt8))).t]))]))) (.leaf (.at (v5 pP 191 0) 48 (j9 48 [(1,.ptr 0 0),(3,SV.row 1),(16,.list Ty.str f.pages),(17,J (↑f.pages.length:Int)),(18,J (i64.wrap (i+1)))]) [some (.cells f.cells),some (.rows xW5 l)])))) (.leaf (.at (v5 pP 191 0) 48 (j9 48 [(1,.ptr 0 0),(3,SV.row 1),(16,.list Ty.str f.pages),(17,J (↑f.pages.length:Int)),(18,J (i64.wrap (i+1)))]) [some (.cells f.cells),some (.rows xW5 l)])))))) (.req (l.length<=1000&&zS3 (List.map yW9 l)) (.leaf (.done (.list xW5 (List.map Rc.t (xA2 (List.map yW9 l)))))))
theorem aa1(f:Fl)(l:List RT)(i:Int):w9 (Env.ofW pP (v7 [z54]) (d7 [x38])) 1000 (j8 pP 191) xW5 (x9 48 [1,3,16,17,18]) (v5 pP 191 0) zf0 (j9 48 [(1,.ptr 0 0),(3,.row 1),(16,.list .str f.pages),(17,J f.pages.length),(18,J i)]) [some (.cells f.cells),some (.rows xW5 l)] =zf1 f l i:=by kernel_rfl
theorem qT1:Known pP (Env.of pP (v7 [z64])):=kW (l:=[z64]) ⟨yl7,trivial⟩
theorem qS5:Known pP (Env.ofW pP (v7 [z54]) (d7 [x38])):=qT9 mix (l:=[z54]) (k:=[x38]) (by intro x hx;rcases List.mem_cons.1 hx with rfl|hx;exact yk7;cases hx) (by intro x hx;rcases List.mem_cons.1 hx with rfl|hx;exact yx3;cases hx)
abbrev slP(f:Fl)(i:Int):List SV:=j9 48 [(1,.ptr 0 0),(3,.row 1),(16,.list .str f.pages),(17,J f.pages.length),(18,J i)]
abbrev bxP(f:Fl)(l:List Rc):List (Option Box):=[some (.cells f.cells),some (.rows xW5 (l.map Rc.t))]
theorem zf2(f:Fl)(hl:f.pages.length<=1000)(hp:∀p∈f.pages,p.length=64)(R:List Rc)(hR:zS5 R):∀ (k i:Nat) (acc:List Rc),i+k=f.pages.length->acc.length<=i->R=acc++yZ3 f.pages.length i (f.pages.drop i)->
  b9 pP (j8 pP 191) (LR (xA2 R)) (v5 pP 191 0) (slP f i) (bxP f acc)
 |k,i,acc,hi,hn,hL=>by
  have w1:i64.wrap ((i:Int)+1)=(i:Int)+1:=w64 (by omega) (by omega)
  have t0:(i:Int).toNat=i:=by omega
  refine w6 qS5 (n:=1000) (hint:=xW5) (keep:=x9 48 [1,3,16,17,18]) (p:=zf0) rfl ?_;erw [aa1 f (acc.map Rc.t) i];unfold zf1;rw[w1,t0]
  match k,hi with
  |0,hi=>
   refine o5 (λa=>absurd a (by omega)) λ_=>?_
   have z:f.pages.drop i=[] :=List.drop_eq_nil_of_le (by omega);rw[z,show yZ3 f.pages.length i [] =[]from rfl,List.append_nil]at hL;subst hL;rw[yX3,List.length_map];exact x6 (by rw[Bool.and_eq_true];exact⟨decide_eq_true (by omega),zS4.2 hR⟩) rfl
  |k+1,hi=>
   have hip:i<f.pages.length:=by omega
   have p64:(f.pages.getD i ([] :List UInt8)).length=64:=by
    rw[List.getD_eq_getElem?_getD,List.getElem?_eq_getElem hip];exact hp _ (List.getElem_mem hip)
   rw[zU7 (d:=([] :List UInt8)) hip,yZ4]at hL
   have nx:((i:Int)+1)=((i+1:Nat):Int):=by omega
   have skip:yY3 f.pages.length i (f.pages.getD i ([] :List UInt8))=none->b9 pP (j8 pP 191) (LR (xA2 R)) (v5 pP 191 0) (slP f ((i:Int)+1)) (bxP f acc):=λe=>by
    rw[e]at hL;rw[nx];exact zf2 f hl hp R hR k (i+1) acc (by omega) (by omega) hL
   have nz:(!(((f.pages.length:Nat):Int)==0))=true:=by
    rw[Bool.not_eq_true',beq_eq_false_iff_ne];omega
   refine o5 (λ_=>x6 (by simp;omega) (x6 (decide_eq_true (by rw[p64];omega)) (o5 (λc=>absurd c (by rw[p64];omega)) λ_=>f4 (λb=>x6 nz (q95 (λc=>x6 (decide_eq_true ?_) ?_) λc=>?_)) λb=>?_))) λa=>absurd (by omega) a
   .rw[List.length_map]
    show(acc.length+1)*96<=_;omega
   .have e:yY3 f.pages.length i (f.pages.getD i ([] :List UInt8))=some (n8 (f.pages.getD i ([] :List UInt8))):=yY4.2 ⟨b,c,rfl⟩
    rw[e]at hL
    have el:(acc.map Rc.t)++[(n8 (f.pages.getD i ([] :List UInt8))).t] =(acc++[n8 (f.pages.getD i ([] :List UInt8))]).map Rc.t:=by rw[List.map_append];rfl
    rw[el,nx];refine⟨o9 _ _,?_⟩;refine zf2 f hl hp R hR k (i+1) (acc++[n8 (f.pages.getD i ([] :List UInt8))]) (by omega) (by rw[List.length_append];show acc.length+1<=_;omega) ?_;rw[hL,List.append_assoc];rfl
   .refine⟨o9 _ _,skip ?_⟩
    cases e:yY3 f.pages.length i (f.pages.getD i ([] :List UInt8))with
    |none=>rfl
    |some r=>exact absurd (yY4.1 e).2.1 c
   .refine⟨o9 _ _,skip ?_⟩
    cases e:yY3 f.pages.length i (f.pages.getD i ([] :List UInt8))with
    |none=>rfl
    |some r=>have:=(yY4.1 e).1;rw[this]at b;cases b
theorem xa9(f:Fl)(h:o6 f=true):SCall pP 191 [f.sv] (LR (zo3 f)):=by
 have hl:f.pages.length<=1000:=of_decide_eq_true h;refine m6 rfl rfl (by kernel_rfl) (w6 qT1 (n:=1000) (hint:=xW5) (keep:=x9 48 [1,3,16,17,18]) (p:=ze8) (boxes:=[]) rfl ?_);have q:=aa0 f;unfold u7 u9 at q;erw [q];unfold ze9;refine x6 h (f9 (λb=>?_) λb=>f4 (λd=>?_) λd=>⟨o9 _ _,?_⟩)
 .have:zo3 f=[] :=by unfold zo3;rw[b];rfl
  rw[this];rfl
 .have:zo3 f=[] :=by unfold zo3;rw[b,d];rfl
  rw[this];rfl
 .have e:zo3 f=xA2 (yZ3 f.pages.length 0 f.pages):=by unfold zo3;rw[b,d];rfl
  rw[e];have r:=zf2 f hl (qt3.1 b).1 (yZ3 f.pages.length 0 f.pages) yZ5 f.pages.length 0 [] (by omega) (Nat.le_refl _) rfl;exact y89 true [] (slots':=slP f 0) (boxes':=bxP f []) (xz7 ⟨rfl,.same _,rfl,.nil rfl,rfl,.same _,rfl,.same _,rfl,.same _,trivial⟩) ⟨by simp,.same _,trivial⟩ r
def z35:Fact:=qh8 191 λf=>.req (o6 f) (.leaf (LR (zo3 f)))
theorem yi1:z35.ok pP:=qi7 λf h=>xa9 f h
theorem xi2(f:Fl)(h:o6 f=true):SCall pP 103 [f.sv] (qU8 f):=
 o8 mix [z35] ⟨yi1,trivial⟩ 1000 (.fork (.all) (.all))
  (t:=let y1:=(↑(List.map Rc.t (zo3 f)).length:Int);let y0:=(List.map Rc.t (zo3 f)).getD (i64.wrap (y1-1)).toNat rcZ.t;.req (o6 f) (.node (y1==0) (.leaf (.tuple [.agg [J 0,J 0,J 0,J 0,J 0,J 0,J 0,J 0,J 0,J 0,J 0,J 0],.bool false])) (.req (0<=i64.wrap (y1-1)&&i64.wrap (y1-1)<y1) (.leaf (.tuple [.agg [J y0.1,J y0.2.1,J y0.2.2.1,J y0.2.2.2.1,J y0.2.2.2.2.1.1,J y0.2.2.2.2.1.2.1,J y0.2.2.2.2.1.2.2.1,J y0.2.2.2.2.1.2.2.2,J y0.2.2.2.2.2.1,J y0.2.2.2.2.2.2.1,J y0.2.2.2.2.2.2.2.1,J y0.2.2.2.2.2.2.2.2],.bool true])))))
  (by kernel_rfl) (by
   refine x6 h (q95 (λe=>?_) λe=>?_)
   .have e:zo3 f=[] :=by
     rw[List.length_map]at e;exact List.eq_nil_of_length_eq_zero (by omega)
    rw[qU9 e];rfl
   .have hl:f.pages.length<=1000:=of_decide_eq_true h
    have len:=zo4 f;rw[List.length_map]at e ⊢;have w:i64.wrap (((zo3 f).length:Int)-1)=((zo3 f).length:Int)-1:=w64 (by omega) (by omega);rw[w];obtain⟨A,x,hA⟩:∃A x,zo3 f=A++[x] :=⟨(zo3 f).dropLast,(zo3 f).getLast (by intro k;rw[k]at e;exact e rfl),(List.dropLast_concat_getLast _).symm⟩
    have g:((zo3 f).map Rc.t).getD (((zo3 f).length:Int)-1).toNat rcZ.t=x.t:=by
     rw[q28 (by omega),hA]
     have:((((A++[x]).length:Nat):Int)-1).toNat=A.length:=by simp
     rw[this,List.getD_eq_getElem?_getD,List.getElem?_append_right (Nat.le_refl _)];simp
    rw[g,qV0 hA]
    exact x6 (by simp;omega) rfl) (by kernel_rfl) (by kernel_rfl)
theorem yo4:z93.ok pP:=qi7 λf h=>xi2 f h
theorem xb1(f:Fl)(r:Rc)(h:o6 f=true):SCall pP 202 [f.sv,r.sv] (apV f r):=
 o8 mix [z59,z64,z93,fWr] ⟨yl2,yl7,yo4,yx0,trivial⟩ 1000 (.fork (.ln 4 (.fork .all (.fork .all (.fork .all .all)))) (.ln 4 (.lit .all)))
  (t:=let y0:=wrF f (r.seq.tmod (↑f.pages.length:Int)) (enc r);.node (rcB r) (.req (o6 f) (.req (o6 f) (.node (!flB f) (.leaf (.tuple [.agg f.cells,J 1])) (.node (f.dead) (.leaf (.tuple [.agg f.cells,J 17])) (.node (r.seq != i64.wrap ((qU3 f).seq+1)) (.leaf (.tuple [.agg f.cells,J 11])) (.req (!(↑f.pages.length:Int)==0) (.req (o6 f) (.leaf (.tuple [.agg [.list Ty.str y0.pages,J y0.fuse,.bool y0.dead,J y0.keep],J (wrE f (r.seq.tmod (↑f.pages.length:Int)) (enc r))]))))))))) (.req (o6 f) (.leaf (.tuple [.agg f.cells,J 1]))))
  (by kernel_rfl) (by
   have w:i64.wrap ((qU3 f).seq+1)=qU5 f+1:=by rw[qU6,w64 (by have:=qU4 f;omega) (by have:=qU4 f;omega)]
   rw[w]
   refine f4 (λa=>x6 h (x6 h (f9 (λb=>(zp2 (.inr b)).symm) λb=>f4 (λd=>(zp3 a b d).symm) λd=>q96 (λs=>(zp5 a b d s).symm) λs=>x6 ?_ (x6 h ?_)))) λa=>x6 h (zp2 (.inl a)).symm
   .have:=(qt3.1 b).2.1
    rw[Bool.not_eq_true',beq_eq_false_iff_ne];omega
   .rw[zp4 a b d s];rfl) (by kernel_rfl) (by kernel_rfl)
theorem yi3:fAp.ok pP:=qi6 λf r h=>xb1 f r h
theorem qT4:Known pP (Env.ofB pP (v7 [z93,fAp]) (d7 []) (d9 []) (d8 []) (x8 []) (x8 []) (x8 []) (x8 [])):=hB (l:=[z93,fAp]) (k:=[]) (j:=[]) (i:=[]) [] [] [] [] ⟨yo4,yi3,trivial⟩ o4 o4 o4
theorem yc2(f:Fl):i64.wrap ((qU3 f).seq+1)=qU5 f+1:=by rw[qU6,w64 (by have:=qU4 f;omega) (by have:=qU4 f;omega)]
theorem zu1(f:Fl)(r:Rc)(h:o6 f=true)(e:yY5 f r=0):za1 pP 119 [r.sv] (.cells f.cells) (false,.tuple [],.cells (t8 f r).cells):=by
 refine zw1 (r:=.ret (.tuple []) [some (.cells (t8 f r).cells)]) (by kernel_rfl) (y91 qT4 (n:=1000) (keep:=x9 37 []) (p:=yX1) (Nat.le_refl _) ?_) rfl rfl rfl rfl rfl;erw [rcX f r];unfold yX2;rw[yc2];exact x6 h (x6 h (q96 (λk=>absurd e k) λ_=>rfl))
theorem zu2(f:Fl)(r:Rc)(h:o6 f=true)(e:¬yY5 f r=0):za1 pP 119 [r.sv] (.cells f.cells) (true,qo5,.cells (t8 f r).cells):=by
 refine zw1 (r:=.pan qo5 [some (.cells (t8 f r).cells)]) (by kernel_rfl) (y91 qT4 (n:=1000) (keep:=x9 37 []) (p:=yX1) (Nat.le_refl _) ?_) rfl rfl rfl rfl rfl;erw [rcX f r];unfold yX2;rw[yc2];exact x6 h (x6 h (q96 (λ_=>rfl) λk=>absurd k e))
theorem ys9:zt5.ok pP:=λargs B t ht=>by
 simp only[zt5]at ht
 split at ht
 .split at ht
  .cases ht
   intro h;exact⟨λe=>zu1 ⟨_,_,_,_⟩ ⟨_,_,_,_,(_,_,_,_),(_,_,_,_)⟩ h (beq_iff_eq.1 e),λe=>zu2 ⟨_,_,_,_⟩ ⟨_,_,_,_,(_,_,_,_),(_,_,_,_)⟩ h (beq_eq_false_iff_ne.1 e)⟩
  .cases ht
 .cases ht
def zx6(f:Fw):Rc:=match qE4 f.lines with
 |true=>⟨1,0,e9 f,0,f.ret,f.ret⟩
 |false=>⟨1,0,e9 f,0,f.pos,x41 f.pos (f.queue.getD 0 dBk).1⟩
def zx4(f:Fw):Bool:=xy9 f&& (!f.moving&&0<f.lines.length)
def qo4(f:Fw):Rc:=match y50 f with
 |true=>⟨3,0,e9 f-1,0,f.pos,(f.ret.1,f.ret.2.1,f.ret.2.2.1,f.pos.2.2.2)⟩
 |false=>match f.moving with
  |true=>⟨2,0,f.active,f.mo.2.1,f.pos,x41 (wsub4 f.pos (q15 f.mo)) f.mo.1.1⟩
  |false=>⟨2,0,e9 f-1,0,f.pos,f.pos⟩
def zv2(f:Fw)(line:Int):V4:=if line=0/\f.homed=true then f.pos else if f.back=true then(f.ret.1,f.ret.2.1,f.ret.2.2.1,f.pos.2.2.2)else(0,0,0,f.pos.2.2.2)
theorem zx5{f:Fw}:zx4 f=true↔xy9 f=true/\f.moving=false/\0<f.lines.length:=by simp[zx4]
theorem zx8{f:Fw}(h:0<f.lines.length)(k:f.lines.getD 0 0=0):zx6 f=⟨1,0,e9 f,0,f.ret,f.ret⟩:=by
 have e:qE4 f.lines=true:=qE5.2 ⟨h,k⟩;unfold zx6;rw[e]
theorem zx7{f:Fw}(k:¬f.lines.getD 0 0=0):zx6 f=⟨1,0,e9 f,0,f.pos,x41 f.pos (f.queue.getD 0 dBk).1⟩:=by
 have e:qE4 f.lines=false:=by rw[Bool.eq_false_iff];intro h;exact k (qE5.1 h).2
 unfold zx6;rw[e]
theorem qp4{f:Fw}(a:y50 f=true):qo4 f=⟨3,0,e9 f-1,0,f.pos,(f.ret.1,f.ret.2.1,f.ret.2.2.1,f.pos.2.2.2)⟩:=by unfold qo4;rw[a]
theorem qo8{f:Fw}(a:y50 f=false)(m:f.moving=true):qo4 f=⟨2,0,f.active,f.mo.2.1,f.pos,x41 (wsub4 f.pos (q15 f.mo)) f.mo.1.1⟩:=by unfold qo4;rw[a,m]
theorem qp2{f:Fw}(a:y50 f=false)(m:f.moving=false):qo4 f=⟨2,0,e9 f-1,0,f.pos,f.pos⟩:=by unfold qo4;rw[a,m]
theorem yG0{f:Fw}(h:xy9 f=true):i64.wrap (e9 f-1)=e9 f-1:=w64 (by have:=yF8 h;omega) (by have:=yF8 h;omega)
theorem zv5{f:Fw}{n:Int}(a:n=0)(b:f.homed=true):zv2 f n=f.pos:=if_pos ⟨a,b⟩
theorem zv6{f:Fw}{n:Int}(a:¬(n=0/\f.homed=true))(b:f.back=true):zv2 f n=(f.ret.1,f.ret.2.1,f.ret.2.2.1,f.pos.2.2.2):=by unfold zv2;rw[if_neg a,if_pos b]
theorem zv9{f:Fw}{n:Int}(a:¬(n=0/\f.homed=true))(b:f.back=false):zv2 f n=(0,0,0,f.pos.2.2.2):=by unfold zv2;rw[if_neg a,if_neg (by rw[b];exact Bool.false_ne_true)]
theorem xb9(f:Fw)(h:zx4 f=true):SCall pP 120 [f.sv] ((zx6 f).sv):=
 o8 mix [qb6,fPP,qb7,qa0] ⟨yr1,yr2,yr3,yp1,trivial⟩ 1000 (.fork (.all) (.all))
  (t:=let y0:=x41 f.pos (f.queue.getD 0 dBk).1;.req (0< (↑f.lines.length:Int)) (.node (f.lines.getD 0 0==0) (.req (xy9 f) (.leaf (.agg [J 1,J 0,J (e9 f),J 0,J f.ret.1,J f.ret.2.1,J f.ret.2.2.1,J f.ret.2.2.2,J f.ret.1,J f.ret.2.1,J f.ret.2.2.1,J f.ret.2.2.2]))) (.req (xy9 f) (.req (0< (↑f.queue.length:Int)) (.leaf (.agg [J 1,J 0,J (e9 f),J 0,J f.pos.1,J f.pos.2.1,J f.pos.2.2.1,J f.pos.2.2.2,J y0.1,J y0.2.1,J y0.2.2.1,J y0.2.2.2]))))))
  (by kernel_rfl) (by
   obtain⟨sh,nm,ln⟩:=zx5.1 h;have lens:=(xz0.1 sh).2.1
   refine x6 (decide_eq_true (by omega)) (q95 (λk=>x6 sh (by rw[zx8 ln k];rfl)) λk=>x6 sh (x6 (decide_eq_true (by omega)) (by rw[zx7 k];rfl)))) (by kernel_rfl) (by kernel_rfl)
theorem xf9(f:Fw)(h:xy9 f=true):SCall pP 124 [f.sv] ((qo4 f).sv):=
 o8 mix [qb6,fPP,qb7,qa0] ⟨yr1,yr2,yr3,yp1,trivial⟩ 1000 (.fork (.all) (.fork (.all) (.all)))
  (t:=let y0:=x41 (wsub4 f.pos (q15 f.mo)) f.mo.1.1;.req (xy9 f) (.req (qX5 f) (.node (y50 f) (.req true (.req true (.leaf (.agg [J 3,J 0,J (i64.wrap (e9 f-1)),J 0,J f.pos.1,J f.pos.2.1,J f.pos.2.2.1,J f.pos.2.2.2,J f.ret.1,J f.ret.2.1,J f.ret.2.2.1,J f.pos.2.2.2])))) (.node (f.moving) (.leaf (.agg [J 2,J 0,J f.active,J f.mo.2.1,J f.pos.1,J f.pos.2.1,J f.pos.2.2.1,J f.pos.2.2.2,J y0.1,J y0.2.1,J y0.2.2.1,J y0.2.2.2])) (.leaf (.agg [J 2,J 0,J (i64.wrap (e9 f-1)),J 0,J f.pos.1,J f.pos.2.1,J f.pos.2.2.1,J f.pos.2.2.2,J f.pos.1,J f.pos.2.1,J f.pos.2.2.1,J f.pos.2.2.2]))))))
  (by kernel_rfl) (by
   have lens:=(xz0.1 h).2.1
   exact x6 h (x6 (qX6.2 lens) (f4 (λa=>x6 rfl (x6 rfl (by rw[qp4 a,yG0 h];rfl))) λa=>f4 (λm=>by rw[qo8 a m];rfl) λm=>by rw[qp2 a m,yG0 h];rfl))) (by kernel_rfl) (by kernel_rfl)
theorem xb6(f:Fw)(n:Int):SCall pP 126 [f.sv,J n] (V4.sv (zv2 f n)):=
 o8 mix [] trivial 1000 (.fork (.lit (.lit (.fork .all (.fork .all .all)))) (.ln 3 (.fork .all .all)))
  (t:=let y0:Tree SV:=.node (f.back) (.req true (.req true (.leaf (.agg [J f.ret.1,J f.ret.2.1,J f.ret.2.2.1,J f.pos.2.2.2])))) (.req true (.req true (.leaf (.agg [J 0,J 0,J 0,J f.pos.2.2.2]))));.node (n==0) (.node (f.homed) (.leaf (.agg [J f.pos.1,J f.pos.2.1,J f.pos.2.2.1,J f.pos.2.2.2])) y0) y0)
  (by kernel_rfl) (by
   exact q95 (λa=>f4 (λb=>by rw[zv5 a b];rfl) λb=>f4 (λc=>x6 rfl (x6 rfl ((by rw[zv6 (λq=>by rw[b]at q;cases q.2) c];rfl)))) λc=>x6 rfl (x6 rfl ((by rw[zv9 (λq=>by rw[b]at q;cases q.2) c];rfl)))) λa=>f4 (λc=>x6 rfl (x6 rfl ((by rw[zv6 (λq=>a q.1) c];rfl)))) λc=>x6 rfl (x6 rfl ((by rw[zv9 (λq=>a q.1) c];rfl)))) (by kernel_rfl) (by kernel_rfl)
def z43:Fact:=qh6 120 λf=>.req (zx4 f) (.leaf (zx6 f).sv)
def z72:Fact:=qh6 124 λf=>.req (xy9 f) (.leaf (qo4 f).sv)
def z40:Fact:=qi8 126 λf rest=>match rest with
 |[.int .i64 n] =>some (.leaf (V4.sv (zv2 f n)))
 |_=>none
theorem yj3:z43.ok pP:=qh7 λf h=>xb9 f h
theorem ym5:z72.ok pP:=qh7 λf h=>xf9 f h
theorem yj0:z40.ok pP:=qi9 λf rest t ht=>by
 split at ht<;>cases ht;exact xb6 f _
def q99(r:Rc):Bool:=v9 r.src&& (v9 r.dst&&v9 (wsub4 r.dst r.src))
def yV2(f:Fw)(r:Rc):Fw:={f with line:=if r.line-1>0 then r.line-1 else 0,pos:=r.src,e:=xY3 f.ma.e r.src.2.2.2,back:=true,ret:=r.src}
def yV3(f:Fw)(r:Rc):Fw:={f with homed:=true,pos:=r.src,loc:=yR1 f.ma r.dst,e:=(yR2 f.ma r.dst).2.2.2,line:=r.line}
def yV4(f:Fw)(r:Rc):Fw:={yV3 f r with ret:=r.dst}
def rsF(f:Fw)(r:Rc):Fw:=if r.kind=3 then y44 (yV4 f r) (wsub4 r.dst r.src)else if r.src=r.dst then yV3 f r else m8 (yV3 f r) (wsub4 r.dst r.src) 0 r.line
def rgE(r:Rc):Int:=if q99 r=true then 0 else 19
def rgF(f:Fw)(r:Rc):Fw:=if r.kind=1 then yV2 f r else rsF f r
def rvB(f:Fw)(l:Fl):Bool:=v6 f&& (qK6 f&& (flB l&&!f.homed))
def rvE(f:Fw)(l:Fl):Int:=if rvB f l=false then 1 else if l.dead=true then 17 else match lastO l with
 |none=>0
 |some r=>rgE r
def rvF(f:Fw)(l:Fl):Fw:=match lastO l with
 |none=>f
 |some r=>rgF f r
def rvS(f:Fw)(l:Fl):SV:=if rvE f l=0 then .tuple [(rvF f l).sv,J 0]else .tuple [.agg (f7 fw0),J (rvE f l)]
theorem zl8{f:Fw}{c:V4}{len:Int}(h:zk6 f c len=true)(e:z04 f=0):zk4 f c len=true:=by
 have p:=zm0 h;have ql:=zk8 f c len;rw[zk5,e];rw[e]at p;have g:=qw9 p (i:=0) (Nat.zero_le _)
 have k:gL (s9 f c len) (zG3 f.ma (s9 f c len)) 0 0<=0:=by
  rw[qx0 (by omega)];exact Int.le_trans (Int.min_le_left _ _) (Int.le_refl _)
 exact⟨(p.crR 0).1,by omega⟩
theorem y37{f g:Fw}(v:VF f)(hi:qK6 f=true)(e1:g.ma=f.ma)(e2:g.feed=f.feed)(e3:g.queue=f.queue)(e4:g.lines=f.lines)(e5:g.moving=f.moving){c:V4}(hn:v9 c=true)(hz:nz4 c=true):zk6 g c 0=true/\z04 g=0:=by
 obtain⟨i1,i2,i3⟩:=qK7.1 hi;have n:=v.nums
 have en:z04 g=0:=by
  unfold z04;rw[if_neg (show ¬g.moving=true by rw[e5,i1];exact Bool.false_ne_true),if_pos (show g.queue.length=0 by rw[e3];exact i2)]
 exact⟨zk7.2 ⟨by rw[e1];exact yy6 v.ma hn hz,by decide,by rw[e2];exact yy1.2 (by omega),by rw[e3];exact v.sound,by rw[e3,e4];exact v.lens,by rw[e3];omega,by omega,by omega⟩,en⟩
theorem y41{d:V4}(h:v9 d=true):v9 (y40 d)=true:=by have:=r8.1 h;exact r8.2 (by unfold y40;dsimp only;omega)
theorem y43{d:V4}(h:v9 d=true):v9 (y42 d)=true:=by have:=r8.1 h;exact r8.2 (by unfold y42;dsimp only;omega)
theorem y49{f g:Fw}(v:VF f)(hi:qK6 f=true)(e1:g.ma=f.ma)(e2:g.feed=f.feed)(e3:g.queue=f.queue)(e4:g.lines=f.lines)(e5:g.moving=f.moving){d:V4}(hn:v9 d=true):
  y46 g d=true/\z04 g=0/\z04 (f8 g (y40 d))=0/\y45 g d=true:=by
 obtain⟨i1,i2,i3⟩:=qK7.1 hi
 have en:z04 g=0:=by
  unfold z04;rw[if_neg (show ¬g.moving=true by rw[e5,i1];exact Bool.false_ne_true),if_pos (show g.queue.length=0 by rw[e3];exact i2)]
 have p1:nz4 (y40 d)=true->zk6 g (y40 d) 0=true:=λz=>(y37 v hi e1 e2 e3 e4 e5 (y41 hn) z).1
 have o1:backOk g (y40 d)=true:=by
  cases z:nz4 (y40 d)with
  |false=>exact zv0 z
  |true=>rw[zv1 z];exact zl8 (p1 z) en
 have en2:z04 (f8 g (y40 d))=0:=by
  cases z:nz4 (y40 d)with
  |false=>rw[zu7 z];exact en
  |true=>
   rw[zu9 z,zj1 (by rw[<-zv1 z];exact o1)];exact en
 have p2:nz4 (y42 d)=true->zk6 (f8 g (y40 d)) (y42 d) 0=true:=λy=>by
  cases z:nz4 (y40 d)with
  |false=>rw[zu7 z];exact(y37 v hi e1 e2 e3 e4 e5 (y43 hn) y).1
  |true=>
   rw[zu9 z];exact zj7 (p1 z) (by rw[<-zv1 z];exact o1) (by rw[e1];exact yy6 v.ma (y43 hn) y) (by decide) (by rw[e3];omega)
 have o2:backOk (f8 g (y40 d)) (y42 d)=true:=by
  cases y:nz4 (y42 d)with
  |false=>exact zv0 y
  |true=>rw[zv1 y];exact zl8 (p2 y) en2
 exact⟨y47.2 ⟨p1,λ_=>p2⟩,en,en2,by unfold y45;rw[o1,o2];rfl⟩
section
variable {f:Fw} {r s line:Int} {c:Gc.C}
theorem xM4:zz4 (xM3 f r s)=true:=by
 have z:zz4 z4=true:=by decide
 unfold xM3 y66
 split;.exact z
 .split
  .exact z
  .split
   .exact z
   .split
    .exact xM2 _ _
    .exact z
theorem xN7(v:v6 f=true):x41 f.pos (xM3 f r s)=(xL6 f r s).pos:=by
 rw[xN5 v];exact x42 (ya1 (t9 v).pos) xM4
theorem zT0(e:doE f line c=0):(doF f line c).pos=if c.code=28 then(0,0,0,f.pos.2.2.2)else f.pos:=by
 by_cases k1:c.code=1112
 .rw[zS9 k1,if_neg (by omega)]
  show(qX7 f line).pos=f.pos
  unfold qX7;split<;>rfl
 by_cases k2:c.code=1999
 .rw[if_neg (by omega)];unfold doF;rw[if_neg k1,if_pos k2];rfl
 by_cases k3:c.code=1025
 .rw[if_neg (by omega)];unfold doF;rw[if_neg k1,if_neg k2,if_pos k3]
 by_cases k4:c.code=1024
 .rw[if_neg (by omega)];unfold doF;rw[if_neg k1,if_neg k2,if_neg k3,if_pos k4]
 have kk:¬c.code=1112/\¬c.code=1999/\¬c.code=1024/\¬c.code=1025:=⟨k1,k2,k4,k3⟩
 by_cases m:f.mode=3
 .rw[zX0 k1 k2 m]at e;omega
 by_cases w:¬f.waits=0\/¬f.dwell=0
 .rw[zX7 kk m w]at e;omega
 rw[zX2 kk m (by omega)]at e;rw[zO8 kk]
 by_cases a:c.code=0\/c.code=1
 .rw[if_pos a,if_neg (by omega)]
  unfold q75 tlF
  have fp:(f0 f c).pos=f.pos:=by unfold f0;split<;>rfl
  split;.exact fp
  .exact fp
 rw[if_neg a];rw[if_neg a]at e
 by_cases b:c.code=4
 .rw[if_pos b,if_neg (by omega)]
 rw[if_neg b];rw[if_neg b]at e
 by_cases d:c.code=28
 .rw[if_pos d,if_pos d]
  rw[if_pos d]at e;exact qJ1 e
 rw[if_neg d,if_neg d]
 repeat' (first|rfl|split)
theorem zh7(h:zg2 f line c=0):(zg4 f line c).pos=if c.code=28 then(0,0,0,f.pos.2.2.2)else f.pos:=by
 obtain⟨_,_,_,_,e⟩:=zg3 h;rw[<-zT0 e];unfold zg4
 split;.rfl
 .show(qX7 (doF f line c) line).pos=_
  unfold qX7;split<;>rfl
end
theorem xZ1{a b:V4}(h:a=b):(a.1==b.1&& (a.2.1==b.2.1&& (a.2.2.1==b.2.2.1&& (a.2.2.2==b.2.2.2&&true))))=true:=by subst h;simp
section
variable {kd:Int} {nb:Bool} {c:Gc.C} {n r s:Int}
end
def qV9(p c r:V4):Prop:=p.1+c.1=r.1/\p.2.1+c.2.1=r.2.1/\p.2.2.1+c.2.2.1=r.2.2.1
def noZ(ls:List Int):Prop:=∀n∈ls,¬n=0
def Zs(p r:V4)(cs:List V4)(ls:List Int):Prop:=
 noZ ls\/(∃c cs' ls',cs=c::cs'/\ls=0::ls'/\noZ ls'/\qV9 p c r)\/
 (∃z x y cs' ls',cs=(0,0,z,0)::(x,y,0,0)::cs'/\ls=0::0::ls'/\noZ ls'/\p.1+x=r.1/\p.2.1+y=r.2.1/\p.2.2.1+z=r.2.2.1)
theorem yd1:noZ [] :=λ_ h=>by cases h
theorem Zs.tail{p r c:V4}{cs:List V4}{n:Int}{ls:List Int}(h:Zs p r (c::cs) (n::ls)):Zs (r9 p c) r cs ls:=by
 rcases h with h|⟨c',cs',ls',e1,e2,h,l⟩|⟨z,x,y,cs',ls',e1,e2,h,h1,h2,h3⟩
 .exact .inl λm hm=>h m (List.mem_cons_of_mem _ hm)
 .injection e2 with _ e2;subst e2;exact .inl h
 .injection e1 with a e1
  injection e2 with b e2;subst e1;subst e2;subst a;refine .inr (.inl ⟨(x,y,0,0),cs',ls',rfl,rfl,h,?_⟩);unfold qV9 r9;dsimp only;omega
theorem Zs.add{p r c:V4}{cs:List V4}{n:Int}{ls:List Int}(h:Zs p r cs ls)(hn:¬n=0):Zs p r (cs++[c]) (ls++[n]):=by
 have nz:∀l,noZ l->noZ (l++[n]):=λl h m hm=>by
  rcases List.mem_append.1 hm with k|k
  .exact h m k
  .rw[List.mem_singleton.1 k];exact hn
 rcases h with h|⟨c',cs',ls',e1,e2,h,l⟩|⟨z,x,y,cs',ls',e1,e2,h,h1⟩
 .exact .inl (nz _ h)
 .subst e1;subst e2;exact .inr (.inl ⟨c',cs'++[c],ls'++[n],rfl,rfl,nz _ h,l⟩)
 .subst e1;subst e2;exact .inr (.inr ⟨z,x,y,cs'++[c],ls'++[n],rfl,rfl,nz _ h,h1⟩)
def csF(f:Fw):List V4:=(if f.moving=true then [f.mo.1.1]else [])++f.queue.map (·.1)
def lsF(f:Fw):List Int:=(if f.moving=true then [f.active]else [])++f.lines
theorem zM7{f:Fw}(h:f.moving=false):csF f=f.queue.map (·.1):=by unfold csF;rw[if_neg (by rw[h];exact Bool.false_ne_true)];rfl
theorem zM8{f:Fw}(h:f.moving=true):csF f=f.mo.1.1::f.queue.map (·.1):=by unfold csF;rw[if_pos h];rfl
theorem q08{f:Fw}(h:f.moving=false):lsF f=f.lines:=by unfold lsF;rw[if_neg (by rw[h];exact Bool.false_ne_true)];rfl
theorem q09{f:Fw}(h:f.moving=true):lsF f=f.active::f.lines:=by unfold lsF;rw[if_pos h];rfl
structure Way (f:Fw) (B:Int):Prop where
 bk:Zs (begin4 f) f.ret (csF f) (lsF f)
 ln:∀n∈lsF f,n<=B
theorem Way.mono{f:Fw}{B C:Int}(h:Way f B)(k:B<=C):Way f C:=⟨h.bk,λn hn=>Int.le_trans (h.ln n hn) k⟩
theorem Way.same{f g:Fw}{B:Int}(h:Way f B)(e1:g.moving=f.moving)(e2:g.mo=f.mo)(e3:g.queue=f.queue)(e4:g.lines=f.lines)(e5:g.pos=f.pos)(e6:g.ret=f.ret)(e7:g.active=f.active):Way g B:=by
 have b:begin4 g=begin4 f:=by
  cases m:f.moving with
  |false=>rw[zy9 (e1.trans m),zy9 m,e5]
  |true=>rw[zz0 (e1.trans m),zz0 m,e5,e2]
 have c:csF g=csF f:=by unfold csF;rw[e1,e2,e3]
 have l:lsF g=lsF f:=by unfold lsF;rw[e1,e4,e7]
 exact⟨by rw[b,e6,c,l];exact h.bk,by rw[l];exact h.ln⟩
theorem Way.empty{f:Fw}{B:Int}(h:f.moving=false)(l:f.lines=[]):Way f B:=by
 have e:lsF f=[] :=by rw[q08 h,l]
 exact⟨.inl (by rw[e];exact yd1),by rw[e];intro n hn;cases hn⟩
theorem yP1(l:List Bk)(g:Nat->Int):(plB l g).map (·.1)=l.map (·.1):=by
 refine List.ext_getElem (by simp[plB]) λi h1 h2=>?_
 have hi:i<l.length:=by simpa using h2
 simp[plB,xx5,List.getD_eq_getElem?_getD,List.getElem?_eq_getElem hi]
theorem zj4(g:Fw)(c:V4)(len n:Int):(m8 g c len n).queue.map (·.1)=g.queue.map (·.1)++[c] :=by
 show(plB (s9 g c len) _).map (·.1)=_;rw[yP1];unfold s9;rw[List.map_append];rfl
theorem zj9{g:Fw}{c:V4}{len n B:Int}(h:Way g B)(hn:¬n=0)(hB:n<=B):Way (m8 g c len n) B:=by
 have b:begin4 (m8 g c len n)=begin4 g:=by
  cases m:g.moving with
  |false=>rw[zy9 (f:=m8 g c len n) m,zy9 m];rfl
  |true=>rw[zz0 (f:=m8 g c len n) m,zz0 m];rfl
 have cs:csF (m8 g c len n)=csF g++[c] :=by
  unfold csF;rw[zj4,<-List.append_assoc];rfl
 have ls:lsF (m8 g c len n)=lsF g++[n] :=by
  unfold lsF;rw[List.append_assoc];rfl
 refine⟨by rw[b,cs,ls];exact h.bk.add hn,λm hm=>?_⟩;rw[ls]at hm;rcases List.mem_append.1 hm with k|k
 .exact h.ln m k
 .rw[List.mem_singleton.1 k];exact hB
theorem xE6{f:Fw}{B:Int}(v:v6 f=true)(hc:zE6 f=true)(h:Way f B):Way (xD4 f) B:=by
 obtain⟨c1,c2,c3,c4⟩:=zE7.1 hc;have hv:=t9 v;obtain⟨_,m⟩:=xE3 v hc;have b:=(xE2 v hc).1
 have hq:f.queue=f.queue.getD 0 dBk::f.queue.drop 1:=by
  cases q:f.queue with
  |nil=>rw[q]at c2;exact absurd rfl c2
  |cons x l=>rfl
 have hl:f.lines=f.lines.getD 0 0::f.lines.drop 1:=by
  have:=hv.lens
  cases q:f.lines with
  |nil=>rw[q]at this;exact absurd this.symm c2
  |cons x l=>rfl
 have cs:csF (xD4 f)=csF f:=by
  rw[zM8 (f:=xD4 f) rfl,zM7 c1,m];show(f.queue.getD 0 dBk).1::(f.queue.drop 1).map (·.1)=_
  conv=>rhs;rw[hq]
  rfl
 have ls:lsF (xD4 f)=lsF f:=by
  rw[q09 (f:=xD4 f) rfl,q08 c1];exact hl.symm
 have k:=h.bk;rw[zy9 c1]at k;exact⟨by rw[b,cs,ls];exact k,by rw[ls];exact h.ln⟩
theorem zy8{f:Fw}{B:Int}(v:v6 f=true)(h:Way f B):Way (t7 f) B:=by
 cases c:zE6 f with
 |true=>rw[zx3 c];exact xE6 v c h
 |false=>rw[zx1 c];exact h
theorem xF8{f:Fw}{B:Int}(v:v6 f=true)(hm:f.moving=true)(h:Way f B):Way (xE7 f) B:=by
 obtain⟨q,b⟩:=xF1 v hm
 cases e:z00 (xL8 f.mo f.ma.ticks)with
 |true=>
  rw[e,if_pos rfl]at b;have k:=h.bk;have l:=h.ln;rw[zM8 hm,q09 hm]at k;rw[q09 hm]at l;have kt:=k.tail
  have o:(xE7 f).moving=false:=by rw[xF9 e]
  refine⟨?_,?_⟩;.rw[b,zM7 o,q08 o,xF9 e];exact kt
  .rw[q08 o,xF9 e];exact λn hn=>l n (List.mem_cons_of_mem _ hn)
 |false=>
  rw[e,if_neg Bool.false_ne_true]at b
  have o:(xE7 f).moving=true:=by rw[xF3 e];exact hm
  have k:=h.bk;have l:=h.ln;rw[zM8 hm,q09 hm]at k;rw[q09 hm]at l
  have tb:(xE7 f).mo.1=f.mo.1:=by rw[xF3 e];exact xN2 _ _
  have s:(xE7 f).queue=f.queue/\(xE7 f).lines=f.lines/\(xE7 f).active=f.active/\(xE7 f).ret=f.ret:=by rw[xF3 e];exact⟨rfl,rfl,rfl,rfl⟩
  refine⟨?_,?_⟩;.rw[b,zM8 o,q09 o,tb,s.1,s.2.1,s.2.2.1,s.2.2.2];exact k
  .rw[q09 o,s.2.1,s.2.2.1];exact l
theorem y84{f:Fw}{B:Int}(v:v6 f=true)(h:Way f B):Way (y65 f) B:=by
 unfold y65
 split;.exact h.same rfl rfl rfl rfl rfl rfl rfl
 .split
  .rename_i k;exact xF8 (zy7 v) k (zy8 v h)
  .exact zy8 v h
theorem hot_cases(f:Fw)(r s:Int):((qJ6 f r s).moving=false/\(qJ6 f r s).lines=[] /\(qJ6 f r s).queue=[] /\(qJ6 f r s).mode=3/\(qJ6 f r s).homed=false)\/((qJ6 f r s).moving=f.moving/\(qJ6 f r s).mo=f.mo/\(qJ6 f r s).queue=f.queue/\(qJ6 f r s).lines=f.lines/\(qJ6 f r s).ret=f.ret/\(qJ6 f r s).active=f.active/\(qJ6 f r s).mode=f.mode/\(qJ6 f r s).dwell=f.dwell/\(qJ6 f r s).homed=f.homed/\(qJ6 f r s).line=f.line):=by
 by_cases q:q02 (yX8 f r s)=true
 .left
  have l:q04 (yX8 f r s)={qZ4 (qE6 (yX8 f r s))with mode:=3}:=if_pos q;show(q04 (yX8 f r s)).moving=false/\(q04 (yX8 f r s)).lines=[] /\(q04 (yX8 f r s)).queue=[] /\(q04 (yX8 f r s)).mode=3/\(q04 (yX8 f r s)).homed=false;rw[l];exact⟨rfl,rfl,rfl,rfl,rfl⟩
 .right
  have l:q04 (yX8 f r s)=qE6 (yX8 f r s):=if_neg q;show(q04 (yX8 f r s)).moving=f.moving/\(q04 (yX8 f r s)).mo=f.mo/\(q04 (yX8 f r s)).queue=f.queue/\(q04 (yX8 f r s)).lines=f.lines/\(q04 (yX8 f r s)).ret=f.ret/\(q04 (yX8 f r s)).active=f.active/\(q04 (yX8 f r s)).mode=f.mode/\(q04 (yX8 f r s)).dwell=f.dwell/\(q04 (yX8 f r s)).homed=f.homed/\(q04 (yX8 f r s)).line=f.line;rw[l];exact⟨rfl,rfl,rfl,rfl,rfl,rfl,rfl,rfl,rfl,rfl⟩
theorem qK0{f:Fw}{r s B:Int}(h:Way f B):Way (qJ6 f r s) B:=by
 rcases hot_cases f r s with k|k
 .exact .empty k.1 k.2.1
 .exact h.same k.1 k.2.1 k.2.2.1 k.2.2.2.1 qJ8 k.2.2.2.2.1 k.2.2.2.2.2.1
theorem y72(f:Fw):(y65 f).line=f.line:=by
 have b:(t7 f).line=f.line:=by unfold t7;split<;>rfl
 unfold y65
 split;.rfl
 .split
  .rw[show(xE7 (t7 f)).line=(t7 f).line by unfold xE7;split<;>rfl,b]
  .exact b
theorem xN9{f:Fw}{r s:Int}(v:v6 f=true)(h:Way f f.line):Way (xL6 f r s) (xL6 f r s).line:=by
 rw[xL7 v]
 split
 .rcases hot_cases f r s with k|k
  .exact .empty k.1 k.2.1
  .rw[k.2.2.2.2.2.2.2.2.2];exact qK0 h
 .rename_i m
  rcases hot_cases f r s with k|k
  .exact absurd k.2.2.2.1 m
  .rw[y72,k.2.2.2.2.2.2.2.2.2];exact y84 (qJ9 v) (qK0 h)
def y90(f:Fw):Bool:=f.moving||zE6 f
theorem xM6{f:Fw}{r s:Int}(v:v6 f=true)(h:y90 f=false):xM3 f r s=z4/\(xL6 f r s).moving=false:=by
 obtain⟨h1,h2⟩:=(Bool.or_eq_false_iff).1 h;rw[xM5 v,xL7 v];rcases hot_cases f r s with k|k
 .rw[if_pos k.2.2.2.1,if_pos k.2.2.2.1];exact⟨rfl,k.1⟩
 .have m:(qJ6 f r s).moving=false:=k.1.trans h1
  have c:zE6 (qJ6 f r s)=false:=by
   rw[<-h2];unfold zE6;rw[k.1,k.2.2.1,k.2.2.2.2.2.2.1,k.2.2.2.2.2.2.2.1]
  have b:(t7 (qJ6 f r s)).moving=false:=by rw[zx1 c];exact m
  split;.exact⟨rfl,m⟩
  .unfold y66 y65
   split;.exact⟨rfl,m⟩
   .rw[if_neg (by rw[b];exact Bool.false_ne_true),if_neg (by rw[b];exact Bool.false_ne_true)]
    exact⟨rfl,b⟩
theorem xG5{f:Fw}(v:v6 f=true)(h:f.homed=false):y90 f=false:=by
 rcases(t9 v).ends with k|k
 .rw[h]at k;cases k.2
 .unfold y90
  rw[k.1,Bool.false_or,Bool.eq_false_iff,ne_eq,zE7]
  exact λq=>q.2.1 k.2
theorem xN3{f:Fw}{r s:Int}(v:v6 f=true)(h:(xL6 f r s).homed=true):f.homed=true:=by
 rw[xL7 v]at h;rcases hot_cases f r s with k|k
 .rw[if_pos k.2.2.2.1,k.2.2.2.2]at h;cases h
 .split at h
  .rw[k.2.2.2.2.2.2.2.2.1]at h;exact h
  .rw[y70,k.2.2.2.2.2.2.2.2.1]at h;exact h
theorem xN4{f:Fw}{r s:Int}(v:v6 f=true)(h:¬(xL6 f r s).homed=true):xM3 f r s=z4:=by
 rw[xL7 v]at h;rw[xM5 v];rcases hot_cases f r s with k|k
 .rw[if_pos k.2.2.2.1]
 .split
  .rfl
  .rename_i m
   rw[if_neg m,y70,k.2.2.2.2.2.2.2.2.1]at h;have n:=xM6 (r:=r) (s:=s) v (xG5 v (by simpa using h));rw[xM5 v,if_neg m]at n;exact n.1
theorem zv3{g:Fw}{c:V4}(hm:g.moving=false):csF (f8 g c)=csF g++(if nz4 c=true then [c]else [])/\lsF (f8 g c)=lsF g++(if nz4 c=true then [0]else [])/\(f8 g c).moving=false/\(f8 g c).ret=g.ret/\(f8 g c).pos=g.pos/\(f8 g c).line=g.line:=by
 cases z:nz4 c with
 |false=>
  rw[zu7 z,if_neg Bool.false_ne_true,if_neg Bool.false_ne_true,List.append_nil,List.append_nil];exact⟨rfl,rfl,hm,rfl,rfl,rfl⟩
 |true=>
  rw[zu9 z,if_pos rfl,if_pos rfl];refine⟨?_,?_,hm,rfl,rfl,rfl⟩;.rw[zM7 (f:=m8 g c 0 0) hm,zM7 hm,zj4]
  .rw[q08 (f:=m8 g c 0 0) hm,q08 hm];rfl
theorem zv8{g:Fw}{d:V4}{B:Int}(hm:g.moving=false)(hq:g.queue=[])(hl:g.lines=[])(hr:qV9 g.pos d g.ret)(hB:0<=B):Way (f8 (f8 g (y40 d)) (y42 d)) B:=by
 obtain⟨a1,a2,a3,a4,a5,a6⟩:=zv3 (g:=g) (c:=y40 d) hm;obtain⟨b1,b2,b3,b4,b5,b6⟩:=zv3 (g:=f8 g (y40 d)) (c:=y42 d) a3
 have c0:csF g=[] :=by rw[zM7 hm,hq];rfl
 have l0:lsF g=[] :=by rw[q08 hm,hl]
 rw[a1,c0]at b1;rw[a2,l0]at b2;obtain⟨r1,r2,r3⟩:=hr;refine⟨?_,λn hn=>?_⟩
 .rw[zy9 b3,b5,a5,b4,a4,b1,b2]
  cases z:nz4 (y40 d)with
  |false=>
   have z3:d.2.2.1=0:=by have:=yg7 z;unfold y40 z4 at this;simpa using this
   cases y:nz4 (y42 d)with
   |false=>exact .inl (by rw[if_neg Bool.false_ne_true];exact yd1)
   |true=>
    refine .inr (.inl ⟨y42 d,[],[],?_,?_,yd1,?_⟩);.rw[if_neg Bool.false_ne_true,if_pos rfl];rfl
    .rw[if_neg Bool.false_ne_true,if_pos rfl];rfl
    .unfold qV9 y42;dsimp only;omega
  |true=>
   cases y:nz4 (y42 d)with
   |false=>
    have y3:d.1=0/\d.2.1=0:=by have:=yg7 y;unfold y42 z4 at this;simpa using this
    refine .inr (.inl ⟨y40 d,[],[],?_,?_,yd1,?_⟩);.rw[if_neg Bool.false_ne_true,if_pos rfl];rfl
    .rw[if_neg Bool.false_ne_true,if_pos rfl];rfl
    .unfold qV9 y40;dsimp only;omega
   |true=>
    refine .inr (.inr ⟨d.2.2.1,d.1,d.2.1,[],[],?_,?_,yd1,r1,r2,r3⟩);.rfl
    .rfl
 .rw[b2]at hn
  have:n=0:=by
   rcases List.mem_append.1 hn with k|k
   .rcases List.mem_append.1 k with k|k
    .cases k
    .split at k
     .exact List.mem_singleton.1 k
     .cases k
   .split at k
    .exact List.mem_singleton.1 k
    .cases k
  omega
section
variable {f:Fw} {line:Int} {c:Gc.C}
theorem qI5(h:qH2 f line=0)(v:v6 f=true){B:Int}(hB:0<=B):Way (qI4 f line) B/\(qI4 f line).line=f.line/\(qI4 f line).homed=true/\(qI4 f line).moving=false:=by
 obtain⟨hi,_,_⟩:=qH3 h;obtain⟨i1,i2,i3⟩:=qK7.1 hi;have q0:f.queue=[] :=List.length_eq_zero_iff.1 i2;have l0:f.lines=[] :=List.length_eq_zero_iff.1 (by rw[(t9 v).lens,i2]);unfold qI4
 split;.exact⟨.empty (f:=qG9 f line) i1 l0,rfl,rfl,i1⟩
 .have w:=zv8 (g:=qG9 f line) (d:=qI7 f line) (B:=B) i1 q0 l0 (by unfold qV9 qG9;dsimp only;omega) hB
  have e1:=zv3 (g:=qG9 f line) (c:=qH6 f line) i1;have e2:=zv3 (g:=f8 (qG9 f line) (qH6 f line)) (c:=qH9 f line) e1.2.2.1;refine⟨w.same rfl rfl rfl rfl rfl rfl rfl,?_,?_,e2.2.2.1⟩;.exact e2.2.2.2.2.2.trans e1.2.2.2.2.2
  .exact(zu6.2.1).trans (zu6.2.1)
theorem zT5(v:v6 f=true)(hl:line=0\/line=f.line+1)(e:doE f line c=0)(w:Way f f.line):
  Way (doF f line c) (if line=0 then f.line else line)/\(¬c.code=1112->(doF f line c).line=f.line)/\(¬c.code=28->(doF f line c).homed=true->f.homed=true)/\((doF f line c).moving=true->f.moving=true)/\(c.code=28->(doF f line c).homed=true/\(doF f line c).moving=false):=by
 have hv:=t9 v;have ln:=hv.nums.2.2.2.2.2.2.2.2.1
 have hB:f.line<=(if line=0 then f.line else line):=by split<;>omega
 have w':=w.mono hB
 have same:∀g:Fw,g.moving=f.moving->g.mo=f.mo->g.queue=f.queue->g.lines=f.lines->g.pos=f.pos->g.ret=f.ret->g.active=f.active->Way g (if line=0 then f.line else line):=λg a b c d e h i=>w'.same a b c d e h i
 by_cases k1:c.code=1112
 .rw[zS9 k1]
  exact⟨.empty rfl rfl,λk=>absurd k1 k,λ_ k=>(Bool.false_ne_true k).elim,λk=>(Bool.false_ne_true k).elim,λk=>by omega⟩
 by_cases k2:c.code=1999
 .have:doF f line c=y06 f:=by unfold doF;rw[if_neg k1,if_pos k2]
  rw[this];exact⟨same _ rfl rfl rfl rfl rfl rfl rfl,λ_=>rfl,λ_ k=>k,λk=>k,λk=>by omega⟩
 by_cases m:f.mode=3
 .rw[zX0 k1 k2 m]at e;omega
 by_cases k3:c.code=1025
 .have:doF f line c={f with mode:=2}:=by unfold doF;rw[if_neg k1,if_neg k2,if_pos k3]
  rw[this];exact⟨same _ rfl rfl rfl rfl rfl rfl rfl,λ_=>rfl,λ_ k=>k,λk=>k,λk=>by omega⟩
 by_cases k4:c.code=1024
 .have:doF f line c={f with mode:=1}:=by unfold doF;rw[if_neg k1,if_neg k2,if_neg k3,if_pos k4]
  rw[this];exact⟨same _ rfl rfl rfl rfl rfl rfl rfl,λ_=>rfl,λ_ k=>k,λk=>k,λk=>by omega⟩
 have kk:¬c.code=1112/\¬c.code=1999/\¬c.code=1024/\¬c.code=1025:=⟨k1,k2,k4,k3⟩
 by_cases wt:¬f.waits=0\/¬f.dwell=0
 .rw[zX7 kk m wt]at e;omega
 rw[zX2 kk m (by omega)]at e;rw[zO8 kk]
 by_cases a:c.code=0\/c.code=1
 .rw[if_pos a]at e ⊢
  obtain⟨s,_,_,_⟩:=q72 e
  have fs:(f0 f c).moving=f.moving/\(f0 f c).mo=f.mo/\(f0 f c).queue=f.queue/\(f0 f c).lines=f.lines/\(f0 f c).pos=f.pos/\(f0 f c).ret=f.ret/\(f0 f c).active=f.active/\(f0 f c).line=f.line/\(f0 f c).homed=f.homed:=by unfold f0;split<;>exact⟨rfl,rfl,rfl,rfl,rfl,rfl,rfl,rfl,rfl⟩
  have wf:=same (f0 f c) fs.1 fs.2.1 fs.2.2.1 fs.2.2.2.1 fs.2.2.2.2.1 fs.2.2.2.2.2.1 fs.2.2.2.2.2.2.1;unfold q75
  cases z:nz4 (q73 f c)with
  |false=>
   rw[xS7 z];exact⟨wf.same rfl rfl rfl rfl rfl rfl rfl,λ_=>fs.2.2.2.2.2.2.2.1,λ_ k=>fs.2.2.2.2.2.2.2.2▸k,λk=>fs.1▸k,λk=>by omega⟩
  |true=>
   rw[xS8 z];have wa:=zj9 (c:=q73 f c) (len:=qW7 (f0 f c) (m7 f c) (xK8 f c)) (n:=line) wf (by omega) (by rw[if_neg (show ¬line=0 by omega)];exact Int.le_refl _);exact⟨wa.same rfl rfl rfl rfl rfl rfl rfl,λ_=>fs.2.2.2.2.2.2.2.1,λ_ k=>fs.2.2.2.2.2.2.2.2▸k,λk=>fs.1▸k,λk=>by omega⟩
 rw[if_neg a]at e ⊢
 by_cases b:c.code=4
 .rw[if_pos b];exact⟨same _ rfl rfl rfl rfl rfl rfl rfl,λ_=>rfl,λ_ k=>k,λk=>k,λk=>by omega⟩
 rw[if_neg b]at e ⊢
 by_cases d:c.code=28
 .rw[if_pos d]at e ⊢
  obtain⟨h1,h2,h3,h4⟩:=qI5 (B:=if line=0 then f.line else line) e v (by split<;>omega)
  exact⟨h1,λ_=>h2,λk=>absurd d k,λk=>(by rw[h4]at k;cases k),λ_=>⟨h3,h4⟩⟩
 rw[if_neg d];generalize (if line=0 then f.line else line)=B at same ⊢
 repeat' split
 all_goals exact⟨same _ rfl rfl rfl rfl rfl rfl rfl,λ_=>rfl,λ_ k=>k,λk=>k,λk=>absurd k d⟩
theorem zh8(h:zg2 f line c=0)(w:Way f f.line):Way (zg4 f line c) (zg4 f line c).line/\(¬c.code=28->(zg4 f line c).homed=true->f.homed=true)/\((zg4 f line c).moving=true->f.moving=true)/\(c.code=28->(zg4 f line c).homed=true/\(zg4 f line c).moving=false):=by
 obtain⟨v,_,hl,_,e⟩:=zg3 h;obtain⟨r1,r2,r3,r4,r5⟩:=zT5 v hl e w
 by_cases k:c.code=1112
 .have a:zg4 f line c=xT9 (doF f line c):=by unfold zg4;rw[if_pos k]
  rw[a,zS9 k];exact⟨.empty rfl rfl,λ_ q=>(Bool.false_ne_true q).elim,λq=>(Bool.false_ne_true q).elim,λq=>by omega⟩
 .have a:zg4 f line c=xT9 (qX7 (doF f line c) line):=by unfold zg4;rw[if_neg k]
  have s:∀x:Fw,(xT9 (qX7 x line)).moving=x.moving/\(xT9 (qX7 x line)).mo=x.mo/\(xT9 (qX7 x line)).queue=x.queue/\(xT9 (qX7 x line)).lines=x.lines/\(xT9 (qX7 x line)).pos=x.pos/\(xT9 (qX7 x line)).ret=x.ret/\(xT9 (qX7 x line)).active=x.active/\(xT9 (qX7 x line)).homed=x.homed:=λx=>by unfold qX7;split<;>exact⟨rfl,rfl,rfl,rfl,rfl,rfl,rfl,rfl⟩
  obtain⟨s1,s2,s3,s4,s5,s6,s7,s8⟩:=s (doF f line c)
  have l:(zg4 f line c).line=if line=0 then f.line else line:=by
   rw[a];show(qX7 (doF f line c) line).line=_;unfold qX7
   split;.exact r2 k
   .rfl
  rw[l,a];exact⟨r1.same s1 s2 s3 s4 s5 s6 s7,λk=>by rw[s8];exact r3 k,by rw[s1];exact r4,λk=>by rw[s8,s1];exact r5 k⟩
end
theorem q20{m:Mo}(h:v9 m.1.1=true):v9 (xI5 m.1.1 (q15 m))=true:=by
 have c:=r8.1 h;have k:=r8.1 (q21 (m:=m) (p:=(-m.1.1.1,-m.1.1.2.1,-m.1.1.2.2.1,-m.1.1.2.2.2)) (r8.2 (by dsimp only;omega)) (r8.2 (by unfold r9;dsimp only;omega)));unfold r9 at k;dsimp only at k;exact r8.2 (by unfold xI5;dsimp only;omega)
theorem q24{m:Mo}{z:Int}(h:v9 m.1.1=true)(e:m.1.1=(0,0,z,0)):(q15 m).1=0/\(q15 m).2.1=0:=by
 have c:=r8.1 h;rw[e]at c;dsimp only at c;have k1:=r8.1 (q21 (m:=m) (p:=(16777216,16777216,-z,0)) (r8.2 (by dsimp only;omega)) (r8.2 (by rw[e];unfold r9;dsimp only;omega)));have k2:=r8.1 (q21 (m:=m) (p:=(-16777216,-16777216,-z,0)) (r8.2 (by dsimp only;omega)) (r8.2 (by rw[e];unfold r9;dsimp only;omega)));unfold r9 at k1 k2;dsimp only at k1 k2;omega
section
variable {f:Fw}
theorem zK8(v:VF f){c:V4}(h:c∈f.queue.map (·.1)):v9 c=true:=by
 obtain⟨b,hb,rfl⟩:=List.mem_map.1 h;exact r8.2 (yy4.1 (x05.1 (v.blocks b hb)).1.1).1
theorem y48(v:v6 f=true){B:Int}(w:Way f B)(hr:y50 f=true):(-16777216<=f.ret.1-f.pos.1/\f.ret.1-f.pos.1<=16777216)/\(-16777216<=f.ret.2.1-f.pos.2.1/\f.ret.2.1-f.pos.2.1<=16777216)/\-16777216<=f.ret.2.2.1-f.pos.2.2.1/\f.ret.2.2.1-f.pos.2.2.1<=16777216:=by
 have hv:=t9 v;have bk:=w.bk
 cases hm:f.moving with
 |false=>
  rw[y52 hm]at hr;rw[zy9 hm,zM7 hm,q08 hm]at bk;rcases bk with k|⟨c,cs',ls',e1,e2,k,l⟩|⟨z,x,y,cs',ls',e1,e2,k,h1,h2,h3⟩
  .cases q:f.lines with
   |nil=>rw[q]at hr;cases hr
   |cons n l=>rw[q]at hr k;exact absurd (beq_iff_eq.1 hr) (k n List.mem_cons_self)
  .have nc:=r8.1 (zK8 hv (c:=c) (by rw[e1];exact List.mem_cons_self))
   obtain⟨l1,l2,l3⟩:=l;omega
  .have n1:=r8.1 (zK8 hv (c:=(0,0,z,0)) (by rw[e1];exact List.mem_cons_self))
   have n2:=r8.1 (zK8 hv (c:=(x,y,0,0)) (by rw[e1];exact List.mem_cons_of_mem _ List.mem_cons_self));dsimp only at n1 n2;omega
 |true=>
  rw[y53 hm]at hr;have ha:=beq_iff_eq.1 hr;have mc:=q82 hv.moves;have ml:=r8.1 (q20 mc);rw[zz0 hm,zM8 hm,q09 hm]at bk;unfold xI5 at ml;dsimp only at ml;rcases bk with k|⟨c,cs',ls',e1,e2,k,l⟩|⟨z,x,y,cs',ls',e1,e2,k,h1,h2,h3⟩
  .exact absurd ha (k f.active List.mem_cons_self)
  .injection e1 with e1 _
   subst e1;unfold qV9 xI5 at l;dsimp only at l;omega
  .injection e1 with e1 e3
   have n2:=r8.1 (zK8 hv (c:=(x,y,0,0)) (by rw[e3];exact List.mem_cons_self));have mz:=q24 mc e1;rw[e1]at ml;unfold xI5 at h1 h2 h3;dsimp only at n2 ml h1 h2 h3;omega
theorem yF9(v:v6 f=true)(w:Way f f.line):e9 f<=f.line+1:=by
 have l:=w.ln;unfold e9
 split
 .rename_i h
  rw[q09 h.1]at l;have:=l f.active List.mem_cons_self;omega
 .have k:∀n∈f.lines,n<=f.line:=λn hn=>l n (by unfold lsF;exact List.mem_append_right _ hn)
  have:∀ (ls:List Int) (d:Int),(∀n∈ls,n<=d)->qs9 ls (d+1)<=d+1:=λls d=>by
   induction ls with
   |nil=>intro _;exact Int.le_refl _
   |cons n ls ih=>
    intro h;unfold qs9
    split;.have:=h n List.mem_cons_self;omega
    .exact ih λm hm=>h m (List.mem_cons_of_mem _ hm)
  exact this _ _ k
theorem qL8{c:V4}(h:v9 c=true):qL7 c=true:=by
 have:=r8.1 h;simp only[qL7,Bool.and_eq_true,v8];omega
theorem yW6{k l d:Int}{s t:V4}(hk:1<=k/\k<=3)(hl:0<=l/\l<=1099511627776)(hd:0<=d/\d<=16777216)(hs:v9 s=true)(ht:v9 t=true):rcB ⟨k,1,l,d,s,t⟩=true:=by
 simp only[rcB,Bool.and_eq_true,v8,qL8 hs,qL8 ht,and_true];omega
theorem x88{a b:V4}(ha:v9 a=true)(hb:v9 b=true):wsub4 a b=xI5 a b:=x87 (ya1 ha) (ya1 hb)
theorem x43{a b:V4}(ha:v9 a=true)(hb:v9 b=true):x41 a b=r9 a b:=x42 (ya1 ha) (ya1 hb)
structure Rec (r:Rc) (real:V4):Prop where
 near:q99 r=true
 kd:1<=r.kind/\r.kind<=3
 ln:0<=r.line/\r.line<=1099511627776
 real:¬r.kind=1->r.src=real
 blk:r.kind=2->¬r.src=r.dst->1<=r.line
theorem ya0{r:Rc}:q99 r=true↔v9 r.src=true/\v9 r.dst=true/\v9 (wsub4 r.dst r.src)=true:=by simp only[q99,Bool.and_eq_true]
theorem xI6(a:V4):xI5 a a=z4:=by
 unfold xI5 z4;simp only[Int.sub_self]
theorem ya3:v9 z4=true:=by decide
theorem qp3(v:v6 f=true)(w:Way f f.line):Rec (qo4 f) f.pos/\rcB {qo4 f with seq:=1}=true/\¬(qo4 f).kind=1/\(qo4 f).line<=f.line/\((qo4 f).kind=3->(qo4 f).dst.2.2.2=(qo4 f).src.2.2.2)/\(qo4 f).dst=(if y50 f=true then(f.ret.1,f.ret.2.1,f.ret.2.2.1,f.pos.2.2.2)else if f.moving=true then x41 (wsub4 f.pos (q15 f.mo)) f.mo.1.1 else f.pos):=by
 have hv:=t9 v;have np:=r8.1 hv.pos;have nr:=r8.1 hv.ret;have op:=yF7 hv.shape;have ol:=yF9 v w;have fl:=hv.nums.2.2.2.2.2.2.2.2.1;have fa:=hv.nums.2.2.2.2.2.2.2.2.2.1
 cases a:y50 f with
 |true=>
  rw[qp4 a,if_pos rfl];have dn:v9 (f.ret.1,f.ret.2.1,f.ret.2.2.1,f.pos.2.2.2)=true:=r8.2 ⟨nr.1,nr.2.1,nr.2.2.1,np.2.2.2⟩;have rn:=y48 v w a;refine⟨⟨ya0.2 ⟨hv.pos,dn,?_⟩,⟨show(1:Int)<=3 by decide,show(3:Int)<=3 by decide⟩,⟨show 0<=e9 f-1 by omega,show e9 f-1<=1099511627776 by omega⟩,λ_=>rfl,λk=>absurd (show(3:Int)=2 from k) (by decide)⟩,yW6 (k:=3) (l:=e9 f-1) (d:=0) (by omega) (by omega) (by omega) hv.pos dn,show ¬(3:Int)=1 by decide,show e9 f-1<=f.line by omega,λ_=>rfl,rfl⟩;dsimp only;rw[x88 dn hv.pos];exact r8.2 (by unfold xI5;dsimp only;omega)
 |false=>
  rw[if_neg Bool.false_ne_true]
  cases m:f.moving with
  |true=>
   rw[qo8 a m,if_pos rfl];have mc:=q82 hv.moves
   have mn:v9 (q15 f.mo)=true:=by
    have k:=q21 (m:=f.mo) (p:=z4) ya3 (by unfold r9 z4;exact r8.2 (by have:=r8.1 mc;dsimp only;omega))
    have e:r9 z4 (q15 f.mo)=q15 f.mo:=by unfold r9 z4;simp
    rw[e]at k;exact k
   have bg:wsub4 f.pos (q15 f.mo)=begin4 f:=by rw[x88 hv.pos mn,zz0 m]
   have q:x41 (wsub4 f.pos (q15 f.mo)) f.mo.1.1=yU5 f:=by rw[bg,x43 hv.beg mc];rfl
   have mv:=hv.moves;rw[q81 m]at mv;have r:=y87.1 mv;have dr:=zU1 f.mo.1.1
   have act:1<=f.active:=by
    rw[y53 m]at a;have:=beq_eq_false_iff_ne.1 a;omega
   have al:f.active<=f.line:=w.ln f.active (by rw[q09 m];exact List.mem_cons_self);rw[q];refine⟨⟨ya0.2 ⟨hv.pos,hv.q0,?_⟩,⟨show(1:Int)<=2 by decide,show(2:Int)<=3 by decide⟩,⟨show 0<=f.active by omega,show f.active<=1099511627776 by omega⟩,λ_=>rfl,λ_ _=>act⟩,yW6 (k:=2) (l:=f.active) (d:=f.mo.2.1) (by omega) (by omega) (by omega) hv.pos hv.q0,show ¬(2:Int)=1 by decide,al,λk=>absurd (show(2:Int)=3 from k) (by decide),rfl⟩;dsimp only;rw[x88 hv.q0 hv.pos];have ml:=r8.1 (q20 mc);unfold yU5;rw[zz0 m];unfold xI5 at ml;dsimp only at ml;exact r8.2 (by unfold xI5 r9;dsimp only;omega)
  |false=>
   rw[qp2 a m,if_neg Bool.false_ne_true];refine⟨⟨ya0.2 ⟨hv.pos,hv.pos,?_⟩,⟨show(1:Int)<=2 by decide,show(2:Int)<=3 by decide⟩,⟨show 0<=e9 f-1 by omega,show e9 f-1<=1099511627776 by omega⟩,λ_=>rfl,λ_ k=>absurd rfl k⟩,yW6 (k:=2) (l:=e9 f-1) (d:=0) (by omega) (by omega) (by omega) hv.pos hv.pos,show ¬(2:Int)=1 by decide,show e9 f-1<=f.line by omega,λ_=>rfl,rfl⟩;dsimp only;rw[x88 hv.pos hv.pos,xI6];exact ya3
theorem zy6(v:v6 f=true)(hc:zE6 f=true)(real:V4)(hl:0<=(zx6 f).line/\(zx6 f).line<=1099511627776):Rec (zx6 f) real/\(zx6 f).kind=1:=by
 have hv:=t9 v;obtain⟨c1,c2,c3,c4⟩:=zE7.1 hc
 have ln:0<f.lines.length:=by have:=hv.lens;omega
 by_cases k:f.lines.getD 0 0=0
 .rw[zx8 ln k]at hl ⊢
  refine⟨⟨ya0.2 ⟨hv.ret,hv.ret,?_⟩,⟨show(1:Int)<=1 by decide,show(1:Int)<=3 by decide⟩,hl,λq=>absurd rfl q,λq=>absurd (show(1:Int)=2 from q) (by decide)⟩,rfl⟩;dsimp only;rw[x88 hv.ret hv.ret,xI6];exact ya3
 .rw[zx7 k]at hl ⊢
  have b:=zB0 (hv.blk 0 (by omega));have bn:v9 (f.queue.getD 0 dBk).1=true:=r8.2 (yy4.1 (x05.1 b.1).1.1).1
  have e:yQ7 (yU5 f) f.queue 1=x41 f.pos (f.queue.getD 0 dBk).1:=by
   rw[x43 hv.pos bn,yU7 hv.moves c1,zy9 c1];rfl
  have dn:v9 (x41 f.pos (f.queue.getD 0 dBk).1)=true:=by rw[<-e];exact b.2.2
  refine⟨⟨ya0.2 ⟨hv.pos,dn,?_⟩,⟨show(1:Int)<=1 by decide,show(1:Int)<=3 by decide⟩,hl,λq=>absurd rfl q,λq=>absurd (show(1:Int)=2 from q) (by decide)⟩,rfl⟩;dsimp only;rw[x88 dn hv.pos,x43 hv.pos bn];have:=r8.1 bn;exact r8.2 (by unfold xI5 r9;dsimp only;omega)
theorem q05{r:Rc}(v:v6 f=true)(i:qK6 f=true)(h:f.homed=false)(n:q99 r=true)(hl:r.line<=1099511627776):v6 (yV2 f r)=true:=by
 have hv:=t9 v;obtain⟨i1,i2,i3⟩:=qK7.1 i;have q0:f.queue=[] :=List.length_eq_zero_iff.1 i2;have l0:f.lines=[] :=List.length_eq_zero_iff.1 (by rw[hv.lens,i2]);have k:=hv.nums;obtain⟨n1,_,_⟩:=ya0.1 n;have vp:=x12 v;have er: -16777216<=xY3 f.ma.e r.src.2.2.2/\xY3 f.ma.e r.src.2.2.2<=16777216:=xY4 ((Ma.ok_iff _).1 hv.ma).2.2.2.1 (by omega) (r8.1 n1).2.2.2;refine x27 vp hv.mode (yf2.2 ⟨k.1,k.2.1,k.2.2.1,er,k.2.2.2.2.1,k.2.2.2.2.2.1,k.2.2.2.2.2.2.1,k.2.2.2.2.2.2.2.1,?_,k.2.2.2.2.2.2.2.2.2⟩) hv.moves (yV0 i1 (show f.mo.1.1=z4 from xG6 v i1) q0 l0 n1 n1) (.inr ⟨i1,i2⟩);show 0<=(if r.line-1>0 then r.line-1 else 0)/\(if r.line-1>0 then r.line-1 else 0)<=1099511627776
 split<;>omega
theorem y36{r:Rc}{t:V4}(v:v6 f=true)(i:qK6 f=true)(m:¬f.mode=3)(n:q99 r=true)(hl:0<=r.line/\r.line<=1099511627776)(ht:v9 t=true):v6 {yV3 f r with ret:=t}=true/\qz2 {yV3 f r with ret:=t}=r.src:=by
 have hv:=t9 v;obtain⟨i1,i2,i3⟩:=qK7.1 i;have q0:f.queue=[] :=List.length_eq_zero_iff.1 i2;have l0:f.lines=[] :=List.length_eq_zero_iff.1 (by rw[hv.lens,i2]);have k:=hv.nums;obtain⟨n1,n2,_⟩:=ya0.1 n;have vp:=x12 v;have pr:=yR3 (m:=f.ma) hv.ma n2;refine⟨x27 vp hv.mode (yf2.2 ⟨pr.1,pr.2.1,pr.2.2.1,pr.2.2.2,k.2.2.2.2.1,k.2.2.2.2.2.1,k.2.2.2.2.2.2.1,k.2.2.2.2.2.2.2.1,hl,k.2.2.2.2.2.2.2.2.2⟩) hv.moves (yV0 i1 (show f.mo.1.1=z4 from xG6 v i1) q0 l0 n1 ht) (.inl ⟨m,rfl⟩),?_⟩;exact qz7 (f:={yV3 f r with ret:=t}) i1 (show f.mo.1.1=z4 from xG6 v i1) i2
theorem yZ1{r:Rc}{real:V4}(v:v6 f=true)(i:qK6 f=true)(h:f.homed=false)(m:¬f.mode=3)(k:Rec r real):
  rgE r=0/\v6 (rgF f r)=true/\Way (rgF f r) (rgF f r).line/\(rgF f r).moving=false/\(r.kind=1->(rgF f r).homed=false)/\(¬r.kind=1->(rgF f r).homed=true/\(rgF f r).pos=r.src/\(rgF f r).line=r.line/\qz2 (rgF f r)=(r.dst.1,r.dst.2.1,r.dst.2.2.1,if r.kind=3 then r.src.2.2.2 else r.dst.2.2.2)):=by
 have hv:=t9 v;obtain⟨i1,i2,i3⟩:=qK7.1 i;have q0:f.queue=[] :=List.length_eq_zero_iff.1 i2;have l0:f.lines=[] :=List.length_eq_zero_iff.1 (by rw[hv.lens,i2]);obtain⟨n1,n2,n3⟩:=ya0.1 k.near;have b1:=r8.1 n1;have b2:=r8.1 n2;have d0:=x88 n2 n1;unfold rgE rgF;rw[if_pos k.near]
 by_cases k1:r.kind=1
 .rw[if_pos k1]
  exact⟨rfl,q05 v i h k.near k.ln.2,.empty i1 l0,i1,λ_=>h,λq=>absurd k1 q⟩
 .rw[if_neg k1]
  unfold rsF
  by_cases k3:r.kind=3
  .rw[if_pos k3]
   obtain⟨p,e1,e2,o⟩:=y49 (g:=yV4 f r) hv i rfl rfl rfl rfl rfl n3;obtain⟨p1,p2⟩:=y47.1 p;obtain⟨rv,rg⟩:=y36 (t:=r.dst) v i m k.near k.ln n2;have md:¬(yV4 f r).mode=3/\(yV4 f r).homed=true:=⟨m,rfl⟩;unfold y45 at o;obtain⟨o1,o2⟩:=(Bool.and_eq_true _ _).mp o;have g1:qz2 (yV4 f r)=r.src:=rg
   have l1:(yV4 f r).queue.length<32:=by show f.queue.length<32;omega
   have v1:=zv7 (g:=yV4 f r) rv md p1 o1 l1 (by
    rw[g1,d0];refine r8.2 ?_;unfold y40 xI5 r9;dsimp only;omega)
   have v2:=zv7 v1 (by rw[zu6.1,zu6.2.1];exact md) (p2 o1) o2 (by have:=zu4 (g:=yV4 f r) (d:=y40 (wsub4 r.dst r.src));have e:(yV4 f r).queue.length=f.queue.length:=rfl;omega) (by
    rw[zu3,g1,d0];refine r8.2 ?_;unfold y40 y42 xI5 r9;dsimp only;omega)
   obtain⟨a1,a2,a3,a4,a5,a6⟩:=zv3 (g:=yV4 f r) (c:=y40 (wsub4 r.dst r.src)) i1;obtain⟨c1,c2,c3,c4,c5,c6⟩:=zv3 (g:=f8 (yV4 f r) (y40 (wsub4 r.dst r.src))) (c:=y42 (wsub4 r.dst r.src)) a3
   have wy:=zv8 (g:=yV4 f r) (d:=wsub4 r.dst r.src) (B:=(y44 (yV4 f r) (wsub4 r.dst r.src)).line) i1 q0 l0 (by rw[d0];unfold qV9 yV4 yV3 xI5;dsimp only;omega) (by
    show 0<=(f8 (f8 (yV4 f r) (y40 (wsub4 r.dst r.src))) (y42 (wsub4 r.dst r.src))).line
    rw[c6,a6];exact k.ln.1)
   refine⟨rfl,v2,wy,c3,λq=>absurd q k1,λ_=>⟨?_,c5.trans a5,c6.trans a6,?_⟩⟩;.exact(zu6.2.1).trans (zu6.2.1)
   .unfold y44
    rw[zu3,zu3,g1,d0,if_pos k3];unfold y40 y42 xI5 r9;exact v4x ⟨by dsimp only;omega,by dsimp only;omega,by dsimp only;omega,by dsimp only;omega⟩
  .rw[if_neg k3]
   obtain⟨rv,rg⟩:=y36 (t:=f.ret) v i m k.near k.ln hv.ret
   have k2:r.kind=2:=by have:=k.kd;omega
   by_cases s:r.src=r.dst
   .rw[if_pos s]
    refine⟨rfl,rv,.empty i1 l0,i1,λq=>absurd q k1,λ_=>⟨rfl,rfl,rfl,?_⟩⟩;rw[show qz2 (yV3 f r)=r.src from rg,s,if_neg k3]
   .rw[if_neg s]
    have z:nz4 (wsub4 r.dst r.src)=true:=by
     cases z:nz4 (wsub4 r.dst r.src)with
     |true=>rfl
     |false=>
      have e:=yg7 z;rw[d0]at e;unfold xI5 z4 at e;simp only[Prod.mk.injEq]at e;exact absurd (v4x (by omega)) s
    obtain⟨p,e1⟩:=y37 (g:=yV3 f r) hv i rfl rfl rfl rfl rfl n3 z;have o:=zl8 p e1;have g1:qz2 (yV3 f r)=r.src:=rg
    have e4:r9 r.src (wsub4 r.dst r.src)=r.dst:=by
     rw[d0];unfold xI5 r9;exact v4x ⟨by dsimp only;omega,by dsimp only;omega,by dsimp only;omega,by dsimp only;omega⟩
    have l:=k.blk k2 s;refine⟨rfl,zm2 rv ⟨m,rfl⟩ p o (by show f.queue.length<32;omega) (by rw[g1,e4];exact n2) k.ln,?_,i1,λq=>absurd q k1,λ_=>⟨rfl,rfl,rfl,?_⟩⟩;.exact zj9 (g:=yV3 f r) (B:=r.line) (.empty i1 l0) (by omega) (Int.le_refl _)
    .rw[zl7,g1,e4,if_neg k3]
end
noncomputable def zW8:Env:=Env.ofB pP (v7 [z43,z72]) (d7 []) (d9 [BFact.toP zt5]) (d8 [zt5]) (x8 []) (x8 []) (x8 []) (x8 [])
theorem qS9:Known pP zW8:=hB (l:=[z43,z72]) (k:=[]) (j:=[BFact.toP zt5]) (i:=[zt5]) [] [] [] [] ⟨yj3,ym5,trivial⟩ o4 (allQ.all (p:=PFact.ok pP) (l:=[BFact.toP zt5]) ⟨BFact.toP_ok ys9,trivial⟩) (allQ.all (p:=BFact.ok pP) (l:=[zt5]) ⟨ys9,trivial⟩)
noncomputable def yJ1:PFact:=goP zW8 1000 118
noncomputable def yJ0:PFact:=goP zW8 1000 123
noncomputable def yI9:PFact:=goP zW8 1000 127
noncomputable def zW5:Env:=Env.ofB pP (v7 []) (d7 []) (d9 []) (d8 []) (x8 []) (x8 []) (x8 []) (x8 [1])
noncomputable def zW6:Env:=Env.ofB pP (v7 []) (d7 []) (d9 [yJ1,yJ0,yI9]) (d8 []) (x8 []) (x8 []) (x8 []) (x8 [])
noncomputable def zW7:Env:=Env.ofB pP (v7 []) (d7 []) (d9 []) (d8 []) (x8 []) (x8 []) (x8 []) (x8 [0])
theorem qS6:Known pP zW5:=hB (l:=[]) (k:=[]) (j:=[]) (i:=[]) [] [] [] [1] trivial o4 o4 o4
theorem qS7:Known pP zW6:=hB (l:=[]) (k:=[]) (j:=[yJ1,yJ0,yI9]) (i:=[]) [] [] [] [] trivial o4 (allQ.all (p:=PFact.ok pP) (l:=[yJ1,yJ0,yI9]) ⟨qz1 qS9 1000 _,qz1 qS9 1000 _,qz1 qS9 1000 _,trivial⟩) o4
theorem qS8:Known pP zW7:=hB (l:=[]) (k:=[]) (j:=[]) (i:=[]) [] [] [] [0] trivial o4 o4 o4
noncomputable def x30:WFact:=zR1 zW5 zW6 zW7 1000 117
theorem yw3:x30.ok pP:=zR2 qS6 qS7 qS8 1000 _
section
variable {f g:Fw} {r s:Int}
end
def b8(f:Fw)(l:Fl):Fl:=match v6 f&&f.homed with
 |true=>t8 l (qo4 f)
 |false=>l
def goB(f:Fw)(l:Fl):Bool:=!zw8 f||yY5 l (zx6 f)==0
def pwL(f:Fw)(l:Fl):Fl:=match zw8 f with
 |true=>t8 l (zx6 f)
 |false=>l
def pwF(f:Fw)(l:Fl)(r s:Int):Fw:=match goB f l with
 |true=>xL6 f r s
 |false=>f
def pwQ(f:Fw)(l:Fl)(r s:Int):V4:=match goB f l with
 |true=>xM3 f r s
 |false=>z4
def pwD(f:Fw)(l:Fl)(r s:Int):Int×Int:=match goB f l with
 |true=>xL4 f r s
 |false=>(0,0)
def pwV(f:Fw)(l:Fl)(r s:Int):SV:=.tuple [(pwF f l r s).sv,(pwL f l).sv,V4.sv (pwQ f l r s),.agg [J (pwD f l r s).1,J (pwD f l r s).2]]
def qG1(f:Fw)(n:Int):Rc:=⟨1,0,f.line+1,0,zv2 f n,zv2 f n⟩
def qG2(f:Fw)(n:Int)(c:Gc.C):Rc:=⟨3,0,(zg4 f n c).line,0,(zg4 f n c).pos,zv2 f n⟩
def axE(f:Fw)(l:Fl)(n:Int)(c:Gc.C):Int:=if zg2 f n c=0 then(if c.code=28 then(if yY5 l (qG1 f n)=0/\yY5 (t8 l (qG1 f n)) (qG2 f n c)=0 then 0 else 17)else 0)else zg2 f n c
def axL(f:Fw)(l:Fl)(n:Int)(c:Gc.C):Fl:=if zg2 f n c=0/\c.code=28 then(if yY5 l (qG1 f n)=0 then t8 (t8 l (qG1 f n)) (qG2 f n c)else t8 l (qG1 f n))else l
def axF(f:Fw)(l:Fl)(n:Int)(c:Gc.C):Fw:=if axE f l n c=0 then zg4 f n c else f
def axH(f:Fw)(l:Fl)(n:Int)(c:Gc.C):Bool:=zg2 f n c=0&& (c.code=28&&yY5 l (qG1 f n)=0)
def axV(f:Fw)(l:Fl)(n:Int)(c:Gc.C):SV:=.tuple [(axF f l n c).sv,(axL f l n c).sv,.bool (axH f l n c),J (axE f l n c)]
theorem qs0{l:Fl}{r:Rc}(h:o6 l=true):o6 (t8 l r)=true:=by
 have h:=of_decide_eq_true h;refine decide_eq_true ?_;unfold t8 apF wrF
 repeat' split
 all_goals(first|exact h|(show(List.set _ _ _).length<=1000;rw[List.length_set];exact h))
theorem qp5{f:Fw}{l:Fl}(v:v6 f=true)(k:f.homed=true):b8 f l=t8 l (qo4 f):=by unfold b8;rw[v,k];rfl
theorem qo9{f:Fw}{l:Fl}(v:v6 f=false):b8 f l=l:=by unfold b8;rw[v];rfl
theorem qo7{f:Fw}{l:Fl}(k:f.homed=false):b8 f l=l:=by unfold b8;rw[k,Bool.and_false]
theorem zw9{f:Fw}:zw8 f=true↔v6 f=true/\zE6 f=true:=by unfold zw8;rw[Bool.and_eq_true]
theorem zx0{f:Fw}(b:zw8 f=true):zx4 f=true:=by
 obtain⟨v,c⟩:=zw9.1 b;obtain⟨c1,c2,_,_⟩:=zE7.1 c;exact zx5.2 ⟨(t9 v).shape,c1,by have:=(t9 v).lens;omega⟩
theorem yT2{f:Fw}{l:Fl}{r s:Int}(v:v6 f=false):SV.tuple [.agg f.cells,.agg l.cells,.agg [.int .i64 0,.int .i64 0,.int .i64 0,.int .i64 0],.agg [.int .i64 0,.int .i64 0]] =pwV f l r s:=by
 have b:zw8 f=false:=by unfold zw8;rw[v];rfl
 have g:goB f l=true:=by unfold goB;rw[b];rfl
 unfold pwV pwF pwL pwQ pwD;rw[g,b];unfold xL6 xM3 xL4;rw[v];rfl
theorem yT5{f:Fw}{l:Fl}{r s:Int}(b:zw8 f=true)(e:(yY5 l (zx6 f)==0)=true):SV.tuple [.agg (xL6 f r s).cells,.agg (t8 l (zx6 f)).cells,V4.sv (xM3 f r s),.agg [J (xL4 f r s).1,J (xL4 f r s).2]] =pwV f l r s:=by
 have g:goB f l=true:=by unfold goB;rw[e,Bool.or_true]
 unfold pwV pwF pwL pwQ pwD;rw[g,b];rfl
theorem yT4{f:Fw}{l:Fl}{r s:Int}(b:zw8 f=true)(e:(yY5 l (zx6 f)==0)=false):SV.tuple [.agg f.cells,.agg (t8 l (zx6 f)).cells,.agg [.int .i64 0,.int .i64 0,.int .i64 0,.int .i64 0],.agg [.int .i64 0,.int .i64 0]] =pwV f l r s:=by
 have g:goB f l=false:=by unfold goB;rw[e,b];rfl
 unfold pwV pwF pwL pwQ pwD;rw[g,b];rfl
theorem yT3{f:Fw}{l:Fl}{r s:Int}(b:zw8 f=false):SV.tuple [.agg (xL6 f r s).cells,.agg l.cells,V4.sv (xM3 f r s),.agg [J (xL4 f r s).1,J (xL4 f r s).2]] =pwV f l r s:=by
 have g:goB f l=true:=by unfold goB;rw[b];rfl
 unfold pwV pwF pwL pwQ pwD;rw[g,b];rfl
theorem zs5{f:Fw}{l:Fl}{n:Int}{c:Gc.C}(e:¬zg2 f n c=0):SV.tuple [.agg f.cells,.agg l.cells,.bool false,.int .i64 (zg2 f n c)] =axV f l n c:=by
 have a1:axE f l n c=zg2 f n c:=if_neg e;have a2:axL f l n c=l:=if_neg (λk=>e k.1);have a3:axF f l n c=f:=if_neg (by rw[a1];exact e)
 have a4:axH f l n c=false:=by unfold axH;rw[decide_eq_false e];rfl
 unfold axV;rw[a1,a2,a3,a4];rfl
theorem zs7{f:Fw}{l:Fl}{n:Int}{c:Gc.C}(e:zg2 f n c=0)(k:¬c.code=28):SV.tuple [.agg (zg4 f n c).cells,.agg l.cells,.bool false,.int .i64 0] =axV f l n c:=by
 have a1:axE f l n c=0:=by unfold axE;rw[if_pos e,if_neg k]
 have a2:axL f l n c=l:=if_neg (λq=>k q.2);have a3:axF f l n c=zg4 f n c:=if_pos a1
 have a4:axH f l n c=false:=by unfold axH;rw[decide_eq_false k,Bool.false_and,Bool.and_false]
 unfold axV;rw[a1,a2,a3,a4];rfl
theorem zs0{f:Fw}{l:Fl}{n:Int}{c:Gc.C}(e:zg2 f n c=0)(k:c.code=28)(a:(yY5 l (qG1 f n)==0)=false):SV.tuple [.agg f.cells,.agg (t8 l (qG1 f n)).cells,.bool false,.int .i64 17] =axV f l n c:=by
 have a:=beq_eq_false_iff_ne.1 a
 have a1:axE f l n c=17:=by unfold axE;rw[if_pos e,if_pos k,if_neg (λq=>a q.1)]
 have a2:axL f l n c=t8 l (qG1 f n):=by unfold axL;rw[if_pos ⟨e,k⟩,if_neg a]
 have a3:axF f l n c=f:=if_neg (by rw[a1];decide)
 have a4:axH f l n c=false:=by unfold axH;rw[decide_eq_false a,Bool.and_false,Bool.and_false]
 unfold axV;rw[a1,a2,a3,a4];rfl
theorem zs1{f:Fw}{l:Fl}{n:Int}{c:Gc.C}(e:zg2 f n c=0)(k:c.code=28)(a:(yY5 l (qG1 f n)==0)=true)(b:(yY5 (t8 l (qG1 f n)) (qG2 f n c)==0)=false):SV.tuple [.agg f.cells,.agg (t8 (t8 l (qG1 f n)) (qG2 f n c)).cells,.bool true,.int .i64 17] =axV f l n c:=by
 have a:=beq_iff_eq.1 a;have b:=beq_eq_false_iff_ne.1 b
 have a1:axE f l n c=17:=by unfold axE;rw[if_pos e,if_pos k,if_neg (λq=>b q.2)]
 have a2:axL f l n c=t8 (t8 l (qG1 f n)) (qG2 f n c):=by unfold axL;rw[if_pos ⟨e,k⟩,if_pos a]
 have a3:axF f l n c=f:=if_neg (by rw[a1];decide)
 have a4:axH f l n c=true:=by unfold axH;rw[decide_eq_true a,decide_eq_true e,decide_eq_true k];rfl
 unfold axV;rw[a1,a2,a3,a4];rfl
theorem zs2{f:Fw}{l:Fl}{n:Int}{c:Gc.C}(e:zg2 f n c=0)(k:c.code=28)(a:(yY5 l (qG1 f n)==0)=true)(b:(yY5 (t8 l (qG1 f n)) (qG2 f n c)==0)=true):SV.tuple [.agg (zg4 f n c).cells,.agg (t8 (t8 l (qG1 f n)) (qG2 f n c)).cells,.bool true,.int .i64 0] =axV f l n c:=by
 have a:=beq_iff_eq.1 a;have b:=beq_iff_eq.1 b
 have a1:axE f l n c=0:=by unfold axE;rw[if_pos e,if_pos k,if_pos ⟨a,b⟩]
 have a2:axL f l n c=t8 (t8 l (qG1 f n)) (qG2 f n c):=by unfold axL;rw[if_pos ⟨e,k⟩,if_pos a]
 have a3:axF f l n c=zg4 f n c:=if_pos a1
 have a4:axH f l n c=true:=by unfold axH;rw[decide_eq_true a,decide_eq_true e,decide_eq_true k];rfl
 unfold axV;rw[a1,a2,a3,a4];rfl
theorem qG4{f:Fw}{n:Int}{c:Gc.C}(e:zg2 f n c=0):Rc.mk 1 0 (i64.wrap (f.line+1)) 0 (zv2 f n) (zv2 f n)=qG1 f n:=by
 have k:=(t9 (zg3 e).1).nums.2.2.2.2.2.2.2.2.1;unfold qG1;rw[w64 (by omega) (by omega)]
theorem xm1(f:Fw)(l:Fl)(h:o6 l=true):SCall pP 46 [f.sv,l.sv] ((b8 f l).sv):=
 xw9 (hB (l:=[z67,qf9]) (k:=[x30]) (j:=[]) (i:=[]) ([] :List Nat) ([] :List Nat) ([] :List Nat) ([] :List Nat) (⟨ym0,yv8,trivial⟩) (allQ.all (p:=WFact.ok pP) (l:=[x30]) ⟨yw3,trivial⟩) o4 o4) 1000 (.fork (.lit (.lit (.fork (.fork (.fork (.ln 3 (.lit .all)) .all) (.ln 3 (.lit .all))) .all))) (.lit (.lit (.lit .all))))
  (t:=.req (o6 l) (.node (v6 f) (.node (f.homed) (.req (xy9 f) (.req (o6 l) (.node (yY5 l (qo4 f)==0) (.req (xy9 f) (.req (o6 l) (.node (yY5 l (qo4 f)==0) (.leaf (.agg (Fl.cells (t8 l (qo4 f))))) (.fail 177)))) (.leaf (.agg (Fl.cells (t8 l (qo4 f)))))))) (.leaf (.agg (Fl.cells l)))) (.leaf (.agg (Fl.cells l)))))
  (by kernel_rfl) (by
   refine x6 h (f4 (λv=>f4 (λk=>?_) λk=>by rw[qo7 k];rfl) λv=>by rw[qo9 v];rfl);have s:=(t9 v).shape;rw[qp5 v k]
   exact x6 s (x6 h (f4 (λe=>x6 s (x6 h (f4 (λ_=>rfl) λq=>by rw[e]at q;cases q))) λ_=>rfl))) (by kernel_rfl) (by kernel_rfl)
theorem xm2(f:Fw)(l:Fl)(r s:Int)(h:o6 l=true)(k:shF f=true):SCall pP 43 [f.sv,l.sv,.agg [J r,J s]] (pwV f l r s):=
 xw9 (hB (l:=[z67,qf9,z46,z41,qe9]) (k:=[x30]) (j:=[]) (i:=[]) ([] :List Nat) ([] :List Nat) ([] :List Nat) ([] :List Nat) (⟨ym0,yv8,yk0,yj1,yv0,trivial⟩) (allQ.all (p:=WFact.ok pP) (l:=[x30]) ⟨yw3,trivial⟩) o4 o4) 1000 (.fork .all (.fork (.lit (.fork (.fork (.ln 6 (.lit .all)) .all) (.ln 6 (.lit .all)))) (.ln 3 (.lit .all))))
  (t:=let y0:=xM3 f r s;.req (o6 l) (.node (!v6 f) (.req (shF f) (.leaf (.tuple [.agg (Fw.cells f),.agg (Fl.cells l),.agg [J 0,J 0,J 0,J 0],.agg [J 0,J 0]]))) (.node (zw8 f) (.req (zx4 f) (.req (o6 l) (.node (yY5 l (zx6 f)==0) (.req (zx4 f) (.req (o6 l) (.node (yY5 l (zx6 f)==0) (.leaf (.tuple [.agg (Fw.cells (xL6 f r s)),.agg (Fl.cells (t8 l (zx6 f))),.agg [J y0.1,J y0.2.1,J y0.2.2.1,J y0.2.2.2],.agg [J (xL4 f r s).1,J (xL4 f r s).2]])) (.fail 177)))) (.req (shF f) (.leaf (.tuple [.agg (Fw.cells f),.agg (Fl.cells (t8 l (zx6 f))),.agg [J 0,J 0,J 0,J 0],.agg [J 0,J 0]])))))) (.leaf (.tuple [.agg (Fw.cells (xL6 f r s)),.agg (Fl.cells l),.agg [J y0.1,J y0.2.1,J y0.2.2.1,J y0.2.2.2],.agg [J (xL4 f r s).1,J (xL4 f r s).2]])))))
  (by kernel_rfl) (by
   refine x6 h (f9 (λv=>x6 k (yT2 v)) λv=>f4 (λb=>?_) λb=>yT3 b);have p:=zx0 b
   exact x6 p (x6 h (f4 (λe=>x6 p (x6 h (f4 (λ_=>yT5 b e) λq=>by rw[e]at q;cases q))) λe=>x6 k (yT4 b e)))) (by kernel_rfl) (by kernel_rfl)
theorem xm0(f:Fw)(l:Fl)(n:Int)(c:Gc.C)(h:o6 l=true)(k:shF f=true):SCall pP 48 [f.sv,l.sv,J n,c.sv] (axV f l n c):=
 xw9 (hB (l:=[z67,z46,z31,z40]) (k:=[x30]) (j:=[]) (i:=[]) ([] :List Nat) ([] :List Nat) ([] :List Nat) ([] :List Nat) (⟨ym0,yk0,yh7,yj0,trivial⟩) (allQ.all (p:=WFact.ok pP) (l:=[x30]) ⟨yw3,trivial⟩) o4 o4) 1000 (.fork (.lit (.fork .all (.fork (.fork (.ln 4 (.lit .all)) (.ln 4 (.lit .all))) (.ln 4 (.lit .all))))) (.fork .all (.fork .all (.fork (.fork (.ln 4 (.lit .all)) (.ln 4 (.lit .all))) (.ln 4 (.lit .all))))))
  (t:=let y0:=Rc.mk 1 0 (i64.wrap (f.line+1)) 0 (zv2 f n) (zv2 f n);let y1:=Rc.mk 3 0 (zg4 f n c).line 0 (zg4 f n c).pos (zv2 f n);let y2:Tree SV:=.req (shF f) (.leaf (.tuple [.agg (Fw.cells f),.agg (Fl.cells (t8 l y0)),.bool false,J 17]));let y3:=Rc.mk 3 0 0 0 (0,0,fw0.pos.2.2) (zv2 f n);.node (zg2 f n c=0) (.node (c.code != 28) (.req (o6 l) (.leaf (.tuple [.agg (Fw.cells (zg4 f n c)),.agg (Fl.cells l),.bool false,J 0]))) (.req (o6 l) (.req (o6 l) (.node (yY5 l y0==0) (.req (o6 (t8 l y0)) (.node (yY5 (t8 l y0) y1==0) (.leaf (.tuple [.agg (Fw.cells (zg4 f n c)),.agg (Fl.cells (t8 (t8 l y0) y1)),.bool true,J 0])) (.req (shF f) (.leaf (.tuple [.agg (Fw.cells f),.agg (Fl.cells (t8 (t8 l y0) y1)),.bool true,J 17]))))) y2)))) (.node (zg2 f n c != 0) (.req (shF f) (.req (o6 l) (.leaf (.tuple [.agg (Fw.cells f),.agg (Fl.cells l),.bool false,J (zg2 f n c)])))) (.node (c.code != 28) (.req (o6 l) (.leaf (.tuple [.agg (Fw.cells fw0),.agg (Fl.cells l),.bool false,J 0]))) (.req (o6 l) (.req (o6 l) (.node (yY5 l y0==0) (.req (o6 (t8 l y0)) (.node (yY5 (t8 l y0) y3==0) (.leaf (.tuple [.agg (Fw.cells fw0),.agg (Fl.cells (t8 (t8 l y0) y3)),.bool true,J 0])) (.req (shF f) (.leaf (.tuple [.agg (Fw.cells f),.agg (Fl.cells (t8 (t8 l y0) y3)),.bool true,J 17]))))) y2))))))
  (by kernel_rfl) (by
   refine o5 (λe=>q96 (λa=>x6 h (zs7 e a)) λa=>?_) λe=>q96 (λ_=>x6 k (x6 h (zs5 e))) λq=>absurd q e
   rw[qG4 e]
   exact x6 h (x6 h (f4 (λx=>x6 (qs0 h) (f4 (λy=>zs2 e a x y) λy=>x6 k (zs1 e a x y))) λx=>x6 k (zs0 e a x)))) (by kernel_rfl) (by kernel_rfl)
theorem Rec.next{r:Rc}{real:V4}(h:Rec r real)(l:Fl):Rec (yb5 l r) real:=⟨h.near,h.kd,h.ln,h.real,h.blk⟩
theorem Rec.one{r:Rc}{a b:V4}(h:Rec r a)(k:r.kind=1):Rec r b:=⟨h.near,h.kd,h.ln,λq=>absurd k q,h.blk⟩
structure Inv (f:Fw) (l:Fl) (real:V4) (L:Int) (last:Option Rc):Prop where
 v:v6 f=true
 j:Jn l L last
 fu:l.fuse=0
 hp:f.homed=true->f.pos=real
 nr:v9 real=true
 rc:∀r,last=some r->Rec r real
 mv:f.moving=true->∃r,last=some r/\r.kind=1
 wy:Way f f.line
theorem yW8{l:Fl}{r:Rc}(h:rcB (yb5 l r)=true):rcB {r with seq:=1}=true:=by
 have k:=yW5.1 h;exact yW5.2 ⟨k.1,⟨show(1:Int)<=1 by decide,show(1:Int)<=1099511627776 by decide⟩,k.2.2⟩
theorem rec_cases{l:Fl}{L:Int}{last:Option Rc}(j:Jn l L last)(hL:L+1<=1000000)(fu:l.fuse=0)(r:Rc):
  (yY5 l r=0/\Jn (t8 l r) (L+1) (some (yb5 l r))/\(t8 l r).fuse=0)\/(¬yY5 l r=0/\t8 l r=l):=by
 cases b:rcB {r with seq:=1} with
 |true=>
  obtain⟨a,c,_,e⟩:=qR7 j hL b (by omega);exact .inl ⟨a,c,by rw[e,fu];rfl⟩
 |false=>
  have n:rcB (yb5 l r)=false:=by
   cases q:rcB (yb5 l r)with
   |false=>rfl
   |true=>rw[yW8 q]at b;cases b
  right;constructor;.unfold yY5 apE;rw[n,Bool.false_and];exact(by decide:¬(1:Int)=0)
  .unfold t8 apF;rw[n,Bool.false_and,Bool.false_and,Bool.false_and]
theorem x44{a:V4}(h:v9 a=true):x41 a z4=a:=by rw[x43 h ya3];exact zi9 _
theorem yY2{f:Fw}{real:V4}{r s:Int}(v:v6 f=true)(hp:f.homed=true->f.pos=real)(nr:v9 real=true):v9 (x41 real (xM3 f r s))=true/\((xL6 f r s).homed=true->(xL6 f r s).pos=x41 real (xM3 f r s)):=by
 cases h:f.homed with
 |true=>
  have e:=hp h;have t:=xN7 (r:=r) (s:=s) v;rw[e]at t;exact⟨by rw[t];exact(t9 (xN8 v)).pos,λ_=>t.symm⟩
 |false=>
  have n:¬(xL6 f r s).homed=true:=λk=>by rw[xN3 v k]at h;cases h
  rw[xN4 v n,x44 nr];exact⟨nr,λk=>absurd k n⟩
theorem qN8{f:Fw}{l:Fl}{real:V4}{L L':Int}{last last':Option Rc}{r s:Int}{l':Fl}(h:Inv f l real L last)(j:Jn l' L' last')(fu:l'.fuse=0)(rc:∀x,last'=some x->Rec x real)(mv:y90 f=true->∃x,last'=some x/\x.kind=1):Inv (xL6 f r s) l' (x41 real (xM3 f r s)) L' last':=by
 obtain⟨n,p⟩:=yY2 (r:=r) (s:=s) h.v h.hp h.nr;refine⟨xN8 h.v,j,fu,p,n,λx hx=>?_,λm=>?_,xN9 h.v h.wy⟩
 .cases q:y90 f with
  |true=>
   obtain⟨y,hy,k⟩:=mv q;rw[hx]at hy;cases hy;exact(rc x hx).one k
  |false=>
   rw[(xM6 (r:=r) (s:=s) h.v q).1,x44 h.nr];exact rc x hx
 .cases q:y90 f with
  |true=>exact mv q
  |false=>rw[(xM6 (r:=r) (s:=s) h.v q).2]at m;cases m
theorem qN7{f:Fw}{l:Fl}{real:V4}{L:Int}{last:Option Rc}(r s:Int)(h:Inv f l real L last)(hL:L+1<=1000000):∃L' last',L'<=L+1/\Inv (pwF f l r s) (pwL f l) (x41 real (pwQ f l r s)) L' last':=by
 unfold pwF pwL pwQ goB
 cases b:zw8 f with
 |false=>
  refine⟨L,last,by omega,qN8 h h.j h.fu h.rc λq=>h.mv ?_⟩
  have c:zE6 f=false:=by
   unfold zw8 at b;rw[h.v,Bool.true_and]at b;exact b
  unfold y90 at q;rw[c,Bool.or_false]at q;exact q
 |true=>
  obtain⟨_,c⟩:=zw9.1 b;rcases rec_cases h.j hL h.fu (zx6 f)with⟨e,j,fu⟩|⟨e,k⟩
  .rw[e]
   have ln:=(yW5.1 ((j.some _ rfl).2.1)).2.2.1;obtain⟨rb,k1⟩:=zy6 h.v c real ln;exact⟨L+1,_,by omega,qN8 h j fu (λx hx=>by cases hx;exact rb.next l) λ_=>⟨_,rfl,k1⟩⟩
  .rw[show(yY5 l (zx6 f)==0)=false from beq_eq_false_iff_ne.2 e]
   refine⟨L,last,by omega,?_⟩;show Inv f (t8 l (zx6 f)) (x41 real z4) L last;rw[k,x44 h.nr];exact h
def yY1(f:Fw)(l:Fl)(real:V4)(n:Int)(c:Gc.C):V4:=if axH f l n c=true then(if axE f l n c=0 then(axF f l n c).pos else(0,0,0,f.pos.2.2.2))else real
theorem zv4{f:Fw}(v:VF f)(n:Int):v9 (zv2 f n)=true/\(zv2 f n).2.2.2=f.pos.2.2.2:=by
 have p:=r8.1 v.pos;have q:=r8.1 v.ret;unfold zv2
 split;.exact⟨v.pos,rfl⟩
 .split
  .exact⟨r8.2 ⟨q.1,q.2.1,q.2.2.1,p.2.2.2⟩,rfl⟩
  .exact⟨r8.2 (by dsimp only;omega),rfl⟩
theorem qN4{f:Fw}{l:Fl}{real:V4}{L:Int}{last:Option Rc}(n:Int)(c:Gc.C)(h:Inv f l real L last)(hL:L+2<=1000000):∃L' last',L'<=L+2/\Inv (axF f l n c) (axL f l n c) (yY1 f l real n c) L' last':=by
 by_cases e:zg2 f n c=0
 .obtain⟨r1,r2,r3,r4⟩:=zh8 e h.wy
  have av:=zh9 e;have ap:=zh7 e
  by_cases k:c.code=28
  .rw[if_pos k]at ap
   obtain⟨hh,hm⟩:=r4 k;have hv:=t9 h.v;have hl:=(t9 av).nums.2.2.2.2.2.2.2.2.1;obtain⟨bn,b4⟩:=zv4 hv n;rcases rec_cases h.j (by omega) h.fu (qG1 f n)with⟨e1,j1,f1⟩|⟨e1,k1⟩
   .have rb:rcB {qG2 f n c with seq:=1}=true:=yW6 (k:=3) (l:=(zg4 f n c).line) (d:=0) (by omega) hl (by omega) (t9 av).pos bn
    obtain⟨e2,j2,_,f2⟩:=qR7 j1 (by omega) rb (by omega)
    have a1:axE f l n c=0:=by unfold axE;rw[if_pos e,if_pos k,if_pos ⟨e1,e2⟩]
    have a2:axL f l n c=t8 (t8 l (qG1 f n)) (qG2 f n c):=by unfold axL;rw[if_pos ⟨e,k⟩,if_pos e1]
    have a3:axF f l n c=zg4 f n c:=if_pos a1
    have a4:axH f l n c=true:=by unfold axH;rw[decide_eq_true e1,decide_eq_true e,decide_eq_true k];rfl
    have a5:yY1 f l real n c=(zg4 f n c).pos:=by unfold yY1;rw[if_pos a4,if_pos a1,a3]
    rw[a2,a3,a5]
    have rr:Rec (qG2 f n c) (zg4 f n c).pos:=by
     refine⟨ya0.2 ⟨(t9 av).pos,bn,?_⟩,⟨show(1:Int)<=3 by decide,show(3:Int)<=3 by decide⟩,hl,λ_=>rfl,λq=>absurd (show(3:Int)=2 from q) (by decide)⟩;show v9 (wsub4 (zv2 f n) (zg4 f n c).pos)=true;rw[x88 bn (t9 av).pos,ap];have:=r8.1 bn;exact r8.2 (by unfold xI5;dsimp only;omega)
    refine⟨L+1+1,_,by omega,⟨av,j2,by rw[f2,f1];rfl,λ_=>rfl,(t9 av).pos,λx hx=>by cases hx;exact rr.next _,λm=>(by rw[hm]at m;cases m),r1⟩⟩
   .have a1:axE f l n c=17:=by unfold axE;rw[if_pos e,if_pos k,if_neg (λq=>e1 q.1)]
    have a2:axL f l n c=l:=by unfold axL;rw[if_pos ⟨e,k⟩,if_neg e1,k1]
    have a3:axF f l n c=f:=if_neg (by rw[a1];decide)
    have a4:axH f l n c=false:=by unfold axH;rw[decide_eq_false e1,Bool.and_false,Bool.and_false]
    have a5:yY1 f l real n c=real:=by unfold yY1;rw[if_neg (by rw[a4];decide)]
    rw[a2,a3,a5];exact⟨L,last,by omega,h⟩
  .rw[if_neg k]at ap
   have a1:axE f l n c=0:=by unfold axE;rw[if_pos e,if_neg k]
   have a2:axL f l n c=l:=if_neg (λq=>k q.2);have a3:axF f l n c=zg4 f n c:=if_pos a1
   have a4:axH f l n c=false:=by unfold axH;rw[decide_eq_false k,Bool.false_and,Bool.and_false]
   have a5:yY1 f l real n c=real:=by unfold yY1;rw[if_neg (by rw[a4];decide)]
   rw[a2,a3,a5];exact⟨L,last,by omega,⟨av,h.j,h.fu,λq=>by rw[ap];exact h.hp (r2 k q),h.nr,h.rc,λm=>h.mv (r3 m),r1⟩⟩
 .have a1:axE f l n c=zg2 f n c:=if_neg e
  have a2:axL f l n c=l:=if_neg (λk=>e k.1);have a3:axF f l n c=f:=if_neg (by rw[a1];exact e)
  have a4:axH f l n c=false:=by unfold axH;rw[decide_eq_false e];rfl
  have a5:yY1 f l real n c=real:=by unfold yY1;rw[if_neg (by rw[a4];decide)]
  rw[a2,a3,a5];exact⟨L,last,by omega,h⟩
theorem Jn.re{f g:Fl}{L:Int}{last:Option Rc}(h:Jn f L last)(p:g.pages=f.pages)(d:g.dead=false)(b:flB g=true):Jn g L last:=
 ⟨by rw[p];exact h.len,b,d,h.L0,h.L1,by rw[p];exact h.pg,h.none,by rw[p];exact h.some⟩
theorem qt4{f g:Fl}(h:flB f=true)(p:g.pages=f.pages)(a:0<=g.fuse/\g.fuse<=1048576)(k:0<=g.keep/\g.keep<=64):flB g=true:=by
 unfold flB at h ⊢;rw[p,v8.2 a,v8.2 k];obtain⟨h1,h2⟩:=(Bool.and_eq_true _ _).mp h;obtain⟨h2,_⟩:=(Bool.and_eq_true _ _).mp h2;obtain⟨h2,_⟩:=(Bool.and_eq_true _ _).mp h2;rw[h1,h2];rfl
theorem yR5{f:Fl}(h:flB f=true):flPow f=⟨f.pages,0,false,0⟩:=by unfold flPow;rw[h]
theorem qR5{f:Fl}{L:Int}{last:Option Rc}(h:Jn {f with dead:=false} L last):Jn (flPow f) L last/\(flPow f).fuse=0:=by
 have b:flB f=true:=h.fl;rw[yR5 b];exact⟨h.re rfl rfl (qt4 b rfl ⟨by show(0:Int)<=0;decide,by show(0:Int)<=1048576;decide⟩ ⟨by show(0:Int)<=0;decide,by show(0:Int)<=64;decide⟩),rfl⟩
theorem rec_keep{l:Fl}{r:Rc}:(t8 l r).keep=l.keep\/(t8 l r).keep=0:=by
 unfold t8 apF wrF
 repeat' split
 all_goals(first|exact .inl rfl|exact .inr rfl)
theorem yZ0{l:Fl}{r:Rc}(h:l.dead=true):t8 l r=l:=by
 unfold t8 apF;rw[h];simp
def zU2(f:Fw)(l:Fl)(n k:Int):Fl:=flPow (b8 f (b7 l n k))
theorem qN5{f:Fw}{l:Fl}{real:V4}{L:Int}{last:Option Rc}(n k:Int)(h:Inv f l real L last)(hL:L+1<=1000000):∃L' last',L'<=L+1/\Jn (zU2 f l n k) L' last'/\(zU2 f l n k).fuse=0/\∀r,last'=some r->Rec r real:=by
 have fl:=h.j.fl;have dd:=h.j.live;unfold zU2
 by_cases hn:n<1
 .have e:b7 l n k=⟨l.pages,0,true,0⟩:=by unfold b7;rw[dd,fl,decide_eq_true hn];rfl
  have e2:b8 f ⟨l.pages,0,true,0⟩=⟨l.pages,0,true,0⟩:=by
   unfold b8
   split;.exact yZ0 rfl
   .rfl
  rw[e,e2];have j:Jn { (⟨l.pages,0,true,0⟩:Fl)with dead:=false} L last:=h.j.re rfl rfl (qt4 fl rfl ⟨by show(0:Int)<=0;decide,by show(0:Int)<=1048576;decide⟩ ⟨by show(0:Int)<=0;decide,by show(0:Int)<=64;decide⟩);exact⟨L,last,by omega,(qR5 j).1,(qR5 j).2,h.rc⟩
 .generalize hx:b7 l n k=l1
  have e:l1.pages=l.pages/\l1.dead=false/\(1<=l1.fuse/\l1.fuse<=1048576)/\0<=l1.keep/\l1.keep<=64:=by
   rw[<-hx];unfold b7;rw[dd,fl,decide_eq_false hn];refine⟨rfl,rfl,?_,?_⟩
   .show 1<=(if 1048576<n then 1048576 else n)/\(if 1048576<n then 1048576 else n)<=1048576
    split<;>omega
   .show 0<=(if(if 64<k then 64 else k)>0 then if 64<k then 64 else k else 0)/\(if(if 64<k then 64 else k)>0 then if 64<k then 64 else k else 0)<=64
    repeat' split
    all_goals omega
  have b1:flB l1=true:=qt4 fl e.1 (by omega) e.2.2.2;have j1:Jn l1 L last:=h.j.re e.1 e.2.1 b1
  cases hh:f.homed with
  |false=>
   rw[qo7 hh];have j:Jn {l1 with dead:=false} L last:=j1.re rfl rfl b1;exact⟨L,last,by omega,(qR5 j).1,(qR5 j).2,h.rc⟩
  |true=>
   rw[qp5 h.v hh];obtain⟨rr,rb,_⟩:=qp3 h.v h.wy;rw[h.hp hh]at rr
   by_cases f1:l1.fuse=1
   .obtain⟨_,t⟩:=qR6 j1 hL rb f1
    have kr:0<=(t8 l1 (qo4 f)).keep/\(t8 l1 (qo4 f)).keep<=64:=by
     rcases rec_keep (l:=l1) (r:=qo4 f)with q|q
     .rw[q];exact e.2.2.2
     .omega
    obtain⟨t,_⟩:=t _ kr.1 kr.2;rcases t with t|t
    .exact⟨L,last,by omega,(qR5 t).1,(qR5 t).2,h.rc⟩
    .exact⟨L+1,_,by omega,(qR5 t).1,(qR5 t).2,λx hx=>by cases hx;exact rr.next _⟩
   .obtain⟨_,t,_,_⟩:=qR7 j1 hL rb f1
    have j:Jn {t8 l1 (qo4 f)with dead:=false} (L+1) (some (yb5 l1 (qo4 f))):=t.re rfl rfl t.fl;exact⟨L+1,_,by omega,(qR5 j).1,(qR5 j).2,λx hx=>by cases hx;exact rr.next _⟩
theorem qN6{f:Fw}{l:Fl}{real:V4}{L:Int}{last:Option Rc}(h:Inv f l real L last)(hL:L+1<=1000000)(hh:f.homed=true):∃l1,Jn (zU2 f l 9 0) (L+1) (some (yb5 l1 (qo4 f))):=by
 have fl:=h.j.fl;have dd:=h.j.live;unfold zU2;generalize hx:b7 l 9 0=l1
 have e:l1=⟨l.pages,9,false,0⟩:=by
  rw[<-hx];unfold b7;rw[dd,fl];rfl
 have b1:flB l1=true:=by rw[e];exact qt4 fl rfl ⟨by show(0:Int)<=9;decide,by show(9:Int)<=1048576;decide⟩ ⟨by show(0:Int)<=0;decide,by show(0:Int)<=64;decide⟩
 have j1:Jn l1 L last:=h.j.re (by rw[e]) (by rw[e]) b1;rw[qp5 h.v hh];obtain⟨rr,rb,_⟩:=qp3 h.v h.wy;obtain⟨_,t,_,_⟩:=qR7 j1 hL rb (by rw[e];show ¬(9:Int)=1;decide);have j:Jn {t8 l1 (qo4 f)with dead:=false} (L+1) (some (yb5 l1 (qo4 f))):=t.re rfl rfl t.fl;exact⟨l1,(qR5 j).1⟩
theorem qN9{f:Fw}{l:Fl}{real:V4}{L:Int}{last:Option Rc}(v:v6 f=true)(i:qK6 f=true)(h:f.homed=false)(m:¬f.mode=3)(nr:v9 real=true)(j:Jn l L last)(fu:l.fuse=0)(rc:∀r,last=some r->Rec r real):rvE f l=0/\Inv (rvF f l) l real L last:=by
 have hv:=t9 v;obtain⟨i1,i2,i3⟩:=qK7.1 i;have l0:f.lines=[] :=List.length_eq_zero_iff.1 (by rw[hv.lens,i2]);have lo:=qU2 j
 have b:rvB f l=true:=by unfold rvB;rw[v,i,j.fl,h];rfl
 unfold rvE rvF;rw[b,j.live,lo,if_neg (by decide),if_neg (by decide)]
 cases last with
 |none=>
  exact⟨rfl,⟨v,j,fu,λk=>(by rw[h]at k;cases k),nr,rc,λk=>(by rw[i1]at k;cases k),.empty i1 l0⟩⟩
 |some r=>
  obtain⟨a1,a2,a3,a4,a5,a6⟩:=yZ1 v i h m (rc r rfl);refine⟨a1,⟨a2,j,fu,λk=>?_,nr,rc,λk=>(by rw[a4]at k;cases k),a3⟩⟩
  by_cases k1:r.kind=1
  .rw[a5 k1]at k;cases k
  .rw[(a6 k1).2.1];exact(rc r rfl).real k1
def yb2(f:Fw)(c:V4):Bk:=(c,zg9 f.ma c,0,i64.wrap (xB4 f.ma c 0 f.feed*xB4 f.ma c 0 f.feed),0)
def yM8:Plan:=.fork (.lit (.all)) (.all)
noncomputable def yM9(f:Fw)(c:V4)(line:Int):Tree Stop:= .req (yy0 f.feed) (.node (f.queue.isEmpty) (.req ((0+ [yb2 f c].length)*64<=140737488355328) (.req (0<=(↑[yb2 f c].length:Int)&& (↑[yb2 f c].length:Int)==(↑[yb2 f c].length:Int)&&8*(↑[yb2 f c].length:Int)<=140737488355328&&(↑[yb2 f c].length:Int)<=(9223372036854775807:Int)) (.leaf (.at (v5 pP 195 0) 85 (j9 85 [(2,J line),(3,.ptr 0 0),(6,.ptr 1 0),(9,SV.row 2),(10,SV.row 3),(11,J 1)]) [some (.cells (Fw.cells f)),some (.cells (f7 fw0)),some (.rows t4 [yb2 f c]),some (.rows (Ty.int IntKind.i64) (List.replicate (↑[yb2 f c].length:Int).toNat (0:Int)))])))) (.req ((0+f.queue.length)*64<=140737488355328) (.req ((f.queue.length+ [yb2 f c].length)*64<=140737488355328) (.req (0<=(↑(f.queue++[yb2 f c]).length:Int)&& (↑(f.queue++[yb2 f c]).length:Int)==(↑(f.queue++[yb2 f c]).length:Int)&&8*(↑(f.queue++[yb2 f c]).length:Int)<=140737488355328&&(↑(f.queue++[yb2 f c]).length:Int)<=(9223372036854775807:Int)) (.leaf (.at (v5 pP 195 0) 85 (j9 85 [(2,J line),(3,.ptr 0 0),(6,.ptr 1 0),(9,SV.row 2),(10,SV.row 3),(11,J 1)]) [some (.cells (Fw.cells f)),some (.cells (f7 fw0)),some (.rows t4 (f.queue++[yb2 f c])),some (.rows (Ty.int IntKind.i64) (List.replicate (↑(f.queue++[yb2 f c]).length:Int).toNat (0:Int)))]))))))
theorem pd0(f:Fw)(c:V4)(line:Int):w9 (Env.ofB pP (v7 [qe0,z30,z90]) (d7 [qc3.frz]) (d9 []) (d8 []) (x8 []) (x8 []) (x8 []) (x8 [])) 1000 (j8 pP 195) .unit (x9 85 [2,3,6,9,10,11]) (u9 pP 195) yM8 (u7 pP 195 [f.sv,V4.sv c,J line]) [] =yM9 f c line:=by kernel_rfl
def yN1:Plan:=.fork (.all) (.fork (.fork (.lit (.fork (.lit (.all)) (.all))) (.lit (.all))) (.lit (.all)))
noncomputable def yN2(f:Fw)(line:Int)(q:List Bk)(s:List Int)(i:Int):Tree Stop:= .node (i< (↑q.length:Int)) (.req (0<=i64.wrap (i-1)&&i64.wrap (i-1)< (↑q.length:Int)) (.req ((i64.wrap (i-1)).toNat<q.length) (.req (0<=i&&i< (↑q.length:Int)) (.req (i.toNat<q.length) (.req (0<=i&&i< (↑s.length:Int)) (.req (i.toNat<s.length) (.leaf (.at (v5 pP 195 0) 85 (j9 85 [(2,J line),(3,.ptr 0 0),(6,.ptr 1 0),(9,SV.row 2),(10,SV.row 3),(11,J (i64.wrap (i+1)))]) [some (.cells (Fw.cells f)),some (.cells (f7 fw0)),some (.rows t4 q),some (.rows (Ty.int IntKind.i64) (s.set i.toNat (i64.wrap (qR8 f.ma (q.getD (i64.wrap (i-1)).toNat dBk).1 (q.getD i.toNat dBk).1*qR8 f.ma (q.getD (i64.wrap (i-1)).toNat dBk).1 (q.getD i.toNat dBk).1))))])))))))) (.req (yy9 q s 0) (.node (0<=crL q 0) (.node (gL q s 0 0=0) (.node (f.lines.isEmpty) (.req ((0+ [line].length)*8<=140737488355328) (.leaf (.done (.tuple [.agg (Fw.cells {f with queue:=(plB q (gL q s 0)),lines:=[line]}),J 0])))) (.req ((0+f.lines.length)*8<=140737488355328) (.req ((f.lines.length+ [line].length)*8<=140737488355328) (.leaf (.done (.tuple [.agg (Fw.cells {f with queue:=(plB q (gL q s 0)),lines:=(f.lines++[line])}),J 0])))))) (.leaf (.done (.tuple [.agg (f7 fw0),J 2])))) (.leaf (.done (.tuple [.agg (f7 fw0),J 2])))))
theorem pd1(f:Fw)(line:Int)(q:List Bk)(s:List Int)(i:Int):w9 (Env.ofB pP (v7 [qe0,z30,z90]) (d7 [qc3.frz]) (d9 []) (d8 []) (x8 []) (x8 []) (x8 []) (x8 [])) 1000 (j8 pP 195) .unit (x9 85 [2,3,6,9,10,11]) (v5 pP 195 0) yN1 (j9 85 [(2,J line),(3,.ptr 0 0),(6,.ptr 1 0),(9,.row 2),(10,.row 3),(11,J i)]) [some (.cells f.cells),some (.cells (f7 fw0)),some (.rows t4 q),some (.rows (.int .i64) s)] =yN2 f line q s i:=by kernel_rfl
def yL0(f:Fw)(c:V4)(line:Int):SV:=.tuple [(m8 f c 0 line).sv,J 0]
theorem kPA:Known pP (Env.ofB pP (v7 [qe0,z30,z90]) (d7 [qc3.frz]) (d9 []) (d8 []) (x8 []) (x8 []) (x8 []) (x8 [])):=
 hB (l:=[qe0,z30,z90]) (k:=[qc3.frz]) (j:=[]) (i:=[]) [] [] [] [] ⟨yt9,yh6,yo3,trivial⟩ wrA o4 o4
theorem yN0{f:Fw}{c:V4}(line:Int)(h:zk6 f c 0=true)(en:z04 f=0):∀ (k i:Nat) (s:List Int),i+k=f.queue.length+1->1<=i->s.length=f.queue.length+1->(∀t,t<i->s.getD t 0=zF6 f.ma (s9 f c 0) t)->
  b9 pP (j8 pP 195) (yL0 f c line) (v5 pP 195 0) (j9 85 [(2,J line),(3,.ptr 0 0),(6,.ptr 1 0),(9,.row 2),(10,.row 3),(11,J i)]) [some (.cells f.cells),some (.cells (f7 fw0)),some (.rows t4 (s9 f c 0)),some (.rows (.int .i64) s)]
 |k,i,s,hi,h1,hs,hc=>by
  have p:=zk7.1 h;have pl:=zl9 h;have ok:=zk5.1 (zl8 h en);rw[en]at pl ok;have ql:=zk8 f c 0;refine w6 kPA (n:=1000) (hint:=.unit) (keep:=x9 85 [2,3,6,9,10,11]) (p:=yN1) rfl ?_;erw [pd1 f line (s9 f c 0) s i];unfold yN2
  have t0:(i:Int).toNat=i:=by omega
  have wm:i64.wrap ((i:Int)-1)=((i-1:Nat):Int):=by rw[w64 (by omega) (by omega)];omega
  have tm:((i-1:Nat):Int).toNat=i-1:=by omega
  have w1:i64.wrap ((i:Int)+1)=((i+1:Nat):Int):=by rw[w64 (by omega) (by omega)];omega
  have jr:=qS0 f.ma ((s9 f c 0).getD (i-1) dBk).1 ((s9 f c 0).getD i dBk).1
  have an:∀{a b:Bool},a=true->b=true->(a&&b)=true:=λha hb=>by rw[ha,hb];rfl
  match k,hi with
  |k+1,hi=>
   have ih:=yN0 line h en k (i+1) (s.set i (zF6 f.ma (s9 f c 0) i)) (by omega) (by omega) (by simpa using hs) (λt ht=>by
    rw[xy2 (by omega)]
    split;.rename_i e;rw[e]
    .exact hc t (by omega))
   rw[zF8 f.ma (s9 f c 0) h1]at ih;rw[wm,tm,t0,wsq jr,w1]
   exact o5 (λ_=>x6 (an (decide_eq_true (by omega)) (decide_eq_true (by omega))) (x6 (decide_eq_true (by omega)) (x6 (an (decide_eq_true (by omega)) (decide_eq_true (by omega))) (x6 (decide_eq_true (by omega)) (x6 (an (decide_eq_true (by omega)) (decide_eq_true (by omega))) (x6 (decide_eq_true (by omega)) ⟨o9 _ _,ih⟩)))))) λa=>absurd (by omega) a
  |0,hi=>
   have es:s=zG3 f.ma (s9 f c 0):=zG5 (by omega) λt ht=>hc t (by omega)
   subst es
   have fin:SV.tuple [SV.agg (Fw.cells {f with queue:=plB (s9 f c 0) (gL (s9 f c 0) (zG3 f.ma (s9 f c 0)) 0),lines:=f.lines++[line]}),SV.int IntKind.i64 0] =yL0 f c line:=by
    unfold yL0 m8;rw[en];rfl
   refine o5 (λa=>absurd a (by omega)) λ_=>x6 pl (o5 (λ_=>o5 (λ_=>f4 (λe=>x6 rfl ?_) λe=>x6 (decide_eq_true (by omega)) (x6 (decide_eq_true (by simp;omega)) fin)) λa=>absurd ok.2 a) λa=>absurd ok.1 a)
   have e0:f.lines=[] :=by simpa using e
   rw[e0]at fin;exact fin
theorem xm5(f:Fw)(c:V4)(line:Int)(h:zk6 f c 0=true)(en:z04 f=0):SCall pP 195 [f.sv,V4.sv c,J line] (yL0 f c line):=by
 have p:=zk7.1 h;have ql:=zk8 f c 0;have sr:=xB6 p.1 (l:=0) (f:=f.feed) (yy1.1 p.2.1).2 (yy1.1 p.2.2.1).2;have w:=wsq (v:=xB4 f.ma c 0 f.feed) (by omega)
 have nw:yb2 f c=ya4 f.ma c 0 f.feed:=by unfold yb2 ya4;rw[w]
 refine m6 rfl rfl (by kernel_rfl) (w6 kPA (n:=1000) (hint:=.unit) (keep:=x9 85 [2,3,6,9,10,11]) (p:=yM8) (boxes:=[]) rfl ?_);have q:=pd0 f c line;unfold u7 u9 at q;erw [q];unfold yM9;rw[nw]
 have an:∀{a b:Bool},a=true->b=true->(a&&b)=true:=λha hb=>by rw[ha,hb];rfl
 have lp:=yN0 line h en f.queue.length 1 (List.replicate (s9 f c 0).length 0) (by omega) (by omega) (by simp[ql]) (λt ht=>by
  have:t=0:=by omega
  subst this
  rw[ql];rfl)
 refine x6 p.2.2.1 (f4 (λe=>?_) λe=>?_)
 .have e0:f.queue=[] :=by simpa using e
  have aq:s9 f c 0=[ya4 f.ma c 0 f.feed] :=by unfold s9;rw[e0];rfl
  rw[aq]at lp;exact x6 rfl (x6 rfl ⟨o9 _ _,lp⟩)
 .have aq:f.queue++[ya4 f.ma c 0 f.feed] =s9 f c 0:=rfl
  rw[aq]
  have tn:((s9 f c 0).length:Int).toNat=(s9 f c 0).length:=by omega
  rw[tn];exact x6 (decide_eq_true (by omega)) (x6 (decide_eq_true (by simp;omega)) (x6 (an (an (an (decide_eq_true (by omega)) (beq_self_eq_true _)) (decide_eq_true (by omega))) (decide_eq_true (by omega))) ⟨o9 _ _,lp⟩))
def qK1(f:Fw)(p:V4):Bool:=y46 f (wsub4 p f.pos)&& (z04 f=0&& (z04 (f8 f (y40 (wsub4 p f.pos)))=0&&y45 f (wsub4 p f.pos)))
theorem qK2{f:Fw}{p:V4}:qK1 f p=true↔y46 f (wsub4 p f.pos)=true/\z04 f=0/\z04 (f8 f (y40 (wsub4 p f.pos)))=0/\y45 f (wsub4 p f.pos)=true:=by simp only[qK1,Bool.and_eq_true,decide_eq_true_eq]
def qY6(f:Fw)(r:Rc):Bool:=f.ma.ok&& (v9 r.src&&inR r.line 0 1099511627776)
def yX5(f:Fw)(r:Rc):Bool:=v6 f&& (qK6 f&&q99 r)
def yJ7(f:Fw)(c:V4):Bool:=zk6 f c 0&&z04 f=0
theorem yJ8{f:Fw}{c:V4}:yJ7 f c=true↔zk6 f c 0=true/\z04 f=0:=by simp only[yJ7,Bool.and_eq_true,decide_eq_true_eq]
def qb4:Fact:=qi8 195 λf rest=>match rest with
 |[.agg [.int .i64 a,.int .i64 b,.int .i64 c,.int .i64 d],.int .i64 line] =>some (.req (yJ7 f (a,b,c,d)) (.leaf (.tuple [(m8 f (a,b,c,d) 0 line).sv,J 0])))
 |_=>none
theorem yq9:qb4.ok pP:=qi9 λf rest t ht=>by
 split at ht<;>cases ht;exact λh=>xm5 f (_,_,_,_) _ (yJ8.1 h).1 (yJ8.1 h).2
theorem qY7{f:Fw}{r:Rc}:qY6 f r=true↔f.ma.ok=true/\v9 r.src=true/\0<=r.line/\r.line<=1099511627776:=by simp only[qY6,Bool.and_eq_true,v8]
theorem yX6{f:Fw}{r:Rc}:yX5 f r=true↔v6 f=true/\qK6 f=true/\q99 r=true:=by simp only[yX5,Bool.and_eq_true]
theorem q98{r:Rc}:q99 r=true↔v9 r.src=true/\v9 r.dst=true/\v9 (wsub4 r.dst r.src)=true:=by simp only[q99,Bool.and_eq_true]
theorem xZ2{a b:V4}(h:(a.1==b.1&& (a.2.1==b.2.1&& (a.2.2.1==b.2.2.1&& (a.2.2.2==b.2.2.2&&true))))=true):a=b:=by
 simp only[Bool.and_eq_true,beq_iff_eq]at h;obtain⟨a1,a2,a3,a4⟩:=a;obtain⟨b1,b2,b3,b4⟩:=b;simp only[Prod.mk.injEq];exact⟨h.1,h.2.1,h.2.2.1,h.2.2.2.1⟩
theorem x89{a b:V4}(ha:v9 a=true)(hb:v9 b=true)(ne:¬a=b):nz4 (wsub4 b a)=true:=by
 rw[x87 (ya1 hb) (ya1 ha),yg5];unfold xI5;intro h;refine ne ?_;obtain⟨a1,a2,a3,a4⟩:=a;obtain⟨b1,b2,b3,b4⟩:=b;dsimp only at h;simp only[Prod.mk.injEq];omega
theorem y94{f:Fw}{l:Fl}(b:rvB f l=false):SV.tuple [SV.agg (f7 fw0),SV.int IntKind.i64 1] =rvS f l:=by
 have e:rvE f l=1:=if_pos b;unfold rvS;rw[e];rfl
theorem y95{f:Fw}{l:Fl}(b:rvB f l=true)(d:l.dead=true):SV.tuple [SV.agg (f7 fw0),SV.int IntKind.i64 17] =rvS f l:=by
 have e:rvE f l=17:=by unfold rvE;rw[b,d];rfl
 unfold rvS;rw[e];rfl
theorem y99{f:Fw}{l:Fl}(b:rvB f l=true)(d:l.dead=false)(o:(lastO l).isSome=false):SV.tuple [SV.agg f.cells,SV.int IntKind.i64 0] =rvS f l:=by
 have n:lastO l=none:=by simpa using o
 have e:rvE f l=0:=by unfold rvE;rw[b,d,n];rfl
 have g:rvF f l=f:=by unfold rvF;rw[n]
 unfold rvS;rw[e,g];rfl
theorem qV2{l:Fl}(o:(lastO l).isSome=true):lastO l=some (qU3 l):=by
 unfold qU3
 cases q:lastO l with
 |none=>rw[q]at o;cases o
 |some r=>rfl
theorem y96{f:Fw}{l:Fl}(b:rvB f l=true)(d:l.dead=false)(o:(lastO l).isSome=true)(n:q99 (qU3 l)=false):SV.tuple [SV.agg (f7 fw0),SV.int IntKind.i64 19] =rvS f l:=by
 have e:rvE f l=19:=by unfold rvE;rw[b,d,qV2 o];show rgE (qU3 l)=19;unfold rgE;rw[n];rfl
 unfold rvS;rw[e];rfl
theorem xa0{f g:Fw}{l:Fl}(b:rvB f l=true)(d:l.dead=false)(o:(lastO l).isSome=true)(n:q99 (qU3 l)=true)(h:rgF f (qU3 l)=g):SV.tuple [SV.agg g.cells,SV.int IntKind.i64 0] =rvS f l:=by
 have e:rvE f l=0:=by unfold rvE;rw[b,d,qV2 o];show rgE (qU3 l)=0;unfold rgE;rw[n];rfl
 have q:rvF f l=g:=by unfold rvF;rw[qV2 o];exact h
 unfold rvS;rw[e,q];rfl
theorem qV1{l:Fl}(o:(lastO l).isSome=true):rcB (qU3 l)=true:=zo5 (List.mem_of_getLast? (qV2 o))
theorem y97{f:Fw}{l:Fl}(h:v6 f=false\/zb7 f=false\/flB l=false\/f.homed=true):rvB f l=false:=by
 unfold zb7 at h;unfold rvB;rcases h with h|h|h|h
 .rw[h];rfl
 .cases v:v6 f
  .rfl
  .rw[v,Bool.true_and]at h;rw[h];rfl
 .rw[h,Bool.false_and,Bool.and_false,Bool.and_false]
 .rw[h,Bool.not_true,Bool.and_false,Bool.and_false,Bool.and_false]
theorem qK5{f:Fw}(h:zb7 f=true):v6 f=true/\qK6 f=true:=by
 unfold zb7 at h;exact(Bool.and_eq_true _ _).mp h
theorem y98{f:Fw}{l:Fl}(i:zb7 f=true)(b:flB l=true)(h:f.homed=false):rvB f l=true:=by
 obtain⟨v,i⟩:=qK5 i;unfold rvB;rw[v,i,b,h];rfl
theorem ya2{r:Rc}(h:v9 r.src=false\/v9 r.dst=false\/v9 (wsub4 r.dst r.src)=false):q99 r=false:=by
 unfold q99
 rcases h with h|h|h<;>rw[h]<;>simp
theorem xh6(f:Fw)(p:V4)(h:qK1 f p=true):SCall pP 194 [f.sv,V4.sv p] (.tuple [(y44 f (wsub4 p f.pos)).sv,J 0]):=
 xw9 (hB (l:=[fPP,qb4]) (k:=[]) (j:=[]) (i:=[]) ([] :List Nat) ([] :List Nat) ([] :List Nat) ([] :List Nat) (⟨yr2,yq9,trivial⟩) o4 o4 o4) 1000 (.fork (.ln 4 (.fork (.ln 5 (.lit .all)) (.ln 5 (.fork .all .all)))) (.ln 4 (.fork (.ln 5 (.lit .all)) (.ln 5 (.fork .all .all)))))
  (t:=let y0:=wsub4 p f.pos;let y3:=m8 f (0,0,y0.2.2.1,0) 0 0;let y4:=(y0.1,y0.2.1,0,0);let y1:Tree SV:=.req true (.req true (.req (yJ7 y3 y4) (.leaf (.tuple [.agg (Fw.cells (m8 y3 y4 0 0)),J 0]))));let y2:Tree SV:=.req true (.req true (.req (yJ7 f y4) (.leaf (.tuple [.agg (Fw.cells (m8 f y4 0 0)),J 0]))));.req true (.node (y0.2.2.1 != 0) (.req true (.req (yJ7 f (0,0,y0.2.2.1,0)) (.req true (.node (y0.1 != 0) y1 (.req true (.node (y0.2.1 != 0) y1 (.leaf (.tuple [.agg (Fw.cells y3),J 0])))))))) (.req true (.node (y0.1 != 0) y2 (.req true (.node (y0.2.1 != 0) y2 (.leaf (.tuple [.agg (Fw.cells f),J 0]))))))))
  (by kernel_rfl) (by
   obtain⟨p0,en,en2,ok⟩:=qK2.1 h;obtain⟨p1,p2⟩:=y47.1 p0;unfold y45 at ok;obtain⟨o1,_⟩:=(Bool.and_eq_true _ _).mp ok;generalize wsub4 p f.pos=d at p1 p2 en2 o1 ⊢;have p2:=p2 o1
   have fin:∀g:Fw,y44 f d=g->SV.tuple [SV.agg g.cells,SV.int IntKind.i64 0] =SV.tuple [(y44 f d).sv,J 0] :=λg e=>by rw[e];rfl
   refine x6 rfl (q96 (λa=>?_) λa=>?_)
   .have z:=nzC.2 a
    rw[zu9 z]at p2 en2;refine x6 rfl (x6 (yJ8.2 ⟨p1 z,en⟩) (x6 rfl (q96 (λb=>?_) λb=>x6 rfl (q96 (λc=>?_) λc=>?_))))
    .have y:=nzD.2 (.inl b)
     exact x6 rfl (x6 rfl (x6 (yJ8.2 ⟨p2 y,en2⟩) (fin _ (by unfold y44;rw[zu9 z,zu9 y];rfl))))
    .have y:=nzD.2 (.inr c)
     exact x6 rfl (x6 rfl (x6 (yJ8.2 ⟨p2 y,en2⟩) (fin _ (by unfold y44;rw[zu9 z,zu9 y];rfl))))
    .exact fin _ (by unfold y44;rw[zu9 z,zu7 (Bool.eq_false_iff.2 λy=>by have:=nzD.1 y;omega)];rfl)
   .have z:nz4 (y40 d)=false:=Bool.eq_false_iff.2 λy=>nzC.1 y a
    rw[zu7 z]at p2 en2;refine x6 rfl (q96 (λb=>?_) λb=>x6 rfl (q96 (λc=>?_) λc=>?_))
    .have y:=nzD.2 (.inl b)
     exact x6 rfl (x6 rfl (x6 (yJ8.2 ⟨p2 y,en2⟩) (fin _ (by unfold y44;rw[zu7 z,zu9 y];rfl))))
    .have y:=nzD.2 (.inr c)
     exact x6 rfl (x6 rfl (x6 (yJ8.2 ⟨p2 y,en2⟩) (fin _ (by unfold y44;rw[zu7 z,zu9 y];rfl))))
    .exact fin _ (by unfold y44;rw[zu7 z,zu7 (Bool.eq_false_iff.2 λy=>by have:=nzD.1 y;omega)])) (by kernel_rfl) (by kernel_rfl)
def z81:Fact:=qi8 194 λf rest=>match rest with
 |[.agg [.int .i64 a,.int .i64 b,.int .i64 c,.int .i64 d]] =>some (.req (qK1 f (a,b,c,d)) (.leaf (.tuple [(y44 f (wsub4 (a,b,c,d) f.pos)).sv,J 0])))
 |_=>none
theorem yn5:z81.ok pP:=qi9 λf rest t ht=>by
 split at ht<;>cases ht;exact λh=>xh6 f (_,_,_,_) h
theorem xj4(f:Fw)(r:Rc)(h:qY6 f r=true):SCall pP 107 [f.sv,r.sv] (.tuple [(yV2 f r).sv,J 0]):=
 xw9 (hB (l:=[qf8]) (k:=[]) (j:=[]) (i:=[]) ([] :List Nat) ([] :List Nat) ([] :List Nat) ([] :List Nat) (⟨yv7,trivial⟩) o4 o4 o4) 1000 (.fork (.lit (.all)) (.lit (.all)))
  (t:=.req true (.req true (.node (xX3 f.ma r.src.2.2.2) (.leaf (.tuple [.agg (Fw.cells {f with pos:=r.src,e:=(xY3 (axM f.ma 3) r.src.2.2.2),back:=true,ret:=r.src,line:=(if i64.wrap (r.line-1)>0 then i64.wrap (r.line-1)else 0)}),J 0])) (.leaf (.tuple [.agg (f7 fw0),J 1])))))
  (by kernel_rfl) (by
   obtain⟨h1,h2,h3⟩:=qY7.1 h;have n:=r8.1 h2;have u:xX3 f.ma r.src.2.2.2=true:=xX4.2 ⟨h1,by omega⟩;have w:i64.wrap (r.line-1)=r.line-1:=w64 (by omega) (by omega);rw[w]
   exact x6 rfl (x6 rfl (f4 (λ_=>rfl) λq=>by rw[u]at q;cases q))) (by kernel_rfl) (by kernel_rfl)
def z98:Fact:=qi8 107 λf rest=>match rest with
 |[.agg [.int .i64 r0,.int .i64 r1,.int .i64 r2,.int .i64 r3,.int .i64 p0,.int .i64 p1,.int .i64 p2,.int .i64 p3,.int .i64 q0,.int .i64 q1,.int .i64 q2,.int .i64 q3]] =>some (.req (qY6 f ⟨r0,r1,r2,r3,(p0,p1,p2,p3),(q0,q1,q2,q3)⟩) (.leaf (.tuple [(yV2 f ⟨r0,r1,r2,r3,(p0,p1,p2,p3),(q0,q1,q2,q3)⟩).sv,J 0])))
 |_=>none
theorem yo8:z98.ok pP:=qi9 λf rest t ht=>by
 split at ht<;>cases ht;exact λh=>xj4 f ⟨_,_,_,_,(_,_,_,_),(_,_,_,_)⟩ h
theorem xo7(f:Fw)(r:Rc)(h:yX5 f r=true):SCall pP 108 [f.sv,r.sv] (.tuple [(rsF f r).sv,J 0]):=
 xw9 (hB (l:=[qc5,fPP,z81,qb4]) (k:=[]) (j:=[]) (i:=[]) ([] :List Nat) ([] :List Nat) ([] :List Nat) ([] :List Nat) (⟨ys1,yr2,yn5,yq9,trivial⟩) o4 o4 o4) 1000 (.lit (.fork (.all) (.fork (.all) (.all))))
  (t:=let y0:=yR2 f.ma r.dst;let y1:={f with homed:=true,pos:=r.src,loc:=(y0.1,y0.2.1,y0.2.2.1),e:=y0.2.2.2,ret:=r.dst,line:=r.line};let y2:={f with homed:=true,pos:=r.src,loc:=(y0.1,y0.2.1,y0.2.2.1),e:=y0.2.2.2,line:=r.line};.req (f.ma.ok&&v9 r.dst) (.node (r.kind==3) (.req (qK1 y1 r.dst) (.leaf (.tuple [.agg (Fw.cells (y44 y1 (wsub4 r.dst r.src))),J 0]))) (.node (!(r.src.1==r.dst.1&& (r.src.2.1==r.dst.2.1&& (r.src.2.2.1==r.dst.2.2.1&& (r.src.2.2.2==r.dst.2.2.2&&true))))) (.req (yJ7 y2 (wsub4 r.dst r.src)) (.leaf (.tuple [.agg (Fw.cells (m8 y2 (wsub4 r.dst r.src) 0 r.line)),J 0]))) (.leaf (.tuple [.agg (Fw.cells {f with homed:=true,pos:=r.src,loc:=(y0.1,y0.2.1,y0.2.2.1),e:=y0.2.2.2,line:=r.line}),J 0])))))
  (by kernel_rfl) (by
   obtain⟨v,i,n⟩:=yX6.1 h;have hv:=t9 v;obtain⟨n1,n2,n3⟩:=q98.1 n;refine x6 (by rw[hv.ma,n2];rfl) (q95 (λk=>?_) λk=>f9 (λe=>?_) λe=>?_)
   .obtain⟨p,e1,e2,o⟩:=y49 (g:=yV4 f r) hv i rfl rfl rfl rfl rfl n3
    exact x6 (qK2.2 ⟨p,e1,e2,o⟩) (by unfold rsF;rw[if_pos k];rfl)
   .have ne:¬r.src=r.dst:=λq=>by rw[q]at e;simp at e
    have z:nz4 (wsub4 r.dst r.src)=true:=x89 n1 n2 ne;obtain⟨p,e1⟩:=y37 (g:=yV3 f r) hv i rfl rfl rfl rfl rfl n3 z;exact x6 (yJ8.2 ⟨p,e1⟩) (by unfold rsF;rw[if_neg k,if_neg ne];rfl)
   .have eq:r.src=r.dst:=xZ2 e
    show SV.tuple [(yV3 f r).sv,J 0] =_
    unfold rsF;rw[if_neg k,if_pos eq]) (by kernel_rfl) (by kernel_rfl)
def qd4:Fact:=qi8 108 λf rest=>match rest with
 |[.agg [.int .i64 r0,.int .i64 r1,.int .i64 r2,.int .i64 r3,.int .i64 p0,.int .i64 p1,.int .i64 p2,.int .i64 p3,.int .i64 q0,.int .i64 q1,.int .i64 q2,.int .i64 q3]] =>some (.req (yX5 f ⟨r0,r1,r2,r3,(p0,p1,p2,p3),(q0,q1,q2,q3)⟩) (.leaf (.tuple [(rsF f ⟨r0,r1,r2,r3,(p0,p1,p2,p3),(q0,q1,q2,q3)⟩).sv,J 0])))
 |_=>none
theorem yt1:qd4.ok pP:=qi9 λf rest t ht=>by
 split at ht<;>cases ht;exact λh=>xo7 f ⟨_,_,_,_,(_,_,_,_),(_,_,_,_)⟩ h
theorem xo4(f:Fw)(l:Fl)(h:o6 l=true)(k:shF f=true):SCall pP 41 [f.sv,l.sv] (rvS f l):=
 xw9 (hB (l:=[qf9,z83,z64,z93,qb8,fPP,z46,z98,qd4]) (k:=[]) (j:=[]) (i:=[]) ([] :List Nat) ([] :List Nat) ([] :List Nat) ([] :List Nat) (⟨yv8,yn7,yl7,yo4,yr4,yr2,yk0,yo8,yt1,trivial⟩) o4 o4 o4) 1000 (.fork (.ln 10 (.lit .all)) (.ln 3 (.fork (.ln 6 (.lit .all)) (.ln 3 (.fork (.lit (.lit (.lit .all))) (.lit (.lit (.fork .all (.fork .all (.fork .all (.fork (.ln 12 (.lit .all)) (.ln 4 (.fork (.ln 7 (.lit .all)) (.ln 7 (.fork .all (.fork .all .all))))))))))))))))
  (t:=let y0:Tree SV:=.leaf (.tuple [.agg (f7 fw0),J 1]);let y1:Tree SV:=.leaf (.tuple [.agg (f7 fw0),J 19]);.node (!v6 f) y0 (.node (!zb7 f) y0 (.req (o6 l) (.node (!flB l) y0 (.node (f.homed) y0 (.node (l.dead) (.leaf (.tuple [.agg (f7 fw0),J 17])) (.req (o6 l) (.node (!(lastO l).isSome) (.req (shF f) (.leaf (.tuple [.agg (Fw.cells f),J 0]))) (.node (!v9 (qU3 l).src) y1 (.node (!v9 (qU3 l).dst) y1 (.node (!v9 (wsub4 (qU3 l).dst (qU3 l).src)) y1 (.node ((qU3 l).kind==1) (.req (shF f) (.req (qY6 f (qU3 l)) (.leaf (.tuple [.agg (Fw.cells (yV2 f (qU3 l))),J 0])))) (.req (shF f) (.req (yX5 f (qU3 l)) (.leaf (.tuple [.agg (Fw.cells (rsF f (qU3 l))),J 0]))))))))))))))))
  (by kernel_rfl) (by
   refine f9 (λv=>y94 (y97 (.inl v))) λv=>f9 (λi=>y94 (y97 (.inr (.inl i)))) λi=>x6 h (f9 (λb=>y94 (y97 (.inr (.inr (.inl b))))) λb=>f4 (λhh=>y94 (y97 (.inr (.inr (.inr hh))))) λhh=>?_)
   have B:=y98 i b hh;obtain⟨_,i2⟩:=qK5 i
   refine f4 (λd=>y95 B d) λd=>x6 h (f9 (λo=>x6 k (y99 B d o)) λo=>f9 (λn=>y96 B d o (ya2 (.inl n))) λn1=>f9 (λn=>y96 B d o (ya2 (.inr (.inl n)))) λn2=>f9 (λn=>y96 B d o (ya2 (.inr (.inr n)))) λn3=>?_)
   have N:q99 (qU3 l)=true:=q98.2 ⟨n1,n2,n3⟩;have rb:=yW5.1 (qV1 o)
   exact q95 (λq=>x6 k (x6 (qY7.2 ⟨(t9 v).ma,n1,rb.2.2.1⟩) (xa0 B d o N (if_pos q)))) λq=>x6 k (x6 (yX6.2 ⟨v,i2,N⟩) (xa0 B d o N (if_neg q)))) (by kernel_rfl) (by unfold rvS;split<;>rfl)
def qb3:Fact:=qi8 48 λf rest=>match rest with
 |[.agg [.list .str p,.int .i64 a,.bool d,.int .i64 k],.int .i64 n,.agg [.int .i64 c0,.int .i64 c1,.int .i64 c2,.int .i64 c3,.int .i64 c4,.int .i64 c5,.int .i64 c6,.int .i64 c7]] =>some (.req (o6 ⟨p,a,d,k⟩) (.req (shF f) (.leaf (axV f ⟨p,a,d,k⟩ n ⟨c0,c1,c2,c3,c4,c5,c6,c7⟩))))
 |_=>none
def qb9:Fact:=qi8 43 λf rest=>match rest with
 |[.agg [.list .str p,.int .i64 a,.bool d,.int .i64 k],.agg [.int .i64 r,.int .i64 s]] =>some (.req (o6 ⟨p,a,d,k⟩) (.req (shF f) (.leaf (pwV f ⟨p,a,d,k⟩ r s))))
 |_=>none
def qb5:Fact:=qi8 46 λf rest=>match rest with
 |[.agg [.list .str p,.int .i64 a,.bool d,.int .i64 k]] =>some (.req (o6 ⟨p,a,d,k⟩) (.leaf (b8 f ⟨p,a,d,k⟩).sv))
 |_=>none
def qd1:Fact:=qi8 41 λf rest=>match rest with
 |[.agg [.list .str p,.int .i64 a,.bool d,.int .i64 k]] =>some (.req (o6 ⟨p,a,d,k⟩) (.req (shF f) (.node (rvE f ⟨p,a,d,k⟩=0) (.leaf (.tuple [(rvF f ⟨p,a,d,k⟩).sv,J 0])) (.leaf (.tuple [fw0.sv,J (rvE f ⟨p,a,d,k⟩)])))))
 |_=>none
def plC(f:Fw)(l:Fl)(q:V4)(g:Bool):List SV:=f.cells++(l.cells++(V4.cells q++[.bool g]))
def yP4:List SV->Option (Fl×V4×Bool)
 |[.list .str p,.int .i64 a,.bool d,.int .i64 k,.int .i64 x,.int .i64 y,.int .i64 z,.int .i64 w,.bool g] =>some (⟨p,a,d,k⟩,(x,y,z,w),g)
 |_=>none
def zi0(f:Fw)(l:Fl)(q:V4)(r s:Int):Nat->Fw×Fl×V4
 |0=>(f,l,q)
 |n+1=>zi0 (pwF f l r s) (pwL f l) (x41 q (pwQ f l r s)) r s n
def actP(f:Fw)(l:Fl)(q:V4)(kd:Int)(nb:Bool)(c:Gc.C)(n r s:Int):Fw×Fl×V4:=if kd=0 then(axF f l (lineV f nb) c,axL f l (lineV f nb) c,yY1 f l q (lineV f nb) c)else zi0 f l q r s n.toNat
noncomputable def qN2(f:Fw)(l:Fl)(q:V4):Bool:=@decide (∃L last,L<=900000/\Inv f l q L last) (Classical.propDecidable _)
theorem qN3{f:Fw}{l:Fl}{q:V4}:qN2 f l q=true↔∃L last,L<=900000/\Inv f l q L last:=@decide_eq_true_iff _ (Classical.propDecidable _)
noncomputable def z32:Fact:=⟨53,λargs=>match args with
 |[.agg pl,.agg [.int .i64 kd,.bool nb,.int .i64 c0,.int .i64 c1,.int .i64 c2,.int .i64 c3,.int .i64 c4,.int .i64 c5,.int .i64 c6,.int .i64 c7,.int .i64 n,.int .i64 r,.int .i64 s]] =>match zq4 (pl.take 102)with
  |some f=>match yP4 (pl.drop 102)with
   |some (l,q,true)=>some (.req (qN2 f l q) (.req (inR n (-9223372036854775808) 90000) (.leaf (.agg (plC (actP f l q kd nb ⟨c0,c1,c2,c3,c4,c5,c6,c7⟩ n r s).1 (actP f l q kd nb ⟨c0,c1,c2,c3,c4,c5,c6,c7⟩ n r s).2.1 (actP f l q kd nb ⟨c0,c1,c2,c3,c4,c5,c6,c7⟩ n r s).2.2 true)))))
   |_=>none
  |none=>none
 |_=>none⟩
def qg3:Fact:=⟨40,λargs=>match args with
 |[] =>some (.leaf (.bool true))
 |_=>none⟩
def z69:Fact:=⟨51,λargs=>match args with
 |[.int .i64 n] =>match n==6 with
  |true=>some (.leaf (.tuple [(flN 6).sv,J 0]))
  |false=>match n==4 with
   |true=>some (.leaf (.tuple [(flN 4).sv,J 0]))
   |false=>none
 |_=>none⟩
def yJ2:Plan:=.fork (.fork (.lit (.lit (.fork .all (.fork .all .all)))) (.ln 3 (.fork .all .all))) .all
noncomputable def yJ3(f:Fw)(l:Fl)(q:V4)(kd:Int)(nb:Bool)(c:Gc.C)(n r s:Int):Tree Stop:= .node (kd==0) (.req (inR f.line 0 1099511627776) (.req (o6 l) (.req (shF f) (.node (axH f l (lineV f nb) c) (.node (axE f l (lineV f nb) c==0) (.leaf (.done (.agg (plC (axF f l (lineV f nb) c) (axL f l (lineV f nb) c) ((axF f l (lineV f nb) c).pos) true)))) (.node (axH f l (lineV f nb) c) (.req true (.leaf (.done (.agg (plC (axF f l (lineV f nb) c) (axL f l (lineV f nb) c) (0,0,0,f.pos.2.2.2) true))))) (.leaf (.done (.agg (plC (axF f l (lineV f nb) c) (axL f l (lineV f nb) c) q true)))))) (.node (axH f l (lineV f nb) c) (.req true (.leaf (.done (.agg (plC (axF f l (lineV f nb) c) (axL f l (lineV f nb) c) (0,0,0,f.pos.2.2.2) true))))) (.leaf (.done (.agg (plC (axF f l (lineV f nb) c) (axL f l (lineV f nb) c) q true))))))))) (.leaf (.at (v5 pP 53 0) 96 (j9 96 [(2,.ptr 0 0),(3,.ptr 1 0),(4,.ptr 2 0),(9,J 0)]) [some (.cells (plC f l q true)),some (.cells [J kd,.bool nb,J c.code,J c.has,J c.x,J c.y,J c.z,J c.e,J c.f,J c.s,J n,J r,J s]),some (.cells (f7 fw0++([.nilS,J 0,.bool false,J 0] ++(V4.cells z4++[.bool false]))))]))
theorem pa0(f:Fw)(l:Fl)(q:V4)(kd:Int)(nb:Bool)(c:Gc.C)(n r s:Int):w9 (Env.ofB pP (v7 [qb3,qb9,z97,z33]) (d7 []) (d9 []) (d8 []) (x8 []) (x8 []) (x8 []) (x8 [])) 1000 (j8 pP 53) .unit (x9 96 [2,3,4,9]) (u9 pP 53) yJ2 (u7 pP 53 [.agg (plC f l q true),.agg (opL kd nb c n r s)]) [] =yJ3 f l q kd nb c n r s:=by kernel_rfl
def yJ5:Plan:=.fork (.ln 4 (.fork (.ln 6 (.lit .all)) (.ln 6 (.lit .all)))) .all
noncomputable def yJ6(f:Fw)(l:Fl)(q:V4)(kd:Int)(nb:Bool)(c:Gc.C)(n r s k:Int):Tree Stop:= .node (k<n) (.req (o6 l) (.req (shF f) (.node (!(pwF f l r s).homed) (.leaf (.at (v5 pP 53 0) 96 (j9 96 [(2,.ptr 0 0),(3,.ptr 1 0),(4,.ptr 2 0),(9,J (i64.wrap (k+1)))]) [some (.cells (plC (pwF f l r s) (pwL f l) (x41 q (pwQ f l r s)) true)),some (.cells [J kd,.bool nb,J c.code,J c.has,J c.x,J c.y,J c.z,J c.e,J c.f,J c.s,J n,J r,J s]),some (.cells (f7 fw0++([.nilS,J 0,.bool false,J 0] ++(V4.cells z4++[.bool false]))))])) (.leaf (.at (v5 pP 53 0) 96 (j9 96 [(2,.ptr 0 0),(3,.ptr 1 0),(4,.ptr 2 0),(9,J (i64.wrap (k+1)))]) [some (.cells (plC (pwF f l r s) (pwL f l) (x41 q (pwQ f l r s)) ((pwF f l r s).pos.1==(x41 q (pwQ f l r s)).1&& ((pwF f l r s).pos.2.1==(x41 q (pwQ f l r s)).2.1&& ((pwF f l r s).pos.2.2.1==(x41 q (pwQ f l r s)).2.2.1&& ((pwF f l r s).pos.2.2.2==(x41 q (pwQ f l r s)).2.2.2&&true)))))),some (.cells [J kd,.bool nb,J c.code,J c.has,J c.x,J c.y,J c.z,J c.e,J c.f,J c.s,J n,J r,J s]),some (.cells (f7 fw0++([.nilS,J 0,.bool false,J 0] ++(V4.cells z4++[.bool false]))))]))))) (.leaf (.done (.agg (plC f l q true))))
theorem pa1(f:Fw)(l:Fl)(q:V4)(kd:Int)(nb:Bool)(c:Gc.C)(n r s k:Int):w9 (Env.ofB pP (v7 [qb3,qb9,z97,z33]) (d7 []) (d9 []) (d8 []) (x8 []) (x8 []) (x8 []) (x8 [])) 1000 (j8 pP 53) .unit (x9 96 [2,3,4,9]) (v5 pP 53 0) yJ5 (j9 96 [(2,.ptr 0 0),(3,.ptr 1 0),(4,.ptr 2 0),(9,J k)]) [some (.cells (plC f l q true)),some (.cells (opL kd nb c n r s)),some (.cells (f7 fw0++([.nilS,J 0,.bool false,J 0] ++(V4.cells z4++[.bool false]))))] =yJ6 f l q kd nb c n r s k:=by kernel_rfl
theorem qr9{l:Fl}:o6 l=true↔l.pages.length<=1000:=by unfold o6;rw[decide_eq_true_eq]
section
variable {f:Fw} {l:Fl} {r s n:Int} {c:Gc.C}
theorem qo6(h:o6 l=true):o6 (b8 f l)=true:=by
 unfold b8;split;.exact qs0 h
 .exact h
theorem qt5{k:Int}(h:o6 l=true):o6 (b7 l n k)=true:=by
 have h:=qr9.1 h;unfold b7
 repeat' split
 all_goals exact qr9.2 h
theorem qt6(h:o6 l=true):o6 (flPow l)=true:=by
 have h:=qr9.1 h;unfold flPow
 split
 all_goals exact qr9.2 h
end
theorem yq8:qb3.ok pP:=qi9 λf rest t ht=>by
 split at ht<;>cases ht;exact λh k=>xm0 f ⟨_,_,_,_⟩ _ ⟨_,_,_,_,_,_,_,_⟩ h k
theorem yr5:qb9.ok pP:=qi9 λf rest t ht=>by
 split at ht<;>cases ht;exact λh k=>xm2 f ⟨_,_,_,_⟩ _ _ h k
theorem yr0:qb5.ok pP:=qi9 λf rest t ht=>by
 split at ht<;>cases ht;exact λh=>xm1 f ⟨_,_,_,_⟩ h
theorem y93{g:FuncId}{f:Fw}{l:Fl}{args:List SV}(h:SCall pP g args (rvS f l)):(Tree.node (rvE f l=0) (.leaf (.tuple [(rvF f l).sv,J 0])) (.leaf (.tuple [fw0.sv,J (rvE f l)]))).says (SCall pP g args):=by
 refine⟨λe=>?_,λe=>?_⟩
 .have e:=of_decide_eq_true e
  unfold rvS at h;rw[if_pos e]at h;exact h
 .have e:=of_decide_eq_false e
  unfold rvS at h;rw[if_neg e]at h;exact xx0 h (yc7 (yc3 _ rfl rfl))
theorem ys7:qd1.ok pP:=qi9 λf rest t ht=>by
 split at ht<;>cases ht;exact λh k=>y93 (xo4 f ⟨_,_,_,_⟩ h k)
theorem xf6:SCall pP 51 [J 6] (.tuple [(flN 6).sv,J 0]):=by
 refine m6 rfl rfl (by kernel_rfl) (w6 k00 (n:=1000) (hint:=.str) (keep:=x9 25 []) (p:=qu5) (boxes:=[]) rfl ?_);have q:=fn6 ();unfold u7 u9 at q;erw [q];unfold qu6
 repeat' first
  |refine x6 rfl ?_
  |rfl
theorem xf5:SCall pP 51 [J 4] (.tuple [(flN 4).sv,J 0]):=by
 refine m6 rfl rfl (by kernel_rfl) (w6 k00 (n:=1000) (hint:=.str) (keep:=x9 25 []) (p:=qu3) (boxes:=[]) rfl ?_);have q:=fn4 ();unfold u7 u9 at q;erw [q];unfold qu4
 repeat' first
  |refine x6 rfl ?_
  |rfl
theorem ym2:z69.ok pP:=λargs t ht=>by
 simp only[z69]at ht
 split at ht
 .split at ht
  .rename_i h
   have h:=beq_iff_eq.1 h;subst h;cases ht;exact xf6
  .split at ht
   .rename_i h
    have h:=beq_iff_eq.1 h;subst h;cases ht;exact xf5
   .cases ht
 .cases ht
theorem qS4:Known pP (Env.ofB pP (v7 [qb3,qb9,z97,z33]) (d7 []) (d9 []) (d8 []) (x8 []) (x8 []) (x8 []) (x8 [])):=
 hB (l:=[qb3,qb9,z97,z33]) (k:=[]) (j:=[]) (i:=[]) [] [] [] [] ⟨yq8,yr5,yo7,yh9,trivial⟩ o4 o4 o4
theorem qR3{l:Fl}{L:Int}{last:Option Rc}(j:Jn l L last):o6 l=true:=qr9.2 (by rw[j.len];decide)
section
variable {kd:Int} {nb:Bool} {c:Gc.C} {n r s:Int}
theorem yJ4(hn:n<=90000):∀ (m k:Nat) (f:Fw) (l:Fl) (q:V4) (L:Int) (last:Option Rc),Inv f l q L last->L+m<=1000000->k+m=n.toNat->b9 pP (j8 pP 53) (.agg (plC (zi0 f l q r s m).1 (zi0 f l q r s m).2.1 (zi0 f l q r s m).2.2 true)) (v5 pP 53 0) (j9 96 [(2,.ptr 0 0),(3,.ptr 1 0),(4,.ptr 2 0),(9,J k)]) [some (.cells (plC f l q true)),some (.cells (opL kd nb c n r s)),some (.cells (f7 fw0++([.nilS,J 0,.bool false,J 0] ++(V4.cells z4++[.bool false]))))]
 |0,k,f,l,q,L,last,h,hL,hk=>by
  refine w6 qS4 (n:=1000) (hint:=.unit) (keep:=x9 96 [2,3,4,9]) (p:=yJ5) rfl ?_;erw [pa1 f l q kd nb c n r s k];unfold yJ6
  exact o5 (λa=>absurd a (by omega)) λ_=>rfl
 |m+1,k,f,l,q,L,last,h,hL,hk=>by
  refine w6 qS4 (n:=1000) (hint:=.unit) (keep:=x9 96 [2,3,4,9]) (p:=yJ5) rfl ?_;erw [pa1 f l q kd nb c n r s k];unfold yJ6
  have w1:i64.wrap ((k:Int)+1)=((k+1:Nat):Int):=by rw[w64 (by omega) (by omega)];omega
  obtain⟨L1,last1,hl,i1⟩:=qN7 r s h (by omega);have ih:=yJ4 hn m (k+1) _ _ _ _ _ i1 (by omega) (by omega);rw[w1]
  refine o5 (λa=>x6 (qR3 h.j) (x6 (xy8 h.v) (f9 (λ_=>⟨o9 _ _,ih⟩) λhh=>⟨o9 _ _,?_⟩))) λa=>absurd (show(k:Int)<n by omega) a
  rw[xZ1 (i1.hp hh)];exact ih
theorem xa5(f:Fw)(l:Fl)(q:V4){L:Int}{last:Option Rc}(h:Inv f l q L last)(hL:L<=900000)(hn:n<=90000):SCall pP 53 [.agg (plC f l q true),.agg (opL kd nb c n r s)] (.agg (plC (actP f l q kd nb c n r s).1 (actP f l q kd nb c n r s).2.1 (actP f l q kd nb c n r s).2.2 true)):=by
 refine m6 rfl rfl (by kernel_rfl) (w6 qS4 (n:=1000) (hint:=.unit) (keep:=x9 96 [2,3,4,9]) (p:=yJ2) (boxes:=[]) rfl ?_);have e:=pa0 f l q kd nb c n r s;unfold u7 u9 at e;erw [e];unfold yJ3;have li:inR f.line 0 1099511627776=true:=v8.2 (by have:=(t9 h.v).nums;omega)
 refine q95 (λk=>?_) λk=>?_
 .have o:actP f l q kd nb c n r s=(axF f l (lineV f nb) c,axL f l (lineV f nb) c,yY1 f l q (lineV f nb) c):=if_pos k
  rw[o];generalize lineV f nb=ln
  have fin:∀p,yY1 f l q ln c=p->SV.agg (plC (axF f l ln c) (axL f l ln c) p true)=SV.agg (plC (axF f l ln c) (axL f l ln c) (yY1 f l q ln c) true):=λp hp=>by rw[hp]
  refine x6 li (x6 (qR3 h.j) (x6 (xy8 h.v) (f4 (λx=>q95 (λy=>?_) λy=>f4 (λ_=>x6 rfl ?_) λz=>by rw[x]at z;cases z) λx=>f4 (λz=>by rw[x]at z;cases z) λ_=>?_)));.exact fin _ (by unfold yY1;rw[if_pos x,if_pos y])
  .exact fin _ (by unfold yY1;rw[if_pos x,if_neg y])
  .exact fin _ (by unfold yY1;rw[if_neg (by rw[x];exact Bool.false_ne_true)])
 .have o:actP f l q kd nb c n r s=zi0 f l q r s n.toNat:=if_neg k
  rw[o];exact⟨o9 _ _,yJ4 hn n.toNat 0 f l q L last h (by omega) (by omega)⟩
theorem zi1:∀ (m:Nat) {f:Fw} {l:Fl} {q:V4} {L:Int} {last:Option Rc},Inv f l q L last->L+m<=1000000->∃L' last',L'<=L+m/\Inv (zi0 f l q r s m).1 (zi0 f l q r s m).2.1 (zi0 f l q r s m).2.2 L' last'
 |0,f,l,q,L,last,h,_=>⟨L,last,by omega,h⟩
 |m+1,f,l,q,L,last,h,hL=>by
  obtain⟨L1,last1,hl,i1⟩:=qN7 r s h (by omega);obtain⟨L2,last2,h2,i2⟩:=zi1 m i1 (by omega);exact⟨L2,last2,by omega,i2⟩
theorem zi2{f:Fw}{l:Fl}{q:V4}{L:Int}{last:Option Rc}(h:Inv f l q L last)(hL:L<=900000)(hn:n<=40):∃L' last',L'<=L+42/\Inv (actP f l q kd nb c n r s).1 (actP f l q kd nb c n r s).2.1 (actP f l q kd nb c n r s).2.2 L' last':=by
 by_cases k:kd=0
 .have o:actP f l q kd nb c n r s=(axF f l (lineV f nb) c,axL f l (lineV f nb) c,yY1 f l q (lineV f nb) c):=if_pos k
  rw[o];obtain⟨L1,last1,hl,i1⟩:=qN4 (lineV f nb) c h (by omega);exact⟨L1,last1,by omega,i1⟩
 .have o:actP f l q kd nb c n r s=zi0 f l q r s n.toNat:=if_neg k
  rw[o];obtain⟨L1,last1,hl,i1⟩:=zi1 (r:=r) (s:=s) n.toNat h (by omega);exact⟨L1,last1,by omega,i1⟩
end
theorem yP5{cs:List SV}{l:Fl}{q:V4}{g:Bool}(h:yP4 cs=some (l,q,g)):cs=l.cells++(V4.cells q++[.bool g]):=by
 unfold yP4 at h
 split at h
 .injection h with h
  injection h with h1 h2;injection h2 with h2 h3;subst h1;subst h2;subst h3;rfl
 .cases h
theorem yh8:z32.ok pP:=λargs t ht=>by
 simp only[z32]at ht
 split at ht
 .rename_i pl kd nb c0 c1 c2 c3 c4 c5 c6 c7 n r s
  split at ht
  .rename_i hf
   split at ht
   .rename_i hp
    cases ht;intro h1 h2;obtain⟨L,last,hL,iv⟩:=qN3.1 h1;have nl:=(zq5 hf).append (j6.refl (List.drop 102 pl));rw[List.take_append_drop,yP5 hp]at nl;exact xw6 nl (xa5 (kd:=_) (nb:=_) (c:=⟨_,_,_,_,_,_,_,_⟩) (n:=_) (r:=_) (s:=_) _ _ _ iv hL (v8.1 h2).2)
   .cases ht
  .cases ht
 .cases ht
theorem xu9 :SCall pP 40 [] (.bool true):=
 o8 mix [qa8,z69,z37,qd1] ⟨yq0,ym2,yi4,ys7,trivial⟩ 40000 (.auto)
  (t:=.req true (.req true (.req true (.req true (.req true (.req true (.req true (.leaf (SV.bool true)))))))))
  (by kernel_rfl) (by trivial) (by kernel_rfl) (by kernel_rfl)
theorem yw8:qg3.ok pP:=λargs t ht=>by
 simp only[qg3]at ht
 split at ht<;>cases ht;exact xu9
theorem yb4{m:Ma}{c d:Co}{g h:Gu}{cold:Int}(k:ya7 m c d g h cold=true):v6 (x7 m c d g h cold)=true:=by
 obtain⟨k1,k2,k3,k4,k5,k6,k7,k8⟩:=ya8.1 k;refine x27 (yM2.2 ⟨k1,k2,k3,k4,k5⟩) (by show 1<=(1:Int)/\(1:Int)<=3;omega) (yf2.2 ?_) ?_ (yV0 rfl rfl rfl rfl (show v9 z4=true by decide) (show v9 z4=true by decide)) (.inr ⟨rfl,rfl⟩)
 .show((-16777216:Int)<=0/\(0:Int)<=16777216)/\((-16777216:Int)<=0/\(0:Int)<=16777216)/\((-16777216:Int)<=0/\(0:Int)<=16777216)/\((-16777216:Int)<=0/\(0:Int)<=16777216)/\((0:Int)<=0/\(0:Int)<=1048576)/\((0:Int)<=0/\(0:Int)<=1048576)/\((0:Int)<=0/\(0:Int)<=3)/\((0:Int)<=0/\(0:Int)<=255)/\((0:Int)<=0/\(0:Int)<=1099511627776)/\((0:Int)<=0/\(0:Int)<=1099511627776)/\((0:Int)<=0/\(0:Int)<=1099511627776)/\0<=cold/\cold<=400000
  omega
 .rw[q80 rfl];exact xG4 rfl rfl
def suC(m:Ma)(c d:Co)(g h:Gu)(cold:Int):List SV:=m.cells++(c.cells++(d.cells++(g.cells++(h.cells++[J cold]))))
def jb4:Plan:=.fork (.ln 4 (.fork .all .all)) (.ln 4 (.lit .all))
noncomputable def jb5(m:Ma)(c d:Co)(g h:Gu)(cold:Int)(l:List EvT):Tree Stop:= .node (ya7 m c d g h cold) (.req (qW5 l) (.node (!qr6 l 30) (.leaf (.done (.bool true))) (.leaf (.at (v5 pP 13 0) 86 (j9 86 [(1,LE l),(2,.ptr 0 0),(9,.ptr 1 0),(10,J 0)]) [some (.cells (suC m c d g h cold)),some (.cells [J (x7 m c d g h cold).ma.x.num,J (x7 m c d g h cold).ma.x.den,J (x7 m c d g h cold).ma.x.speed,J (x7 m c d g h cold).ma.x.accel,J (x7 m c d g h cold).ma.x.jerk,J (x7 m c d g h cold).ma.x.min,J (x7 m c d g h cold).ma.x.max,J (x7 m c d g h cold).ma.y.num,J (x7 m c d g h cold).ma.y.den,J (x7 m c d g h cold).ma.y.speed,J (x7 m c d g h cold).ma.y.accel,J (x7 m c d g h cold).ma.y.jerk,J (x7 m c d g h cold).ma.y.min,J (x7 m c d g h cold).ma.y.max,J (x7 m c d g h cold).ma.z.num,J (x7 m c d g h cold).ma.z.den,J (x7 m c d g h cold).ma.z.speed,J (x7 m c d g h cold).ma.z.accel,J (x7 m c d g h cold).ma.z.jerk,J (x7 m c d g h cold).ma.z.min,J (x7 m c d g h cold).ma.z.max,J (x7 m c d g h cold).ma.e.num,J (x7 m c d g h cold).ma.e.den,J (x7 m c d g h cold).ma.e.speed,J (x7 m c d g h cold).ma.e.accel,J (x7 m c d g h cold).ma.e.jerk,J (x7 m c d g h cold).ma.e.min,J (x7 m c d g h cold).ma.e.max,.bool (x7 m c d g h cold).ma.xy,J (x7 m c d g h cold).ma.ticks,J (x7 m c d g h cold).mode,.bool (x7 m c d g h cold).homed,J (x7 m c d g h cold).pos.1,J (x7 m c d g h cold).pos.2.1,J (x7 m c d g h cold).pos.2.2.1,J (x7 m c d g h cold).pos.2.2.2,J (x7 m c d g h cold).loc.1,J (x7 m c d g h cold).loc.2.1,J (x7 m c d g h cold).loc.2.2,J (x7 m c d g h cold).e,J (x7 m c d g h cold).feed,.list t4 (x7 m c d g h cold).queue,.list (Ty.int IntKind.i64) (x7 m c d g h cold).lines,J (x7 m c d g h cold).mo.1.1.1,J (x7 m c d g h cold).mo.1.1.2.1,J (x7 m c d g h cold).mo.1.1.2.2.1,J (x7 m c d g h cold).mo.1.1.2.2.2,J (x7 m c d g h cold).mo.1.2.1,J (x7 m c d g h cold).mo.1.2.2.1,J (x7 m c d g h cold).mo.1.2.2.2.1,J (x7 m c d g h cold).mo.1.2.2.2.2,J (x7 m c d g h cold).mo.2.1,J (x7 m c d g h cold).mo.2.2,.bool (x7 m c d g h cold).moving,J (x7 m c d g h cold).active,.bool (x7 m c d g h cold).back,J (x7 m c d g h cold).ret.1,J (x7 m c d g h cold).ret.2.1,J (x7 m c d g h cold).ret.2.2.1,J (x7 m c d g h cold).ret.2.2.2,J (x7 m c d g h cold).dwell,J (x7 m c d g h cold).waits,J (x7 m c d g h cold).c0.target,J (x7 m c d g h cold).c0.kp,J (x7 m c d g h cold).c0.ki,J (x7 m c d g h cold).c0.scale,J (x7 m c d g h cold).c0.sum,J (x7 m c d g h cold).c0.limit,J (x7 m c d g h cold).c1.target,J (x7 m c d g h cold).c1.kp,J (x7 m c d g h cold).c1.ki,J (x7 m c d g h cold).c1.scale,J (x7 m c d g h cold).c1.sum,J (x7 m c d g h cold).c1.limit,J (x7 m c d g h cold).g0.low,J (x7 m c d g h cold).g0.high,J (x7 m c d g h cold).g0.watch,J (x7 m c d g h cold).g0.rise,J (x7 m c d g h cold).g0.band,J (x7 m c d g h cold).g0.base,J (x7 m c d g h cold).g0.count,J (x7 m c d g h cold).g0.idle,J (x7 m c d g h cold).g0.quiet,J (x7 m c d g h cold).g0.fault,.bool (x7 m c d g h cold).g0.door,J (x7 m c d g h cold).g1.low,J (x7 m c d g h cold).g1.high,J (x7 m c d g h cold).g1.watch,J (x7 m c d g h cold).g1.rise,J (x7 m c d g h cold).g1.band,J (x7 m c d g h cold).g1.base,J (x7 m c d g h cold).g1.count,J (x7 m c d g h cold).g1.idle,J (x7 m c d g h cold).g1.quiet,J (x7 m c d g h cold).g1.fault,.bool (x7 m c d g h cold).g1.door,J (x7 m c d g h cold).fan,J (x7 m c d g h cold).line,J (x7 m c d g h cold).ticks,J (x7 m c d g h cold).cold,J (x7 m c d g h cold).r0,J (x7 m c d g h cold).r1,.list Ty.str (flN 6).pages,J 0,.bool false,J 0,J 0,J 0,J 0,J 0,.bool true])])))) (.leaf (.done (.bool true)))
theorem xe0(m:Ma)(c d:Co)(g h:Gu)(cold:Int)(l:List EvT):w9 (Env.ofB pP (v7 [qa8,z69,z62,qg3,z32,qb5,z68,z70,qd1,qf9]) (d7 []) (d9 []) (d8 []) (x8 []) (x8 []) (x8 []) (x8 [])) 1000 (j8 pP 13) .unit (x9 86 [1,2,9,10]) (u9 pP 13) jb4 (u7 pP 13 [.agg (m.cells++(c.cells++(d.cells++(g.cells++(h.cells++[J cold]))))),LE l]) [] =jb5 m c d g h cold l:=by kernel_rfl
def jb7:Plan:=let z0:Plan:=.fork (.ln 8 (.fork (.ln 4 (.lit .all)) (.ln 4 (.fork .all .all)))) (.ln 13 (.fork .all .all));.fork (.fork (.ln 4 z0) (.fork (.fork (.ln 7 z0) (.ln 3 (.fork (.ln 10 (.lit .all)) (.ln 17 (.lit .all))))) (.ln 15 (.lit .all)))) .all
noncomputable def jb8(m:Ma)(c d:Co)(g h:Gu)(cold:Int)(f:Fw)(x:Fl)(q:V4)(l:List EvT)(i:Int):Tree Stop:= .node (i< (↑l.length:Int)) (.req (0<=i&&i< (↑l.length:Int)) (.node ((l.getD i.toNat dEv).2.1<0) (.req (0<=i&&i< (↑l.length:Int)) (.req (qN2 f x q) (.req (inR (l.getD i.toNat dEv).1.2.2.2.1 (-9223372036854775808) 90000) (.node ((actP f x q (l.getD i.toNat dEv).1.1 (l.getD i.toNat dEv).1.2.1 (opC (l.getD i.toNat dEv).1) (l.getD i.toNat dEv).1.2.2.2.1 (l.getD i.toNat dEv).1.2.2.2.2.1 (l.getD i.toNat dEv).1.2.2.2.2.2).1.homed) (.node (!((actP f x q (l.getD i.toNat dEv).1.1 (l.getD i.toNat dEv).1.2.1 (opC (l.getD i.toNat dEv).1) (l.getD i.toNat dEv).1.2.2.2.1 (l.getD i.toNat dEv).1.2.2.2.2.1 (l.getD i.toNat dEv).1.2.2.2.2.2).1.pos.1==(actP f x q (l.getD i.toNat dEv).1.1 (l.getD i.toNat dEv).1.2.1 (opC (l.getD i.toNat dEv).1) (l.getD i.toNat dEv).1.2.2.2.1 (l.getD i.toNat dEv).1.2.2.2.2.1 (l.getD i.toNat dEv).1.2.2.2.2.2).2.2.1&& ((actP f x q (l.getD i.toNat dEv).1.1 (l.getD i.toNat dEv).1.2.1 (opC (l.getD i.toNat dEv).1) (l.getD i.toNat dEv).1.2.2.2.1 (l.getD i.toNat dEv).1.2.2.2.2.1 (l.getD i.toNat dEv).1.2.2.2.2.2).1.pos.2.1==(actP f x q (l.getD i.toNat dEv).1.1 (l.getD i.toNat dEv).1.2.1 (opC (l.getD i.toNat dEv).1) (l.getD i.toNat dEv).1.2.2.2.1 (l.getD i.toNat dEv).1.2.2.2.2.1 (l.getD i.toNat dEv).1.2.2.2.2.2).2.2.2.1&& ((actP f x q (l.getD i.toNat dEv).1.1 (l.getD i.toNat dEv).1.2.1 (opC (l.getD i.toNat dEv).1) (l.getD i.toNat dEv).1.2.2.2.1 (l.getD i.toNat dEv).1.2.2.2.2.1 (l.getD i.toNat dEv).1.2.2.2.2.2).1.pos.2.2.1==(actP f x q (l.getD i.toNat dEv).1.1 (l.getD i.toNat dEv).1.2.1 (opC (l.getD i.toNat dEv).1) (l.getD i.toNat dEv).1.2.2.2.1 (l.getD i.toNat dEv).1.2.2.2.2.1 (l.getD i.toNat dEv).1.2.2.2.2.2).2.2.2.2.1&& ((actP f x q (l.getD i.toNat dEv).1.1 (l.getD i.toNat dEv).1.2.1 (opC (l.getD i.toNat dEv).1) (l.getD i.toNat dEv).1.2.2.2.1 (l.getD i.toNat dEv).1.2.2.2.2.1 (l.getD i.toNat dEv).1.2.2.2.2.2).1.pos.2.2.2==(actP f x q (l.getD i.toNat dEv).1.1 (l.getD i.toNat dEv).1.2.1 (opC (l.getD i.toNat dEv).1) (l.getD i.toNat dEv).1.2.2.2.1 (l.getD i.toNat dEv).1.2.2.2.2.1 (l.getD i.toNat dEv).1.2.2.2.2.2).2.2.2.2.2&&true))))) (.leaf (.done (.bool false))) (.node (!v6 (actP f x q (l.getD i.toNat dEv).1.1 (l.getD i.toNat dEv).1.2.1 (opC (l.getD i.toNat dEv).1) (l.getD i.toNat dEv).1.2.2.2.1 (l.getD i.toNat dEv).1.2.2.2.2.1 (l.getD i.toNat dEv).1.2.2.2.2.2).1) (.leaf (.done (.bool false))) (.leaf (.at (v5 pP 13 0) 86 (j9 86 [(1,LE l),(2,.ptr 0 0),(9,.ptr 1 0),(10,J (i64.wrap (i+1)))]) [some (.cells (suC m c d g h cold)),some (.cells (plC ((actP f x q (l.getD i.toNat dEv).1.1 (l.getD i.toNat dEv).1.2.1 (opC (l.getD i.toNat dEv).1) (l.getD i.toNat dEv).1.2.2.2.1 (l.getD i.toNat dEv).1.2.2.2.2.1 (l.getD i.toNat dEv).1.2.2.2.2.2).1) ((actP f x q (l.getD i.toNat dEv).1.1 (l.getD i.toNat dEv).1.2.1 (opC (l.getD i.toNat dEv).1) (l.getD i.toNat dEv).1.2.2.2.1 (l.getD i.toNat dEv).1.2.2.2.2.1 (l.getD i.toNat dEv).1.2.2.2.2.2).2.1) ((actP f x q (l.getD i.toNat dEv).1.1 (l.getD i.toNat dEv).1.2.1 (opC (l.getD i.toNat dEv).1) (l.getD i.toNat dEv).1.2.2.2.1 (l.getD i.toNat dEv).1.2.2.2.2.1 (l.getD i.toNat dEv).1.2.2.2.2.2).2.2) true))])))) (.node (!v6 (actP f x q (l.getD i.toNat dEv).1.1 (l.getD i.toNat dEv).1.2.1 (opC (l.getD i.toNat dEv).1) (l.getD i.toNat dEv).1.2.2.2.1 (l.getD i.toNat dEv).1.2.2.2.2.1 (l.getD i.toNat dEv).1.2.2.2.2.2).1) (.leaf (.done (.bool false))) (.leaf (.at (v5 pP 13 0) 86 (j9 86 [(1,LE l),(2,.ptr 0 0),(9,.ptr 1 0),(10,J (i64.wrap (i+1)))]) [some (.cells (suC m c d g h cold)),some (.cells (plC ((actP f x q (l.getD i.toNat dEv).1.1 (l.getD i.toNat dEv).1.2.1 (opC (l.getD i.toNat dEv).1) (l.getD i.toNat dEv).1.2.2.2.1 (l.getD i.toNat dEv).1.2.2.2.2.1 (l.getD i.toNat dEv).1.2.2.2.2.2).1) ((actP f x q (l.getD i.toNat dEv).1.1 (l.getD i.toNat dEv).1.2.1 (opC (l.getD i.toNat dEv).1) (l.getD i.toNat dEv).1.2.2.2.1 (l.getD i.toNat dEv).1.2.2.2.2.1 (l.getD i.toNat dEv).1.2.2.2.2.2).2.1) ((actP f x q (l.getD i.toNat dEv).1.1 (l.getD i.toNat dEv).1.2.1 (opC (l.getD i.toNat dEv).1) (l.getD i.toNat dEv).1.2.2.2.1 (l.getD i.toNat dEv).1.2.2.2.2.1 (l.getD i.toNat dEv).1.2.2.2.2.2).2.2) true))]))))))) (.req (0<=i&&i< (↑l.length:Int)) (.req (0<=i&&i< (↑l.length:Int)) (.req (o6 x) (.req (o6 (b7 x (l.getD i.toNat dEv).2.1 (l.getD i.toNat dEv).2.2)) (.req (o6 (b8 f (b7 x (l.getD i.toNat dEv).2.1 (l.getD i.toNat dEv).2.2))) (.node (ya7 m c d g h cold) (.req (o6 (flPow (b8 f (b7 x (l.getD i.toNat dEv).2.1 (l.getD i.toNat dEv).2.2)))) (.req (shF (x7 m c d g h cold)) (.node (rvE (x7 m c d g h cold) (flPow (b8 f (b7 x (l.getD i.toNat dEv).2.1 (l.getD i.toNat dEv).2.2)))=0) (.node ((rvF (x7 m c d g h cold) (flPow (b8 f (b7 x (l.getD i.toNat dEv).2.1 (l.getD i.toNat dEv).2.2)))).homed) (.node (!((rvF (x7 m c d g h cold) (flPow (b8 f (b7 x (l.getD i.toNat dEv).2.1 (l.getD i.toNat dEv).2.2)))).pos.1==q.1&& ((rvF (x7 m c d g h cold) (flPow (b8 f (b7 x (l.getD i.toNat dEv).2.1 (l.getD i.toNat dEv).2.2)))).pos.2.1==q.2.1&& ((rvF (x7 m c d g h cold) (flPow (b8 f (b7 x (l.getD i.toNat dEv).2.1 (l.getD i.toNat dEv).2.2)))).pos.2.2.1==q.2.2.1&& ((rvF (x7 m c d g h cold) (flPow (b8 f (b7 x (l.getD i.toNat dEv).2.1 (l.getD i.toNat dEv).2.2)))).pos.2.2.2==q.2.2.2&&true))))) (.leaf (.done (.bool false))) (.node (!v6 (rvF (x7 m c d g h cold) (flPow (b8 f (b7 x (l.getD i.toNat dEv).2.1 (l.getD i.toNat dEv).2.2))))) (.leaf (.done (.bool false))) (.leaf (.at (v5 pP 13 0) 86 (j9 86 [(1,LE l),(2,.ptr 0 0),(9,.ptr 1 0),(10,J (i64.wrap (i+1)))]) [some (.cells (suC m c d g h cold)),some (.cells (plC (rvF (x7 m c d g h cold) (flPow (b8 f (b7 x (l.getD i.toNat dEv).2.1 (l.getD i.toNat dEv).2.2)))) (flPow (b8 f (b7 x (l.getD i.toNat dEv).2.1 (l.getD i.toNat dEv).2.2))) q true))])))) (.node (!v6 (rvF (x7 m c d g h cold) (flPow (b8 f (b7 x (l.getD i.toNat dEv).2.1 (l.getD i.toNat dEv).2.2))))) (.leaf (.done (.bool false))) (.leaf (.at (v5 pP 13 0) 86 (j9 86 [(1,LE l),(2,.ptr 0 0),(9,.ptr 1 0),(10,J (i64.wrap (i+1)))]) [some (.cells (suC m c d g h cold)),some (.cells (plC (rvF (x7 m c d g h cold) (flPow (b8 f (b7 x (l.getD i.toNat dEv).2.1 (l.getD i.toNat dEv).2.2)))) (flPow (b8 f (b7 x (l.getD i.toNat dEv).2.1 (l.getD i.toNat dEv).2.2))) q true))])))) (.node (!rvE (x7 m c d g h cold) (flPow (b8 f (b7 x (l.getD i.toNat dEv).2.1 (l.getD i.toNat dEv).2.2)))==0) (.leaf (.done (.bool false))) (.leaf (.done (.bool false))))))) (.req (o6 (flPow (b8 f (b7 x (l.getD i.toNat dEv).2.1 (l.getD i.toNat dEv).2.2)))) (.req true (.leaf (.done (.bool false))))))))))))) (.leaf (.done (.bool true)))
theorem xe1(m:Ma)(c d:Co)(g h:Gu)(cold:Int)(f:Fw)(x:Fl)(q:V4)(l:List EvT)(i:Int):w9 (Env.ofB pP (v7 [qa8,z69,z62,qg3,z32,qb5,z68,z70,qd1,qf9]) (d7 []) (d9 []) (d8 []) (x8 []) (x8 []) (x8 []) (x8 [])) 1000 (j8 pP 13) .unit (x9 86 [1,2,9,10]) (v5 pP 13 0) jb7 (j9 86 [(1,LE l),(2,.ptr 0 0),(9,.ptr 1 0),(10,J i)]) [some (.cells (m.cells++(c.cells++(d.cells++(g.cells++(h.cells++[J cold])))))),some (.cells (plC f x q true))] =jb8 m c d g h cold f x q l i:=by kernel_rfl
def jc1:Plan:=.fork (.ln 4 (.fork .all .all)) (.ln 4 (.lit .all))
noncomputable def jc2(m:Ma)(c d:Co)(g h:Gu)(cold:Int)(l:List EvT):Tree Stop:= .node (ya7 m c d g h cold) (.req (qW5 l) (.node (!qr6 l 30) (.leaf (.done (.bool true))) (.leaf (.at (v5 pP 15 0) 98 (j9 98 [(1,LE l),(2,.ptr 0 0),(9,.ptr 1 0),(10,J 0)]) [some (.cells (suC m c d g h cold)),some (.cells [J (x7 m c d g h cold).ma.x.num,J (x7 m c d g h cold).ma.x.den,J (x7 m c d g h cold).ma.x.speed,J (x7 m c d g h cold).ma.x.accel,J (x7 m c d g h cold).ma.x.jerk,J (x7 m c d g h cold).ma.x.min,J (x7 m c d g h cold).ma.x.max,J (x7 m c d g h cold).ma.y.num,J (x7 m c d g h cold).ma.y.den,J (x7 m c d g h cold).ma.y.speed,J (x7 m c d g h cold).ma.y.accel,J (x7 m c d g h cold).ma.y.jerk,J (x7 m c d g h cold).ma.y.min,J (x7 m c d g h cold).ma.y.max,J (x7 m c d g h cold).ma.z.num,J (x7 m c d g h cold).ma.z.den,J (x7 m c d g h cold).ma.z.speed,J (x7 m c d g h cold).ma.z.accel,J (x7 m c d g h cold).ma.z.jerk,J (x7 m c d g h cold).ma.z.min,J (x7 m c d g h cold).ma.z.max,J (x7 m c d g h cold).ma.e.num,J (x7 m c d g h cold).ma.e.den,J (x7 m c d g h cold).ma.e.speed,J (x7 m c d g h cold).ma.e.accel,J (x7 m c d g h cold).ma.e.jerk,J (x7 m c d g h cold).ma.e.min,J (x7 m c d g h cold).ma.e.max,.bool (x7 m c d g h cold).ma.xy,J (x7 m c d g h cold).ma.ticks,J (x7 m c d g h cold).mode,.bool (x7 m c d g h cold).homed,J (x7 m c d g h cold).pos.1,J (x7 m c d g h cold).pos.2.1,J (x7 m c d g h cold).pos.2.2.1,J (x7 m c d g h cold).pos.2.2.2,J (x7 m c d g h cold).loc.1,J (x7 m c d g h cold).loc.2.1,J (x7 m c d g h cold).loc.2.2,J (x7 m c d g h cold).e,J (x7 m c d g h cold).feed,.list t4 (x7 m c d g h cold).queue,.list (Ty.int IntKind.i64) (x7 m c d g h cold).lines,J (x7 m c d g h cold).mo.1.1.1,J (x7 m c d g h cold).mo.1.1.2.1,J (x7 m c d g h cold).mo.1.1.2.2.1,J (x7 m c d g h cold).mo.1.1.2.2.2,J (x7 m c d g h cold).mo.1.2.1,J (x7 m c d g h cold).mo.1.2.2.1,J (x7 m c d g h cold).mo.1.2.2.2.1,J (x7 m c d g h cold).mo.1.2.2.2.2,J (x7 m c d g h cold).mo.2.1,J (x7 m c d g h cold).mo.2.2,.bool (x7 m c d g h cold).moving,J (x7 m c d g h cold).active,.bool (x7 m c d g h cold).back,J (x7 m c d g h cold).ret.1,J (x7 m c d g h cold).ret.2.1,J (x7 m c d g h cold).ret.2.2.1,J (x7 m c d g h cold).ret.2.2.2,J (x7 m c d g h cold).dwell,J (x7 m c d g h cold).waits,J (x7 m c d g h cold).c0.target,J (x7 m c d g h cold).c0.kp,J (x7 m c d g h cold).c0.ki,J (x7 m c d g h cold).c0.scale,J (x7 m c d g h cold).c0.sum,J (x7 m c d g h cold).c0.limit,J (x7 m c d g h cold).c1.target,J (x7 m c d g h cold).c1.kp,J (x7 m c d g h cold).c1.ki,J (x7 m c d g h cold).c1.scale,J (x7 m c d g h cold).c1.sum,J (x7 m c d g h cold).c1.limit,J (x7 m c d g h cold).g0.low,J (x7 m c d g h cold).g0.high,J (x7 m c d g h cold).g0.watch,J (x7 m c d g h cold).g0.rise,J (x7 m c d g h cold).g0.band,J (x7 m c d g h cold).g0.base,J (x7 m c d g h cold).g0.count,J (x7 m c d g h cold).g0.idle,J (x7 m c d g h cold).g0.quiet,J (x7 m c d g h cold).g0.fault,.bool (x7 m c d g h cold).g0.door,J (x7 m c d g h cold).g1.low,J (x7 m c d g h cold).g1.high,J (x7 m c d g h cold).g1.watch,J (x7 m c d g h cold).g1.rise,J (x7 m c d g h cold).g1.band,J (x7 m c d g h cold).g1.base,J (x7 m c d g h cold).g1.count,J (x7 m c d g h cold).g1.idle,J (x7 m c d g h cold).g1.quiet,J (x7 m c d g h cold).g1.fault,.bool (x7 m c d g h cold).g1.door,J (x7 m c d g h cold).fan,J (x7 m c d g h cold).line,J (x7 m c d g h cold).ticks,J (x7 m c d g h cold).cold,J (x7 m c d g h cold).r0,J (x7 m c d g h cold).r1,.list Ty.str (flN 6).pages,J 0,.bool false,J 0,J 0,J 0,J 0,J 0,.bool true])])))) (.leaf (.done (.bool true)))
theorem xr0(m:Ma)(c d:Co)(g h:Gu)(cold:Int)(l:List EvT):w9 (Env.ofB pP (v7 [qa8,z69,z62,qg3,z32,qb5,z68,z70,qd1,z76,z75]) (d7 []) (d9 []) (d8 []) (x8 []) (x8 []) (x8 []) (x8 [])) 1000 (j8 pP 15) .unit (x9 98 [1,2,9,10]) (u9 pP 15) jc1 (u7 pP 15 [.agg (m.cells++(c.cells++(d.cells++(g.cells++(h.cells++[J cold]))))),LE l]) [] =jc2 m c d g h cold l:=by kernel_rfl
def jc4:Plan:=let z0:Plan:=.fork (.ln 31 (.lit .all)) (.ln 10 (.lit .all));.fork (.fork (.fork .all .all) (.fork (.fork (.ln 3 (.fork (.ln 4 (.fork (.ln 26 (.lit .all)) (.ln 8 (.fork (.ln 17 (.lit .all)) (.ln 8 (.fork (.ln 8 (.lit .all)) (.ln 8 (.fork .all .all)))))))) (.ln 10 (.lit .all)))) (.ln 3 z0)) (.ln 4 z0))) .all
noncomputable def jc5(m:Ma)(c d:Co)(g h:Gu)(cold:Int)(f:Fw)(x:Fl)(q:V4)(l:List EvT)(i:Int):Tree Stop:= .node (i< (↑l.length:Int)) (.req (0<=i&&i< (↑l.length:Int)) (.node ((l.getD i.toNat dEv).2.1<0) (.req (0<=i&&i< (↑l.length:Int)) (.req (qN2 f x q) (.req (inR (l.getD i.toNat dEv).1.2.2.2.1 (-9223372036854775808) 90000) (.node ((↑(actP f x q (l.getD i.toNat dEv).1.1 (l.getD i.toNat dEv).1.2.1 (opC (l.getD i.toNat dEv).1) (l.getD i.toNat dEv).1.2.2.2.1 (l.getD i.toNat dEv).1.2.2.2.2.1 (l.getD i.toNat dEv).1.2.2.2.2.2).1.lines.length:Int) !=(↑(actP f x q (l.getD i.toNat dEv).1.1 (l.getD i.toNat dEv).1.2.1 (opC (l.getD i.toNat dEv).1) (l.getD i.toNat dEv).1.2.2.2.1 (l.getD i.toNat dEv).1.2.2.2.2.1 (l.getD i.toNat dEv).1.2.2.2.2.2).1.queue.length:Int)) (.leaf (.done (.bool false))) (.leaf (.at (v5 pP 15 0) 98 (j9 98 [(1,LE l),(2,.ptr 0 0),(9,.ptr 1 0),(10,J (i64.wrap (i+1)))]) [some (.cells (suC m c d g h cold)),some (.cells (plC ((actP f x q (l.getD i.toNat dEv).1.1 (l.getD i.toNat dEv).1.2.1 (opC (l.getD i.toNat dEv).1) (l.getD i.toNat dEv).1.2.2.2.1 (l.getD i.toNat dEv).1.2.2.2.2.1 (l.getD i.toNat dEv).1.2.2.2.2.2).1) ((actP f x q (l.getD i.toNat dEv).1.1 (l.getD i.toNat dEv).1.2.1 (opC (l.getD i.toNat dEv).1) (l.getD i.toNat dEv).1.2.2.2.1 (l.getD i.toNat dEv).1.2.2.2.2.1 (l.getD i.toNat dEv).1.2.2.2.2.2).2.1) ((actP f x q (l.getD i.toNat dEv).1.1 (l.getD i.toNat dEv).1.2.1 (opC (l.getD i.toNat dEv).1) (l.getD i.toNat dEv).1.2.2.2.1 (l.getD i.toNat dEv).1.2.2.2.2.1 (l.getD i.toNat dEv).1.2.2.2.2.2).2.2) true))])))))) (.req (o6 x) (.req (o6 (b7 x 9 0)) (.req (o6 (b8 f (b7 x 9 0))) (.node (ya7 m c d g h cold) (.req (o6 (flPow (b8 f (b7 x 9 0)))) (.req (shF (x7 m c d g h cold)) (.node (rvE (x7 m c d g h cold) (flPow (b8 f (b7 x 9 0)))=0) (.node (f.homed) (.node (!(rvF (x7 m c d g h cold) (flPow (b8 f (b7 x 9 0)))).homed) (.leaf (.done (.bool false))) (.node (!((rvF (x7 m c d g h cold) (flPow (b8 f (b7 x 9 0)))).pos.1==f.pos.1&& ((rvF (x7 m c d g h cold) (flPow (b8 f (b7 x 9 0)))).pos.2.1==f.pos.2.1&& ((rvF (x7 m c d g h cold) (flPow (b8 f (b7 x 9 0)))).pos.2.2.1==f.pos.2.2.1&& ((rvF (x7 m c d g h cold) (flPow (b8 f (b7 x 9 0)))).pos.2.2.2==f.pos.2.2.2&&true))))) (.leaf (.done (.bool false))) (.req (qX5 f) (.node (!((qz4 (rvF (x7 m c d g h cold) (flPow (b8 f (b7 x 9 0))))).1==(qz3 f).1&& ((qz4 (rvF (x7 m c d g h cold) (flPow (b8 f (b7 x 9 0))))).2.1==(qz3 f).2.1&& ((qz4 (rvF (x7 m c d g h cold) (flPow (b8 f (b7 x 9 0))))).2.2.1==(qz3 f).2.2.1&& ((qz4 (rvF (x7 m c d g h cold) (flPow (b8 f (b7 x 9 0))))).2.2.2==(qz3 f).2.2.2&&true))))) (.leaf (.done (.bool false))) (.node ((rvF (x7 m c d g h cold) (flPow (b8 f (b7 x 9 0)))).line>f.line) (.leaf (.done (.bool false))) (.leaf (.at (v5 pP 15 0) 98 (j9 98 [(1,LE l),(2,.ptr 0 0),(9,.ptr 1 0),(10,J (i64.wrap (i+1)))]) [some (.cells (suC m c d g h cold)),some (.cells (plC (rvF (x7 m c d g h cold) (flPow (b8 f (b7 x 9 0)))) (flPow (b8 f (b7 x 9 0))) q true))]))))))) (.leaf (.at (v5 pP 15 0) 98 (j9 98 [(1,LE l),(2,.ptr 0 0),(9,.ptr 1 0),(10,J (i64.wrap (i+1)))]) [some (.cells (suC m c d g h cold)),some (.cells (plC (rvF (x7 m c d g h cold) (flPow (b8 f (b7 x 9 0)))) (flPow (b8 f (b7 x 9 0))) q true))]))) (.node (f.homed) (.leaf (.done (.bool false))) (.leaf (.at (v5 pP 15 0) 98 (j9 98 [(1,LE l),(2,.ptr 0 0),(9,.ptr 1 0),(10,J (i64.wrap (i+1)))]) [some (.cells (suC m c d g h cold)),some (.cells [J 0,J 0,J 0,J 0,J 0,J 0,J 0,J 0,J 0,J 0,J 0,J 0,J 0,J 0,J 0,J 0,J 0,J 0,J 0,J 0,J 0,J 0,J 0,J 0,J 0,J 0,J 0,J 0,.bool false,J 0,J 0,.bool false,J 0,J 0,J 0,J 0,J 0,J 0,J 0,J 0,J 0,.list t4 fw0.queue,.list (Ty.int IntKind.i64) fw0.lines,J 0,J 0,J 0,J 0,J 0,J 0,J 0,J 0,J 0,J 0,.bool false,J 0,.bool false,J 0,J 0,J 0,J 0,J 0,J 0,J 0,J 0,J 0,J 0,J 0,J 0,J 0,J 0,J 0,J 0,J 0,J 0,J 0,J 0,J 0,J 0,J 0,J 0,J 0,J 0,J 0,J 0,.bool false,J 0,J 0,J 0,J 0,J 0,J 0,J 0,J 0,J 0,J 0,.bool false,J 0,J 0,J 0,J 0,J 0,J 0,.list Ty.str (flPow (b8 f (b7 x 9 0))).pages,J (flPow (b8 f (b7 x 9 0))).fuse,.bool (flPow (b8 f (b7 x 9 0))).dead,J (flPow (b8 f (b7 x 9 0))).keep,J q.1,J q.2.1,J q.2.2.1,J q.2.2.2,.bool (rvE (x7 m c d g h cold) (flPow (b8 f (b7 x 9 0)))==0)])])))))) (.req (o6 (flPow (b8 f (b7 x 9 0)))) (.req true (.node (f.homed) (.leaf (.done (.bool false))) (.leaf (.at (v5 pP 15 0) 98 (j9 98 [(1,LE l),(2,.ptr 0 0),(9,.ptr 1 0),(10,J (i64.wrap (i+1)))]) [some (.cells (suC m c d g h cold)),some (.cells [J 0,J 0,J 0,J 0,J 0,J 0,J 0,J 0,J 0,J 0,J 0,J 0,J 0,J 0,J 0,J 0,J 0,J 0,J 0,J 0,J 0,J 0,J 0,J 0,J 0,J 0,J 0,J 0,.bool false,J 0,J 0,.bool false,J 0,J 0,J 0,J 0,J 0,J 0,J 0,J 0,J 0,.list t4 fw0.queue,.list (Ty.int IntKind.i64) fw0.lines,J 0,J 0,J 0,J 0,J 0,J 0,J 0,J 0,J 0,J 0,.bool false,J 0,.bool false,J 0,J 0,J 0,J 0,J 0,J 0,J 0,J 0,J 0,J 0,J 0,J 0,J 0,J 0,J 0,J 0,J 0,J 0,J 0,J 0,J 0,J 0,J 0,J 0,J 0,J 0,J 0,J 0,.bool false,J 0,J 0,J 0,J 0,J 0,J 0,J 0,J 0,J 0,J 0,.bool false,J 0,J 0,J 0,J 0,J 0,J 0,.list Ty.str (flPow (b8 f (b7 x 9 0))).pages,J (flPow (b8 f (b7 x 9 0))).fuse,.bool (flPow (b8 f (b7 x 9 0))).dead,J (flPow (b8 f (b7 x 9 0))).keep,J q.1,J q.2.1,J q.2.2.1,J q.2.2.2,.bool (rvE fw0 (flPow (b8 f (b7 x 9 0)))==0)])]))))))))))) (.leaf (.done (.bool true)))
theorem xr1(m:Ma)(c d:Co)(g h:Gu)(cold:Int)(f:Fw)(x:Fl)(q:V4)(l:List EvT)(i:Int):w9 (Env.ofB pP (v7 [qa8,z69,z62,qg3,z32,qb5,z68,z70,qd1,z76,z75]) (d7 []) (d9 []) (d8 []) (x8 []) (x8 []) (x8 []) (x8 [])) 1000 (j8 pP 15) .unit (x9 98 [1,2,9,10]) (v5 pP 15 0) jc4 (j9 98 [(1,LE l),(2,.ptr 0 0),(9,.ptr 1 0),(10,J i)]) [some (.cells (m.cells++(c.cells++(d.cells++(g.cells++(h.cells++[J cold])))))),some (.cells (plC f x q true))] =jc5 m c d g h cold f x q l i:=by kernel_rfl
theorem kXE:Known pP (Env.ofB pP (v7 [qa8,z69,z62,qg3,z32,qb5,z68,z70,qd1,qf9]) (d7 []) (d9 []) (d8 []) (x8 []) (x8 []) (x8 []) (x8 [])):=
 hB (l:=[qa8,z69,z62,qg3,z32,qb5,z68,z70,qd1,qf9]) (k:=[]) (j:=[]) (i:=[]) [] [] [] [] ⟨yq0,ym2,yl5,yw8,yh8,yr0,ym1,ym3,ys7,yv8,trivial⟩ o4 o4 o4
theorem kXR:Known pP (Env.ofB pP (v7 [qa8,z69,z62,qg3,z32,qb5,z68,z70,qd1,z76,z75]) (d7 []) (d9 []) (d8 []) (x8 []) (x8 []) (x8 []) (x8 [])):=
 hB (l:=[qa8,z69,z62,qg3,z32,qb5,z68,z70,qd1,z76,z75]) (k:=[]) (j:=[]) (i:=[]) [] [] [] [] ⟨yq0,ym2,yl5,yw8,yh8,yr0,ym1,ym3,ys7,ym9,ym8,trivial⟩ o4 o4 o4
section
variable {m:Ma} {c d:Co} {g h:Gu} {cold:Int} {l:List EvT}
theorem yb3(k:ya7 m c d g h cold=true):Inv (x7 m c d g h cold) (flN 6) z4 0 none:=
 ⟨yb4 k,qR4,rfl,λq=>(Bool.false_ne_true q).elim,ya3,λr q=>(by cases q),λq=>(Bool.false_ne_true q).elim,.empty rfl rfl⟩
theorem zU4{f:Fw}{x:Fl}{q:V4}{L:Int}{last:Option Rc}(k:ya7 m c d g h cold=true)(a b:Int)(iv:Inv f x q L last)(hL:L+1<=1000000):rvE (x7 m c d g h cold) (zU2 f x a b)=0/\∃L' last',L'<=L+1/\Inv (rvF (x7 m c d g h cold) (zU2 f x a b)) (zU2 f x a b) q L' last':=by
 obtain⟨L',last',h1,j,fu,rc⟩:=qN5 a b iv hL;obtain⟨e,i⟩:=qN9 (f:=x7 m c d g h cold) (yb4 k) rfl rfl (by show ¬(1:Int)=3;decide) iv.nr j fu rc;exact⟨e,L',last',h1,i⟩
theorem zU3{f:Fw}{x:Fl}{q:V4}{L:Int}{last:Option Rc}(k:ya7 m c d g h cold=true)(iv:Inv f x q L last)(hL:L+1<=1000000)(hh:f.homed=true):
  (rvF (x7 m c d g h cold) (zU2 f x 9 0)).homed=true/\(rvF (x7 m c d g h cold) (zU2 f x 9 0)).pos=f.pos/\qz4 (rvF (x7 m c d g h cold) (zU2 f x 9 0))=qz3 f/\(rvF (x7 m c d g h cold) (zU2 f x 9 0)).line<=f.line:=by
 obtain⟨l1,j⟩:=qN6 iv hL hh;obtain⟨rr,_,k1,ll,e3,ed⟩:=qp3 iv.v iv.wy;have lo:=qU2 j
 have e:rvF (x7 m c d g h cold) (zU2 f x 9 0)=rgF (x7 m c d g h cold) (yb5 l1 (qo4 f)):=by unfold rvF;rw[lo]
 obtain⟨_,a2,_,_,_,a6⟩:=yZ1 (f:=x7 m c d g h cold) (yb4 k) rfl rfl (by show ¬(1:Int)=3;decide) (rr.next l1);obtain⟨b1,b2,b3,b4⟩:=a6 k1;rw[e];refine⟨b1,b2.trans (rr.real k1),?_,by rw[b3];exact ll⟩;rw[qz6 a2,b4];have gd:qz3 f=(qo4 f).dst:=ed.symm;rw[gd];show((qo4 f).dst.1,(qo4 f).dst.2.1,(qo4 f).dst.2.2.1,if(qo4 f).kind=3 then(qo4 f).src.2.2.2 else(qo4 f).dst.2.2.2)=(qo4 f).dst
 split;.rename_i q;rw[<-e3 q]
 .rfl
abbrev X1(m:Ma)(c d:Co)(g h:Gu)(cold:Int)(l:List EvT)(f:Fw)(x:Fl)(q:V4)(i:Int):Prop:=b9 pP (j8 pP 13) (.bool true) (v5 pP 13 0) (j9 86 [(1,LE l),(2,.ptr 0 0),(9,.ptr 1 0),(10,J i)]) [some (.cells (m.cells++(c.cells++(d.cells++(g.cells++(h.cells++[J cold])))))),some (.cells (plC f x q true))]
theorem qr8{mx:Int}(hs:qr6 l mx=true){i:Nat}(hi:i<l.length):(l.getD i dEv).1.2.2.2.1<=40:=(qr7.1 hs).1 i hi
theorem jb6(k0:ya7 m c d g h cold=true)(hs:qr6 l 30=true)(hf:∀y∈l,xV8.fits y):∀ (k i:Nat) (f:Fw) (x:Fl) (q:V4) (L:Int) (last:Option Rc),Inv f x q L last->L<=50*i->i+k=l.length->X1 m c d g h cold l f x q i
 |0,i,f,x,q,L,last,iv,hL,hi=>by
  refine w6 kXE (n:=1000) (hint:=.unit) (keep:=x9 86 [1,2,9,10]) (p:=jb7) rfl ?_;erw [xe1 m c d g h cold f x q l i];unfold jb8
  exact o5 (λa=>absurd a (by omega)) λ_=>rfl
 |k+1,i,f,x,q,L,last,iv,hL,hi=>by
  refine w6 kXE (n:=1000) (hint:=.unit) (keep:=x9 86 [1,2,9,10]) (p:=jb7) rfl ?_;erw [xe1 m c d g h cold f x q l i];unfold jb8;have ln:=(qr7.1 hs).2
  have t0:(i:Int).toNat=i:=by omega
  have w1:i64.wrap ((i:Int)+1)=((i+1:Nat):Int):=by rw[w64 (by omega) (by omega)];omega
  have n40:(l.getD i dEv).1.2.2.2.1<=40:=qr8 hs (by omega)
  have ff:xV8.fits (l.getD i dEv):=hf _ (by
   rw[List.getD_eq_getElem?_getD,List.getElem?_eq_getElem (by omega)];exact List.getElem_mem _)
  have nr:inR (l.getD i dEv).1.2.2.2.1 (-9223372036854775808) 90000=true:=v8.2 (by have:=x67 ff.1.2.2.2.1;omega)
  have bd:(0<=(i:Int)&&(i:Int)< (l.length:Int))=true:=by rw[decide_eq_true (by omega),decide_eq_true (by omega)];rfl
  have vb:qN2 f x q=true:=qN3.2 ⟨L,last,by omega,iv⟩
  have nx:∀ (f:Fw) (x:Fl) (q:V4) (L':Int) (last':Option Rc),Inv f x q L' last'->L'<=L+42->X1 m c d g h cold l f x q (i64.wrap ((i:Int)+1)):=λf x q L' last' iv hl=>by rw[w1];exact jb6 k0 hs hf k (i+1) f x q L' last' iv (by omega) (by omega)
  rw[t0];generalize l.getD i dEv=ev at ff n40 nr ⊢;have fx:=qR3 iv.j;have f1:=qt5 (n:=ev.2.1) (k:=ev.2.2) fx;have f2:=qo6 (f:=f) f1;have f3:=qt6 f2;have vn:=yb4 k0;obtain⟨LA,lastA,hA,iA⟩:=zi2 (kd:=ev.1.1) (nb:=ev.1.2.1) (c:=opC ev.1) (r:=ev.1.2.2.2.2.1) (s:=ev.1.2.2.2.2.2) iv (by omega) n40;obtain⟨eU,LU,lastU,hU,iU⟩:=zU4 k0 ev.2.1 ev.2.2 iv (by omega);have gA:=nx _ _ _ _ _ iA hA;have gU:=nx _ _ _ _ _ iU (by omega);unfold zU2 at eU iU gU
  refine o5 (λa=>x6 bd (o5 (λ_=>x6 bd (x6 vb (x6 nr ?_))) λ_=>x6 bd (x6 bd (x6 fx (x6 f1 (x6 f2 (q97 k0 (x6 f3 (x6 (xy8 vn) (o5 (λ_=>?_) λe=>absurd eU e)))))))))) λa=>absurd (by omega) a
  .generalize actP f x q ev.1.1 ev.1.2.1 (opC ev.1) ev.1.2.2.2.1 ev.1.2.2.2.2.1 ev.1.2.2.2.2.2=A at iA gA ⊢
   exact f4 (λhh=>f9 (λz=>absurd (xZ1 (iA.hp hh)) (by rw[z];exact Bool.false_ne_true)) λ_=>f9 (λz=>by rw[iA.v]at z;cases z) λ_=>⟨o9 _ _,gA⟩) λ_=>f9 (λz=>by rw[iA.v]at z;cases z) λ_=>⟨o9 _ _,gA⟩
  .generalize flPow (b8 f (b7 x ev.2.1 ev.2.2))=LL at iU gU ⊢
   exact f4 (λhh=>f9 (λz=>absurd (xZ1 (iU.hp hh)) (by rw[z];exact Bool.false_ne_true)) λ_=>f9 (λz=>by rw[iU.v]at z;cases z) λ_=>⟨o9 _ _,gU⟩) λ_=>f9 (λz=>by rw[iU.v]at z;cases z) λ_=>⟨o9 _ _,gU⟩
theorem s_lawPExact(m:Ma)(c d:Co)(g h:Gu)(cold:Int)(l:List EvT)(hl:l.length<=maxLen)(hf:∀x∈l,xV8.fits x):SCall pP 13 [.agg (m.cells++(c.cells++(d.cells++(g.cells++(h.cells++[J cold]))))),LE l] (.bool true):=by
 refine m6 rfl rfl (by kernel_rfl) (w6 kXE (n:=1000) (hint:=.unit) (keep:=x9 86 [1,2,9,10]) (p:=jb4) (boxes:=[]) rfl ?_);have q:=xe0 m c d g h cold l;unfold u7 u9 at q;erw [q];unfold jb5
 exact f4 (λk=>x6 (qW6.2 hl) (f9 (λ_=>rfl) λs=>⟨o9 _ _,jb6 k s hf l.length 0 _ (flN 6) z4 0 none (yb3 k) (by omega) (by omega)⟩)) λ_=>rfl
abbrev Y1(m:Ma)(c d:Co)(g h:Gu)(cold:Int)(l:List EvT)(f:Fw)(x:Fl)(q:V4)(i:Int):Prop:=b9 pP (j8 pP 15) (.bool true) (v5 pP 15 0) (j9 98 [(1,LE l),(2,.ptr 0 0),(9,.ptr 1 0),(10,J i)]) [some (.cells (m.cells++(c.cells++(d.cells++(g.cells++(h.cells++[J cold])))))),some (.cells (plC f x q true))]
theorem jc3(k0:ya7 m c d g h cold=true)(hs:qr6 l 30=true)(hf:∀y∈l,xV8.fits y):∀ (k i:Nat) (f:Fw) (x:Fl) (q:V4) (L:Int) (last:Option Rc),Inv f x q L last->L<=50*i->i+k=l.length->Y1 m c d g h cold l f x q i
 |0,i,f,x,q,L,last,iv,hL,hi=>by
  refine w6 kXR (n:=1000) (hint:=.unit) (keep:=x9 98 [1,2,9,10]) (p:=jc4) rfl ?_;erw [xr1 m c d g h cold f x q l i];unfold jc5
  exact o5 (λa=>absurd a (by omega)) λ_=>rfl
 |k+1,i,f,x,q,L,last,iv,hL,hi=>by
  refine w6 kXR (n:=1000) (hint:=.unit) (keep:=x9 98 [1,2,9,10]) (p:=jc4) rfl ?_;erw [xr1 m c d g h cold f x q l i];unfold jc5;have ln:=(qr7.1 hs).2
  have t0:(i:Int).toNat=i:=by omega
  have w1:i64.wrap ((i:Int)+1)=((i+1:Nat):Int):=by rw[w64 (by omega) (by omega)];omega
  have n40:(l.getD i dEv).1.2.2.2.1<=40:=qr8 hs (by omega)
  have ff:xV8.fits (l.getD i dEv):=hf _ (by
   rw[List.getD_eq_getElem?_getD,List.getElem?_eq_getElem (by omega)];exact List.getElem_mem _)
  have nr:inR (l.getD i dEv).1.2.2.2.1 (-9223372036854775808) 90000=true:=v8.2 (by have:=x67 ff.1.2.2.2.1;omega)
  have bd:(0<=(i:Int)&&(i:Int)< (l.length:Int))=true:=by rw[decide_eq_true (by omega),decide_eq_true (by omega)];rfl
  have vb:qN2 f x q=true:=qN3.2 ⟨L,last,by omega,iv⟩
  have nx:∀ (f:Fw) (x:Fl) (q:V4) (L':Int) (last':Option Rc),Inv f x q L' last'->L'<=L+42->Y1 m c d g h cold l f x q (i64.wrap ((i:Int)+1)):=λf x q L' last' iv hl=>by rw[w1];exact jc3 k0 hs hf k (i+1) f x q L' last' iv (by omega) (by omega)
  rw[t0];generalize l.getD i dEv=ev at ff n40 nr ⊢;have fx:=qR3 iv.j;have f1:=qt5 (n:=9) (k:=0) fx;have f2:=qo6 (f:=f) f1;have f3:=qt6 f2;have vn:=yb4 k0;obtain⟨LA,lastA,hA,iA⟩:=zi2 (kd:=ev.1.1) (nb:=ev.1.2.1) (c:=opC ev.1) (r:=ev.1.2.2.2.2.1) (s:=ev.1.2.2.2.2.2) iv (by omega) n40;obtain⟨eU,LU,lastU,hU,iU⟩:=zU4 k0 9 0 iv (by omega);have kp:=zU3 k0 iv (by omega);have gA:=nx _ _ _ _ _ iA hA;have gU:=nx _ _ _ _ _ iU (by omega);unfold zU2 at eU iU gU kp
  refine o5 (λa=>x6 bd (o5 (λ_=>x6 bd (x6 vb (x6 nr ?_))) λ_=>x6 fx (x6 f1 (x6 f2 (q97 k0 (x6 f3 (x6 (xy8 vn) (o5 (λ_=>?_) λe=>absurd eU e)))))))) λa=>absurd (by omega) a
  .generalize actP f x q ev.1.1 ev.1.2.1 (opC ev.1) ev.1.2.2.2.1 ev.1.2.2.2.2.1 ev.1.2.2.2.2.2=A at iA gA ⊢
   exact q96 (λz=>absurd (by rw[(t9 iA.v).lens]) z) λ_=>⟨o9 _ _,gA⟩
  .generalize flPow (b8 f (b7 x 9 0))=LL at iU gU kp ⊢
   refine f4 (λhh=>?_) λ_=>⟨o9 _ _,gU⟩
   obtain⟨p1,p2,p3,p4⟩:=kp hh
   exact f9 (λz=>by rw[p1]at z;cases z) λ_=>f9 (λz=>absurd (xZ1 p2) (by rw[z];exact Bool.false_ne_true)) λ_=>x6 (qX6.2 (t9 iv.v).lens) (f9 (λz=>absurd (xZ1 p3) (by rw[z];exact Bool.false_ne_true)) λ_=>o5 (λz=>absurd p4 (by omega)) λ_=>⟨o9 _ _,gU⟩)
theorem s_lawPResumes(m:Ma)(c d:Co)(g h:Gu)(cold:Int)(l:List EvT)(hl:l.length<=maxLen)(hf:∀x∈l,xV8.fits x):SCall pP 15 [.agg (m.cells++(c.cells++(d.cells++(g.cells++(h.cells++[J cold]))))),LE l] (.bool true):=by
 refine m6 rfl rfl (by kernel_rfl) (w6 kXR (n:=1000) (hint:=.unit) (keep:=x9 98 [1,2,9,10]) (p:=jc1) (boxes:=[]) rfl ?_);have q:=xr0 m c d g h cold l;unfold u7 u9 at q;erw [q];unfold jc2
 exact f4 (λk=>x6 (qW6.2 hl) (f9 (λ_=>rfl) λs=>⟨o9 _ _,jc3 k s hf l.length 0 _ (flN 6) z4 0 none (yb3 k) (by omega) (by omega)⟩)) λ_=>rfl
end
end Go.Proofs.YtnkaepnblikcdaaGreat
