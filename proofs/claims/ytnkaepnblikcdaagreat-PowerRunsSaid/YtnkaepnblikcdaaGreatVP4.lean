/-
  Evaluator, contracts, plain law.
-/
import Derived.Test.YtnkaepnblikcdaaGreatVP3
set_option maxRecDepth 100000
set_option linter.unusedVariables false
set_option linter.defProp false
set_option linter.unusedSimpArgs false
open Go.IntKind (i64 u64 u8)
namespace Go.Proofs.YtnkaepnblikcdaaGreat
open Go.Sx
def x09(n:Int)(hn:az n (-4611686018427387904) 4611686018427387904=true):SCall pP 295 [J n] (J (sz n)):=
 aY aL [] trivial 1000 (.all)
  (t:=.ai (SV.int i64 (if i64.wrap (0-n)>n then i64.wrap (0-n)else n)))
  (by kernel_rfl) (by
   rw[v5]at hn
   have e:i64.wrap (0-n)= -n:=by rw[aG (by omega) (by omega)];omega
   simp only[ak.holds,sM];(repeat' (first|apply aX|intro _));all_goals((try simp only[e]);refine mJ ?_;unfold sz;(repeat' split)<;>omega)) (by kernel_rfl)
def yM5:(nK 295).ok pP:=rq λn h=>x09 n h
def ZO:ax:=.all
def rg0(l:List Bk)(aw:List Int)(e:Int):o8 (Env.of pP (j9 [tW])) 1000 (x9 pP 264) .unit (x6 85 [0,1,2,7,8,9,10,11]) (v7 pP 264) ZO (v6 pP 264 [LB l,LI aw,J e]) [] =(.ai (.at (x8 pP 264 0) 85 (x7 85 [(0,.list w9 l),(1,.list (Ty.int i64) aw),(2,.int .i64 e),(7,.int .i64 (↑l.length:Int)),(8,SV.arr 0 0 1),(9,.int .i64 1),(10,SV.undef),(11,SV.undef)]) [some (.cells [.int .i64 e])])):=by kernel_rfl
def ZL:ax:=.ah pA pA
def xt2(l:List Bk)(aw:List Int)(e n:Int)(i:Int):o8 (Env.of pP (j9 [tW])) 1000 (x9 pP 264) .unit (x6 85 [0,1,2,7,8,9,10,11]) (x8 pP 264 0) ZL (x7 85 [(0,LB l),(1,LI aw),(2,J e),(7,J n),(8,.arr 0 0 1),(9,J i),(10,.undef),(11,.undef)]) [some (.cells [J e])] =(let y0:=l.getD (i64.wrap (i-1)).toNat aM;let y1:=l.getD i.toNat aM;let y2:=Ty.int i64; .ag (i<n) (.aj (0<=i&&i< (↑aw.length:Int)) (.aj (0<=i64.wrap (i-1)&&i64.wrap (i-1)< (↑l.length:Int)) (.aj (0<=i&&i< (↑l.length:Int)) (.aj (([e].length+ [if y1.2.2.2.1<if y0.2.2.2.1<aw.getD i.toNat 0 then y0.2.2.2.1 else aw.getD i.toNat 0 then y1.2.2.2.1 else if y0.2.2.2.1<aw.getD i.toNat 0 then y0.2.2.2.1 else aw.getD i.toNat 0].length)*8<=140737488355328) (.ai (.at (x8 pP 264 0) 85 (x7 85 [(0,.list w9 l),(1,.list y2 aw),(2,.int .i64 e),(7,.int .i64 n),(8,SV.row 0),(9,.int .i64 (i64.wrap (i+1))),(10,SV.undef),(11,SV.undef)]) [some (.rows y2 ([e] ++[if y1.2.2.2.1<if y0.2.2.2.1<aw.getD i.toNat 0 then y0.2.2.2.1 else aw.getD i.toNat 0 then y1.2.2.2.1 else if y0.2.2.2.1<aw.getD i.toNat 0 then y0.2.2.2.1 else aw.getD i.toNat 0]))])))))) (.aj (([e].length+1)*8<=140737488355328) (.ai (.at (x8 pP 264 1) 85 (x7 85 [(0,.list w9 l),(1,.list y2 aw),(2,.int .i64 e),(7,.int .i64 n),(8,SV.row 0),(9,.int .i64 i),(10,.bool true),(11,SV.undef)]) [some (.rows y2 ([e] ++[0]))])))):=by kernel_rfl
def Qg:ax:=.ah (.all) (.all)
def rg1(l:List Bk)(aw:List Int)(e n:Int)(s:List Int)(i:Int):o8 (Env.of pP (j9 [tW])) 1000 (x9 pP 264) .unit (x6 85 [0,1,2,7,8,9,10,11]) (x8 pP 264 0) Qg (x7 85 [(0,LB l),(1,LI aw),(2,J e),(7,J n),(8,.row 0),(9,J i),(10,.undef),(11,.undef)]) [some (.rows (.int .i64) s)] =(let y0:=l.getD (i64.wrap (i-1)).toNat aM;let y1:=l.getD i.toNat aM;let y2:=Ty.int i64; .ag (i<n) (.aj (0<=i&&i< (↑aw.length:Int)) (.aj (0<=i64.wrap (i-1)&&i64.wrap (i-1)< (↑l.length:Int)) (.aj (0<=i&&i< (↑l.length:Int)) (.aj ((s.length+ [if y1.2.2.2.1<if y0.2.2.2.1<aw.getD i.toNat 0 then y0.2.2.2.1 else aw.getD i.toNat 0 then y1.2.2.2.1 else if y0.2.2.2.1<aw.getD i.toNat 0 then y0.2.2.2.1 else aw.getD i.toNat 0].length)*8<=140737488355328) (.ai (.at (x8 pP 264 0) 85 (x7 85 [(0,.list w9 l),(1,.list y2 aw),(2,.int .i64 e),(7,.int .i64 n),(8,SV.row 0),(9,.int .i64 (i64.wrap (i+1))),(10,SV.undef),(11,SV.undef)]) [some (.rows y2 (s++[if y1.2.2.2.1<if y0.2.2.2.1<aw.getD i.toNat 0 then y0.2.2.2.1 else aw.getD i.toNat 0 then y1.2.2.2.1 else if y0.2.2.2.1<aw.getD i.toNat 0 then y0.2.2.2.1 else aw.getD i.toNat 0]))])))))) (.aj ((s.length+1)*8<=140737488355328) (.ai (.at (x8 pP 264 1) 85 (x7 85 [(0,.list w9 l),(1,.list y2 aw),(2,.int .i64 e),(7,.int .i64 n),(8,SV.row 0),(9,.int .i64 i),(10,.bool true),(11,SV.undef)]) [some (.rows y2 (s++[0]))])))):=by kernel_rfl
def ZI:ax:=.ah (.all) (.all)
def xt9(l:List Bk)(aw:List Int)(e n:Int)(s:List Int)(i:Int)(b:Bool):o8 (Env.of pP (j9 [tW])) 1000 (x9 pP 264) .unit (x6 85 [0,1,2,7,8,9,10,11]) (x8 pP 264 1) ZI (x7 85 [(0,LB l),(1,LI aw),(2,J e),(7,J n),(8,.row 0),(9,J i),(10,.bool b),(11,.undef)]) [some (.rows (.int .i64) s)] =(.ag (b) (.ai (.at (x8 pP 264 2) 85 (x7 85 [(0,.list w9 l),(1,.list (Ty.int i64) aw),(2,.int .i64 e),(7,.int .i64 n),(8,SV.row 0),(9,.int .i64 i),(10,.bool false),(11,.int .i64 1)]) [some (.rows (Ty.int i64) s)])) (.ai (.done (.list (Ty.int i64) s)))):=by kernel_rfl
def Qf:ax:=.ah (.all) (.all)
def rg2(l:List Bk)(aw:List Int)(e n:Int)(s:List Int)(i j:Int)(b:Bool):o8 (Env.of pP (j9 [tW])) 1000 (x9 pP 264) .unit (x6 85 [0,1,2,7,8,9,10,11]) (x8 pP 264 1) Qf (x7 85 [(0,LB l),(1,LI aw),(2,J e),(7,J n),(8,.row 0),(9,J i),(10,.bool b),(11,J j)]) [some (.rows (.int .i64) s)] =(.ag (b) (.ai (.at (x8 pP 264 2) 85 (x7 85 [(0,.list w9 l),(1,.list (Ty.int i64) aw),(2,.int .i64 e),(7,.int .i64 n),(8,SV.row 0),(9,.int .i64 i),(10,.bool false),(11,.int .i64 1)]) [some (.rows (Ty.int i64) s)])) (.ai (.done (.list (Ty.int i64) s)))):=by kernel_rfl
def Qe:ax:=.ah (.ah (.all) (.all)) (.all)
def rg3(l:List Bk)(aw:List Int)(e n:Int)(s:List Int)(i j:Int)(b:Bool):o8 (Env.of pP (j9 [tW])) 1000 (x9 pP 264) .unit (x6 85 [0,1,2,7,8,9,10,11]) (x8 pP 264 2) Qe (x7 85 [(0,LB l),(1,LI aw),(2,J e),(7,J n),(8,.row 0),(9,J i),(10,.bool b),(11,J j)]) [some (.rows (.int .i64) s)] =(let y2:=Ty.int i64;let y3:=i64.wrap (j-1);let y0:=s.getD y3.toNat 0+iV (l.getD y3.toNat aM);let y4:=i64.wrap (j+1);let y1:=s.getD y4.toNat 0+iV (l.getD j.toNat aM); .ag (j<n) (.aj (0<=i64.wrap (j-1)&&i64.wrap (j-1)< (↑s.length:Int)) (.aj (y3.toNat<s.length) (.aj (0<=i64.wrap (j-1)&&i64.wrap (j-1)< (↑l.length:Int)) (.aj (n7 (l.getD y3.toNat aM)) (.aj (0<=i64.wrap (j+1)&&i64.wrap (j+1)< (↑s.length:Int)) (.aj (y4.toNat<s.length) (.aj (0<=j&&j< (↑l.length:Int)) (.aj (n7 (l.getD j.toNat aM)) (.aj (0<=j&&j< (↑s.length:Int)) (.aj (j.toNat<s.length) (.ag (s.getD j.toNat 0>if i64.wrap y1<i64.wrap y0 then i64.wrap y1 else i64.wrap y0) (.aj (0<=j&&j< (↑s.length:Int)) (.aj (j.toNat<s.length) (.ai (.at (x8 pP 264 2) 85 (x7 85 [(0,.list w9 l),(1,.list y2 aw),(2,.int .i64 e),(7,.int .i64 n),(8,SV.row 0),(9,.int .i64 i),(10,.bool true),(11,.int .i64 y4)]) [some (.rows y2 (s.set j.toNat (if i64.wrap y1<i64.wrap y0 then i64.wrap y1 else i64.wrap y0)))])))) (.ai (.at (x8 pP 264 2) 85 (x7 85 [(0,.list w9 l),(1,.list y2 aw),(2,.int .i64 e),(7,.int .i64 n),(8,SV.row 0),(9,.int .i64 i),(10,.bool b),(11,.int .i64 y4)]) [some (.rows y2 s)]))))))))))))) (.ai (.at (x8 pP 264 1) 85 (x7 85 [(0,.list w9 l),(1,.list y2 aw),(2,.int .i64 e),(7,.int .i64 n),(8,SV.row 0),(9,.int .i64 i),(10,.bool b),(11,.int .i64 j)]) [some (.rows y2 s)]))):=by kernel_rfl
def Z7:ax:=.ah (.ln 5 pA) (.ln 5 (.ah .all .all))
def rc0(l:List Bk)(aw:List Int)(e:Int)(s:List Int):o8 (Env.of pP (j9 [tW,nK 295])) 1000 (x9 pP 265) .unit (x6 111 [0,1,2,3,9,10]) (v7 pP 265) Z7 (v6 pP 265 [LB l,LI aw,J e,LI s]) [] =(.aj (0< (↑s.length:Int)) (.ag (s.getD 0 0 != e) (.ai (.done (.bool false))) (.aj (0<=(↑l.length:Int)&&(↑l.length:Int)< (↑s.length:Int)) (.ag (s.getD (↑l.length:Int).toNat 0 != 0) (.ai (.done (.bool false))) (.ai (.at (x8 pP 265 0) 111 (x7 111 [(0,.list w9 l),(1,.list (Ty.int i64) aw),(2,.int .i64 e),(3,.list (Ty.int i64) s),(9,.int .i64 (↑l.length:Int)),(10,.int .i64 0)]) [])))))):=by kernel_rfl
def F2:ax:=let z1:ax:=.ah (.ln 17 (.ah .all .all)) (.ln 17 pA);let z0:ax:=.ah (.ln 5 (.ah (.ln 11 (.ah .all z1)) (.ln 12 z1))) (.ln 18 z1);let z2:ax:=.ah (.ln 13 (.ah (.ln 6 pA) (.ar (.ar z0)))) (.ln 16 z0);.ah (.ah (.ln 17 pA) (.ln 3 (.ah (.ln 12 (.ah (.ln 11 pA) (.ar (.ar z2)))) (.ln 15 z2)))) .all
def KE(l:List Bk)(aw:List Int)(e:Int)(s:List Int)(n i:Int):o8 (Env.of pP (j9 [tW,nK 295])) 1000 (x9 pP 265) .unit (x6 111 [0,1,2,3,9,10]) (x8 pP 265 0) F2 (x7 111 [(0,LB l),(1,LI aw),(2,J e),(3,LI s),(9,J n),(10,J i)]) [] =(let y3:ak Stop:=.ai (.at (x8 pP 265 0) 111 (x7 111 [(0,.list w9 l),(1,.list (Ty.int i64) aw),(2,.int .i64 e),(3,.list (Ty.int i64) s),(9,.int .i64 n),(10,.int .i64 (i64.wrap (i+1)))]) []);let y4:=0<=i&&i< (↑s.length:Int);let y5:ak Stop:=.ai (.done (.bool false));let y6:=i64.wrap (s.getD (i64.wrap (i+1)).toNat 0-s.getD i.toNat 0);let y0:ak Stop:=.ag (i<n) (.aj (0<=i64.wrap (i+1)&&i64.wrap (i+1)< (↑s.length:Int)) (.aj y4 (.aj (az y6 (-4611686018427387904) 4611686018427387904) (.aj (0<=i&&i< (↑l.length:Int)) (.aj (n7 (l.getD i.toNat aM)) (.ag (sz y6>iV (l.getD i.toNat aM)) y5 y3)))))) y3;let y2:ak Stop:=.ag (i>0) (.ag (i<n) (.aj y4 (.aj (0<=i&&i< (↑aw.length:Int)) (.ag (s.getD i.toNat 0>aw.getD i.toNat 0) y5 y0))) y0) y0;let y1:ak Stop:=.ag (i>0) (.aj y4 (.aj (0<=i64.wrap (i-1)&&i64.wrap (i-1)< (↑l.length:Int)) (.ag (s.getD i.toNat 0> (l.getD (i64.wrap (i-1)).toNat aM).2.2.2.1) y5 y2))) y2; .ag (i<=n) (.aj y4 (.ag (s.getD i.toNat 0<0) y5 (.ag (i<n) (.aj y4 (.aj (0<=i&&i< (↑l.length:Int)) (.ag (s.getD i.toNat 0> (l.getD i.toNat aM).2.2.2.1) y5 y1))) y1))) (.ai (.done (.bool true)))):=by kernel_rfl
def tJ:List Int->Nat
 |[] =>0
 |x::l=>x.toNat+tJ l
theorem JK:∀{s:List Int} {j:Nat} {v:Int},j<s.length->0<=v->v<s.getD j 0->tJ (s.set j v)+1<=tJ s
 |x::l,0,v,_,h0,h=>by
  have h:v<x:=h;simp only[List.set,tJ];omega
 |x::l,j+1,v,hj,h0,h=>by
  have:=JK (s:=l) (j:=j) (v:=v) (by simpa using hj) h0 (by simpa using h);simp only[List.set,tJ];omega
section
variable {l:List Bk} {aw:List Int} {e:Int}
abbrev bK(s:List Int)(i:Nat):Int:=s.getD i 0
structure qV (l:List Bk) (aw:List Int) (e:Int) (s:List Int):Prop where
 len:s.length=l.length+1
 Da:yu (uL l aw) (dW l) e l.length (bK s)
 di:∀x,yu (uL l aw) (dW l) e l.length x->∀i,i<=l.length->x i<=bK s i
variable{s:List Int}
def qV.unique{s':List Int}(h:qV l aw e s)(k:qV l aw e s'):s=s':=by
 rw[LV (n:=l.length+1) (g:=bK s') h.len λj hj=>?_,<-LV (n:=l.length+1) (g:=bK s') k.len λj hj=>rfl];have h1:=h.di _ k.Da j (by omega);have h2:=k.di _ h.Da j (by omega);show bK s j=bK s' j;omega
open Classical in
noncomputable def pO(l:List Bk)(aw:List Int)(e:Int):List Int:=if h:∃s,qV l aw e s then h.choose else []
def ZG(h:qV l aw e s):pO l aw e=s:=by
 have hx:∃s,qV l aw e s:=⟨s,h⟩;unfold pO;rw[dif_pos hx];exact qV.unique hx.choose_spec h
structure Dn (l:List Bk) (aw:List Int) (e:Int) (s:List Int):Prop where
 len:s.length=l.length+1
 first:bK s 0=e
 last:bK s l.length=0
 cap:∀i,0<i->i<l.length->bK s i<=uL l aw i
 di:∀x,yu (uL l aw) (dW l) e l.length x->∀i,i<=l.length->x i<=bK s i
def Dn.vz(h:ed l aw e)(d:Dn l aw e s){i:Nat}(hi:i<=l.length):0<=bK s i/\bK s i<=1099511627776:=by
 have z:=d.di _ (jb4 h.lim) i hi;have he:=h.HT;rcases wo i with rfl|hp
 .rw[d.first];exact he
 .rw[au (by omega)]at z
  rcases jv i l.length with k|k
  .have:=d.cap i hp k
   have:=jw7 h i;omega
  .rw[show i=l.length by omega,d.last];omega
def jf(l:List Bk)(s:List Int)(j:Nat):Int:=min (bK s (j-1)+dW l (j-1)) (bK s (j+1)+dW l j)
def Dn.Tf(d:Dn l aw e s)(h:∀j,0<j->j<l.length->bK s j<=jf l s j):qV l aw e s:=by
 refine⟨d.len,⟨d.first,d.last,d.cap,λi hi=>?_,λi h0 hi=>?_⟩,d.di⟩
 .have:=h (i+1) (by omega) hi
  unfold jf at this;rw[UR]at this;omega
 .have:=h i h0 hi
  unfold jf at this;omega
def Dn.lower(h:ed l aw e)(d:Dn l aw e s){j:Nat}(h0:0<j)(hj:j<l.length)(hm:jf l s j<bK s j):Dn l aw e (s.set j (jf l s j)):=by
 have hl:=d.len
 have g:∀i,bK (s.set j (jf l s j)) i=if j=i then jf l s j else bK s i:=λi=>xw (by omega)
 refine⟨by simpa using hl,?_,?_,λi hi hn=>?_,λx hx i hi=>?_⟩;.rw[g,au (by omega)];exact d.first
 .rw[g,au (by omega)];exact d.last
 .rw[g]
  have:=d.cap i hi hn
  split;.rename_i iE;subst iE;omega
  .exact this
 .rw[g]
  split
  .rename_i iE
   subst iE;have h1:=d.di x hx (j-1) (by omega);have h2:=d.di x hx (j+1) (by omega);have h3:=hx.up (j-1) (by omega);have h4:=hx.down j h0 hj;rw[show j-1+1=j by omega]at h3;unfold jf;omega
  .exact d.di x hx i hi
noncomputable def zy(l:List Bk)(aw:List Int)(e:Int)(i:Int)(b:Bool)(v:SV):List SV:=x7 85 [(0,LB l),(1,LI aw),(2,J e),(7,J l.length),(8,.row 0),(9,J i),(10,.bool b),(11,v)]
noncomputable abbrev RG(l:List Bk)(aw:List Int)(e:Int)(k:Nat)(i:Int)(b:Bool)(v:SV)(s:List Int):Prop:=t9 pP (x9 pP 264) (LI (pO l aw e)) (x8 pP 264 k) (zy l aw e i b v) [some (.rows (.int .i64) s)]
def yj:mR pP [tW] :=⟨YH,trivial⟩
def xt6(i j:Int)(h:qV l aw e s):RG l aw e 1 i false (J j) s:=by
 unfold RG zy;refine o6 (kW yj) (n:=1000) (hint:=.unit) (keep:=x6 85 [0,1,2,7,8,9,10,11]) (p:=Qf) rfl ?_;erw [rg2 l aw e l.length s i j false];refine⟨λc=>(by cases c),λ_=>?_⟩;show LI s=_;rw[ZG h]
def ZK(i j:Int)(h:RG l aw e 2 i false (J 1) s):RG l aw e 1 i true (J j) s:=by
 unfold RG zy at h ⊢;refine o6 (kW yj) (n:=1000) (hint:=.unit) (keep:=x6 85 [0,1,2,7,8,9,10,11]) (p:=Qf) rfl ?_;erw [rg2 l aw e l.length s i j true];exact⟨λ_=>⟨o5 _ _,h⟩,λc=>(by cases c)⟩
def xt5(i:Int)(h:RG l aw e 2 i false (J 1) s):RG l aw e 1 i true .undef s:=by
 unfold RG zy at h ⊢;refine o6 (kW yj) (n:=1000) (hint:=.unit) (keep:=x6 85 [0,1,2,7,8,9,10,11]) (p:=ZI) rfl ?_;erw [xt9 l aw e l.length s i true];exact⟨λ_=>⟨o5 _ _,h⟩,λc=>(by cases c)⟩
theorem FW(h:ed l aw e)(bD:l.length<=1000000)(i:Int)(m:Nat)(ih:∀ (s:List Int) (j:Int),Dn l aw e s->tJ s+1<=m->RG l aw e 1 i true (J j) s):
  ∀ (k j:Nat) (s:List Int) (b:Bool),j+k=l.length->1<=j->Dn l aw e s->(b=false->tJ s<=m/\∀t,0<t->t<j->bK s t<=jf l s t)->(b=true->tJ s+1<=m)->RG l aw e 2 i b (J j) s
 |0,j,s,b,hj,h1,d,hf,ht=>by
  have key:RG l aw e 1 i b (J j) s:=by
   cases b with
   |true=>exact ih s j d (ht rfl)
   |false=>exact xt6 i j (d.Tf λt h0 h2=>(hf rfl).2 t h0 (by omega))
  unfold RG zy at key ⊢;refine o6 (kW yj) (n:=1000) (hint:=.unit) (keep:=x6 85 [0,1,2,7,8,9,10,11]) (p:=Qe) rfl ?_;erw [rg3 l aw e l.length s i j b];exact⟨λc=>absurd (bG c) (by omega),λ_=>⟨o5 _ _,key⟩⟩
 |k+1,j,s,b,hj,h1,d,hf,ht=>by
  have hl:=d.len
  have w1:i64.wrap ((j:Int)-1)=((j-1:Nat):Int):=by rw[aG (by omega) (by omega)];omega
  have w2:i64.wrap ((j:Int)+1)=((j+1:Nat):Int):=by rw[aG (by omega) (by omega)];omega
  have t0:(j:Int).toNat=j:=by omega
  have t1:((j-1:Nat):Int).toNat=j-1:=by omega
  have t2:((j+1:Nat):Int).toNat=j+1:=by omega
  have sb1:n7 (l.getD (j-1) aM)=true:=vE (p:=λb=>n7 b=true) h.snd (by omega);have sb2:n7 (l.getD j aM)=true:=vE (p:=λb=>n7 b=true) h.snd (by omega);have r1:=d.vz h (i:=j-1) (by omega);have r2:=d.vz h (i:=j+1) (by omega);have r0:=d.vz h (i:=j) (by omega);have q1:=h.sG (j-1);have q2:=h.sG j
  have w3:i64.wrap (s.getD (j+1) 0+iV (l.getD j aM))=bK s (j+1)+dW l j:=by
   show i64.wrap (bK s (j+1)+dW l j)=_;exact aG (by omega) (by omega)
  have w4:i64.wrap (s.getD (j-1) 0+iV (l.getD (j-1) aM))=bK s (j-1)+dW l (j-1):=by
   show i64.wrap (bK s (j-1)+dW l (j-1))=_;exact aG (by omega) (by omega)
  have hm:(if bK s (j+1)+dW l j<bK s (j-1)+dW l (j-1)then bK s (j+1)+dW l j else bK s (j-1)+dW l (j-1))=jf l s j:=by unfold jf;split<;>omega
  have vT:0<=jf l s j:=by unfold jf;omega
  have TR:(j:Int)<l.length:=by omega
  have vl:jf l s j<bK s j->RG l aw e 2 i true (J ((j+1:Nat):Int)) (s.set j (jf l s j)):=λhc=>by
   have d':=d.lower h (by omega) (by omega) hc;have ms:=JK (s:=s) (j:=j) (v:=jf l s j) (by omega) vT hc
   refine FW h bD i m ih k (j+1) _ true (by omega) (by omega) d' (λc=>by cases c) λ_=>?_
   cases b with
   |true=>have:=ht rfl;omega
   |false=>have:=(hf rfl).1;omega
  have no:¬jf l s j<bK s j->RG l aw e 2 i b (J ((j+1:Nat):Int)) s:=λhc=>by
   refine FW h bD i m ih k (j+1) s b (by omega) (by omega) d (λc=>⟨(hf c).1,λt h0 h2=>?_⟩) ht;rcases jv t j with k1|k1
   .exact(hf c).2 t h0 k1
   .rw[show t=j by omega];omega
  unfold RG zy at vl no ⊢;refine o6 (kW yj) (n:=1000) (hint:=.unit) (keep:=x6 85 [0,1,2,7,8,9,10,11]) (p:=Qe) rfl ?_;erw [rg3 l aw e l.length s i j b];refine⟨λ_=>?_,λc=>absurd (cO c) (by omega)⟩;simp only[w1,w2,t0,t1,t2,sb1,sb2,w3,w4,hm,ak.holds,aH,aV,ez];refine⟨by omega,by omega,by omega,trivial,by omega,by omega,by omega,trivial,by omega,by omega,λc=>⟨by omega,by omega,o5 _ _,vl c⟩,λc=>⟨o5 _ _,no c⟩⟩
theorem ZJ(h:ed l aw e)(bD:l.length<=1000000)(i:Int):∀ (m:Nat) (s:List Int) (j:Int),Dn l aw e s->tJ s<=m->RG l aw e 1 i true (J j) s
 |0,s,j,d,hm=>ZK i j (FW h bD i 0 (λ_ _ _ k=>by omega) (l.length-1) 1 s false (by have:=h.ne;omega) (bA _) d (λ_=>⟨hm,λt h0 h1=>by omega⟩) λc=>by cases c)
 |m+1,s,j,d,hm=>ZK i j (FW h bD i (m+1) (λs' j' d' k=>ZJ h bD i m s' j' d' (by omega)) (l.length-1) 1 s false (by have:=h.ne;omega) (bA _) d (λ_=>⟨hm,λt h0 h1=>by omega⟩) λc=>by cases c)
end
section
variable {l:List Bk} {aw:List Int} {e:Int}
def iv(l:List Bk)(aw:List Int)(e:Int)(t:Nat):Int:=if t=0 then e else uL l aw t
def nF(l:List Bk)(aw:List Int)(e:Int)(i:Nat):List Int:=(List.range i).map (iv l aw e)
def Si(i:Nat):nF l aw e (i+1)=nF l aw e i++[iv l aw e i] :=by unfold nF;rw[List.range_succ,EO];rfl
def RB(i:Nat):(nF l aw e i).length=i:=by simp[nF]
def qZ7{i t:Nat}(h:t<i):(nF l aw e i).getD t 0=iv l aw e t:=by
 unfold nF;rw[cK,AB,EP h];rfl
def q00:nF l aw e 1=[e] :=rfl
def qZ8(h:ed l aw e):nF l aw e l.length++[0] =nF l aw e (l.length+1):=by
 have hn:=h.ne;rw[Si];unfold iv;rw[au (by omega),Mj]
def q02(h:ed l aw e):Dn l aw e (nF l aw e (l.length+1)):=by
 have hn:=h.ne
 have g:∀t,t<=l.length->bK (nF l aw e (l.length+1)) t=iv l aw e t:=λt ht=>qZ7 (by omega)
 refine⟨RB _,?_,?_,λi h0 hi=>?_,λx hx i hi=>?_⟩;.rw[g 0 (by omega)];rfl
 .rw[g _ (bA _)];unfold iv;rw[au (by omega),Mj]
 .rw[g i (by omega)];unfold iv;rw[au (by omega)];omega
 .rw[g i hi]
  unfold iv
  split;.rename_i h0;subst h0;rw[hx.first];omega
  .rename_i h0
   rcases jv i l.length with k|k
   .exact hx.cap i (by omega) k
   .rw[show i=l.length by omega,hx.last,Mj];omega
def ZN(h:ed l aw e)(bD:l.length<=1000000)(i:Int):RG l aw e 1 i true .undef (nF l aw e (l.length+1)):=by
 refine xt5 i ?_
 refine FW h bD i (tJ (nF l aw e (l.length+1))) (λs j d k=>ZJ h bD i _ s j d (bA _)) (l.length-1) 1 _ false (by have:=h.ne;omega) (bA _) (q02 h) (λ_=>⟨bA _,λt h0 h1=>by omega⟩) λc=>by cases c
def X4(a b c:Int):(if b< (if a<c then a else c)then b else if a<c then a else c)=min c (min a b):=by(repeat' split)<;>omega
theorem ZM(h:ed l aw e)(bD:l.length<=1000000):∀ (k i:Nat),i+k=l.length->1<=i->
  t9 pP (x9 pP 264) (LI (pO l aw e)) (x8 pP 264 0) (x7 85 [(0,LB l),(1,LI aw),(2,J e),(7,J l.length),(8,.row 0),(9,J i),(10,.undef),(11,.undef)]) [some (.rows (.int .i64) (nF l aw e i))]
 |0,i,hi,h1=>by
  have nI:i=l.length:=by omega
  subst nI;have ex:=ZN h bD (l.length:Int);unfold RG zy at ex;refine o6 (kW yj) (n:=1000) (hint:=.unit) (keep:=x6 85 [0,1,2,7,8,9,10,11]) (p:=Qg) rfl ?_;erw [rg1 l aw e l.length (nF l aw e l.length) l.length];refine⟨λc=>absurd (bG c) (by omega),λ_=>?_⟩;rw[<-qZ8 h]at ex;exact⟨bn (by rw[RB];omega),o5 _ _,ex⟩
 |k+1,i,hi,h1=>by
  have hl:=h.len
  have e1:i64.wrap ((i:Int)-1)=((i-1:Nat):Int):=by rw[aG (by omega) (by omega)];omega
  have w2:i64.wrap ((i:Int)+1)=((i+1:Nat):Int):=by rw[aG (by omega) (by omega)];omega
  have t0:(i:Int).toNat=i:=by omega
  have t1:((i-1:Nat):Int).toNat=i-1:=by omega
  have hx:min (aw.getD i 0) (min (l.getD (i-1) aM).2.2.2.1 (l.getD i aM).2.2.2.1)=iv l aw e i:=by
   unfold iv;rw[au (by omega),SB (by omega) (by omega)];rfl
  have nx:=ZM h bD k (i+1) (by omega) (by omega);refine o6 (kW yj) (n:=1000) (hint:=.unit) (keep:=x6 85 [0,1,2,7,8,9,10,11]) (p:=Qg) rfl ?_;erw [rg1 l aw e l.length (nF l aw e i) i];refine⟨λ_=>?_,λc=>absurd (cO c) (by omega)⟩;simp only[e1,w2,t0,t1,X4,hx,<-Si,RB,ak.holds,aH,aV,tv,rY];exact⟨by omega,by omega,by omega,by omega,o5 _ _,nx⟩
def xH9(h:ed l aw e)(bD:l.length<=1000000):SCall pP 264 [LB l,LI aw,J e] (LI (pO l aw e)):=by
 have hn:=h.ne;have hl:=h.len;refine s8 rfl rfl (by kernel_rfl) (o6 (kW yj) (n:=1000) (hint:=.unit) (keep:=x6 85 [0,1,2,7,8,9,10,11]) (p:=ZO) (boxes:=[]) rfl ?_);have q:=rg0 l aw e;unfold v6 v7 at q;erw [q];refine⟨o5 _ _,?_⟩;refine o6 (kW yj) (n:=1000) (hint:=.unit) (keep:=x6 85 [0,1,2,7,8,9,10,11]) (p:=ZL) rfl ?_;erw [xt2 l aw e l.length 1]
 by_cases h2:l.length=1
 .have ex:=ZN h bD 1
  rw[<-qZ8 h,h2,q00]at ex;unfold RG zy at ex;refine⟨λc=>absurd (bG c) (by omega),λ_=>?_⟩;rw[h2]at ex ⊢;exact⟨rfl,o5 _ _,ex⟩
 .have e1:i64.wrap ((1:Int)-1)=((0:Nat):Int):=by decide
  have w2:i64.wrap ((1:Int)+1)=((2:Nat):Int):=by decide
  have t0:(1:Int).toNat=1:=rfl;have t1:((0:Nat):Int).toNat=0:=rfl
  have hx:min (aw.getD 1 0) (min (l.getD 0 aM).2.2.2.1 (l.getD 1 aM).2.2.2.1)=iv l aw e 1:=by
   unfold iv;rw[au (by omega),SB (by omega) (by omega)];rfl
  have nx:=ZM h bD (l.length-2) 2 (by omega) (by omega)
  have e2:[e] ++[iv l aw e 1] =nF l aw e 2:=by rw[Si,q00]
  refine⟨λ_=>?_,λc=>absurd (cO c) (by omega)⟩;simp only[e1,w2,t0,t1,X4,hx,e2,ak.holds,aH,aV,tv,rY];exact⟨by omega,by omega,by omega,by omega,o5 _ _,nx⟩
def xu4(h:ed l aw e):∃s,qV l aw e s:=by
 -- by descent
 have go:∀ (m:Nat) (s:List Int),tJ s<=m->Dn l aw e s->∃s,qV l aw e s:=by
  intro m
  induction m with
  |zero=>
   intro s hm d;refine⟨s,d.Tf λj h0 hj=>?_⟩
   by_cases hc:jf l s j<bK s j
   .have r1:=d.vz h (i:=j-1) (by omega)
    have r2:=d.vz h (i:=j+1) (by omega);have q1:=h.sG (j-1);have q2:=h.sG j;have ms:=JK (s:=s) (j:=j) (v:=jf l s j) (by have:=d.len;omega) (by unfold jf;omega) hc;omega
   .omega
  |succ m ih=>
   intro s hm d
   by_cases hx:∀j,0<j->j<l.length->bK s j<=jf l s j
   .exact⟨s,d.Tf hx⟩
   .obtain⟨j,hj⟩:=Classical.not_forall.1 hx
    have h0:0<j:=U0 λc=>hj λa=>absurd a c
    have h1:j<l.length:=U0 λc=>hj λ_ a=>absurd a c
    have hc:jf l s j<bK s j:=by
     have:¬bK s j<=jf l s j:=λc=>hj λ_ _=>c
     omega
    have r1:=d.vz h (i:=j-1) (by omega);have r2:=d.vz h (i:=j+1) (by omega);have q1:=h.sG (j-1);have q2:=h.sG j;have ms:=JK (s:=s) (j:=j) (v:=jf l s j) (by have:=d.len;omega) (by unfold jf;omega) hc;exact ih _ (by omega) (d.lower h h0 h1 hc)
 exact go _ _ (bA _) (q02 h)
def Qd(h:ed l aw e):qV l aw e (pO l aw e):=by
 obtain⟨s,hs⟩:=xu4 h;rw[ZG hs];exact hs
noncomputable def Fk:aB:=Di 264 λl aw e=>.aj (kP l aw e) (.ai (LI (pO l aw e)))
def yz1:Fk.ok pP:=KM λl aw e h=>xH9 (rn.1 h).2 (rn.1 h).1
end
section
variable {l:List Bk} {aw:List Int} {e:Int} {s:List Int}
def oS(l:List Bk)(aw:List Int)(s:List Int)(i:Nat):Prop:=0<=bK s i/\(i<l.length->bK s i<=fp l i)/\(0<i->bK s i<=fp l (i-1))/\(0<i->i<l.length->bK s i<=mX aw i)/\(i<l.length->bK s (i+1)-bK s i<=dW l i/\bK s i-bK s (i+1)<=dW l i)
def E5(l:List Bk)(aw:List Int)(e:Int)(s:List Int):Prop:=Oe (fp l) (mX aw) (dW l) e l.length (bK s)
def Y2:E5 l aw e s↔bK s 0=e/\bK s l.length=0/\∀i,i<=l.length->oS l aw s i:=Iff.rfl
noncomputable def qP(l:List Bk)(aw:List Int)(e:Int)(s:List Int):Bool:=@decide (E5 l aw e s) (Classical.propDecidable _)
def WK(h:E5 l aw e s):qP l aw e s=true:=by unfold qP;exact @decide_eq_true _ (Classical.propDecidable _) h
def Jb(h:¬E5 l aw e s):qP l aw e s=false:=by unfold qP;exact @decide_eq_false _ (Classical.propDecidable _) h
structure yw (l:List Bk) (s:List Int):Prop where
 len:s.length=l.length+1
 vz:∀c∈s,0<=c/\c<=1099511627776
def yw.get(h:yw l s)(i:Nat):0<=bK s i/\bK s i<=1099511627776:=LK (p:=λc:Int=>0<=c/\c<=1099511627776) h.vz (by decide) i
def SP{x r:Int}:sz x<=r↔x<=r/\-x<=r:=by unfold sz;split<;>omega
def HO:mR pP [tW,nK 295] :=⟨YH,yM5,trivial⟩
noncomputable abbrev tr(l:List Bk)(aw:List Int)(e:Int)(s:List Int)(i:Nat):Prop:=t9 pP (x9 pP 265) (.bool (qP l aw e s)) (x8 pP 265 0) (x7 111 [(0,LB l),(1,LI aw),(2,J e),(3,LI s),(9,J l.length),(10,J i)]) []
def xj9(h:ed l aw e)(bD:l.length<=1000000)(hs:yw l s)(i:Nat)(nI:i<l.length)(hz:i=0)(nx:oS l aw s i->tr l aw e s (i+1))(bad:¬oS l aw s i->qP l aw e s=false):tr l aw e s i:=by
 have hl:=h.len;have Tv:=hs.len;have r0:=hs.get i;have r2:=hs.get (i+1);have q1:=h.sG i
 have w2:i64.wrap ((i:Int)+1)=((i+1:Nat):Int):=by rw[aG (by omega) (by omega)];omega
 have t0:(i:Int).toNat=i:=by omega
 have t1:((i-1:Nat):Int).toNat=i-1:=by omega
 have t2:((i+1:Nat):Int).toNat=i+1:=by omega
 have w3:i64.wrap (s.getD (i+1) 0-s.getD i 0)=bK s (i+1)-bK s i:=aG (by unfold bK at r0 r2;omega) (by unfold bK at r0 r2;omega);have iR:az (bK s (i+1)-bK s i) (-4611686018427387904) 4611686018427387904=true:=v5.2 (by omega);have c1:(l.getD i aM).2.2.2.1=fp l i:=rfl;have c2:(l.getD (i-1) aM).2.2.2.1=fp l (i-1):=rfl;have c3:aw.getD i 0=mX aw i:=rfl;have c4:iV (l.getD i aM)=dW l i:=rfl;have c5:s.getD i 0=bK s i:=rfl;have HV:decide ((i:Int)<=l.length)=true:=bn (by omega);unfold tr at nx ⊢;refine o6 (kW HO) (n:=1000) (hint:=.unit) (keep:=x6 111 [0,1,2,3,9,10]) (p:=F2) rfl ?_;erw [KE l aw e s l.length i];have szz:=@SP (bK s (i+1)-bK s i) (dW l i);have sb:n7 (l.getD i aM)=true:=vE (p:=λb=>n7 b=true) h.snd nI;have d1:decide ((i:Int)<l.length)=true:=bn (by omega);have d2:decide ((i:Int)>0)=false:=iX (by omega);simp only[HV,d1,d2,w2,t0,t2,w3,iR,sb,c1,c3,c4,c5,ak.holds,aH,aV,ez,yF,eY,iG,ir,dV,jI,mG]
 (repeat' (first|exact⟨o5 _ _,nx (by unfold oS;omega)⟩|apply aX|intro _))
 all_goals first
  |omega
  |(rw[bad (by unfold oS;omega)])
def xj8(h:ed l aw e)(bD:l.length<=1000000)(hs:yw l s)(i:Nat)(nI:i<l.length)(hz:0<i)(nx:oS l aw s i->tr l aw e s (i+1))(bad:¬oS l aw s i->qP l aw e s=false):tr l aw e s i:=by
 have hl:=h.len;have Tv:=hs.len;have r0:=hs.get i;have r2:=hs.get (i+1);have q1:=h.sG i
 have w2:i64.wrap ((i:Int)+1)=((i+1:Nat):Int):=by rw[aG (by omega) (by omega)];omega
 have t0:(i:Int).toNat=i:=by omega
 have t1:((i-1:Nat):Int).toNat=i-1:=by omega
 have t2:((i+1:Nat):Int).toNat=i+1:=by omega
 have w3:i64.wrap (s.getD (i+1) 0-s.getD i 0)=bK s (i+1)-bK s i:=aG (by unfold bK at r0 r2;omega) (by unfold bK at r0 r2;omega);have iR:az (bK s (i+1)-bK s i) (-4611686018427387904) 4611686018427387904=true:=v5.2 (by omega);have c1:(l.getD i aM).2.2.2.1=fp l i:=rfl;have c2:(l.getD (i-1) aM).2.2.2.1=fp l (i-1):=rfl;have c3:aw.getD i 0=mX aw i:=rfl;have c4:iV (l.getD i aM)=dW l i:=rfl;have c5:s.getD i 0=bK s i:=rfl;have HV:decide ((i:Int)<=l.length)=true:=bn (by omega);unfold tr at nx ⊢;refine o6 (kW HO) (n:=1000) (hint:=.unit) (keep:=x6 111 [0,1,2,3,9,10]) (p:=F2) rfl ?_;erw [KE l aw e s l.length i];have szz:=@SP (bK s (i+1)-bK s i) (dW l i);have sb:n7 (l.getD i aM)=true:=vE (p:=λb=>n7 b=true) h.snd nI;have d1:decide ((i:Int)<l.length)=true:=bn (by omega)
 have w1:i64.wrap ((i:Int)-1)=((i-1:Nat):Int):=by rw[aG (by omega) (by omega)];omega
 have d2:decide ((i:Int)>0)=true:=bn (by omega);simp only[HV,d1,d2,w1,w2,t0,t1,t2,w3,iR,sb,c1,c2,c3,c4,c5,ak.holds,aH,aV,ez,yF,eY,iG,ir,dV,jI,mG]
 (repeat' (first|exact⟨o5 _ _,nx (by unfold oS;omega)⟩|apply aX|intro _))
 all_goals first
  |omega
  |(rw[bad (by unfold oS;omega)])
def xj6(h:ed l aw e)(bD:l.length<=1000000)(hs:yw l s)(i:Nat)(nI:l.length<=i)(mK:i<=l.length)(nx:oS l aw s i->tr l aw e s (i+1))(bad:¬oS l aw s i->qP l aw e s=false):tr l aw e s i:=by
 have hl:=h.len;have Tv:=hs.len;have r0:=hs.get i;have r2:=hs.get (i+1);have q1:=h.sG i
 have w2:i64.wrap ((i:Int)+1)=((i+1:Nat):Int):=by rw[aG (by omega) (by omega)];omega
 have t0:(i:Int).toNat=i:=by omega
 have t1:((i-1:Nat):Int).toNat=i-1:=by omega
 have t2:((i+1:Nat):Int).toNat=i+1:=by omega
 have w3:i64.wrap (s.getD (i+1) 0-s.getD i 0)=bK s (i+1)-bK s i:=aG (by unfold bK at r0 r2;omega) (by unfold bK at r0 r2;omega);have iR:az (bK s (i+1)-bK s i) (-4611686018427387904) 4611686018427387904=true:=v5.2 (by omega);have c1:(l.getD i aM).2.2.2.1=fp l i:=rfl;have c2:(l.getD (i-1) aM).2.2.2.1=fp l (i-1):=rfl;have c3:aw.getD i 0=mX aw i:=rfl;have c4:iV (l.getD i aM)=dW l i:=rfl;have c5:s.getD i 0=bK s i:=rfl;have HV:decide ((i:Int)<=l.length)=true:=bn (by omega);unfold tr at nx ⊢;refine o6 (kW HO) (n:=1000) (hint:=.unit) (keep:=x6 111 [0,1,2,3,9,10]) (p:=F2) rfl ?_;erw [KE l aw e s l.length i];have szz:=@SP (bK s (i+1)-bK s i) (dW l i);have d1:decide ((i:Int)<l.length)=false:=iX (by omega);have cw:=h.ne
 have w1:i64.wrap ((i:Int)-1)=((i-1:Nat):Int):=by rw[aG (by omega) (by omega)];omega
 have d2:decide ((i:Int)>0)=true:=bn (by omega);simp only[HV,d1,d2,w1,w2,t0,t1,t2,w3,iR,c1,c2,c3,c4,c5,ak.holds,aH,aV,ez,yF,eY,iG,ir,dV,jI,mG]
 (repeat' (first|exact⟨o5 _ _,nx (by unfold oS;omega)⟩|apply aX|intro _))
 all_goals first
  |omega
  |(rw[bad (by unfold oS;omega)])
theorem Z6(h:ed l aw e)(bD:l.length<=1000000)(hs:yw l s)(h0:bK s 0=e)(hn:bK s l.length=0):∀ (k i:Nat),i+k=l.length+1->(∀t,t<i->oS l aw s t)->tr l aw e s i
 |0,i,hi,hp=>by
  unfold tr;refine o6 (kW HO) (n:=1000) (hint:=.unit) (keep:=x6 111 [0,1,2,3,9,10]) (p:=F2) rfl ?_;erw [KE l aw e s l.length i];refine⟨λc=>absurd (bG c) (by omega),λ_=>?_⟩;rw[WK (Y2.2 ⟨h0,hn,λt ht=>hp t (by omega)⟩)];exact rfl
 |k+1,i,hi,hp=>by
  have nx:oS l aw s i->tr l aw e s (i+1):=λok=>Z6 h bD hs h0 hn k (i+1) (by omega) λt ht=>by
   rcases jv t i with c|c
   .exact hp t c
   .rw[show t=i by omega];exact ok
  have bad:¬oS l aw s i->qP l aw e s=false:=λc=>Jb λq=>c ((Y2.1 q).2.2 i (by omega))
  rcases jv i l.length with nI|nI
  .rcases wo i with hz|hz
   .exact xj9 h bD hs i nI hz nx bad
   .exact xj8 h bD hs i nI hz nx bad
  .exact xj6 h bD hs i nI (by omega) nx bad
def xC0(h:ed l aw e)(bD:l.length<=1000000)(hs:yw l s):SCall pP 265 [LB l,LI aw,J e,LI s] (.bool (qP l aw e s)):=by
 have Tv:=hs.len;refine s8 rfl rfl (by kernel_rfl) (o6 (kW HO) (n:=1000) (hint:=.unit) (keep:=x6 111 [0,1,2,3,9,10]) (p:=Z7) (boxes:=[]) rfl ?_);have q:=rc0 l aw e s;unfold v6 v7 at q;erw [q]
 have t0:(l.length:Int).toNat=l.length:=by omega
 have no0:¬bK s 0=e->qP l aw e s=false:=λc=>Jb λk=>c k.1
 have non:¬bK s l.length=0->qP l aw e s=false:=λc=>Jb λk=>c k.2.1
 simp only[t0,ak.holds,aH,aV,px,ot,dz];exact⟨by omega,λc=>by rw[no0 c],λc=>⟨by omega,λd=>by rw[non d],λd=>⟨o5 _ _,Z6 h bD hs c d (l.length+1) 0 (by omega) λt ht=>absurd ht (tu _)⟩⟩⟩
def FG(l:List Bk)(aw:List Int)(e:Int)(s:List Int):Bool:=kP l aw e&& (s.length=l.length+1&&s.all λc=>az c 0 1099511627776)
def Yl:FG l aw e s=true↔(l.length<=1000000/\ed l aw e)/\yw l s:=by
 simp only[FG,aH,rn,aV,nM,v5];exact⟨λ⟨h1,h2,h3⟩=>⟨h1,h2,h3⟩,λ⟨h1,h2,h3⟩=>⟨h1,h2,h3⟩⟩
noncomputable def z51:aB:=⟨265,λargs=>match args with
 |[.list (.pair (.pair (.int .i64) (.pair (.int .i64) (.pair (.int .i64) (.int .i64)))) (.pair (.int .i64) (.pair (.int .i64) (.pair (.int .i64) (.int .i64))))) l,.list (.int .i64) aw,.int .i64 e,.list (.int .i64) s] =>some (.aj (FG l aw e s) (.ai (.bool (qP l aw e s))))
 |_=>none⟩
def yu6:z51.ok pP:=λargs t ht=>by
 simp only[z51]at ht
 split at ht
 .cases ht
  intro h;have k:=Yl.1 h;exact xC0 k.1.2 k.1.1 k.2
 .cases ht
end
def xc6:ax:=.all
def pr0(l:List Bk)(aw:List Int)(e:Int):o8 (Env.of pP (j9 [Du,Fk,z51])) 1000 (x9 pP 199) w9 (x6 85 [0,1,2,10,11,13,14,15,62,63]) (v7 pP 199) xc6 (v6 pP 199 [LB l,LI aw,J e]) [] =(.ai (.at (x8 pP 199 0) 85 (x7 85 [(0,.list w9 l),(1,.list (Ty.int i64) aw),(2,.int .i64 e),(10,SV.undef),(11,SV.undef),(13,.list w9 l),(14,.int .i64 (↑l.length:Int)),(15,.int .i64 0),(62,SV.undef),(63,SV.undef)]) [])):=by kernel_rfl
def xc8:ax:=let z0:ax:=.ah .all (.ah .all (.ah .all .all));.ah (.ah .all .all) (.ah (.ln 5 pA) (.ln 3 (.ah (.ar (.ar (.ah (.ln 10 pA) (.ln 10 (.ah .all z0))))) (.ln 7 z0))))
def pr1(l:List Bk)(aw:List Int)(e i:Int):o8 (Env.of pP (j9 [Du,Fk,z51])) 1000 (x9 pP 199) w9 (x6 85 [0,1,2,10,11,13,14,15,62,63]) (x8 pP 199 0) xc8 (x7 85 [(0,LB l),(1,LI aw),(2,J e),(10,.undef),(11,.undef),(13,LB l),(14,J l.length),(15,J i),(62,.undef),(63,.undef)]) [] =(let y1:ak Stop:=.ai (.done (.tuple [.list w9 [],.int .i64 1]));let y2:=(↑l.length:Int);let y3:=Ty.int i64;let y0:ak Stop:=.ag (y2==0) (.ai (.done (.tuple [.list w9 [],.int .i64 0]))) (.aj (kP l aw e) (.aj (FG l aw e (pO l aw e)) (.ag (!qP l aw e (pO l aw e)) (.ai (.done (.tuple [.list w9 [],.int .i64 8]))) (.ag (l.isEmpty) (.ai (.at (x8 pP 199 1) 85 (x7 85 [(0,.list w9 l),(1,.list y3 aw),(2,.int .i64 e),(10,.list y3 (pO l aw e)),(11,SV.arr 0 0 0),(13,.list w9 l),(14,.int .i64 y2),(15,.int .i64 i),(62,.int .i64 0),(63,.int .i64 0)]) [some (.cells [])])) (.aj ((0+l.length)*64<=140737488355328) (.ai (.at (x8 pP 199 1) 85 (x7 85 [(0,.list w9 l),(1,.list y3 aw),(2,.int .i64 e),(10,.list y3 (pO l aw e)),(11,SV.row 0),(13,.list w9 l),(14,.int .i64 y2),(15,.int .i64 i),(62,.int .i64 y2),(63,.int .i64 0)]) [some (.rows w9 l)]))))))); .ag (i<y2) (.aj (0<=i&&i<y2) (.ag (!n7 (l.getD i.toNat aM)) y1 (.ai (.at (x8 pP 199 0) 85 (x7 85 [(0,.list w9 l),(1,.list y3 aw),(2,.int .i64 e),(10,SV.undef),(11,SV.undef),(13,.list w9 l),(14,.int .i64 y2),(15,.int .i64 (i64.wrap (i+1))),(62,SV.undef),(63,SV.undef)]) [])))) (.ag ((↑aw.length:Int) != y2) y1 (.ag (y2>0) (.ag (e<0) y1 (.aj (0<y2) (.ag (e> (l.getD 0 aM).2.2.2.1) y1 y0))) y0))):=by kernel_rfl
def QC:ax:=.ah (.all) (.all)
def pr2(l:List Bk)(aw:List Int)(e:Int)(s:List Int)(o:List Bk)(i j k:Int):o8 (Env.of pP (j9 [Du,Fk,z51])) 1000 (x9 pP 199) w9 (x6 85 [0,1,2,10,11,13,14,15,62,63]) (x8 pP 199 1) QC (x7 85 [(0,LB l),(1,LI aw),(2,J e),(10,LI s),(11,.row 0),(13,LB l),(14,J j),(15,J k),(62,J l.length),(63,J i)]) [some (.rows w9 o)] =(let y0:=o.set i.toNat ((o.getD i.toNat aM).1,(o.getD i.toNat aM).2.1,s.getD i.toNat 0,(o.getD i.toNat aM).2.2.2);let y1:=y0.getD i.toNat aM; .ag (i< (↑l.length:Int)) (.aj (0<=i&&i< (↑s.length:Int)) (.aj (0<=i&&i< (↑o.length:Int)) (.aj (i.toNat<o.length) (.aj (0<=i64.wrap (i+1)&&i64.wrap (i+1)< (↑s.length:Int)) (.aj (0<=i&&i< (↑y0.length:Int)) (.aj (i.toNat<y0.length) (.ai (.at (x8 pP 199 1) 85 (x7 85 [(0,.list w9 l),(1,.list (Ty.int i64) aw),(2,.int .i64 e),(10,.list (Ty.int i64) s),(11,SV.row 0),(13,.list w9 l),(14,.int .i64 j),(15,.int .i64 k),(62,.int .i64 (↑l.length:Int)),(63,.int .i64 (i64.wrap (i+1)))]) [some (.rows w9 (y0.set i.toNat (y1.1,y1.2.1,y1.2.2.1,y1.2.2.2.1,s.getD (i64.wrap (i+1)).toNat 0)))])))))))) (.ai (.done (.tuple [.list w9 o,.int .i64 0])))):=by kernel_rfl
section
variable {l:List Bk} {aw:List Int} {e:Int}
def qV.dn{s:List Int}(g:qV l aw e s):Dn l aw e s:=⟨g.len,g.Da.first,g.Da.last,g.Da.cap,g.di⟩
def xu6(h:ed l aw e):yw l (pO l aw e):=by
 have g:=Qd h;refine⟨g.len,λc hc=>?_⟩;obtain⟨t,ht,rfl⟩:=NE hc;have hl:=g.len;have:=g.dn.vz h (i:=t) (by omega);unfold bK at this;rw[cK,cc ht]at this;exact this
def Y0(h:ed l aw e)(he:e<=fp l 0):(E5 l aw e (pO l aw e)↔gL l aw e 0=e)/\(gL l aw e 0=e->∀i,i<=l.length->bK (pO l aw e) i=gL l aw e i):=
 Y1 h.lim he (λi=>(h.Nw i).1) (Qd h).Da (Qd h).di
def LL:mR pP [Du,Fk,z51] :=⟨YB,yz1,yu6,trivial⟩
theorem xc9(h:ed l aw e)(bD:l.length<=1000000){s:List Int}(hs:s.length=l.length+1)(hg:∀t,t<=l.length->s.getD t 0=gL l aw e t):∀ (k i:Nat) (o:List Bk) (j m:Int),i+k=l.length->o.length=l.length->(∀t,t<i->o.getD t aM=F5 (l.getD t aM) (gL l aw e t) (gL l aw e (t+1)))->(∀t,i<=t->o.getD t aM=l.getD t aM)->
  t9 pP (x9 pP 199) (.tuple [LB (jo l (gL l aw e)),J 0]) (x8 pP 199 1) (x7 85 [(0,LB l),(1,LI aw),(2,J e),(10,LI s),(11,.row 0),(13,LB l),(14,J j),(15,J m),(62,J l.length),(63,J i)]) [some (.rows w9 o)]
 |0,i,o,j,m,hi,ho,h1,h2=>by
  refine o6 (kW LL) (n:=1000) (hint:=w9) (keep:=x6 85 [0,1,2,10,11,13,14,15,62,63]) (p:=QC) rfl ?_;erw [pr2 l aw e s o i j m];refine⟨λc=>absurd (bG c) (by omega),λ_=>?_⟩;show SV.tuple [LB o,J 0] =_;rw[q81 (d:=aM) ho λt ht=>h1 t (by omega)];rfl
 |k+1,i,o,j,m,hi,ho,h1,h2=>by
  refine o6 (kW LL) (n:=1000) (hint:=w9) (keep:=x6 85 [0,1,2,10,11,13,14,15,62,63]) (p:=QC) rfl ?_;erw [pr2 l aw e s o i j m]
  have t0:(i:Int).toNat=i:=by omega
  have w1:i64.wrap ((i:Int)+1)=((i+1:Nat):Int):=by rw[aG (by omega) (by omega)];omega
  have t1:((i+1:Nat):Int).toNat=i+1:=by omega
  refine⟨λ_=>?_,λc=>absurd (cO c) (by omega)⟩;simp only[t0,w1,t1,hg i (by omega),hg (i+1) (by omega),hs,ak.holds,aH,aV,ez,Ig];refine⟨by omega,by omega,by omega,by omega,by omega,by omega,o5 _ _,?_⟩;refine xc9 h bD hs hg k (i+1) _ j m (by omega) (by simpa using ho) (λt ht=>?_) (λt ht=>?_)
  .rw[vu (by simp;omega)]
   split
   .rename_i yf
    subst yf;rw[vu (by omega),ay rfl,h2 i (by omega)];rfl
   .rename_i yf
    rw[vu (by omega),au yf];exact h1 t (by omega)
  .rw[vu (by simp;omega),au (by omega),vu (by omega),au (by omega)]
   exact h2 t (by omega)
theorem xc7(h:ed l aw e)(bD:l.length<=1000000):∀ (k i:Nat),i+k=l.length->
  t9 pP (x9 pP 199) (oO l aw e) (x8 pP 199 0) (x7 85 [(0,LB l),(1,LI aw),(2,J e),(10,.undef),(11,.undef),(13,LB l),(14,J l.length),(15,J i),(62,.undef),(63,.undef)]) []
 |k,i,hi=>by
  have hd:(oO l aw e).data=true:=by unfold oO;(repeat' split)<;>rfl
  refine o6 (kW LL) (n:=1000) (hint:=w9) (keep:=x6 85 [0,1,2,10,11,13,14,15,62,63]) (p:=xc8) hd ?_;erw [pr1 l aw e i]
  have t0:(i:Int).toNat=i:=by omega
  match k,hi with
  |k+1,hi=>
   have w1:i64.wrap ((i:Int)+1)=((i+1:Nat):Int):=by rw[aG (by omega) (by omega)];omega
   have Am:n7 (l.getD i aM)=true:=vE (p:=λb=>n7 b=true) h.snd (by omega)
   have gD:(i:Int)<l.length:=by omega
   have:=xc7 h bD k (i+1) (by omega);simp only[t0,w1,Am,gD,ak.holds,aH,aV,ez,qt,eY,iG,dV,oQ,jI,ir];exact⟨by omega,o5 _ _,this⟩
  |0,hi=>
   have gD:¬((i:Int)<l.length):=by omega
   have cw:=h.ne;have hl:=h.len;have he:=h.HT;have ok:kP l aw e=true:=rn.2 ⟨bD,h⟩;have sok:=xu6 h;have oc:FG l aw e (pO l aw e)=true:=Yl.2 ⟨⟨bD,h⟩,sok⟩;have lz:((l.length:Int)==0)=false:=dM.2 (by omega)
   have le:l.isEmpty=false:=by cases l with
    |nil=>simp at cw
    |cons=>rfl
   have lc:((aw.length:Int) !=(l.length:Int))=false:=ot.2 (by omega);have hc:fp l 0=(l.getD 0 aM).2.2.2.1:=rfl
   have no:¬¬True:=λc=>c trivial
   unfold oO;simp only[t0,gD,lc,lz,le,ok,oc,ak.holds,aH,aV,ez,eY,iG,dV,ir,mG,px,ot,dz,HZ,iJ,qW];refine⟨λ_=>⟨λa=>absurd a (by omega),λ_=>⟨by omega,λa=>?_,λa=>⟨λb=>?_,λb=>⟨by omega,o5 _ _,?_⟩⟩⟩⟩,λa=>absurd a (by omega)⟩;.rw[au (by omega)];rfl
   .have p:=Y0 h (show e<=fp l 0 by omega)
    have:¬gL l aw e 0=e:=λc=>by
     rw[WK (p.1.2 c)]at b;cases b
    rw[ay (by omega),au this];rfl
   .have p:=Y0 h (show e<=fp l 0 by omega)
    have g0:gL l aw e 0=e:=by
     refine p.1.1 ?_
     refine U0 λc=>?_
     rw[Jb c]at b;cases b
    rw[ay (by omega),ay g0];exact xc9 h bD sok.len (p.2 g0) l.length 0 l (l.length:Int) (i:Int) (by omega) rfl (λt ht=>absurd ht (tu _)) (λt _=>rfl)
def xS1(h:ed l aw e)(bD:l.length<=1000000):SCall pP 199 [LB l,LI aw,J e] (oO l aw e):=by
 have hd:(oO l aw e).data=true:=by unfold oO;(repeat' split)<;>rfl
 refine s8 rfl hd (by kernel_rfl) (o6 (kW LL) (n:=1000) (hint:=w9) (keep:=x6 85 [0,1,2,10,11,13,14,15,62,63]) (p:=xc6) (boxes:=[]) hd ?_);have q:=pr0 l aw e;unfold v6 v7 at q;erw [q];exact⟨o5 _ _,xc7 h bD l.length 0 (by omega)⟩
end
def Ro:aB:=Di 199 Sj
def yH1:Ro.ok pP:=KM λl aw e=>xa6 λok=>xS1 (rn.1 ok).2 (rn.1 ok).1
def mn(a b:Int):Int:=if b<a then b else a
def ee(b:Bk)(i:Int):Int:=match f6 b&&az i 1 (aF b.1)with
 |true=>mn (mn b.2.2.2.1 (b.2.2.1+2*b.2.1*i)) (b.2.2.2.2+2*b.2.1*(aF b.1+1-i))
 |false=>0
variable{b:Bk}{i:Int}
def je1(h:¬(f6 b=true/\1<=i/\i<=aF b.1)):ee b i=0:=by
 unfold ee
 cases q:f6 b&&az i 1 (aF b.1)with
 |false=>rfl
 |true=>rw[aH,v5]at q;exact absurd q h
def je2(h:f6 b=true/\1<=i/\i<=aF b.1):ee b i=mn (mn b.2.2.2.1 (b.2.2.1+2*b.2.1*i)) (b.2.2.2.2+2*b.2.1*(aF b.1+1-i)):=by
 unfold ee;rw[show(f6 b&&az i 1 (aF b.1))=true by rw[aH,v5];exact h]
def ID{a j:Int}(ha:1<=a/\a<=16777216)(hj:1<=j/\j<=16777217):2<=2*a*j/\2*a*j<=562949986975744:=by
 have e:2*a*j=2*(a*j):=NJ _ _ _;have h1:1*1<=a*j:=uO ha.1 hj.1 (by omega) (by omega);have h2:a*j<=16777216*16777217:=uO ha.2 hj.2 (by omega) (by omega);omega
def je0(h:f6 b=true/\1<=i/\i<=aF b.1):1<=ee b i/\ee b i<=1099511627776:=by
 have v:=sV.1 h.1;have d:=nQ b.1;have p:=ID v.1.2.1 (j:=i) (by omega);have q:=ID v.1.2.1 (j:=aF b.1+1-i) (by omega)
 rw[je2 h];unfold mn;(repeat' split)<;>omega
def jd9(b:Bk)(i:Int):0<=ee b i/\ee b i<=1099511627776:=by
 by_cases h:f6 b=true/\1<=i/\i<=aF b.1
 .have:=je0 h;omega
 .rw[je1 h];omega
theorem xY5(b:Bk)(i:Int):ak.holds (λv=>v=(J (ee b i))) (let y0:=b.2.2.1+i64.wrap (i64.wrap (2*b.2.1)*i);let y1:=b.2.2.2.2+i64.wrap (i64.wrap (2*b.2.1)*i64.wrap (i64.wrap (aF b.1+1)-i));.ag (!f6 b) (.ai (.int .i64 0)) (.ag (i<1) (.ai (.int .i64 0)) (.ag (i>aF b.1) (.ai (.int .i64 0)) (.ai (.int .i64 (if i64.wrap y1<if i64.wrap y0<b.2.2.2.1 then i64.wrap y0 else b.2.2.2.1 then i64.wrap y1 else if i64.wrap y0<b.2.2.2.1 then i64.wrap y0 else b.2.2.2.1))))):ak SV):=by
  have d:=nQ b.1;simp only[ak.holds,sM]
  (repeat' (first|apply aX|intro _))
  all_goals first
   |(rw[je1 (by first|omega|grind)];rfl)
   |(have hv:f6 b=true/\1<=i/\i<=aF b.1:=by first|grind|omega
     have v:=sV.1 hv.1;have p:=ID v.1.2.1 (j:=i) (by omega);have q:=ID v.1.2.1 (j:=aF b.1+1-i) (by omega);refine mJ ?_;rw[aG (x:=2*b.2.1) (by omega) (by omega),aG (x:=2*b.2.1*i) (by omega) (by omega),aG (x:=b.2.2.1+2*b.2.1*i) (by omega) (by omega),aG (x:=aF b.1+1) (by omega) (by omega),aG (x:=aF b.1+1-i) (by omega) (by omega),aG (x:=2*b.2.1*(aF b.1+1-i)) (by omega) (by omega),aG (x:=b.2.2.2.2+2*b.2.1*(aF b.1+1-i)) (by omega) (by omega),je2 hv]
     rfl)
def xY3(b:Bk)(i:Int):SCall pP 245 [Bk.sv b,J i] (J (ee b i)):=
 ic (hB (l:=[sI,z70]) (k:=[]) (j:=[]) (i:=[]) nN ([277] :List Nat) nN nN (⟨A8,sx,trivial⟩) v8 v8 v8) 1000 (.ah .all (.ah (.ln 3 pA) (.ln 3 (.ah .all .all))))
  (by kernel_rfl) (xY5 b i) (by kernel_rfl) (by kernel_rfl)
def xY4(b:Bk)(i:Int):SCall pP 239 [Bk.sv b,J i] (J (ee b i)):=
 aY aL [sH,rl] ⟨A7,sw,trivial⟩ 1000 (.ah .all (.ah (.ln 3 pA) (.ln 3 (.ah .all .all))))
  (by kernel_rfl) (xY5 b i) (by kernel_rfl)
def ql5:aB:=Dt 245 λb i=>.ai (J (ee b i))
def ql6:aB:=Dt 239 λb i=>.ai (J (ee b i))
def yL5:ql5.ok pP:=K4 (xY3)
def yL6:ql6.ok pP:=K4 (xY4)
def fP(b:Bk)(i t:Int):Int:=if 1<=ee b i/\1<=t/\t<=1048576 then(t+gN (ee b i)-1) / gN (ee b i)else 0
def xK5(b:Bk)(i t:Int):SCall pP 183 [Bk.sv b,J i,J t] (J (fP b i t)):=
 aY aL [ql5,Ln] ⟨yL5,YW,trivial⟩ 1000 (.ah (.ln 5 pA) (.ar (.ar (.ah (.ar (.ar pA)) (.ar (.ar (.ah .all .all)))))))
  (t:=.ag (ee b i==0) (.ai (.int .i64 0)) (.ag (t<1) (.ai (.int .i64 0)) (.ag (t>1048576) (.ai (.int .i64 0)) (.aj (az (ee b i) 0 9223372036854775807) (.aj (!gN (ee b i)==0) (.ai (.int .i64 (i64.wrap ((i64.wrap (i64.wrap (t+gN (ee b i))-1)).tdiv (gN (ee b i)))))))))))
  (by kernel_rfl) (by
   have s:=jd9 b i;simp only[ak.holds,v5,sM]
   (repeat' (first|apply aX|intro _))
   all_goals first
    |omega
    |(refine mJ ?_;unfold fP;rw[au (by omega)])
    |(have p:=Ls (n:=ee b i) (by omega)
      have q:=Lt (ee b i)
      first
      |omega
      |(refine mJ ?_
        unfold fP
        rw[ay (by omega),aG (x:=t+gN (ee b i)) (by omega) (by omega),aG (x:=t+gN (ee b i)-1) (by omega) (by omega),Mw (by omega) (by omega) (by omega),EQ (by omega)]))) (by kernel_rfl)
def xK6(b:Bk)(i t:Int):SCall pP 178 [Bk.sv b,J i,J t] (J (fP b i t)):=
 aY aL [ql6,RA] ⟨yL6,YV,trivial⟩ 1000 (.ah (.ln 5 pA) (.ar (.ar (.ah (.ar (.ar pA)) (.ar (.ar (.ah .all .all)))))))
  (t:=.ag (ee b i<1) (.ai (.int .i64 0)) (.ag (t<1) (.ai (.int .i64 0)) (.ag (t>1048576) (.ai (.int .i64 0)) (.aj (az (ee b i) 0 9223372036854775807) (.aj (!gN (ee b i)==0) (.ai (.int .i64 (i64.wrap ((i64.wrap (i64.wrap (t+gN (ee b i))-1)).tdiv (gN (ee b i)))))))))))
  (by kernel_rfl) (by
   have s:=jd9 b i;simp only[ak.holds,v5,sM]
   (repeat' (first|apply aX|intro _))
   all_goals first
    |omega
    |(refine mJ ?_;unfold fP;rw[au (by omega)])
    |(have p:=Ls (n:=ee b i) (by omega)
      have q:=Lt (ee b i)
      first
      |omega
      |(refine mJ ?_
        unfold fP
        rw[ay (by omega),aG (x:=t+gN (ee b i)) (by omega) (by omega),aG (x:=t+gN (ee b i)-1) (by omega) (by omega),Mw (by omega) (by omega) (by omega),EQ (by omega)]))) (by kernel_rfl)
end Go.Proofs.YtnkaepnblikcdaaGreat
namespace Go.Sx
open Go.RowKit
noncomputable def CF(m:Mem)(v:SV):SV:=match v with
 |.ptr id off=>match m.get id with
  |some (.cells cs)=>match cs with
   |[.int k n] =>.jt (.int k) [n] 0 off
   |_=>.ptr id off
  |_=>.ptr id off
 |v=>v
noncomputable def mX(m:Mem):List SV->List SV
 |[] =>[]
 |x::xs=>CF m x::mX m xs
noncomputable def CE(m:Mem)(v:SV):SV:=match v with
 |.fn f a b=>.fn f (mX m a) (mX m b)
 |v=>CF m v
noncomputable def CD(m:Mem):List SV->List SV
 |[] =>[]
 |x::xs=>CE m x::CD m xs
noncomputable def AY(m:Mem)(v:SV):SV:=match v with
 |.agg cs=>.agg (CD m cs)
 |.tuple cs=>.tuple (CD m cs)
 |v=>CE m v
section
variable {w0:World} {R0:eo} {I:bu} {w:World} {m:Mem}
variable{v:SV}{u:Value}
def WT(h:aQ w0 R0 I w m)(hv:aJ (RO w0 R0 I w m) I m.next w v u)(hd:(CF m v).data=true):aJ (RO w0 R0 I w ⟨0,.e⟩) I 0 w (CF m v) u:=by
 have dZ:=h.bare.2;unfold CF at hd ⊢
 split at hd
 .rename_i id off
  split at hd
  .rename_i cs hg
   split at hd
   .rename_i k n
    obtain⟨arr,e,fr,k1,k2,k3⟩:=h.box id _ hg;obtain⟨c,us,hc,h1,h2⟩:=k3;refine⟨(I id).1,0,?_,UI,.inr ⟨h.lo id _ hg trivial,h.hi id _ hg trivial,(λid B hB=>by cases hB),h.aI.2 id _ hg trivial⟩,λi hi=>?_⟩
    .rw[hv.2]
     show _=Value.pointer (some ⟨_,0+(0*1+off),none⟩);rw[UH,gY,gY]
    have Ew:i<1:=hi
    obtain rfl:i=0:=by omega
    refine⟨[.int k n],rfl,λj hj=>?_,rfl⟩;have hj0:j<1:=hj
    obtain rfl:j=0:=by omega
    have h2:us=[] :=h2;have h1:c=.int k n:=h1;subst h1 h2;rw[rR w _ _ arr e fr k1]
    have:arr=#[.int k n] :=by
     apply oy;rw[hc]
    rw[this];rfl
   .cases hd
  .cases hd
 .exact aJ.data dZ _ _ hd hv
theorem OD(h:aQ w0 R0 I w m):∀{cs:List SV} {us:List Value},j8 (RO w0 R0 I w m) I m.next w cs us->f7 (mX m cs)=true->j8 (RO w0 R0 I w ⟨0,.e⟩) I 0 w (mX m cs) us
 |[],_,hr,_=>hr
 |x::xs,us,hr,hd=>by
  obtain⟨u,iM,rfl,h2,h3⟩:=hr;unfold mX at hd ⊢;rw[wP]at hd
  cases h4:(CF m x).data with
  |false=>rw[h4]at hd;cases hd
  |true=>rw[h4]at hd;exact⟨u,iM,rfl,WT h h2 h4,OD h h3 hd⟩
def WS(h:aQ w0 R0 I w m)(hv:aJ (RO w0 R0 I w m) I m.next w v u)(hd:(CE m v).data=true):aJ (RO w0 R0 I w ⟨0,.e⟩) I 0 w (CE m v) u:=by
 unfold CE at hd ⊢
 split at hd
 .rename_i f a b
  obtain⟨vs,us,h1,h2,h3⟩:=hv;rw[Wr]at hd
  cases h4:f7 (mX m a)with
  |false=>rw[h4]at hd;cases hd
  |true=>rw[h4]at hd;exact⟨vs,us,h1,OD h h2 h4,OD h h3 hd⟩
 .exact WT h hv hd
theorem OF(h:aQ w0 R0 I w m):∀{cs:List SV} {us:List Value},j8 (RO w0 R0 I w m) I m.next w cs us->f7 (CD m cs)=true->j8 (RO w0 R0 I w ⟨0,.e⟩) I 0 w (CD m cs) us
 |[],_,hr,_=>hr
 |x::xs,us,hr,hd=>by
  obtain⟨u,iM,rfl,h2,h3⟩:=hr;unfold CD at hd ⊢;rw[wP]at hd
  cases h4:(CE m x).data with
  |false=>rw[h4]at hd;cases hd
  |true=>rw[h4]at hd;exact⟨u,iM,rfl,WS h h2 h4,OF h h3 hd⟩
def zE6(h:aQ w0 R0 I w m)(hv:aJ (RO w0 R0 I w m) I m.next w v u)(hd:(AY m v).data=true):aJ (RO w0 R0 I w ⟨0,.e⟩) I 0 w (AY m v) u:=by
 unfold AY at hd ⊢
 split at hd
 .obtain⟨vs,h1,h2⟩:=hv
  exact⟨vs,h1,OF h h2 (by rw[<-AV];exact hd)⟩
 .obtain⟨vs,h1,h2⟩:=hv
  exact⟨vs,h1,OF h h2 (by rw[<-IV];exact hd)⟩
 .exact WS h hv hd
end
def x79{P:Program}{E:Env}(hK:cV P E){n:Nat}{f:FuncId}{args:List SV}{p:ax}{v:SV}(hd:f7 args=true)(sY:v.data=true)(h:(lY E n f args p).holds λx=>AY x.2 x.1=v):SCall P f args v:=by
 intro m w0 R0 I w vs hm bR;unfold lY at h
 split at h
 .rename_i fn jG
  have hf:=hK.e.fn f fn jG
  split at h
  .rename_i body hb
   split at h
   .rename_i hn
    obtain⟨fr,h1,h2,h3,h4⟩:=qz h;obtain⟨out,h5,h6⟩:=su hK.e hK.s hK.aL n _ _ _ _ _ _ h1
    cases out with
    |stop it aD m'=>cases h5
    |cE v aD m'=>cases h5
    |ret p' aD mc=>
     dsimp only at h5;obtain⟨v',h7,h8⟩:=qE hK.e h5;have h7:AY mc v'=v:=h7;subst h7;rw[nS hf hb hn];obtain⟨o1,o2⟩:=xh hm I;have cn:=pV h2 h3 h4 (j8.data (R':=RO w (RS w0 R0 I w m) I w ⟨0,.e⟩) (I':=I) (n':=0) o2 args vs hd bR)
     refine Calls.mono (ve hf hb h6 h8 o1 cn) λe w' ⟨u,he,I',g1,g2,g3⟩=>⟨u,he,?_⟩
     have cR:=Hand.start hm g1.bare.1;obtain⟨k1,k2⟩:=cR.finish hm g1.bare.1;exact⟨I,k1,k2,aJ.data (λb hb=>cR.ro b (.inr hb)) _ u sY (zE6 g1 g3 sY)⟩
   .exact h.elim
  .exact h.elim
 .exact h.elim
noncomputable def ak.HW:ak (SV×Mem)->ak SV
 |.ai x=>.ai (AY x.2 x.1)
 |.ag b t f=>.ag b t.HW f.HW
 |.aj b t=>.aj b t.HW
 |.aA n=>.aA n
theorem ak.Nx{L:SV->Prop}:∀t:ak (SV×Mem),t.HW.holds L->t.holds λx=>L (AY x.2 x.1)
 |.ai _,h=>h
 |.ag _ t f,h=>⟨λhb=>Nx t (h.1 hb),λhb=>Nx f (h.2 hb)⟩
 |.aj _ t,h=>⟨h.1,Nx t h.2⟩
 |.aA _,h=>h.elim
def x78{P:Program}{E:Env}(hK:cV P E)(n:Nat)(p:ax){f:FuncId}{args:List SV}{v:SV}{t:ak SV}
  (ht:(lY E n f args p).HW=t) (h:t.holds λx=>x=v) (hd:f7 args=true) (hv:v.data=true):SCall P f args v:=
 x79 (n:=n) (p:=p) hK hd hv (ak.Nx _ (by rw[ht];exact h))
end Go.Sx
namespace Go.Proofs.YtnkaepnblikcdaaGreat
open Go.Sx
def Lm:aB:=K5 183 λb i t=>.ai (J (fP b i t))
def Ll:aB:=K5 178 λb i t=>.ai (J (fP b i t))
def PY:Lm.ok pP:=qq0 (xK5)
def PX:Ll.ok pP:=qq0 (xK6)
def fc(m:Mo):V4:=match f6 m.1&&az m.2.1 0 (aF m.1.1)with
 |true=>fK m.1.1 m.2.1
 |false=>z4
def kO(m:Mo):Bool:=f6 m.1&&m.2.1=aF m.1.1
variable{m:Mo}
def A6(h:f6 m.1=true/\0<=m.2.1/\m.2.1<=aF m.1.1):fc m=fK m.1.1 m.2.1:=by
 unfold fc;rw[show(f6 m.1&&az m.2.1 0 (aF m.1.1))=true by rw[aH,v5];exact h]
def JV(h:¬(f6 m.1=true/\0<=m.2.1/\m.2.1<=aF m.1.1)):fc m=z4:=by
 unfold fc
 cases q:f6 m.1&&az m.2.1 0 (aF m.1.1)with
 |false=>rfl
 |true=>rw[aH,v5]at q;exact absurd q h
def IJ:kO m=true↔f6 m.1=true/\m.2.1=aF m.1.1:=by simp only[kO,aH,aV]
def rF(b:Bk)(t:Int):Mo:=(b,0,fP b 1 t)
def m0:Mo:=(((0,0,0,0),0,0,0,0),0,0)
def pX(b:Bk)(t:Int):Bool:=f6 b&&az t 1 1048576
variable{b:Bk}
def CS{t:Int}:pX b t=true↔f6 b=true/\1<=t/\t<=1048576:=by simp only[pX,aH,v5]
def Ab(b:Bk)(t:Int):SV:=match pX b t with
 |true=>.tuple [Mo.sv (rF b t),J 0]
 |false=>.tuple [Mo.sv m0,J 1]
def MK{t:Int}(h:pX b t=true):Ab b t=.tuple [Mo.sv (rF b t),J 0] :=by unfold Ab;rw[h]
def ML{t:Int}(h:pX b t=false):Ab b t=.tuple [Mo.sv m0,J 1] :=by unfold Ab;rw[h]
def mu(m:Mo)(t:Int):Bool:=f6 m.1&& (az m.2.1 0 (aF m.1.1-1)&&az m.2.2 1 (fP m.1 (m.2.1+1) t))
def lF{t:Int}:mu m t=true↔f6 m.1=true/\(0<=m.2.1/\m.2.1<=aF m.1.1-1)/\1<=m.2.2/\m.2.2<=fP m.1 (m.2.1+1) t:=by simp only[mu,aH,v5]
def gM(m:Mo)(t:Int):Mo:=match mu m t with
 |true=>if 1<m.2.2 then(m.1,m.2.1,m.2.2-1)else(m.1,m.2.1+1,if m.2.1+1=aF m.1.1 then 0 else fP m.1 (m.2.1+2) t)
 |false=>m
def eP(m:Mo)(t:Int):V4:=match mu m t with
 |true=>if 1<m.2.2 then z4 else nC m.1.1 (m.2.1+1)
 |false=>z4
def vL(m:Mo)(t:Int):SV:=.tuple [Mo.sv (gM m t),V4.sv (eP m t)]
def jn7{t:Int}(h:mu m t=false):vL m t=.tuple [Mo.sv m,V4.sv z4] :=by unfold vL gM eP;rw[h]
def jn8{t:Int}(h:mu m t=true)(h1:1<m.2.2):vL m t=.tuple [Mo.sv (m.1,m.2.1,m.2.2-1),V4.sv z4] :=by unfold vL gM eP;rw[h];simp only[ay h1]
def jn9{t:Int}(h:mu m t=true)(h1:¬1<m.2.2):vL m t=.tuple [Mo.sv (m.1,m.2.1+1,if m.2.1+1=aF m.1.1 then 0 else fP m.1 (m.2.1+2) t),V4.sv (nC m.1.1 (m.2.1+1))] :=by unfold vL gM eP;rw[h];simp only[au h1]
def L5(b:Bk)(i t:Int):0<=fP b i t/\fP b i t<=4296015872:=by
 unfold fP
 split
 .rename_i c
  have p:=Ls (n:=ee b i) c.1;have q:=Lt (ee b i);have h0:0<=(t+gN (ee b i)-1) / gN (ee b i):=ES (by omega) (by omega);have h1:(t+gN (ee b i)-1) / gN (ee b i)<=t+gN (ee b i)-1:=Ii _ (by omega);omega
 .omega
def G6(h:f6 b=true):1<=aF b.1/\aF b.1<=16777216:=⟨Wd (sV.1 h).1.1,(nQ _).2⟩
def L4{i t:Int}(h:1<=fP b i t):1<=t/\t<=1048576:=by
 unfold fP at h
 split at h;.rename_i c;exact c.2
 .omega
theorem xN2(m:Mo):ak.holds (λv=>v=(V4.sv (fc m))) (let y0:ak SV:=.ai (.agg [.int .i64 0,.int .i64 0,.int .i64 0,.int .i64 0]);.ag (!f6 m.1) y0 (.ag (m.2.1<0) y0 (.ag (m.2.1>aF m.1.1) y0 (.ai (.agg [.int .i64 (fK m.1.1 m.2.1).1,.int .i64 (fK m.1.1 m.2.1).2.1,.int .i64 (fK m.1.1 m.2.1).2.2.1,.int .i64 (fK m.1.1 m.2.1).2.2.2])))):ak SV):=by simp only[ak.holds,sM];(repeat' (first|apply aX|intro _));all_goals first|(rw[JV (by first|omega|grind)];rfl)|(rw[A6 (by first|omega|grind)];rfl)
def xN0(m:Mo):SCall pP 205 [Mo.sv m] (V4.sv (fc m)):=
 v9 aL [sI,z70,Uo] ⟨A8,sx,Xw,trivial⟩ 1000 (.ah (.ln 11 pA) (.ln 3 (.ah (.ln 7 pA) (.ln 7 (.ah .all .all)))))
  (by kernel_rfl) (xN2 m) (by kernel_rfl) (by rfl)
def xN1(m:Mo):SCall pP 132 [Mo.sv m] (V4.sv (fc m)):=
 v9 aL [sH,rl,z39] ⟨A7,sw,Xu,trivial⟩ 1000 (.ah (.ln 11 pA) (.ln 3 (.ah (.ln 7 pA) (.ln 7 (.ah .all .all)))))
  (by kernel_rfl) (xN2 m) (by kernel_rfl) (by rfl)
theorem xF0(m:Mo):ak.holds (λv=>v=(.bool (kO m))) (.ag (f6 m.fst)
 (.ai (SV.bool (m.snd.fst==aF m.fst.fst)))
 (.ai (SV.bool false)):ak SV):=by simp only[ak.holds,sM];(repeat' (first|apply aX|intro _));all_goals(refine jh ?_;rw[IJ];(try simp only[sM]); first|omega|grind)
def xE8(m:Mo):SCall pP 166 [Mo.sv m] (.bool (kO m)):=
 aY aL [sI,z70] ⟨A8,sx,trivial⟩ 1000 (.ah (.ln 6 pA) (.ln 6 pA))
  (by kernel_rfl) (xF0 m) (by kernel_rfl)
def xE9(m:Mo):SCall pP 173 [Mo.sv m] (.bool (kO m)):=
 aY aL [sH,rl] ⟨A7,sw,trivial⟩ 1000 (.ah (.ln 6 pA) (.ln 6 pA))
  (by kernel_rfl) (xF0 m) (by kernel_rfl)
def xA7(t:Int):SCall pP 229 [J t] (.agg [.fn 276 [] [.jt (.int .i64) [t] 0 0]]):=
 x78 (hB (l:=[]) (k:=[]) (j:=[]) (i:=[]) nN nN nN nN (trivial) v8 v8 v8) 1000 (.all)
  (t:=.ai (SV.agg [SV.fn 276 [] [SV.jt (Ty.int i64) [t] 0 0]]))
  (by kernel_rfl) (by exact rfl) (by kernel_rfl) (by kernel_rfl)
def OU:aB:=tU 229 λt=>.ai (.agg [.fn 276 [] [.jt (.int .i64) [t] 0 0]])
def Xv:OU.ok pP:=rq xA7
theorem xZ8(b:Bk)(t:Int):SCall pP 174 [Bk.sv b,J t] (Ab b t):=
 v9 aL [sI,z70,Lm,OU] ⟨A8,sx,PY,Xv,trivial⟩ 1000 (.ah (.ln 3 pA) (.ar (.ah (.ln 4 (.ah .all (.ah .all .all))) (.ln 4 pA))))
  (t:=let y0:ak SV:=lT [.agg [.int .i64 0,.int .i64 0,.int .i64 0,.int .i64 0,.int .i64 0,.int .i64 0,.int .i64 0,.int .i64 0,.int .i64 0,.int .i64 0],.int .i64 1];.ag (!f6 b) y0 (.ag (t>=1) (.ag (!decide (t<=1048576)) y0 (.ag (0==aF b.1) (lT [.agg [.int .i64 b.1.1,.int .i64 b.1.2.1,.int .i64 b.1.2.2.1,.int .i64 b.1.2.2.2,.int .i64 b.2.1,.int .i64 b.2.2.1,.int .i64 b.2.2.2.1,.int .i64 b.2.2.2.2,.int .i64 0,.int .i64 0],.int .i64 0]) (lT [.agg [.int .i64 b.1.1,.int .i64 b.1.2.1,.int .i64 b.1.2.2.1,.int .i64 b.1.2.2.2,.int .i64 b.2.1,.int .i64 b.2.2.1,.int .i64 b.2.2.2.1,.int .i64 b.2.2.2.2,.int .i64 0,.int .i64 (fP b 1 t)],.int .i64 0]))) y0))
  (by kernel_rfl) (by
   have dp:∀b:Bk,f6 b=true->1<=aF b.1/\aF b.1<=16777216:=λ_ h=>G6 h
   simp only[ak.holds,sM];(repeat' (first|apply aX|intro _));
   all_goals first
    |(rw[ML (eB.2 (by rw[dz,CS];first|omega|grind))];rfl)
    |(rw[MK (CS.2 (by first|omega|grind))];rfl)
    |(exfalso;grind)) (by kernel_rfl) (by unfold Ab;split<;>rfl)
theorem xZ9(b:Bk)(t:Int):SCall pP 85 [Bk.sv b,J t] (Ab b t):=
 v9 aL [sH,rl,Ll] ⟨A7,sw,PX,trivial⟩ 1000 (.ah (.ln 6 pA) (.ar (.ar (.ah (.ln 3 pA) (.ln 3 (.ah .all .all))))))
  (t:=let y0:ak SV:=lT [.agg [.int .i64 0,.int .i64 0,.int .i64 0,.int .i64 0,.int .i64 0,.int .i64 0,.int .i64 0,.int .i64 0,.int .i64 0,.int .i64 0],.int .i64 1];.ag (t<1) y0 (.ag (t>1048576) y0 (.ag (!f6 b) y0 (lT [.agg [.int .i64 b.1.1,.int .i64 b.1.2.1,.int .i64 b.1.2.2.1,.int .i64 b.1.2.2.2,.int .i64 b.2.1,.int .i64 b.2.2.1,.int .i64 b.2.2.2.1,.int .i64 b.2.2.2.2,.int .i64 0,.int .i64 (fP b 1 t)],.int .i64 0]))))
  (by kernel_rfl) (by
   have dp:∀b:Bk,f6 b=true->1<=aF b.1/\aF b.1<=16777216:=λ_ h=>G6 h
   simp only[ak.holds,sM];(repeat' (first|apply aX|intro _));
   all_goals first
    |(rw[ML (eB.2 (by rw[dz,CS];first|omega|grind))];rfl)
    |(rw[MK (CS.2 (by first|omega|grind))];rfl)
    |(exfalso;grind)) (by kernel_rfl) (by unfold Ab;split<;>rfl)
theorem x20(m:Mo)(t:Int):SCall pP 165 [Mo.sv m,J t] (vL m t):=
 v9 aL [sI,z70,Lm,qi0,OU] ⟨A8,sx,PY,yH7,Xv,trivial⟩ 1000 (.ah (.ar (.ar (.ah (.ln 4 pA) (.ar (.ar (.ah (.ln 14 pA) (.ln 3 (.ah (.ln 10 pA) (.ln 7 (.ah (.ar (.ar pA)) (.ah (.ln 13 (.ah .all (.ah .all (.ah .all .all)))) (.ln 13 pA)))))))))))) (.ln 7 pA))
  (t:=let y0:ak SV:=lT [.agg [.int .i64 m.1.1.1,.int .i64 m.1.1.2.1,.int .i64 m.1.1.2.2.1,.int .i64 m.1.1.2.2.2,.int .i64 m.1.2.1,.int .i64 m.1.2.2.1,.int .i64 m.1.2.2.2.1,.int .i64 m.1.2.2.2.2,.int .i64 m.2.1,.int .i64 m.2.2],.agg [.int .i64 0,.int .i64 0,.int .i64 0,.int .i64 0]];let y1:=i64.wrap (m.2.1+1);let y2:=nC m.1.1 y1;.ag (t>=1) (.ag (!decide (t<=1048576)) y0 (.ag (!f6 m.1) y0 (.ag (m.2.1<0) y0 (.ag (m.2.1>=aF m.1.1) y0 (.ag (m.2.2>=1) (.ag (!decide (m.2.2<=fP m.1 y1 t)) y0 (.ag (i64.wrap (m.2.2-1)>0) (lT [.agg [.int .i64 m.1.1.1,.int .i64 m.1.1.2.1,.int .i64 m.1.1.2.2.1,.int .i64 m.1.1.2.2.2,.int .i64 m.1.2.1,.int .i64 m.1.2.2.1,.int .i64 m.1.2.2.2.1,.int .i64 m.1.2.2.2.2,.int .i64 m.2.1,.int .i64 (i64.wrap (m.2.2-1))],.agg [.int .i64 0,.int .i64 0,.int .i64 0,.int .i64 0]]) (.ag (i64.wrap (m.2.1+1)==aF m.1.1) (lT [.agg [.int .i64 m.1.1.1,.int .i64 m.1.1.2.1,.int .i64 m.1.1.2.2.1,.int .i64 m.1.1.2.2.2,.int .i64 m.1.2.1,.int .i64 m.1.2.2.1,.int .i64 m.1.2.2.2.1,.int .i64 m.1.2.2.2.2,.int .i64 y1,.int .i64 0],.agg [.int .i64 y2.1,.int .i64 y2.2.1,.int .i64 y2.2.2.1,.int .i64 y2.2.2.2]]) (lT [.agg [.int .i64 m.1.1.1,.int .i64 m.1.1.2.1,.int .i64 m.1.1.2.2.1,.int .i64 m.1.1.2.2.2,.int .i64 m.1.2.1,.int .i64 m.1.2.2.1,.int .i64 m.1.2.2.2.1,.int .i64 m.1.2.2.2.2,.int .i64 y1,.int .i64 (fP m.1 (i64.wrap (i64.wrap (m.2.1+1)+1)) t)],.agg [.int .i64 y2.1,.int .i64 y2.2.1,.int .i64 y2.2.2.1,.int .i64 y2.2.2.2]])))) y0))))) y0)
  (by kernel_rfl) (by
   have dp:∀b:Bk,f6 b=true->1<=aF b.1/\aF b.1<=16777216:=λ_ h=>G6 h
   have iv:=L5 m.1 (m.2.1+1) t;have ip:=L4 (b:=m.1) (i:=m.2.1+1) (t:=t);have dr:=nQ m.1.1
   have Tp:0<=m.2.1/\m.2.1<=aF m.1.1-1->i64.wrap (m.2.1+1)=m.2.1+1:=λh=>aG (by omega) (by omega)
   have Ai:1<=m.2.2/\m.2.2<=4296015872->i64.wrap (m.2.2-1)=m.2.2-1:=λh=>aG (by omega) (by omega)
   have To:0<=m.2.1/\m.2.1<=aF m.1.1-1->i64.wrap (m.2.1+1+1)=m.2.1+2:=λh=>(aG (x:=m.2.1+1+1) (by omega) (by omega)).trans (by omega)
   simp only[ak.holds,sM];(repeat' (first|apply aX|intro _));
   all_goals first
    |(rw[jn7 (eB.2 (by rw[dz,lF];grind))];rfl)
    |(rw[jn8 (lF.2 (by grind)) (by grind)]
      simp only[Mo.sv,V4.sv,J,z4,sN]
      (repeat' apply aX)<;>first|rfl|grind)
    |(have r:mu m t=true:=lF.2 (by grind)
      have r2:¬1<m.2.2:=by grind
      have r3:=Tp (lF.1 r).2.1;rw[jn9 r r2];simp only[r3,To (lF.1 r).2.1,Mo.sv,V4.sv,J,sN]
      (repeat' apply aX)<;>first|rfl|grind)
    |(exfalso;grind)) (by kernel_rfl) (by rfl)
theorem x22(m:Mo)(t:Int):SCall pP 171 [Mo.sv m,J t] (vL m t):=
 v9 aL [sH,rl,Ll,qi1] ⟨A7,sw,PX,yH8,trivial⟩ 1000 (let z1:ax:=.ah .all (.ah (.ln 7 (.ah .all .all)) (.ln 7 pA));let z0:ax:=.ah (.ar (.ar pA)) (.ar (.ah (.ln 8 (.ah .all z1)) (.ln 9 z1)));.ah (.ln 11 pA) (.ar (.ar (.ah (.ln 8 pA) (.ln 4 (.ah (.ln 3 pA) (.ah z0 (.ah (.ln 4 (.ah (.ln 3 (.ah (.ln 10 z0) (.ln 13 pA))) (.ln 17 pA))) (.ln 22 pA)))))))))
  (t:=let y1:ak SV:=lT [.agg [.int .i64 m.1.1.1,.int .i64 m.1.1.2.1,.int .i64 m.1.1.2.2.1,.int .i64 m.1.1.2.2.2,.int .i64 m.1.2.1,.int .i64 m.1.2.2.1,.int .i64 m.1.2.2.2.1,.int .i64 m.1.2.2.2.2,.int .i64 m.2.1,.int .i64 m.2.2],.agg [.int .i64 0,.int .i64 0,.int .i64 0,.int .i64 0]];let y3:=i64.wrap (m.2.1+1);let y4:=nC m.1.1 y3;let y2:ak SV:=lT [.agg [.int .i64 m.1.1.1,.int .i64 m.1.1.2.1,.int .i64 m.1.1.2.2.1,.int .i64 m.1.1.2.2.2,.int .i64 m.1.2.1,.int .i64 m.1.2.2.1,.int .i64 m.1.2.2.2.1,.int .i64 m.1.2.2.2.2,.int .i64 y3,.int .i64 (fP m.1 (i64.wrap (i64.wrap (m.2.1+1)+1)) t)],.agg [.int .i64 y4.1,.int .i64 y4.2.1,.int .i64 y4.2.2.1,.int .i64 y4.2.2.2]];let y0:ak SV:=.ag (i64.wrap (m.2.2-1)>0) (lT [.agg [.int .i64 m.1.1.1,.int .i64 m.1.1.2.1,.int .i64 m.1.1.2.2.1,.int .i64 m.1.1.2.2.2,.int .i64 m.1.2.1,.int .i64 m.1.2.2.1,.int .i64 m.1.2.2.2.1,.int .i64 m.1.2.2.2.2,.int .i64 m.2.1,.int .i64 (i64.wrap (m.2.2-1))],.agg [.int .i64 0,.int .i64 0,.int .i64 0,.int .i64 0]]) (.ag (f6 m.1) (.ag (!i64.wrap (m.2.1+1)==aF m.1.1) y2 (lT [.agg [.int .i64 m.1.1.1,.int .i64 m.1.1.2.1,.int .i64 m.1.1.2.2.1,.int .i64 m.1.1.2.2.2,.int .i64 m.1.2.1,.int .i64 m.1.2.2.1,.int .i64 m.1.2.2.2.1,.int .i64 m.1.2.2.2.2,.int .i64 y3,.int .i64 (i64.wrap (m.2.2-1))],.agg [.int .i64 y4.1,.int .i64 y4.2.1,.int .i64 y4.2.2.1,.int .i64 y4.2.2.2]])) y2);.ag (t<1) y1 (.ag (t>1048576) y1 (.ag (!f6 m.1) y1 (.ag (m.2.1==aF m.1.1) (.ag (!m.2.2==0) y1 (.ag (f6 m.1) (.ag (m.2.1==aF m.1.1) y1 y0) y0)) (.ag (m.2.1>=0) (.ag (m.2.1<aF m.1.1) (.ag (m.2.2>=1) (.ag (!decide (m.2.2<=fP m.1 y3 t)) y1 (.ag (f6 m.1) (.ag (m.2.1==aF m.1.1) y1 y0) y0)) y1) y1) y1)))))
  (by kernel_rfl) (by
   have dp:∀b:Bk,f6 b=true->1<=aF b.1/\aF b.1<=16777216:=λ_ h=>G6 h
   have iv:=L5 m.1 (m.2.1+1) t;have ip:=L4 (b:=m.1) (i:=m.2.1+1) (t:=t);have dr:=nQ m.1.1
   have Tp:0<=m.2.1/\m.2.1<=aF m.1.1-1->i64.wrap (m.2.1+1)=m.2.1+1:=λh=>aG (by omega) (by omega)
   have Ai:1<=m.2.2/\m.2.2<=4296015872->i64.wrap (m.2.2-1)=m.2.2-1:=λh=>aG (by omega) (by omega)
   have To:0<=m.2.1/\m.2.1<=aF m.1.1-1->i64.wrap (m.2.1+1+1)=m.2.1+2:=λh=>(aG (x:=m.2.1+1+1) (by omega) (by omega)).trans (by omega)
   simp only[ak.holds,sM];(repeat' (first|apply aX|intro _));
   all_goals first
    |(rw[jn7 (eB.2 (by rw[dz,lF];grind))];rfl)
    |(rw[jn8 (lF.2 (by grind)) (by grind)]
      simp only[Mo.sv,V4.sv,J,z4,sN]
      (repeat' apply aX)<;>first|rfl|grind)
    |(have r:mu m t=true:=lF.2 (by grind)
      have r2:¬1<m.2.2:=by grind
      have r3:=Tp (lF.1 r).2.1;rw[jn9 r r2];simp only[r3,To (lF.1 r).2.1,Mo.sv,V4.sv,J,sN]
      (repeat' apply aX)<;>first|rfl|grind)
    |(exfalso;grind)) (by kernel_rfl) (by rfl)
def Lh:aB:=Dj 205 λm=>.ai (V4.sv (fc m))
def DH:aB:=Dj 132 λm=>.ai (V4.sv (fc m))
def PT:Lh.ok pP:=KN (xN0)
def FN:DH.ok pP:=KN (xN1)
def OP:aB:=Dj 166 λm=>.ai (.bool (kO m))
def z75:aB:=Dj 173 λm=>.ai (.bool (kO m))
def yw8:OP.ok pP:=KN (xE8)
def Xk:z75.ok pP:=KN (xE9)
def Rf:aB:=Gj 165 λm t=>.ai (vL m t)
def qm9:aB:=Gj 171 λm t=>.ai (vL m t)
def yN2:Rf.ok pP:=Q8 (x20)
def yN3:qm9.ok pP:=Q8 (x22)
def Ri:aB:=Dt 174 λb t=>.ag (pX b t) (.ai (.tuple [Mo.sv (rF b t),J 0])) (.ai (.tuple [Mo.sv m0,J 1]))
def ql8:aB:=Dt 85 λb t=>.ag (pX b t) (.ai (.tuple [Mo.sv (rF b t),J 0])) (.ai (.tuple [Mo.sv m0,J 1]))
def yL7:Ri.ok pP:=K4 (λb t=>⟨λh=>MK h▸xZ8 b t,λh=>ML h▸xZ8 b t⟩)
def yL8:ql8.ok pP:=K4 (λb t=>⟨λh=>MK h▸xZ9 b t,λh=>ML h▸xZ9 b t⟩)
variable{a M:Int}
def yV{b:Int}(hb:1<=b)(hM:0<=M)(h: -M<=a/\a<=M): -M<=a / b/\a / b<=M:=by
 constructor
 .refine NK (by omega) ?_
  have:M*1<=M*b:=ER hb hM;rw[NI];omega
 .by_cases ha:0<=a
  .have:=Ii b ha;omega
  .have:=Int.ediv_neg_of_neg_of_pos (a:=a) (b:=b) (by omega) (by omega);omega
def qD5{b:Int}(hb:1<=b):a.tdiv b=if a<0/\a.tmod b≠0 then a / b+1 else a / b:=by
 rw[Int.tdiv_eq_ediv];have hs:b.sign=1:=Int.sign_eq_one_of_pos (by omega);have hd:b ∣ a↔a.tmod b=0:=⟨Int.tmod_eq_zero_of_dvd,Int.dvd_of_tmod_eq_zero⟩;rw[hs]
 by_cases h1:0<=a\/b ∣ a
 .rw[ay h1,au (by rw[hd]at h1;omega)];omega
 .rw[au h1,ay (by rw[hd]at h1;omega)]
def gi(a b:Int):Int:=if b-a % b<=a % b then a / b+1 else a / b
def ZE{b:Int}(hb:1<=b)(hM:0<=M)(h: -M<=a/\a<=M): -M<=gi a b/\gi a b<=M+1:=by
 have:=yV hb hM h
 unfold gi;split<;>omega
def Ph{b:Int}(hb:1<=b):0<=a % b/\a % b<b:=⟨Int.emod_nonneg _ (by omega),Int.emod_lt_of_pos _ (by omega)⟩
def jj9{b:Int}:a-a / b*b=a % b:=by rw[Int.emod_def,Int.mul_comm]
def cS(n lo hi:Int):Int:=if n<lo then lo else if n>hi then hi else n
variable{n:Int}
def CC{lo hi:Int}(h:lo<=hi):lo<=cS n lo hi/\cS n lo hi<=hi:=by unfold cS;(repeat' split)<;>omega
def En{x:Int}(h0:0<=x)(h1:x<=9223372036854775807):u64.wrap x=x:=by
 have h2:IntKind.wrap .u64 x=if false&&x % 18446744073709551616>=9223372036854775808 then x % 18446744073709551616-18446744073709551616 else x % 18446744073709551616:=rfl
 rw[h2];simp only[Il,eY,iD];omega
def xH2(a b:Int)(h:(az b 1 4611686018427387904&&az a (-4611686018427387904) 4611686018427387904)=true):ak.holds (λv=>v=(.tuple [J (a / b),J 0])) (let y1:ak SV:=lT [.int .i64 (i64.wrap (a.tdiv b)),.int .i64 0];let y0:ak SV:=.aj (!b==0) (.aj (!b==0) (.ag (a.tmod b != 0) (.ag (!decide (a<0)==decide (b<0)) (lT [.int .i64 (i64.wrap (i64.wrap (a.tdiv b)-1)),.int .i64 0]) y1) y1));.ag (b==0) (lT [.int .i64 0,.int .i64 4]) (.ag (a== -9223372036854775808) (.ag (b== -1) (lT [.int .i64 0,.int .i64 3]) y0) y0):ak SV):=by
  rw[aH,v5,v5]at h;have r:=yV h.1.1 (by omega) h.2;have e:=qD5 (a:=a) h.1.1;have k1:i64.wrap (a / b)=a / b:=aG (by omega) (by omega);have k2:i64.wrap (a / b+1)=a / b+1:=aG (by omega) (by omega);have k3:i64.wrap (a / b+1-1)=a / b:=(aG (by omega) (by omega)).trans (by omega);have hb0:decide (b<0)=false:=iX (by omega)
  have HG:(b==0)=false:=by simp;omega
  have lu:(b== -1)=false:=by simp;omega
  have ha0:(a== -9223372036854775808)=false:=by simp;omega
  by_cases ha:a<0<;>by_cases hm:a.tmod b=0
  all_goals simp only[ak.holds,hb0,HG,lu,ha0,ha,hm,decide_true,decide_false,yF,eY,iG,ir,dV,jI,U1,bne_self_eq_false,px,dz,oQ,mG,ot,HS,HZ,qt,show(false==false)=true from rfl,show(true==false)=false from rfl,false_and,and_false]at e ⊢
  all_goals simp only[e,pc,iD,k1,k2,k3,J]
def xH0(a b:Int)(h:(az b 1 4611686018427387904&&az a (-4611686018427387904) 4611686018427387904)=true):SCall pP 225 [J a,J b] (.tuple [J (a / b),J 0]):=
 aY aL [] trivial 1000 (.ah .all (.ah (.ar (.ar (.ah .all (.ah (.ln 5 (.ah .all .all)) (.ln 5 pA))))) (.ln 3 (.ah (.ln 5 (.ah .all .all)) (.ln 5 pA)))))
  (by kernel_rfl) (xH2 a b h) (by kernel_rfl)
def xH1(a b:Int)(h:(az b 1 4611686018427387904&&az a (-4611686018427387904) 4611686018427387904)=true):SCall pP 235 [J a,J b] (.tuple [J (a / b),J 0]):=
 aY aL [] trivial 1000 (.ah .all (.ah (.ar (.ar (.ah .all (.ah (.ln 5 (.ah .all .all)) (.ln 5 pA))))) (.ln 3 (.ah (.ln 5 (.ah .all .all)) (.ln 5 pA)))))
  (by kernel_rfl) (xH2 a b h) (by kernel_rfl)
def Ji:aB:=zD 225 λa b=>.aj (az b 1 4611686018427387904&&az a (-4611686018427387904) 4611686018427387904) (lT [J (a / b),J 0])
def Jh:aB:=zD 235 λa b=>.aj (az b 1 4611686018427387904&&az a (-4611686018427387904) 4611686018427387904) (lT [J (a / b),J 0])
def OY:Ji.ok pP:=Dm (λa b h=>xH0 a b h)
def OX:Jh.ok pP:=Dm (λa b h=>xH1 a b h)
def xW2(a b:Int)(h:(az b 1 4611686018427387904&&az a (-4611686018427387904) 4611686018427387904)=true):SCall pP 208 [J a,J b] (.tuple [J (gi a b),J 0]):=
 aY aL [Ji] ⟨OY,trivial⟩ 1000 (.ar (.ah (.ln 5 (.ah (.ln 4 pA) (.ar (.ar (.ah (.ln 7 (.ah .all .all)) (.ln 7 pA)))))) (.ln 8 (.ah (.ln 7 (.ah .all .all)) (.ln 7 pA)))))
  (t:=let y1:=a-i64.wrap (a / b*b);let y2:ak SV:=lT [.int .i64 (i64.wrap (a / b+1)),.int .i64 0];let y0:ak SV:=.ag (b<0) (.ag (i64.wrap y1<=i64.wrap (b-i64.wrap y1)) y2 (lT [.int .i64 (a / b),.int .i64 0])) (lT [.int .i64 (a / b),.int .i64 0]);.aj (az b 1 4611686018427387904&&az a (-4611686018427387904) 4611686018427387904) (.ag (b>0) (.ag (i64.wrap y1>=i64.wrap (b-i64.wrap y1)) y2 y0) y0))
  (by kernel_rfl) (by
   rw[aH,v5,v5]at h;have r:=yV h.1.1 (by omega) h.2;have q:=Ph (a:=a) h.1.1;have e:=jj9 (a:=a) (b:=b);have k0:i64.wrap (a / b*b)=a / b*b:=aG (by omega) (by omega);have k1:i64.wrap (a % b)=a % b:=aG (by omega) (by omega);have k2:i64.wrap (a / b+1)=a / b+1:=aG (by omega) (by omega);have k3:i64.wrap (b-a % b)=b-a % b:=aG (by omega) (by omega);have k4:u64.wrap (a % b)=a % b:=En (by omega) (by omega);have k5:u64.wrap b=b:=En (by omega) (by omega);have k6:u64.wrap (b-a % b)=b-a % b:=En (by omega) (by omega)
   have hh:(az b 1 4611686018427387904&&az a (-4611686018427387904) 4611686018427387904)=true:=by rw[aH,v5,v5];exact h
   simp only[hh,k0,e,k1,k2,k3,k4,k5,k6,ak.holds,ge_iff_le,sM];(repeat' (first|apply aX|intro _));
   all_goals first
    |omega
    |(exfalso;omega)
    |(unfold gi;rw[ay (by omega)];rfl)
    |(unfold gi;rw[au (by omega)];rfl)) (by kernel_rfl)
def xW3(a b:Int)(h:(az b 1 4611686018427387904&&az a (-4611686018427387904) 4611686018427387904)=true):SCall pP 197 [J a,J b] (.tuple [J (gi a b),J 0]):=
 aY aL [Jh] ⟨OX,trivial⟩ 1000 (.ar (.ah (.ah (.ah (.all) (.all)) (.ah (.all) (.all))) (.ah (.ah (.all) (.all)) (.ah (.all) (.all)))))
  (t:=let y0:=i64.wrap (a-i64.wrap (a / b*b));let y1:ak SV:=lT [.int .i64 (i64.wrap (a / b+1)),.int .i64 0];let y2:ak SV:=lT [.int .i64 (a / b),.int .i64 0];let y3:=0-u64.wrap y0;.aj (az b 1 4611686018427387904&&az a (-4611686018427387904) 4611686018427387904) (.ag (i64.wrap (a-i64.wrap (a / b*b))<0) (.ag (b<0) (.ag (u64.wrap y3>=u64.wrap (u64.wrap (0-u64.wrap b)-u64.wrap y3)) y1 y2) (.ag (u64.wrap y3>=u64.wrap (u64.wrap b-u64.wrap y3)) y1 y2)) (.ag (b<0) (.ag (u64.wrap y0>=u64.wrap (u64.wrap (0-u64.wrap b)-u64.wrap y0)) y1 y2) (.ag (u64.wrap y0>=u64.wrap (u64.wrap b-u64.wrap y0)) y1 y2))))
  (by kernel_rfl) (by
   rw[aH,v5,v5]at h;have r:=yV h.1.1 (by omega) h.2;have q:=Ph (a:=a) h.1.1;have e:=jj9 (a:=a) (b:=b);have k0:i64.wrap (a / b*b)=a / b*b:=aG (by omega) (by omega);have k1:i64.wrap (a % b)=a % b:=aG (by omega) (by omega);have k2:i64.wrap (a / b+1)=a / b+1:=aG (by omega) (by omega);have k3:i64.wrap (b-a % b)=b-a % b:=aG (by omega) (by omega);have k4:u64.wrap (a % b)=a % b:=En (by omega) (by omega);have k5:u64.wrap b=b:=En (by omega) (by omega);have k6:u64.wrap (b-a % b)=b-a % b:=En (by omega) (by omega)
   have hh:(az b 1 4611686018427387904&&az a (-4611686018427387904) 4611686018427387904)=true:=by rw[aH,v5,v5];exact h
   simp only[hh,k0,e,k1,k2,k3,k4,k5,k6,ak.holds,ge_iff_le,sM];(repeat' (first|apply aX|intro _));
   all_goals first
    |omega
    |(exfalso;omega)
    |(unfold gi;rw[ay (by omega)];rfl)
    |(unfold gi;rw[au (by omega)];rfl)) (by kernel_rfl)
def xJ:aB:=zD 208 λa b=>.aj (az b 1 4611686018427387904&&az a (-4611686018427387904) 4611686018427387904) (lT [J (gi a b),J 0])
def xI:aB:=zD 197 λa b=>.aj (az b 1 4611686018427387904&&az a (-4611686018427387904) 4611686018427387904) (lT [J (gi a b),J 0])
def zn:xJ.ok pP:=Dm (λa b h=>xW2 a b h)
def zm:xI.ok pP:=Dm (λa b h=>xW3 a b h)
def xC1(a b c:Int)(h:decide (b<=c)=true):SCall pP 224 [J a,J b,J c] (J (cS a b c)):=
 aY aL [] trivial 1000 (.all)
  (t:=.ai (SV.int i64 (if(if c<a then c else a)>b then if c<a then c else a else b)))
  (by kernel_rfl) (by
   rw[aV]at h;refine mJ ?_
   unfold cS;(repeat' split)<;>omega) (by kernel_rfl)
def xC3(a b c:Int)(h:decide (b<=c)=true):SCall pP 234 [J a,J b,J c] (J (cS a b c)):=
 aY aL [] trivial 1000 (.all)
  (t:=.ai (SV.int i64 (if(if c<a then c else a)>b then if c<a then c else a else b)))
  (by kernel_rfl) (by
   rw[aV]at h;refine mJ ?_
   unfold cS;(repeat' split)<;>omega) (by kernel_rfl)
def OR:aB:=zC 224 λa b c=>.aj (b<=c) (.ai (J (cS a b c)))
def z54:aB:=zC 234 λa b c=>.aj (b<=c) (.ai (J (cS a b c)))
def Xo:OR.ok pP:=Dp (λa b c h=>xC1 a b c h)
def yu9:z54.ok pP:=Dp (λa b c h=>xC3 a b c h)
theorem xC2(a b c:Int):SCall pP 236 [J a,J b,J c] (J (cS a b c)):=
 aY aL [] trivial 1000 (.ah (.all) (.ah (.all) (.all)))
  (t:=.ag (a<b)
 (.ai (SV.int i64 b))
 (.ag (a>c)
  (.ai (SV.int i64 c))
  (.ai (SV.int i64 a))))
   (by kernel_rfl) (by
    simp only[ak.holds,cS,J];grind) (by kernel_rfl)
def z53:aB:=zC 236 λa b c=>.ai (J (cS a b c))
def yu8:z53.ok pP:=Dp xC2
abbrev V3:=Int×Int×Int
def V3.sv(v:V3):SV:=.agg [J v.1,J v.2.1,J v.2.2]
def cA(m:Ma)(i:Int):Ax:=if i=0 then m.x else if i=1 then m.y else if i=2 then m.z else m.e
def fI(m:Ma)(p:Int):Bool:=m.ok&&az p (-1073741824) 1073741824
variable{p:Int}
def dK{m:Ma}:fI m p=true↔m.ok=true/\-1073741824<=p/\p<=1073741824:=by simp only[fI,aH,v5]
def e7(m:Ma)(p:Int):Bool:=m.ok&&az p (-70368744177664) 70368744177664
def fH{m:Ma}:e7 m p=true↔m.ok=true/\-70368744177664<=p/\p<=70368744177664:=by simp only[e7,aH,v5]
def cZ(a:Ax)(p:Int):Int:=gi (p*a.num) a.den
def dY(a:Ax)(p:Int):Int:=gi (p*a.den) a.num
def fT(b:Bool)(n:Int):SV:=match b with
 |true=>.tuple [J n,J 0]
 |false=>.tuple [J 0,J 1]
def gy{b:Bool}(h:b=true):fT b n=.tuple [J n,J 0] :=by rw[h];rfl
def gz{b:Bool}(h:b=false):fT b n=.tuple [J 0,J 1] :=by rw[h];rfl
def JJ{A B:Int}(hA:0<=A)(hp: -A<=p/\p<=A)(hn:0<=n/\n<=B): -(A*B)<=p*n/\p*n<=A*B:=by
 have h1:p*n<=A*n:=Ce hp.2 hn.1;have h2:A*n<=A*B:=ER hn.2 hA;have h3:(-A)*n<=p*n:=Ce hp.1 hn.1;rw[NI]at h3;omega
def oV{a:Ax}(h:a.ok=true)(hp: -1073741824<=p/\p<=1073741824):(-70368744177664<=p*a.num/\p*a.num<=70368744177664)/\-70368744177664<=cZ a p/\cZ a p<=70368744177665:=by
 rw[Ax.bz]at h;have:=JJ (A:=1073741824) (B:=65536) (by omega) hp (n:=a.num) (by omega);exact⟨this,ZE (M:=70368744177664) (by omega) (by omega) this⟩
def zX{a:Ax}(h:a.ok=true)(hM:0<=M)(hp: -M<=p/\p<=M):(-(M*65536)<=p*a.den/\p*a.den<=M*65536)/\-(M*65536)<=dY a p/\dY a p<=M*65536+1:=by
 rw[Ax.bz]at h;have:=JJ (A:=M) (B:=65536) (by omega) hp (n:=a.den) (by omega);exact⟨this,ZE (M:=M*65536) (by omega) (by omega) this⟩
def Fg(xy:Bool)(c:V4):V4:=match xy with
 |true=>(c.1+c.2.1,c.1-c.2.1,c.2.2.1,c.2.2.2)
 |false=>c
def mg(m:Ma)(v:V3)(e:Int):V4:=Fg m.xy (cZ m.x v.1,cZ m.y v.2.1,cZ m.z v.2.2,cZ m.e e)
def iL(m:Ma)(v:V3)(e:Int):Bool:=fI m v.1&& (fI m v.2.1&& (fI m v.2.2&&fI m e))
variable{v:V3}{e:Int}
def tL{m:Ma}:iL m v e=true↔fI m v.1=true/\fI m v.2.1=true/\fI m v.2.2=true/\fI m e=true:=by simp only[iL,aH]
def gC(m:Ma)(v:V3):Bool:=m.ok&& (az v.1 m.x.min m.x.max&& (az v.2.1 m.y.min m.y.max&&az v.2.2 m.z.min m.z.max))
def Lw{m:Ma}:gC m v=true↔m.ok=true/\(m.x.min<=v.1/\v.1<=m.x.max)/\(m.y.min<=v.2.1/\v.2.1<=m.y.max)/\m.z.min<=v.2.2/\v.2.2<=m.z.max:=by simp only[gC,aH,v5]
def sW(xy:Bool)(p:V4):V4:=match xy with
 |true=>((p.1+p.2.1) / 2,(p.1-p.2.1) / 2,p.2.2.1,p.2.2.2)
 |false=>p
def dh(m:Ma)(p:V4):V4:=(dY m.x (sW m.xy p).1,dY m.y (sW m.xy p).2.1,dY m.z (sW m.xy p).2.2.1,dY m.e (sW m.xy p).2.2.2)
def zh(m:Ma)(v:V3)(e:Int):SV:=match iL m v e with
 |true=>.tuple [V4.sv (mg m v e),J 0]
 |false=>.tuple [V4.sv z4,J 1]
def JM{m:Ma}(h:iL m v e=true):zh m v e=.tuple [V4.sv (mg m v e),J 0] :=by unfold zh;rw[h]
def JN{m:Ma}(h:iL m v e=false):zh m v e=.tuple [V4.sv z4,J 1] :=by unfold zh;rw[h]
def Dl(f:FuncId)(h:Ma->Int->Int->ak SV):aB:=⟨f,λargs=>match args with
 |[.agg [.int .i64 a0,.int .i64 a1,.int .i64 a2,.int .i64 a3,.int .i64 a4,.int .i64 a5,.int .i64 a6,.int .i64 b0,.int .i64 b1,.int .i64 b2,.int .i64 b3,.int .i64 b4,.int .i64 b5,.int .i64 b6,.int .i64 c0,.int .i64 c1,.int .i64 c2,.int .i64 c3,.int .i64 c4,.int .i64 c5,.int .i64 c6,.int .i64 d0,.int .i64 d1,.int .i64 d2,.int .i64 d3,.int .i64 d4,.int .i64 d5,.int .i64 d6,.bool xy,.int .i64 t],.int .i64 i,.int .i64 p] =>some (h ⟨⟨a0,a1,a2,a3,a4,a5,a6⟩,⟨b0,b1,b2,b3,b4,b5,b6⟩,⟨c0,c1,c2,c3,c4,c5,c6⟩,⟨d0,d1,d2,d3,d4,d5,d6⟩,xy,t⟩ i p)
 |_=>none⟩
variable{P:Program}{f:FuncId}
def KT{h:Ma->Int->Int->ak SV}(k:∀m i p,(h m i p).bw (SCall P f [m.sv,J i,J p])):(Dl f h).ok P:=λargs t ht=>by
 simp only[Dl]at ht
 split at ht<;>cases ht;exact k ⟨⟨_,_,_,_,_,_,_⟩,⟨_,_,_,_,_,_,_⟩,⟨_,_,_,_,_,_,_⟩,⟨_,_,_,_,_,_,_⟩,_,_⟩ _ _
def KS(f:FuncId)(h:Ma->V3->ak SV):aB:=⟨f,λargs=>match args with
 |[.agg [.int .i64 a0,.int .i64 a1,.int .i64 a2,.int .i64 a3,.int .i64 a4,.int .i64 a5,.int .i64 a6,.int .i64 b0,.int .i64 b1,.int .i64 b2,.int .i64 b3,.int .i64 b4,.int .i64 b5,.int .i64 b6,.int .i64 c0,.int .i64 c1,.int .i64 c2,.int .i64 c3,.int .i64 c4,.int .i64 c5,.int .i64 c6,.int .i64 d0,.int .i64 d1,.int .i64 d2,.int .i64 d3,.int .i64 d4,.int .i64 d5,.int .i64 d6,.bool xy,.int .i64 t],.agg [.int .i64 x,.int .i64 y,.int .i64 z]] =>some (h ⟨⟨a0,a1,a2,a3,a4,a5,a6⟩,⟨b0,b1,b2,b3,b4,b5,b6⟩,⟨c0,c1,c2,c3,c4,c5,c6⟩,⟨d0,d1,d2,d3,d4,d5,d6⟩,xy,t⟩ (x,y,z))
 |_=>none⟩
def qv6{h:Ma->V3->ak SV}(k:∀m v,(h m v).bw (SCall P f [m.sv,V3.sv v])):(KS f h).ok P:=λargs t ht=>by
 simp only[KS]at ht
 split at ht<;>cases ht;exact k ⟨⟨_,_,_,_,_,_,_⟩,⟨_,_,_,_,_,_,_⟩,⟨_,_,_,_,_,_,_⟩,⟨_,_,_,_,_,_,_⟩,_,_⟩ (_,_,_)
def KO(f:FuncId)(h:Ma->V3->Int->ak SV):aB:=⟨f,λargs=>match args with
 |[.agg [.int .i64 a0,.int .i64 a1,.int .i64 a2,.int .i64 a3,.int .i64 a4,.int .i64 a5,.int .i64 a6,.int .i64 b0,.int .i64 b1,.int .i64 b2,.int .i64 b3,.int .i64 b4,.int .i64 b5,.int .i64 b6,.int .i64 c0,.int .i64 c1,.int .i64 c2,.int .i64 c3,.int .i64 c4,.int .i64 c5,.int .i64 c6,.int .i64 d0,.int .i64 d1,.int .i64 d2,.int .i64 d3,.int .i64 d4,.int .i64 d5,.int .i64 d6,.bool xy,.int .i64 t],.agg [.int .i64 x,.int .i64 y,.int .i64 z],.int .i64 e] =>some (h ⟨⟨a0,a1,a2,a3,a4,a5,a6⟩,⟨b0,b1,b2,b3,b4,b5,b6⟩,⟨c0,c1,c2,c3,c4,c5,c6⟩,⟨d0,d1,d2,d3,d4,d5,d6⟩,xy,t⟩ (x,y,z) e)
 |_=>none⟩
def qv5{h:Ma->V3->Int->ak SV}(k:∀m v e,(h m v e).bw (SCall P f [m.sv,V3.sv v,J e])):(KO f h).ok P:=λargs t ht=>by
 simp only[KO]at ht
 split at ht<;>cases ht;exact k ⟨⟨_,_,_,_,_,_,_⟩,⟨_,_,_,_,_,_,_⟩,⟨_,_,_,_,_,_,_⟩,⟨_,_,_,_,_,_,_⟩,_,_⟩ (_,_,_) _
def Dk(f:FuncId)(h:Ma->V4->ak SV):aB:=⟨f,λargs=>match args with
 |[.agg [.int .i64 a0,.int .i64 a1,.int .i64 a2,.int .i64 a3,.int .i64 a4,.int .i64 a5,.int .i64 a6,.int .i64 b0,.int .i64 b1,.int .i64 b2,.int .i64 b3,.int .i64 b4,.int .i64 b5,.int .i64 b6,.int .i64 c0,.int .i64 c1,.int .i64 c2,.int .i64 c3,.int .i64 c4,.int .i64 c5,.int .i64 c6,.int .i64 d0,.int .i64 d1,.int .i64 d2,.int .i64 d3,.int .i64 d4,.int .i64 d5,.int .i64 d6,.bool xy,.int .i64 t],.agg [.int .i64 x,.int .i64 y,.int .i64 z,.int .i64 w]] =>some (h ⟨⟨a0,a1,a2,a3,a4,a5,a6⟩,⟨b0,b1,b2,b3,b4,b5,b6⟩,⟨c0,c1,c2,c3,c4,c5,c6⟩,⟨d0,d1,d2,d3,d4,d5,d6⟩,xy,t⟩ (x,y,z,w))
 |_=>none⟩
def KP{h:Ma->V4->ak SV}(k:∀m v,(h m v).bw (SCall P f [m.sv,V4.sv v])):(Dk f h).ok P:=λargs t ht=>by
 simp only[Dk]at ht
 split at ht<;>cases ht;exact k ⟨⟨_,_,_,_,_,_,_⟩,⟨_,_,_,_,_,_,_⟩,⟨_,_,_,_,_,_,_⟩,⟨_,_,_,_,_,_,_⟩,_,_⟩ (_,_,_,_)
theorem xY6(m:Ma)(p:Int):SCall pP 135 [m.sv,J 0,J p] (fT (fI m p) (cZ m.x p)):=
 v9 aL [pS,xJ] ⟨qB,zn,trivial⟩ 1000 (.ah (.ln 9 pA) (.ln 7 (.ah (.ln 5 (.ah .all .all)) (.ln 5 pA))))
  (t:=let y0:ak SV:=lT [.int .i64 0,.int .i64 1];.ag (!m.ok) y0 (.ag (p>=-1073741824) (.ag (!decide (p<=1073741824)) y0 (rT (rT (.aj (az m.x.den 1 4611686018427387904&&az (i64.wrap (p*m.x.num)) (-4611686018427387904) 4611686018427387904) (lT [.int .i64 (gi (i64.wrap (p*m.x.num)) m.x.den),.int .i64 0]))))) y0))
  (by kernel_rfl) (by
   simp only[ak.holds,sM];(repeat' (first|apply aX|intro _));
   all_goals first
    |(rw[gz (eB.2 (by rw[dz,dK];first|omega|grind))];rfl)
    |(have hk:=dK.1 (show fI m p=true by rw[dK];first|omega|grind)
      have hx:m.x.ok=true:=by have:=Ma.bz m;grind
      have r:=oV hx hk.2;have ho:=(Ax.bz _).1 hx;have w:=aG (x:=p*m.x.num) (by omega) (by omega)
      first
      |(rw[gy (dK.2 hk),w];rfl)
      |(rw[w,v5];omega)
      |(rw[v5];omega))) (by kernel_rfl) (by unfold fT;split<;>rfl)
theorem xY7(m:Ma)(p:Int):SCall pP 303 [m.sv,J 0,J p] (fT (fI m p) (cZ m.x p)):=
 v9 aL [pR,xI] ⟨qA,zm,trivial⟩ 1000 (.ah (.ln 11 pA) (.ln 8 (.ah (.ar (.ar pA)) (.ar (.ar (.ah .all .all))))))
  (t:=let y0:ak SV:=lT [.int .i64 0,.int .i64 1];.ag (!m.ok) y0 (.ag (p < -1073741824) y0 (.ag (p>1073741824) y0 (rT (rT (.aj (az m.x.den 1 4611686018427387904&&az (i64.wrap (p*m.x.num)) (-4611686018427387904) 4611686018427387904) (lT [.int .i64 (gi (i64.wrap (p*m.x.num)) m.x.den),.int .i64 0])))))))
  (by kernel_rfl) (by
   simp only[ak.holds,sM];(repeat' (first|apply aX|intro _));
   all_goals first
    |(rw[gz (eB.2 (by rw[dz,dK];first|omega|grind))];rfl)
    |(have hk:=dK.1 (show fI m p=true by rw[dK];first|omega|grind)
      have hx:m.x.ok=true:=by have:=Ma.bz m;grind
      have r:=oV hx hk.2;have ho:=(Ax.bz _).1 hx;have w:=aG (x:=p*m.x.num) (by omega) (by omega)
      first
      |(rw[gy (dK.2 hk),w];rfl)
      |(rw[w,v5];omega)
      |(rw[v5];omega))) (by kernel_rfl) (by unfold fT;split<;>rfl)
theorem x34(m:Ma)(p:Int):SCall pP 192 [m.sv,J 0,J p] (fT (e7 m p) (dY m.x p)):=
 v9 aL [pS,xJ] ⟨qB,zn,trivial⟩ 1000 (.ah (.ln 9 pA) (.ln 7 (.ah (.ln 5 (.ah .all .all)) (.ln 5 pA))))
  (t:=let y0:ak SV:=lT [.int .i64 0,.int .i64 1];.ag (!m.ok) y0 (.ag (p>=-70368744177664) (.ag (!decide (p<=70368744177664)) y0 (rT (rT (.aj (az m.x.num 1 4611686018427387904&&az (i64.wrap (p*m.x.den)) (-4611686018427387904) 4611686018427387904) (lT [.int .i64 (gi (i64.wrap (p*m.x.den)) m.x.num),.int .i64 0]))))) y0))
  (by kernel_rfl) (by
   simp only[ak.holds,sM];(repeat' (first|apply aX|intro _));
   all_goals first
    |(rw[gz (eB.2 (by rw[dz,fH];first|omega|grind))];rfl)
    |(have hk:=fH.1 (show e7 m p=true by rw[fH];first|omega|grind)
      have hx:m.x.ok=true:=by have:=Ma.bz m;grind
      have r:=zX hx (by omega) hk.2;have ho:=(Ax.bz _).1 hx;have w:=aG (x:=p*m.x.den) (by omega) (by omega)
      first
      |(rw[gy (fH.2 hk),w];rfl)
      |(rw[w,v5];omega)
      |(rw[v5];omega))) (by kernel_rfl) (by unfold fT;split<;>rfl)
theorem x35(m:Ma)(p:Int):SCall pP 112 [m.sv,J 0,J p] (fT (e7 m p) (dY m.x p)):=
 v9 aL [pR,xI] ⟨qA,zm,trivial⟩ 1000 (.ah (.ln 11 pA) (.ln 8 (.ah (.ar (.ar pA)) (.ar (.ar (.ah .all .all))))))
  (t:=let y0:ak SV:=lT [.int .i64 0,.int .i64 1];.ag (!m.ok) y0 (.ag (p < -70368744177664) y0 (.ag (p>70368744177664) y0 (rT (rT (.aj (az m.x.num 1 4611686018427387904&&az (i64.wrap (p*m.x.den)) (-4611686018427387904) 4611686018427387904) (lT [.int .i64 (gi (i64.wrap (p*m.x.den)) m.x.num),.int .i64 0])))))))
  (by kernel_rfl) (by
   simp only[ak.holds,sM];(repeat' (first|apply aX|intro _));
   all_goals first
    |(rw[gz (eB.2 (by rw[dz,fH];first|omega|grind))];rfl)
    |(have hk:=fH.1 (show e7 m p=true by rw[fH];first|omega|grind)
      have hx:m.x.ok=true:=by have:=Ma.bz m;grind
      have r:=zX hx (by omega) hk.2;have ho:=(Ax.bz _).1 hx;have w:=aG (x:=p*m.x.den) (by omega) (by omega)
      first
      |(rw[gy (fH.2 hk),w];rfl)
      |(rw[w,v5];omega)
      |(rw[v5];omega))) (by kernel_rfl) (by unfold fT;split<;>rfl)
theorem xY8(m:Ma)(p:Int):SCall pP 135 [m.sv,J 1,J p] (fT (fI m p) (cZ m.y p)):=
 v9 aL [pS,xJ] ⟨qB,zn,trivial⟩ 1000 (.ah (.ln 9 pA) (.ln 7 (.ah (.ln 5 (.ah .all .all)) (.ln 5 pA))))
  (t:=let y0:ak SV:=lT [.int .i64 0,.int .i64 1];.ag (!m.ok) y0 (.ag (p>=-1073741824) (.ag (!decide (p<=1073741824)) y0 (rT (rT (.aj (az m.y.den 1 4611686018427387904&&az (i64.wrap (p*m.y.num)) (-4611686018427387904) 4611686018427387904) (lT [.int .i64 (gi (i64.wrap (p*m.y.num)) m.y.den),.int .i64 0]))))) y0))
  (by kernel_rfl) (by
   simp only[ak.holds,sM];(repeat' (first|apply aX|intro _));
   all_goals first
    |(rw[gz (eB.2 (by rw[dz,dK];first|omega|grind))];rfl)
    |(have hk:=dK.1 (show fI m p=true by rw[dK];first|omega|grind)
      have hx:m.y.ok=true:=by have:=Ma.bz m;grind
      have r:=oV hx hk.2;have ho:=(Ax.bz _).1 hx;have w:=aG (x:=p*m.y.num) (by omega) (by omega)
      first
      |(rw[gy (dK.2 hk),w];rfl)
      |(rw[w,v5];omega)
      |(rw[v5];omega))) (by kernel_rfl) (by unfold fT;split<;>rfl)
theorem xY9(m:Ma)(p:Int):SCall pP 303 [m.sv,J 1,J p] (fT (fI m p) (cZ m.y p)):=
 v9 aL [pR,xI] ⟨qA,zm,trivial⟩ 1000 (.ah (.ln 11 pA) (.ln 8 (.ah (.ar (.ar pA)) (.ar (.ar (.ah .all .all))))))
  (t:=let y0:ak SV:=lT [.int .i64 0,.int .i64 1];.ag (!m.ok) y0 (.ag (p < -1073741824) y0 (.ag (p>1073741824) y0 (rT (rT (.aj (az m.y.den 1 4611686018427387904&&az (i64.wrap (p*m.y.num)) (-4611686018427387904) 4611686018427387904) (lT [.int .i64 (gi (i64.wrap (p*m.y.num)) m.y.den),.int .i64 0])))))))
  (by kernel_rfl) (by
   simp only[ak.holds,sM];(repeat' (first|apply aX|intro _));
   all_goals first
    |(rw[gz (eB.2 (by rw[dz,dK];first|omega|grind))];rfl)
    |(have hk:=dK.1 (show fI m p=true by rw[dK];first|omega|grind)
      have hx:m.y.ok=true:=by have:=Ma.bz m;grind
      have r:=oV hx hk.2;have ho:=(Ax.bz _).1 hx;have w:=aG (x:=p*m.y.num) (by omega) (by omega)
      first
      |(rw[gy (dK.2 hk),w];rfl)
      |(rw[w,v5];omega)
      |(rw[v5];omega))) (by kernel_rfl) (by unfold fT;split<;>rfl)
theorem x36(m:Ma)(p:Int):SCall pP 192 [m.sv,J 1,J p] (fT (e7 m p) (dY m.y p)):=
 v9 aL [pS,xJ] ⟨qB,zn,trivial⟩ 1000 (.ah (.ln 9 pA) (.ln 7 (.ah (.ln 5 (.ah .all .all)) (.ln 5 pA))))
  (t:=let y0:ak SV:=lT [.int .i64 0,.int .i64 1];.ag (!m.ok) y0 (.ag (p>=-70368744177664) (.ag (!decide (p<=70368744177664)) y0 (rT (rT (.aj (az m.y.num 1 4611686018427387904&&az (i64.wrap (p*m.y.den)) (-4611686018427387904) 4611686018427387904) (lT [.int .i64 (gi (i64.wrap (p*m.y.den)) m.y.num),.int .i64 0]))))) y0))
  (by kernel_rfl) (by
   simp only[ak.holds,sM];(repeat' (first|apply aX|intro _));
   all_goals first
    |(rw[gz (eB.2 (by rw[dz,fH];first|omega|grind))];rfl)
    |(have hk:=fH.1 (show e7 m p=true by rw[fH];first|omega|grind)
      have hx:m.y.ok=true:=by have:=Ma.bz m;grind
      have r:=zX hx (by omega) hk.2;have ho:=(Ax.bz _).1 hx;have w:=aG (x:=p*m.y.den) (by omega) (by omega)
      first
      |(rw[gy (fH.2 hk),w];rfl)
      |(rw[w,v5];omega)
      |(rw[v5];omega))) (by kernel_rfl) (by unfold fT;split<;>rfl)
theorem x37(m:Ma)(p:Int):SCall pP 112 [m.sv,J 1,J p] (fT (e7 m p) (dY m.y p)):=
 v9 aL [pR,xI] ⟨qA,zm,trivial⟩ 1000 (.ah (.ln 11 pA) (.ln 8 (.ah (.ar (.ar pA)) (.ar (.ar (.ah .all .all))))))
  (t:=let y0:ak SV:=lT [.int .i64 0,.int .i64 1];.ag (!m.ok) y0 (.ag (p < -70368744177664) y0 (.ag (p>70368744177664) y0 (rT (rT (.aj (az m.y.num 1 4611686018427387904&&az (i64.wrap (p*m.y.den)) (-4611686018427387904) 4611686018427387904) (lT [.int .i64 (gi (i64.wrap (p*m.y.den)) m.y.num),.int .i64 0])))))))
  (by kernel_rfl) (by
   simp only[ak.holds,sM];(repeat' (first|apply aX|intro _));
   all_goals first
    |(rw[gz (eB.2 (by rw[dz,fH];first|omega|grind))];rfl)
    |(have hk:=fH.1 (show e7 m p=true by rw[fH];first|omega|grind)
      have hx:m.y.ok=true:=by have:=Ma.bz m;grind
      have r:=zX hx (by omega) hk.2;have ho:=(Ax.bz _).1 hx;have w:=aG (x:=p*m.y.den) (by omega) (by omega)
      first
      |(rw[gy (fH.2 hk),w];rfl)
      |(rw[w,v5];omega)
      |(rw[v5];omega))) (by kernel_rfl) (by unfold fT;split<;>rfl)
theorem xZ0(m:Ma)(p:Int):SCall pP 135 [m.sv,J 2,J p] (fT (fI m p) (cZ m.z p)):=
 v9 aL [pS,xJ] ⟨qB,zn,trivial⟩ 1000 (.ah (.ln 9 pA) (.ln 7 (.ah (.ln 5 (.ah .all .all)) (.ln 5 pA))))
  (t:=let y0:ak SV:=lT [.int .i64 0,.int .i64 1];.ag (!m.ok) y0 (.ag (p>=-1073741824) (.ag (!decide (p<=1073741824)) y0 (rT (rT (.aj (az m.z.den 1 4611686018427387904&&az (i64.wrap (p*m.z.num)) (-4611686018427387904) 4611686018427387904) (lT [.int .i64 (gi (i64.wrap (p*m.z.num)) m.z.den),.int .i64 0]))))) y0))
  (by kernel_rfl) (by
   simp only[ak.holds,sM];(repeat' (first|apply aX|intro _));
   all_goals first
    |(rw[gz (eB.2 (by rw[dz,dK];first|omega|grind))];rfl)
    |(have hk:=dK.1 (show fI m p=true by rw[dK];first|omega|grind)
      have hx:m.z.ok=true:=by have:=Ma.bz m;grind
      have r:=oV hx hk.2;have ho:=(Ax.bz _).1 hx;have w:=aG (x:=p*m.z.num) (by omega) (by omega)
      first
      |(rw[gy (dK.2 hk),w];rfl)
      |(rw[w,v5];omega)
      |(rw[v5];omega))) (by kernel_rfl) (by unfold fT;split<;>rfl)
theorem xZ1(m:Ma)(p:Int):SCall pP 303 [m.sv,J 2,J p] (fT (fI m p) (cZ m.z p)):=
 v9 aL [pR,xI] ⟨qA,zm,trivial⟩ 1000 (.ah (.ln 11 pA) (.ln 8 (.ah (.ar (.ar pA)) (.ar (.ar (.ah .all .all))))))
  (t:=let y0:ak SV:=lT [.int .i64 0,.int .i64 1];.ag (!m.ok) y0 (.ag (p < -1073741824) y0 (.ag (p>1073741824) y0 (rT (rT (.aj (az m.z.den 1 4611686018427387904&&az (i64.wrap (p*m.z.num)) (-4611686018427387904) 4611686018427387904) (lT [.int .i64 (gi (i64.wrap (p*m.z.num)) m.z.den),.int .i64 0])))))))
  (by kernel_rfl) (by
   simp only[ak.holds,sM];(repeat' (first|apply aX|intro _));
   all_goals first
    |(rw[gz (eB.2 (by rw[dz,dK];first|omega|grind))];rfl)
    |(have hk:=dK.1 (show fI m p=true by rw[dK];first|omega|grind)
      have hx:m.z.ok=true:=by have:=Ma.bz m;grind
      have r:=oV hx hk.2;have ho:=(Ax.bz _).1 hx;have w:=aG (x:=p*m.z.num) (by omega) (by omega)
      first
      |(rw[gy (dK.2 hk),w];rfl)
      |(rw[w,v5];omega)
      |(rw[v5];omega))) (by kernel_rfl) (by unfold fT;split<;>rfl)
theorem x38(m:Ma)(p:Int):SCall pP 192 [m.sv,J 2,J p] (fT (e7 m p) (dY m.z p)):=
 v9 aL [pS,xJ] ⟨qB,zn,trivial⟩ 1000 (.ah (.ln 9 pA) (.ln 7 (.ah (.ln 5 (.ah .all .all)) (.ln 5 pA))))
  (t:=let y0:ak SV:=lT [.int .i64 0,.int .i64 1];.ag (!m.ok) y0 (.ag (p>=-70368744177664) (.ag (!decide (p<=70368744177664)) y0 (rT (rT (.aj (az m.z.num 1 4611686018427387904&&az (i64.wrap (p*m.z.den)) (-4611686018427387904) 4611686018427387904) (lT [.int .i64 (gi (i64.wrap (p*m.z.den)) m.z.num),.int .i64 0]))))) y0))
  (by kernel_rfl) (by
   simp only[ak.holds,sM];(repeat' (first|apply aX|intro _));
   all_goals first
    |(rw[gz (eB.2 (by rw[dz,fH];first|omega|grind))];rfl)
    |(have hk:=fH.1 (show e7 m p=true by rw[fH];first|omega|grind)
      have hx:m.z.ok=true:=by have:=Ma.bz m;grind
      have r:=zX hx (by omega) hk.2;have ho:=(Ax.bz _).1 hx;have w:=aG (x:=p*m.z.den) (by omega) (by omega)
      first
      |(rw[gy (fH.2 hk),w];rfl)
      |(rw[w,v5];omega)
      |(rw[v5];omega))) (by kernel_rfl) (by unfold fT;split<;>rfl)
theorem x39(m:Ma)(p:Int):SCall pP 112 [m.sv,J 2,J p] (fT (e7 m p) (dY m.z p)):=
 v9 aL [pR,xI] ⟨qA,zm,trivial⟩ 1000 (.ah (.ln 11 pA) (.ln 8 (.ah (.ar (.ar pA)) (.ar (.ar (.ah .all .all))))))
  (t:=let y0:ak SV:=lT [.int .i64 0,.int .i64 1];.ag (!m.ok) y0 (.ag (p < -70368744177664) y0 (.ag (p>70368744177664) y0 (rT (rT (.aj (az m.z.num 1 4611686018427387904&&az (i64.wrap (p*m.z.den)) (-4611686018427387904) 4611686018427387904) (lT [.int .i64 (gi (i64.wrap (p*m.z.den)) m.z.num),.int .i64 0])))))))
  (by kernel_rfl) (by
   simp only[ak.holds,sM];(repeat' (first|apply aX|intro _));
   all_goals first
    |(rw[gz (eB.2 (by rw[dz,fH];first|omega|grind))];rfl)
    |(have hk:=fH.1 (show e7 m p=true by rw[fH];first|omega|grind)
      have hx:m.z.ok=true:=by have:=Ma.bz m;grind
      have r:=zX hx (by omega) hk.2;have ho:=(Ax.bz _).1 hx;have w:=aG (x:=p*m.z.den) (by omega) (by omega)
      first
      |(rw[gy (fH.2 hk),w];rfl)
      |(rw[w,v5];omega)
      |(rw[v5];omega))) (by kernel_rfl) (by unfold fT;split<;>rfl)
theorem xZ2(m:Ma)(p:Int):SCall pP 135 [m.sv,J 3,J p] (fT (fI m p) (cZ m.e p)):=
 v9 aL [pS,xJ] ⟨qB,zn,trivial⟩ 1000 (.ah (.ln 9 pA) (.ln 7 (.ah (.ln 5 (.ah .all .all)) (.ln 5 pA))))
  (t:=let y0:ak SV:=lT [.int .i64 0,.int .i64 1];.ag (!m.ok) y0 (.ag (p>=-1073741824) (.ag (!decide (p<=1073741824)) y0 (rT (rT (.aj (az m.e.den 1 4611686018427387904&&az (i64.wrap (p*m.e.num)) (-4611686018427387904) 4611686018427387904) (lT [.int .i64 (gi (i64.wrap (p*m.e.num)) m.e.den),.int .i64 0]))))) y0))
  (by kernel_rfl) (by
   simp only[ak.holds,sM];(repeat' (first|apply aX|intro _));
   all_goals first
    |(rw[gz (eB.2 (by rw[dz,dK];first|omega|grind))];rfl)
    |(have hk:=dK.1 (show fI m p=true by rw[dK];first|omega|grind)
      have hx:m.e.ok=true:=by have:=Ma.bz m;grind
      have r:=oV hx hk.2;have ho:=(Ax.bz _).1 hx;have w:=aG (x:=p*m.e.num) (by omega) (by omega)
      first
      |(rw[gy (dK.2 hk),w];rfl)
      |(rw[w,v5];omega)
      |(rw[v5];omega))) (by kernel_rfl) (by unfold fT;split<;>rfl)
theorem xZ3(m:Ma)(p:Int):SCall pP 303 [m.sv,J 3,J p] (fT (fI m p) (cZ m.e p)):=
 v9 aL [pR,xI] ⟨qA,zm,trivial⟩ 1000 (.ah (.ln 11 pA) (.ln 8 (.ah (.ar (.ar pA)) (.ar (.ar (.ah .all .all))))))
  (t:=let y0:ak SV:=lT [.int .i64 0,.int .i64 1];.ag (!m.ok) y0 (.ag (p < -1073741824) y0 (.ag (p>1073741824) y0 (rT (rT (.aj (az m.e.den 1 4611686018427387904&&az (i64.wrap (p*m.e.num)) (-4611686018427387904) 4611686018427387904) (lT [.int .i64 (gi (i64.wrap (p*m.e.num)) m.e.den),.int .i64 0])))))))
  (by kernel_rfl) (by
   simp only[ak.holds,sM];(repeat' (first|apply aX|intro _));
   all_goals first
    |(rw[gz (eB.2 (by rw[dz,dK];first|omega|grind))];rfl)
    |(have hk:=dK.1 (show fI m p=true by rw[dK];first|omega|grind)
      have hx:m.e.ok=true:=by have:=Ma.bz m;grind
      have r:=oV hx hk.2;have ho:=(Ax.bz _).1 hx;have w:=aG (x:=p*m.e.num) (by omega) (by omega)
      first
      |(rw[gy (dK.2 hk),w];rfl)
      |(rw[w,v5];omega)
      |(rw[v5];omega))) (by kernel_rfl) (by unfold fT;split<;>rfl)
theorem x40(m:Ma)(p:Int):SCall pP 192 [m.sv,J 3,J p] (fT (e7 m p) (dY m.e p)):=
 v9 aL [pS,xJ] ⟨qB,zn,trivial⟩ 1000 (.ah (.ln 9 pA) (.ln 7 (.ah (.ln 5 (.ah .all .all)) (.ln 5 pA))))
  (t:=let y0:ak SV:=lT [.int .i64 0,.int .i64 1];.ag (!m.ok) y0 (.ag (p>=-70368744177664) (.ag (!decide (p<=70368744177664)) y0 (rT (rT (.aj (az m.e.num 1 4611686018427387904&&az (i64.wrap (p*m.e.den)) (-4611686018427387904) 4611686018427387904) (lT [.int .i64 (gi (i64.wrap (p*m.e.den)) m.e.num),.int .i64 0]))))) y0))
  (by kernel_rfl) (by
   simp only[ak.holds,sM];(repeat' (first|apply aX|intro _));
   all_goals first
    |(rw[gz (eB.2 (by rw[dz,fH];first|omega|grind))];rfl)
    |(have hk:=fH.1 (show e7 m p=true by rw[fH];first|omega|grind)
      have hx:m.e.ok=true:=by have:=Ma.bz m;grind
      have r:=zX hx (by omega) hk.2;have ho:=(Ax.bz _).1 hx;have w:=aG (x:=p*m.e.den) (by omega) (by omega)
      first
      |(rw[gy (fH.2 hk),w];rfl)
      |(rw[w,v5];omega)
      |(rw[v5];omega))) (by kernel_rfl) (by unfold fT;split<;>rfl)
theorem x41(m:Ma)(p:Int):SCall pP 112 [m.sv,J 3,J p] (fT (e7 m p) (dY m.e p)):=
 v9 aL [pR,xI] ⟨qA,zm,trivial⟩ 1000 (.ah (.ln 11 pA) (.ln 8 (.ah (.ar (.ar pA)) (.ar (.ar (.ah .all .all))))))
  (t:=let y0:ak SV:=lT [.int .i64 0,.int .i64 1];.ag (!m.ok) y0 (.ag (p < -70368744177664) y0 (.ag (p>70368744177664) y0 (rT (rT (.aj (az m.e.num 1 4611686018427387904&&az (i64.wrap (p*m.e.den)) (-4611686018427387904) 4611686018427387904) (lT [.int .i64 (gi (i64.wrap (p*m.e.den)) m.e.num),.int .i64 0])))))))
  (by kernel_rfl) (by
   simp only[ak.holds,sM];(repeat' (first|apply aX|intro _));
   all_goals first
    |(rw[gz (eB.2 (by rw[dz,fH];first|omega|grind))];rfl)
    |(have hk:=fH.1 (show e7 m p=true by rw[fH];first|omega|grind)
      have hx:m.e.ok=true:=by have:=Ma.bz m;grind
      have r:=zX hx (by omega) hk.2;have ho:=(Ax.bz _).1 hx;have w:=aG (x:=p*m.e.den) (by omega) (by omega)
      first
      |(rw[gy (fH.2 hk),w];rfl)
      |(rw[w,v5];omega)
      |(rw[v5];omega))) (by kernel_rfl) (by unfold fT;split<;>rfl)
def Dr(f:FuncId)(h:Co->Int->ak SV):aB:=⟨f,λargs=>match args with
 |[.agg [.int .i64 a0,.int .i64 a1,.int .i64 a2,.int .i64 a3,.int .i64 a4,.int .i64 a5],.int .i64 i] =>some (h ⟨a0,a1,a2,a3,a4,a5⟩ i)
 |_=>none⟩
def K2{h:Co->Int->ak SV}(k:∀c i,(h c i).bw (SCall P f [c.sv,J i])):(Dr f h).ok P:=λargs t ht=>by
 simp only[Dr]at ht
 split at ht<;>cases ht;exact k ⟨_,_,_,_,_,_⟩ _
def Dq(f:FuncId)(h:Gu->ak SV):aB:=⟨f,λargs=>match args with
 |[.agg [.int .i64 a0,.int .i64 a1,.int .i64 a2,.int .i64 a3,.int .i64 a4,.int .i64 a5,.int .i64 a6,.int .i64 a7,.int .i64 a8,.int .i64 a9,.bool d]] =>some (h ⟨a0,a1,a2,a3,a4,a5,a6,a7,a8,a9,d⟩)
 |_=>none⟩
def KW{h:Gu->ak SV}(k:∀g,(h g).bw (SCall P f [g.sv])):(Dq f h).ok P:=λargs t ht=>by
 simp only[Dq]at ht
 split at ht<;>cases ht;exact k ⟨_,_,_,_,_,_,_,_,_,_,_⟩
def KX(f:FuncId)(h:Gu->Int->ak SV):aB:=⟨f,λargs=>match args with
 |[.agg [.int .i64 a0,.int .i64 a1,.int .i64 a2,.int .i64 a3,.int .i64 a4,.int .i64 a5,.int .i64 a6,.int .i64 a7,.int .i64 a8,.int .i64 a9,.bool d],.int .i64 i] =>some (h ⟨a0,a1,a2,a3,a4,a5,a6,a7,a8,a9,d⟩ i)
 |_=>none⟩
def qs7{h:Gu->Int->ak SV}(k:∀g i,(h g i).bw (SCall P f [g.sv,J i])):(KX f h).ok P:=λargs t ht=>by
 simp only[KX]at ht
 split at ht<;>cases ht;exact k ⟨_,_,_,_,_,_,_,_,_,_,_⟩ _
def KY(f:FuncId)(h:Gu->Int->Int->Int->ak SV):aB:=⟨f,λargs=>match args with
 |[.agg [.int .i64 a0,.int .i64 a1,.int .i64 a2,.int .i64 a3,.int .i64 a4,.int .i64 a5,.int .i64 a6,.int .i64 a7,.int .i64 a8,.int .i64 a9,.bool d],.int .i64 r,.int .i64 t,.int .i64 u] =>some (h ⟨a0,a1,a2,a3,a4,a5,a6,a7,a8,a9,d⟩ r t u)
 |_=>none⟩
def qs5{h:Gu->Int->Int->Int->ak SV}(k:∀g r t u,(h g r t u).bw (SCall P f [g.sv,J r,J t,J u])):(KY f h).ok P:=λargs t ht=>by
 simp only[KY]at ht
 split at ht<;>cases ht;exact k ⟨_,_,_,_,_,_,_,_,_,_,_⟩ _ _ _
def Co.zero:Co:=⟨0,0,0,0,0,0⟩
def mS(c:Co)(t:Int):Bool:=c.ok&&az t 0 400000
variable{c:Co}
def wG{t:Int}:mS c t=true↔c.ok=true/\0<=t/\t<=400000:=by simp only[mS,aH,v5]
def Co.fM(c:Co)(t:Int):Co:=⟨t,c.kp,c.ki,c.scale,0,c.dA⟩
def wF(c:Co)(t:Int):SV:=match mS c t with
 |true=>.tuple [Co.sv (c.fM t),J 0]
 |false=>.tuple [Co.sv Co.zero,J 1]
def N1{t:Int}(h:mS c t=true):wF c t=.tuple [Co.sv (c.fM t),J 0] :=by unfold wF;rw[h]
def N2{t:Int}(h:mS c t=false):wF c t=.tuple [Co.sv Co.zero,J 1] :=by unfold wF;rw[h]
def Co.aN(c:Co)(r:Int):Int:=cS (c.sum+c.ki*(c.target-r)) 0 c.dA
def wR(c:Co)(r:Int):Bool:=c.ok&&az r (-1073741824) 1073741824
variable{r:Int}
def I2:wR c r=true↔c.ok=true/\-1073741824<=r/\r<=1073741824:=by simp only[wR,aH,v5]
def Co.step(c:Co)(r:Int):Co:=match wR c r with
 |true=>⟨c.target,c.kp,c.ki,c.scale,if c.target=0 then 0 else c.aN r,c.dA⟩
 |false=>c
def Co.cM(c:Co)(r:Int):Int:=match wR c r with
 |true=>if c.target=0 then 0 else cS ((c.kp*(c.target-r)+c.aN r) / c.scale) 0 255
 |false=>0
def uI(c:Co)(r:Int):SV:=.tuple [Co.sv (c.step r),J (c.cM r)]
def zK1(h:wR c r=false):uI c r=.tuple [Co.sv c,J 0] :=by unfold uI Co.step Co.cM;rw[h]
def zK2(h:wR c r=true)(h0:c.target=0):uI c r=.tuple [Co.sv ⟨c.target,c.kp,c.ki,c.scale,0,c.dA⟩,J 0] :=by unfold uI Co.step Co.cM;rw[h];simp only[ay h0]
def zK3(h:wR c r=true)(h0:¬c.target=0):uI c r=.tuple [Co.sv ⟨c.target,c.kp,c.ki,c.scale,c.aN r,c.dA⟩,J (cS ((c.kp*(c.target-r)+c.aN r) / c.scale) 0 255)] :=by unfold uI Co.step Co.cM;rw[h];simp only[au h0]
def WC(h:wR c r=true):(-1125899906842624*2<=c.ki*(c.target-r)/\c.ki*(c.target-r)<=1125899906842624*2)/\(-1125899906842624*2<=c.kp*(c.target-r)/\c.kp*(c.target-r)<=1125899906842624*2)/\0<=c.aN r/\c.aN r<=1099511627776:=by
 rw[I2,Co.bz]at h
 have e:∀k:Int,0<=k/\k<=1048576->-1125899906842624*2<=k*(c.target-r)/\k*(c.target-r)<=1125899906842624*2:=λk hk=>by
  have h1:k*(c.target-r)<=k*2147483648:=ER (by omega) hk.1;have h3:k*(-2147483648)<=k*(c.target-r):=ER (by omega) hk.1;omega
 refine⟨e _ h.1.2.2.1,e _ h.1.2.1,?_⟩;have:=CC (n:=c.sum+c.ki*(c.target-r)) (lo:=0) (hi:=c.dA) (by omega);unfold Co.aN;omega
def Gu.zero:Gu:=⟨0,0,0,0,0,0,0,0,0,0,false⟩
def Gu.kV(g:Gu):Gu:=match g.ok with
 |true=>{g with quiet:=0}
 |false=>g
def Gu.stop(g:Gu):Gu:=match g.ok with
 |true=>{g with fault:=4}
 |false=>g
variable{g:Gu}
def Gu.abW(h:g.ok=true):g.kV={g with quiet:=0}:=by unfold Gu.kV;rw[h]
def Gu.atV(h:g.ok=false):g.kV=g:=by unfold Gu.kV;rw[h]
def Gu.abZ(h:g.ok=true):g.stop={g with fault:=4}:=by unfold Gu.stop;rw[h]
def Gu.at2(h:g.ok=false):g.stop=g:=by unfold Gu.stop;rw[h]
def Gu.cD(g:Gu)(r:Int):Int:=match g.ok with
 |true=>if g.fault=0 then 14 else if r<g.low then 16 else if g.bQ<r then 16 else 0
 |false=>1
def Gu.rest(g:Gu)(r:Int):Gu:=⟨g.low,g.bQ,g.watch,g.cG,g.bN,r,0,g.idle,0,0,g.dc⟩
def Gu.fw(g:Gu)(r:Int):Int:=if g.base+g.cG<=r then 1 else g.count+1
def Gu.kj(g:Gu)(r:Int):Int:=if g.base+g.cG<=r then r else g.base
def Gu.cB(g:Gu)(r t u:Int):Nat:=match g.ok with
 |false=>0
 |true=>if g.fault=0 then
   if r<g.low then 1 else if g.bQ<r then 2 else if g.idle<=g.quiet+1 then 3 else if g.dc=true then 4
   else if cS u 0 255=0 then 5 else if cS t (-1073741824) 1073741824-g.bN<=r then 5 else if g.watch<=g.fw r then 6 else 7
  else 0
def Gu.step(g:Gu)(r t u:Int):Gu:=match g.cB r t u with
 |0=>g
 |1=>{g with fault:=1}
 |2=>{g with fault:=2}
 |3=>{g with quiet:=g.idle,base:=r,count:=0}
 |4=>{g with quiet:=g.quiet+1,base:=r,count:=0}
 |5=>{g with quiet:=g.quiet+1,base:=r,count:=0}
 |6=>{g with quiet:=g.quiet+1,base:=g.kj r,count:=g.watch,fault:=3}
 |_=>{g with quiet:=g.quiet+1,base:=g.kj r,count:=g.fw r}
def Gu.cM(g:Gu)(r t u:Int):Int:=match g.cB r t u with
 |5=>cS u 0 255
 |7=>cS u 0 255
 |_=>0
def kI(g:Gu)(r t u:Int):SV:=.tuple [Gu.sv (g.step r t u),J (g.cM r t u)]
theorem xA0(c:Co)(t:Int):ak.holds (λv=>v=(wF c t)) (let y0:ak SV:=lT [.agg [.int .i64 0,.int .i64 0,.int .i64 0,.int .i64 0,.int .i64 0,.int .i64 0],.int .i64 1];.ag (!c.ok) y0 (.ag (t<0) y0 (.ag (t>400000) y0 (lT [.agg [.int .i64 t,.int .i64 c.kp,.int .i64 c.ki,.int .i64 c.scale,.int .i64 0,.int .i64 c.dA],.int .i64 0]))):ak SV):=by
  simp only[ak.holds,sM];(repeat' (first|apply aX|intro _));
  all_goals first
   |(rw[N2 (eB.2 (by rw[dz,wG];first|omega|grind))];rfl)
   |(rw[N1 (wG.2 (by first|omega|grind))];rfl)
def Zv(c:Co)(t:Int):SCall pP 217 [c.sv,J t] (wF c t):=
 v9 aL [z58] ⟨O2,trivial⟩ 1000 (.ah (.ln 5 pA) (.ar (.ar (.ah (.ar (.ar pA)) (.ar (.ar (.ah .all .all)))))))
  (by kernel_rfl) (xA0 c t) (by kernel_rfl) (by unfold wF;split<;>rfl)
def Zu(c:Co)(t:Int):SCall pP 275 [c.sv,J t] (wF c t):=
 v9 aL [z59] ⟨O1,trivial⟩ 1000 (.ah (.ln 5 pA) (.ar (.ar (.ah (.ar (.ar pA)) (.ar (.ar (.ah .all .all)))))))
  (by kernel_rfl) (xA0 c t) (by kernel_rfl) (by unfold wF;split<;>rfl)
def z32:aB:=Dr 217 λc t=>.ag (mS c t) (.ai (.tuple [Co.sv (c.fM t),J 0])) (.ai (.tuple [Co.sv Co.zero,J 1]))
def z33:aB:=Dr 275 λc t=>.ag (mS c t) (.ai (.tuple [Co.sv (c.fM t),J 0])) (.ai (.tuple [Co.sv Co.zero,J 1]))
def yr9:z32.ok pP:=K2 (λc t=>⟨λhk=>N1 hk▸Zv c t,λhk=>N2 hk▸Zv c t⟩)
def ys0:z33.ok pP:=K2 (λc t=>⟨λhk=>N1 hk▸Zu c t,λhk=>N2 hk▸Zu c t⟩)
theorem xD1(c:Co)(r:Int):ak.holds (λv=>v=(uI c r)) (let y0:ak SV:=lT [.agg [.int .i64 c.target,.int .i64 c.kp,.int .i64 c.ki,.int .i64 c.scale,.int .i64 c.sum,.int .i64 c.dA],.int .i64 0];let y1:=i64.wrap (c.sum+i64.wrap (c.ki*i64.wrap (c.target-r)));let y2:=i64.wrap (c.kp*i64.wrap (c.target-r))+cS y1 0 c.dA;.ag (!c.ok) y0 (.ag (r < -1073741824) y0 (.ag (r>1073741824) y0 (.ag (c.target==0) (lT [.agg [.int .i64 c.target,.int .i64 c.kp,.int .i64 c.ki,.int .i64 c.scale,.int .i64 0,.int .i64 c.dA],.int .i64 0]) (.aj (0<=c.dA) (.aj (az c.scale 1 4611686018427387904&&az (i64.wrap y2) (-4611686018427387904) 4611686018427387904) (rT (lT [.agg [.int .i64 c.target,.int .i64 c.kp,.int .i64 c.ki,.int .i64 c.scale,.int .i64 (cS y1 0 c.dA),.int .i64 c.dA],.int .i64 (cS (i64.wrap y2 / c.scale) 0 255)]))))))):ak SV):=by
  have z:=WC (c:=c) (r:=r);have li:=I2 (c:=c) (r:=r);have ci:=Co.bz c;simp only[ak.holds,sM];(repeat' (first|apply aX|intro _));
  all_goals first
   |(rw[zK1 (eB.2 (by rw[dz,I2];first|omega|grind))];rfl)
   |(have hl:wR c r=true:=I2.2 (by first|omega|grind)
     have hc:=ci.1 (li.1 hl).1;have hr:=li.1 hl;have z:=z hl;have w1:=aG (x:=c.target-r) (by omega) (by omega);have w2:=aG (x:=c.ki*(c.target-r)) (by omega) (by omega);have w3:=aG (x:=c.kp*(c.target-r)) (by omega) (by omega);have w4:=aG (x:=c.sum+c.ki*(c.target-r)) (by omega) (by omega);have w5:=aG (x:=c.kp*(c.target-r)+c.aN r) (by omega) (by omega);have e:cS (c.sum+c.ki*(c.target-r)) 0 c.dA=c.aN r:=rfl
     (try simp only[w1,w2,w3,w4,e,w5])
     first
     |(rw[v5];omega)
     |omega
     |(rw[zK2 hl (by assumption)];rfl)
     |(rw[zK3 hl (by assumption)];rfl))
def xC9(c:Co)(r:Int):SCall pP 162 [c.sv,J r] (uI c r):=
 aY aL [z58,OR,Ji] ⟨O2,Xo,OY,trivial⟩ 1000 (.ah (.ln 5 pA) (.ar (.ar (.ah (.ar (.ar pA)) (.ar (.ar (.ah .all (.ah .all .all))))))))
  (by kernel_rfl) (xD1 c r) (by kernel_rfl)
def xD0(c:Co)(r:Int):SCall pP 167 [c.sv,J r] (uI c r):=
 aY aL [z59,z54,Jh] ⟨O1,yu9,OX,trivial⟩ 1000 (.ah (.ln 5 pA) (.ar (.ar (.ah (.ar (.ar pA)) (.ar (.ar (.ah .all (.ah .all .all))))))))
  (by kernel_rfl) (xD1 c r) (by kernel_rfl)
def x27(g:Gu):ak.holds (λv=>v=(g.kV.sv)) (.ag (g.ok) (.ai (.agg [.int .i64 g.low,.int .i64 g.bQ,.int .i64 g.watch,.int .i64 g.cG,.int .i64 g.bN,.int .i64 g.base,.int .i64 g.count,.int .i64 g.idle,.int .i64 0,.int .i64 g.fault,.bool g.dc])) (.ai (.agg [.int .i64 g.low,.int .i64 g.bQ,.int .i64 g.watch,.int .i64 g.cG,.int .i64 g.bN,.int .i64 g.base,.int .i64 g.count,.int .i64 g.idle,.int .i64 g.quiet,.int .i64 g.fault,.bool g.dc])):ak SV):=by simp only[ak.holds,sM];(repeat' (first|apply aX|intro _));all_goals first|(rw[Gu.abW (by assumption)];rfl)|(rw[Gu.atV (by assumption)];rfl)
def x25(g:Gu):SCall pP 73 [g.sv] (g.kV.sv):=
 aY aL [DL] ⟨Fu,trivial⟩ 1000 (.ah (.all) (.all))
  (by kernel_rfl) (x27 g) (by kernel_rfl)
def x26(g:Gu):SCall pP 157 [g.sv] (g.kV.sv):=
 aY aL [DK] ⟨Ft,trivial⟩ 1000 (.ah (.all) (.all))
  (by kernel_rfl) (x27 g) (by kernel_rfl)
def xG:aB:=Dq 73 λg=>.ai g.kV.sv
def qn4:aB:=Dq 157 λg=>.ai g.kV.sv
def Yx:xG.ok pP:=KW (x25)
def yN8:qn4.ok pP:=KW (x26)
def x03(g:Gu):ak.holds (λv=>v=(g.stop.sv)) (.ag (g.ok) (.ai (.agg [.int .i64 g.low,.int .i64 g.bQ,.int .i64 g.watch,.int .i64 g.cG,.int .i64 g.bN,.int .i64 g.base,.int .i64 g.count,.int .i64 g.idle,.int .i64 g.quiet,.int .i64 4,.bool g.dc])) (.ai (.agg [.int .i64 g.low,.int .i64 g.bQ,.int .i64 g.watch,.int .i64 g.cG,.int .i64 g.bN,.int .i64 g.base,.int .i64 g.count,.int .i64 g.idle,.int .i64 g.quiet,.int .i64 g.fault,.bool g.dc])):ak SV):=by simp only[ak.holds,sM];(repeat' (first|apply aX|intro _));all_goals first|(rw[Gu.abZ (by assumption)];rfl)|(rw[Gu.at2 (by assumption)];rfl)
def x01(g:Gu):SCall pP 211 [g.sv] (g.stop.sv):=
 aY aL [DL] ⟨Fu,trivial⟩ 1000 (.ah (.all) (.all))
  (by kernel_rfl) (x03 g) (by kernel_rfl)
def x02(g:Gu):SCall pP 158 [g.sv] (g.stop.sv):=
 aY aL [DK] ⟨Ft,trivial⟩ 1000 (.ah (.all) (.all))
  (by kernel_rfl) (x03 g) (by kernel_rfl)
def Rh:aB:=Dq 211 λg=>.ai g.stop.sv
def qm1:aB:=Dq 158 λg=>.ai g.stop.sv
def yM0:Rh.ok pP:=KW (x01)
def yM1:qm1.ok pP:=KW (x02)
theorem xV2(g:Gu)(r:Int):ak.holds (λv=>v=(.tuple [if g.cD r=0 then(g.rest r).sv else Gu.zero.sv,J (g.cD r)])) (let y0:ak SV:=lT [.agg [.int .i64 0,.int .i64 0,.int .i64 0,.int .i64 0,.int .i64 0,.int .i64 0,.int .i64 0,.int .i64 0,.int .i64 0,.int .i64 0,.bool false],.int .i64 16];.ag (!g.ok) (lT [.agg [.int .i64 0,.int .i64 0,.int .i64 0,.int .i64 0,.int .i64 0,.int .i64 0,.int .i64 0,.int .i64 0,.int .i64 0,.int .i64 0,.bool false],.int .i64 1]) (.ag (g.fault==0) (lT [.agg [.int .i64 0,.int .i64 0,.int .i64 0,.int .i64 0,.int .i64 0,.int .i64 0,.int .i64 0,.int .i64 0,.int .i64 0,.int .i64 0,.bool false],.int .i64 14]) (.ag (r<g.low) y0 (.ag (r>g.bQ) y0 (lT [.agg [.int .i64 g.low,.int .i64 g.bQ,.int .i64 g.watch,.int .i64 g.cG,.int .i64 g.bN,.int .i64 r,.int .i64 0,.int .i64 g.idle,.int .i64 0,.int .i64 0,.bool g.dc],.int .i64 0])))):ak SV):=by
  simp only[ak.holds,sM];(repeat' (first|apply aX|intro _));
  all_goals(unfold Gu.cD;simp_all only[];grind[Gu.rest,Gu.zero,Gu.sv,Gu.cells,J])
def xV0(g:Gu)(r:Int):SCall pP 212 [g.sv,J r] (.tuple [if g.cD r=0 then(g.rest r).sv else Gu.zero.sv,J (g.cD r)]):=
 v9 aL [DL] ⟨Fu,trivial⟩ 1000 (.ah .all (.ah .all (.ah (.ln 4 pA) (.ln 4 (.ah .all .all)))))
  (by kernel_rfl) (xV2 g r) (by kernel_rfl) (by split<;>rfl)
def xV1(g:Gu)(r:Int):SCall pP 220 [g.sv,J r] (.tuple [if g.cD r=0 then(g.rest r).sv else Gu.zero.sv,J (g.cD r)]):=
 v9 aL [DK] ⟨Ft,trivial⟩ 1000 (.ah .all (.ah .all (.ah (.ln 4 pA) (.ln 4 (.ah .all .all)))))
  (by kernel_rfl) (xV2 g r) (by kernel_rfl) (by split<;>rfl)
theorem xI0(g:Gu)(r t u:Int):SCall pP 163 [g.sv,J r,J t,J u] (kI g r t u):=
 v9 aL [DL,OR] ⟨Fu,Xo,trivial⟩ 1000 (.ah (.ln 3 pA) (.ln 3 (.ah .all (.ah pA (.ah (.ah .all .all) (.ah .all (.ah .all (.ah (.ln 6 pA) (.ln 6 (.ah .all (.ah (.ah .all .all) (.ah .all .all))))))))))))
  (t:=let y0:ak SV:=lT [.agg [.int .i64 g.low,.int .i64 g.bQ,.int .i64 g.watch,.int .i64 g.cG,.int .i64 g.bN,.int .i64 g.base,.int .i64 g.count,.int .i64 g.idle,.int .i64 g.quiet,.int .i64 g.fault,.bool g.dc],.int .i64 0];let y2:=i64.wrap (g.quiet+1);let y1:ak SV:=lT [.agg [.int .i64 g.low,.int .i64 g.bQ,.int .i64 g.watch,.int .i64 g.cG,.int .i64 g.bN,.int .i64 r,.int .i64 0,.int .i64 g.idle,.int .i64 y2,.int .i64 g.fault,.bool g.dc],.int .i64 (cS u 0 255)];.ag (!g.ok) y0 (.ag (g.fault != 0) y0 (.ag (r<g.low) (lT [.agg [.int .i64 g.low,.int .i64 g.bQ,.int .i64 g.watch,.int .i64 g.cG,.int .i64 g.bN,.int .i64 g.base,.int .i64 g.count,.int .i64 g.idle,.int .i64 g.quiet,.int .i64 1,.bool g.dc],.int .i64 0]) (.ag (r>g.bQ) (.ag (g.fault==0) (lT [.agg [.int .i64 g.low,.int .i64 g.bQ,.int .i64 g.watch,.int .i64 g.cG,.int .i64 g.bN,.int .i64 g.base,.int .i64 g.count,.int .i64 g.idle,.int .i64 g.quiet,.int .i64 2,.bool g.dc],.int .i64 0]) y0) (.ag (i64.wrap (g.quiet+1)>=g.idle) (lT [.agg [.int .i64 g.low,.int .i64 g.bQ,.int .i64 g.watch,.int .i64 g.cG,.int .i64 g.bN,.int .i64 r,.int .i64 0,.int .i64 g.idle,.int .i64 g.idle,.int .i64 g.fault,.bool g.dc],.int .i64 0]) (rT (rT (.ag (g.dc) (lT [.agg [.int .i64 g.low,.int .i64 g.bQ,.int .i64 g.watch,.int .i64 g.cG,.int .i64 g.bN,.int .i64 r,.int .i64 0,.int .i64 g.idle,.int .i64 y2,.int .i64 g.fault,.bool g.dc],.int .i64 0]) (.ag (cS u 0 255==0) y1 (.ag (r>=i64.wrap (cS t (-1073741824) 1073741824-g.bN)) y1 (.ag (r>=i64.wrap (g.base+g.cG)) (.ag (1>=g.watch) (lT [.agg [.int .i64 g.low,.int .i64 g.bQ,.int .i64 g.watch,.int .i64 g.cG,.int .i64 g.bN,.int .i64 r,.int .i64 g.watch,.int .i64 g.idle,.int .i64 y2,.int .i64 3,.bool g.dc],.int .i64 0]) (lT [.agg [.int .i64 g.low,.int .i64 g.bQ,.int .i64 g.watch,.int .i64 g.cG,.int .i64 g.bN,.int .i64 r,.int .i64 1,.int .i64 g.idle,.int .i64 y2,.int .i64 g.fault,.bool g.dc],.int .i64 (cS u 0 255)])) (.ag (i64.wrap (g.count+1)>=g.watch) (lT [.agg [.int .i64 g.low,.int .i64 g.bQ,.int .i64 g.watch,.int .i64 g.cG,.int .i64 g.bN,.int .i64 g.base,.int .i64 g.watch,.int .i64 g.idle,.int .i64 y2,.int .i64 3,.bool g.dc],.int .i64 0]) (lT [.agg [.int .i64 g.low,.int .i64 g.bQ,.int .i64 g.watch,.int .i64 g.cG,.int .i64 g.bN,.int .i64 g.base,.int .i64 (i64.wrap (g.count+1)),.int .i64 g.idle,.int .i64 y2,.int .i64 g.fault,.bool g.dc],.int .i64 (cS u 0 255)])))))))))))))
  (by kernel_rfl) (by
   have cu:=CC (n:=u) (lo:=0) (hi:=255) (by omega);have ct:=CC (n:=t) (lo:= -1073741824) (hi:=1073741824) (by omega)
   cases br:g.ok with
   |false=>simp only[ak.holds,br,sM];unfold kI Gu.step Gu.cM Gu.cB;rw[br];rfl
   |true=>
    have o:=(Gu.bz g).1 br;have w1:=aG (x:=g.quiet+1) (by omega) (by omega);have w2:=aG (x:=g.count+1) (by omega) (by omega);have w3:=aG (x:=g.base+g.cG) (by omega) (by omega);have w4:=aG (x:=cS t (-1073741824) 1073741824-g.bN) (by omega) (by omega)
    have w5:i64.wrap (0+1)=1:=by decide
    simp only[ak.holds,br,w1,w2,w3,w4,w5,sM];(repeat' (first|apply aX|intro _));
    all_goals first
     |omega
     |(have hw:g.cB r t u=0:=by(unfold Gu.cB;simp only[br];simp (config:={zetaDelta:=false}) only[Gu.fw];grind)
       unfold kI Gu.step Gu.cM
       (simp only[hw,Gu.sv,Gu.cells,J,Gu.kj,Gu.fw,sN])<;>(first|rfl|((repeat' apply aX)<;>first|rfl|omega|(unfold cS;(repeat' split)<;>omega)|grind)))
     |(have hw:g.cB r t u=1:=by(unfold Gu.cB;simp only[br];simp (config:={zetaDelta:=false}) only[Gu.fw];grind)
       unfold kI Gu.step Gu.cM
       (simp only[hw,Gu.sv,Gu.cells,J,Gu.kj,Gu.fw,sN])<;>(first|rfl|((repeat' apply aX)<;>first|rfl|omega|(unfold cS;(repeat' split)<;>omega)|grind)))
     |(have hw:g.cB r t u=2:=by(unfold Gu.cB;simp only[br];simp (config:={zetaDelta:=false}) only[Gu.fw];grind)
       unfold kI Gu.step Gu.cM
       (simp only[hw,Gu.sv,Gu.cells,J,Gu.kj,Gu.fw,sN])<;>(first|rfl|((repeat' apply aX)<;>first|rfl|omega|(unfold cS;(repeat' split)<;>omega)|grind)))
     |(have hw:g.cB r t u=3:=by(unfold Gu.cB;simp only[br];simp (config:={zetaDelta:=false}) only[Gu.fw];grind)
       unfold kI Gu.step Gu.cM
       (simp only[hw,Gu.sv,Gu.cells,J,Gu.kj,Gu.fw,sN])<;>(first|rfl|((repeat' apply aX)<;>first|rfl|omega|(unfold cS;(repeat' split)<;>omega)|grind)))
     |(have hw:g.cB r t u=4:=by(unfold Gu.cB;simp only[br];simp (config:={zetaDelta:=false}) only[Gu.fw];grind)
       unfold kI Gu.step Gu.cM
       (simp only[hw,Gu.sv,Gu.cells,J,Gu.kj,Gu.fw,sN])<;>(first|rfl|((repeat' apply aX)<;>first|rfl|omega|(unfold cS;(repeat' split)<;>omega)|grind)))
     |(have hw:g.cB r t u=5:=by(unfold Gu.cB;simp only[br];simp (config:={zetaDelta:=false}) only[Gu.fw];grind)
       unfold kI Gu.step Gu.cM
       (simp only[hw,Gu.sv,Gu.cells,J,Gu.kj,Gu.fw,sN])<;>(first|rfl|((repeat' apply aX)<;>first|rfl|omega|(unfold cS;(repeat' split)<;>omega)|grind)))
     |(have hw:g.cB r t u=6:=by(unfold Gu.cB;simp only[br];simp (config:={zetaDelta:=false}) only[Gu.fw];grind)
       unfold kI Gu.step Gu.cM
       (simp only[hw,Gu.sv,Gu.cells,J,Gu.kj,Gu.fw,sN])<;>(first|rfl|((repeat' apply aX)<;>first|rfl|omega|(unfold cS;(repeat' split)<;>omega)|grind)))
     |(have hw:g.cB r t u=7:=by(unfold Gu.cB;simp only[br];simp (config:={zetaDelta:=false}) only[Gu.fw];grind)
       unfold kI Gu.step Gu.cM
       (simp only[hw,Gu.sv,Gu.cells,J,Gu.kj,Gu.fw,sN])<;>(first|rfl|((repeat' apply aX)<;>first|rfl|omega|(unfold cS;(repeat' split)<;>omega)|grind)))
) (by kernel_rfl) (by kernel_rfl)
theorem xI1(g:Gu)(r t u:Int):SCall pP 168 [g.sv,J r,J t,J u] (kI g r t u):=
 v9 aL [DK,z53] ⟨Ft,yu8,trivial⟩ 1000 (let z1:ax:=.ah .all .all;let z0:ax:=.ah (.ar (.ar pA)) (.ar (.ar z1));.ah (.ln 3 pA) (.ln 3 (.ah .all (.ah (.ln 5 z1) (.ln 4 (.ah z1 (.ah (.ln 13 z0) (.ar (.ar (.ah (.ln 10 z0) (.ar (.ar (.ah (.ln 7 z0) (.ln 6 (.ah z0 (.ah z1 z1))))))))))))))))
  (t:=let y1:ak SV:=.ag (r<g.low) (lT [.agg [.int .i64 g.low,.int .i64 g.bQ,.int .i64 g.watch,.int .i64 g.cG,.int .i64 g.bN,.int .i64 g.base,.int .i64 g.count,.int .i64 g.idle,.int .i64 g.quiet,.int .i64 1,.bool g.dc],.int .i64 0]) (lT [.agg [.int .i64 g.low,.int .i64 g.bQ,.int .i64 g.watch,.int .i64 g.cG,.int .i64 g.bN,.int .i64 g.base,.int .i64 g.count,.int .i64 g.idle,.int .i64 g.quiet,.int .i64 2,.bool g.dc],.int .i64 0]);let y3:ak SV:=lT [.agg [.int .i64 g.low,.int .i64 g.bQ,.int .i64 g.watch,.int .i64 g.cG,.int .i64 g.bN,.int .i64 g.base,.int .i64 g.count,.int .i64 g.idle,.int .i64 g.quiet,.int .i64 g.fault,.bool g.dc],.int .i64 0];let y4:=i64.wrap (g.quiet+1);let y2:ak SV:=lT [.agg [.int .i64 g.low,.int .i64 g.bQ,.int .i64 g.watch,.int .i64 g.cG,.int .i64 g.bN,.int .i64 r,.int .i64 0,.int .i64 g.idle,.int .i64 (cS y4 0 g.idle),.int .i64 g.fault,.bool g.dc],.int .i64 0];let y0:ak SV:=.ag (i64.wrap (g.quiet+1)>=g.idle) y2 (.ag (g.dc) y2 (lT [.agg [.int .i64 g.low,.int .i64 g.bQ,.int .i64 g.watch,.int .i64 g.cG,.int .i64 g.bN,.int .i64 r,.int .i64 0,.int .i64 g.idle,.int .i64 (cS y4 0 g.idle),.int .i64 g.fault,.bool g.dc],.int .i64 (cS u 0 255)]));.ag (!g.ok) y3 (.ag (g.fault != 0) y3 (.ag (r<g.low) y1 (.ag (r>g.bQ) y1 (.ag (i64.wrap (g.quiet+1)>=g.idle) y0 (.ag (g.dc) y0 (.ag (cS u 0 255==0) y0 (.ag (r>=i64.wrap (cS t (-1073741824) 1073741824-g.bN)) y0 (.ag (r>=i64.wrap (g.base+g.cG)) (.ag (1>=g.watch) (lT [.agg [.int .i64 g.low,.int .i64 g.bQ,.int .i64 g.watch,.int .i64 g.cG,.int .i64 g.bN,.int .i64 r,.int .i64 g.watch,.int .i64 g.idle,.int .i64 y4,.int .i64 3,.bool g.dc],.int .i64 0]) (lT [.agg [.int .i64 g.low,.int .i64 g.bQ,.int .i64 g.watch,.int .i64 g.cG,.int .i64 g.bN,.int .i64 r,.int .i64 1,.int .i64 g.idle,.int .i64 y4,.int .i64 g.fault,.bool g.dc],.int .i64 (cS u 0 255)])) (.ag (i64.wrap (g.count+1)>=g.watch) (lT [.agg [.int .i64 g.low,.int .i64 g.bQ,.int .i64 g.watch,.int .i64 g.cG,.int .i64 g.bN,.int .i64 g.base,.int .i64 g.watch,.int .i64 g.idle,.int .i64 y4,.int .i64 3,.bool g.dc],.int .i64 0]) (lT [.agg [.int .i64 g.low,.int .i64 g.bQ,.int .i64 g.watch,.int .i64 g.cG,.int .i64 g.bN,.int .i64 g.base,.int .i64 (i64.wrap (g.count+1)),.int .i64 g.idle,.int .i64 y4,.int .i64 g.fault,.bool g.dc],.int .i64 (cS u 0 255)])))))))))))
  (by kernel_rfl) (by
   have cu:=CC (n:=u) (lo:=0) (hi:=255) (by omega);have ct:=CC (n:=t) (lo:= -1073741824) (hi:=1073741824) (by omega)
   cases br:g.ok with
   |false=>simp only[ak.holds,br,sM];unfold kI Gu.step Gu.cM Gu.cB;rw[br];rfl
   |true=>
    have o:=(Gu.bz g).1 br;have w1:=aG (x:=g.quiet+1) (by omega) (by omega);have w2:=aG (x:=g.count+1) (by omega) (by omega);have w3:=aG (x:=g.base+g.cG) (by omega) (by omega);have w4:=aG (x:=cS t (-1073741824) 1073741824-g.bN) (by omega) (by omega)
    have w5:i64.wrap (0+1)=1:=by decide
    simp only[ak.holds,br,w1,w2,w3,w4,w5,sM];(repeat' (first|apply aX|intro _));
    all_goals first
     |omega
     |(have hw:g.cB r t u=0:=by(unfold Gu.cB;simp only[br];simp (config:={zetaDelta:=false}) only[Gu.fw];grind)
       unfold kI Gu.step Gu.cM
       (simp only[hw,Gu.sv,Gu.cells,J,Gu.kj,Gu.fw,sN])<;>(first|rfl|((repeat' apply aX)<;>first|rfl|omega|(unfold cS;(repeat' split)<;>omega)|grind)))
     |(have hw:g.cB r t u=1:=by(unfold Gu.cB;simp only[br];simp (config:={zetaDelta:=false}) only[Gu.fw];grind)
       unfold kI Gu.step Gu.cM
       (simp only[hw,Gu.sv,Gu.cells,J,Gu.kj,Gu.fw,sN])<;>(first|rfl|((repeat' apply aX)<;>first|rfl|omega|(unfold cS;(repeat' split)<;>omega)|grind)))
     |(have hw:g.cB r t u=2:=by(unfold Gu.cB;simp only[br];simp (config:={zetaDelta:=false}) only[Gu.fw];grind)
       unfold kI Gu.step Gu.cM
       (simp only[hw,Gu.sv,Gu.cells,J,Gu.kj,Gu.fw,sN])<;>(first|rfl|((repeat' apply aX)<;>first|rfl|omega|(unfold cS;(repeat' split)<;>omega)|grind)))
     |(have hw:g.cB r t u=3:=by(unfold Gu.cB;simp only[br];simp (config:={zetaDelta:=false}) only[Gu.fw];grind)
       unfold kI Gu.step Gu.cM
       (simp only[hw,Gu.sv,Gu.cells,J,Gu.kj,Gu.fw,sN])<;>(first|rfl|((repeat' apply aX)<;>first|rfl|omega|(unfold cS;(repeat' split)<;>omega)|grind)))
     |(have hw:g.cB r t u=4:=by(unfold Gu.cB;simp only[br];simp (config:={zetaDelta:=false}) only[Gu.fw];grind)
       unfold kI Gu.step Gu.cM
       (simp only[hw,Gu.sv,Gu.cells,J,Gu.kj,Gu.fw,sN])<;>(first|rfl|((repeat' apply aX)<;>first|rfl|omega|(unfold cS;(repeat' split)<;>omega)|grind)))
     |(have hw:g.cB r t u=5:=by(unfold Gu.cB;simp only[br];simp (config:={zetaDelta:=false}) only[Gu.fw];grind)
       unfold kI Gu.step Gu.cM
       (simp only[hw,Gu.sv,Gu.cells,J,Gu.kj,Gu.fw,sN])<;>(first|rfl|((repeat' apply aX)<;>first|rfl|omega|(unfold cS;(repeat' split)<;>omega)|grind)))
     |(have hw:g.cB r t u=6:=by(unfold Gu.cB;simp only[br];simp (config:={zetaDelta:=false}) only[Gu.fw];grind)
       unfold kI Gu.step Gu.cM
       (simp only[hw,Gu.sv,Gu.cells,J,Gu.kj,Gu.fw,sN])<;>(first|rfl|((repeat' apply aX)<;>first|rfl|omega|(unfold cS;(repeat' split)<;>omega)|grind)))
     |(have hw:g.cB r t u=7:=by(unfold Gu.cB;simp only[br];simp (config:={zetaDelta:=false}) only[Gu.fw];grind)
       unfold kI Gu.step Gu.cM
       (simp only[hw,Gu.sv,Gu.cells,J,Gu.kj,Gu.fw,sN])<;>(first|rfl|((repeat' apply aX)<;>first|rfl|omega|(unfold cS;(repeat' split)<;>omega)|grind)))
) (by kernel_rfl) (by kernel_rfl)
def z60:aB:=Dr 162 λc r=>.ai (uI c r)
def Xb:aB:=Dr 167 λc r=>.ai (uI c r)
def yv5:z60.ok pP:=K2 (xC9)
def yv6:Xb.ok pP:=K2 (xD0)
def Rm:aB:=KX 212 λg r=>.ag (g.cD r=0) (lT [(g.rest r).sv,J 0]) (lT [Gu.zero.sv,J (g.cD r)])
def qj5:aB:=KX 220 λg r=>.ag (g.cD r=0) (lT [(g.rest r).sv,J 0]) (lT [Gu.zero.sv,J (g.cD r)])
def yJ2:Rm.ok pP:=qs7 (λg r=>by
 have h:=xV0 g r;constructor
 .intro hd
  have hd:=bG hd;rw[ay hd,hd]at h;exact h
 .intro hd
  have hd:=cO hd
  rw[au hd]at h;exact h)
def yJ3:qj5.ok pP:=qs7 (λg r=>by
 have h:=xV1 g r;constructor
 .intro hd
  have hd:=bG hd;rw[ay hd,hd]at h;exact h
 .intro hd
  have hd:=cO hd
  rw[au hd]at h;exact h)
def ON:aB:=KY 163 λg r t u=>.ai (kI g r t u)
def W6:aB:=KY 168 λg r t u=>.ai (kI g r t u)
def yz2:ON.ok pP:=qs5 (xI0)
def yz3:W6.ok pP:=qs5 (xI1)
end Go.Proofs.YtnkaepnblikcdaaGreat
namespace Go.Proofs.YtnkaepnblikcdaaGreat.Gc
open Go.Sx
structure C where
 code:Int
 has:Int
 x:Int
 y:Int
 z:Int
 e:Int
 f:Int
 s:Int
def C.cells(c:C):List SV:=[J c.code,J c.has,J c.x,J c.y,J c.z,J c.e,J c.f,J c.s]
def C.sv(c:C):SV:=.agg c.cells
def oP(k:Int):Prop:=k=4\/k=1104\/k=1109\/k=1140\/k=1190\/k=1106
def qJ(k:Int):Prop:=k=28\/k=1024\/k=1025\/k=1107\/k=1112\/k=1999
instance (k:Int):Decidable (oP k):=by unfold oP;infer_instance
instance (k:Int):Decidable (qJ k):=by unfold qJ;infer_instance
def fk(k:Int):Int:=if k=0 then 23 else if k=1 then 31 else if oP k then 32 else 0
def rU(k:Int):Bool:=(oP k)||(qJ k)
def bM(k:Int):Bool:=k=0||(k=1||((oP k)||(qJ k)))
def lo(k:Int)(w:Int):Int:=if w=4 then 1 else if w≠5 then -1073741824 else 0
def hi(k:Int)(w:Int):Int:=if w=4 then 1048576 else if w≠5 then 1073741824 else if k=4 then 1048576 else if k=1106 then 255 else 400000
def C.num(c:C)(w:Int):Int:=if w=0 then c.x else if w=1 then c.y else if w=2 then c.z else if w=3 then c.e else if w=4 then c.f else c.s
def HQ(f:FuncId)(h:C->ak SV):aB:=⟨f,λargs=>match args with
 |[.agg [.int .i64 a0,.int .i64 a1,.int .i64 a2,.int .i64 a3,.int .i64 a4,.int .i64 a5,.int .i64 a6,.int .i64 a7]] =>some (h ⟨a0,a1,a2,a3,a4,a5,a6,a7⟩)
 |_=>none⟩
def Um{P:Program}{f:FuncId}{h:C->ak SV}(k:∀c,(h c).bw (SCall P f [c.sv])):(HQ f h).ok P:=λargs t ht=>by
 simp only[HQ]at ht
 split at ht<;>cases ht;exact k ⟨_,_,_,_,_,_,_,_⟩
def K6:aB:=tU 140 λk=>lT [J (fk k),.bool (rU k),.bool (bM k)]
def Lc:aB:=zD 142 λk w=>lT [J (lo k w),J (hi k w)]
def Fq:aB:=tU 153 λk=>.ai (J (fk k))
def Jl:aB:=zD 154 λk h=>.ai (.bool (!(fk k==32)||h==32))
def vq(k w n:Int):Bool:=if w<4 then az n (-1073741824) 1073741824 else if w=4 then az n 1 1048576 else if k=4 then az n 0 1048576 else if k=1106 then az n 0 255 else az n 0 400000
def Lf:aB:=zC 156 λk w n=>.ai (.bool (vq k w n))
def z77:aB:=⟨141,λargs=>match args with
 |[.ptr id off,.int .i64 w] =>some (.ag (w==0) (.ai (.ptr id (off+2))) (.ag (w==1) (.ai (.ptr id (off+3))) (.ag (w==2) (.ai (.ptr id (off+4))) (.ag (w==3) (.ai (.ptr id (off+5))) (.ag (w==4) (.ai (.ptr id (off+6))) (.ai (.ptr id (off+7))))))))
 |_=>none⟩
def lC:List Int:=[0,1,4,28,1024,1025,1104,1106,1107,1109,1112,1140,1190,1999]
def Fo:aB:=Rb 219 (.ai (.list (.int .i64) lC))
def z78:aB:=HQ 155 λc=>.ai (.list (.int .i64) [c.x,c.y,c.z,c.e,c.f,c.s])
def Lk:aB:=tU 152 λk=>.ai (.bool (bM k))
def x53(k:Int):SCall pP 140 [J k] (.tuple [J (fk k),.bool (rU k),.bool (bM k)]):=
 aY aL [] trivial 1000 (let z1:ax:=.ah (.all) (.all);let z0:ax:=.ah (.all) (.ah z1 (.ah z1 (.ah z1 (.ah z1 (.ah z1 z1)))));.ah (.all) (.ah (.all) (.ah z0 (.ah z0 (.ah z0 (.ah z0 (.ah z0 z0)))))))
  (t:=let y1:ak SV:=lT [J 0,.bool false,.bool false];let y2:ak SV:=lT [J 32,.bool true,.bool true];let y3:ak SV:=lT [J 0,.bool true,.bool true];let y0:ak SV:=.ag (k==28) (.ag (k==28) y3 y1) (.ag (k==1024) (.ag (k==1024) y3 y1) (.ag (k==1025) (.ag (k==1025) y3 y1) (.ag (k==1107) (.ag (k==1107) y3 y1) (.ag (k==1112) (.ag (k==1112) y3 y1) (.ag (k==1999) y3 y1)))));.ag (k==0) (lT [J 23,.bool false,.bool true]) (.ag (k==1) (lT [J 31,.bool false,.bool true]) (.ag (k==4) (.ag (k==4) y2 y0) (.ag (k==1104) (.ag (k==1104) y2 y0) (.ag (k==1109) (.ag (k==1109) y2 y0) (.ag (k==1140) (.ag (k==1140) y2 y0) (.ag (k==1190) (.ag (k==1190) y2 y0) (.ag (k==1106) y2 y0))))))))
  (by kernel_rfl) (by
   simp only[ak.holds]
   repeat' (first|apply aX|intro _)
   all_goals(simp_all[fk,rU,bM,lo,hi,oP,qJ,vq,az,J,C.sv,C.cells])) (by kernel_rfl)
def yP8:K6.ok pP:=rq x53
def xY0(k w:Int):SCall pP 142 [J k,J w] (.tuple [J (lo k w),J (hi k w)]):=
 aY aL [] trivial 1000 (.ah (.all) (.ah (.all) (.ah (.all) (.ah (.all) (.all)))))
  (t:=.ag (w==4)
 (.ai (SV.tuple [J 1,J 1048576]))
 (.ag (w != 5)
  (.ai (SV.tuple [J (-1073741824),J 1073741824]))
  (.ag (k==4)
   (.ai (SV.tuple [J 0,J 1048576]))
   (.ag (k==1106)
    (.ai (SV.tuple [J 0,J 255]))
    (.ai (SV.tuple [J 0,J 400000]))))))
   (by kernel_rfl) (by
    simp only[ak.holds]
    repeat' (first|apply aX|intro _)
    all_goals(simp_all[fk,rU,bM,lo,hi,oP,qJ,vq,az,J,C.sv,C.cells])) (by kernel_rfl)
def yL2:Lc.ok pP:=Dm xY0
def xA3(k:Int):SCall pP 153 [J k] (J (fk k)):=
 aY aL [] trivial 1000 (.ah (.all) (.ah (.all) (.ah (.ah (.all) (.all)) (.ah (.ah (.all) (.all)) (.ah (.ah (.all) (.all)) (.ah (.ah (.all) (.all)) (.ah (.ah (.all) (.all)) (.ah (.all) (.all)))))))))
  (t:=let y0:ak SV:=.ai (J 32);let y1:ak SV:=.ai (J 0);.ag (k==0) (.ai (J 23)) (.ag (k==1) (.ai (J 31)) (.ag (k==4) (.ag (k==4) y0 y1) (.ag (k==1104) (.ag (k==1104) y0 y1) (.ag (k==1109) (.ag (k==1109) y0 y1) (.ag (k==1140) (.ag (k==1140) y0 y1) (.ag (k==1190) (.ag (k==1190) y0 y1) (.ag (k==1106) y0 y1))))))))
  (by kernel_rfl) (by
   simp only[ak.holds]
   repeat' (first|apply aX|intro _)
   all_goals(simp_all[fk,rU,bM,lo,hi,oP,qJ,vq,az,J,C.sv,C.cells])) (by kernel_rfl)
def Xy:Fq.ok pP:=rq xA3
def xD3(k h:Int):SCall pP 154 [J k,J h] (.bool (!(fk k==32)||h==32)):=
 aY aL [Fq] ⟨Xy,trivial⟩ 1000 (.ah (.ar pA) (.ar pA))
  (t:=.ag (fk k != 32)
 (.ai (SV.bool true))
 (.ai (SV.bool (h==32))))
   (by kernel_rfl) (by
    simp only[ak.holds]
    repeat' (first|apply aX|intro _)
    all_goals(simp_all[fk,rU,bM,lo,hi,oP,qJ,vq,az,J,C.sv,C.cells])) (by kernel_rfl)
def yv8:Jl.ok pP:=Dm xD3
def xU0(k w n:Int):SCall pP 156 [J k,J w,J n] (.bool (vq k w n)):=
 aY aL [] trivial 1000 (.ah (.ah (.ar pA) (.ar pA)) (.ah (.ah (.ar pA) (.ar pA)) (.ah (.ah (.ar pA) (.ar pA)) (.ah (.ah (.ar pA) (.ar pA)) (.ah (.ar pA) (.ar pA))))))
  (t:=let y0:ak SV:=.ai (.bool false);.ag (w<4) (.ag (n>=-1073741824) (.ai (.bool (n<=1073741824))) y0) (.ag (w==4) (.ag (n>=1) (.ai (.bool (n<=1048576))) y0) (.ag (k==4) (.ag (n>=0) (.ai (.bool (n<=1048576))) y0) (.ag (k==1106) (.ag (n>=0) (.ai (.bool (n<=255))) y0) (.ag (n>=0) (.ai (.bool (n<=400000))) y0)))))
  (by kernel_rfl) (by
   simp only[ak.holds]
   repeat' (first|apply aX|intro _)
   all_goals(simp_all[vq,az,J])
   all_goals((repeat' split)<;>intros<;>omega)) (by kernel_rfl)
def yI2:Lf.ok pP:=Dp xU0
def hK{l:List aB}(h:mR pP l):cV pP (Env.of pP (j9 l)):=Se aL (SS l h.all)
def xF6(id off:Nat)(w:Int):(ak.ag (w==0) (.ai (.ptr id (off+2))) (.ag (w==1) (.ai (.ptr id (off+3))) (.ag (w==2) (.ai (.ptr id (off+4))) (.ag (w==3) (.ai (.ptr id (off+5))) (.ag (w==4) (.ai (.ptr id (off+6))) (.ai (.ptr id (off+7)))))))).bw (SCall pP 141 [.ptr id off,J w]):=by
 have key:∀v,(∀m,(Jt (Env.of pP (j9 [])) 1000 141 [.ptr id off,J w] .all m).holds λx=>x=(v,m))->SCall pP 141 [.ptr id off,J w] v:=λv h=>x77 (hK (l:=[]) trivial) h
 have e:∀m,Jt (Env.of pP (j9 [])) 1000 141 [.ptr id off,J w] .all m=.ag (w==0) (.ai (.ptr id (off+2),m)) (.ag (w==1) (.ai (.ptr id (off+3),m)) (.ag (w==2) (.ai (.ptr id (off+4),m)) (.ag (w==3) (.ai (.ptr id (off+5),m)) (.ag (w==4) (.ai (.ptr id (off+6),m)) (.ai (.ptr id (off+7),m)))))):=λm=>by kernel_rfl
 simp only[ak.bw]
 refine⟨λh=>key _ λm=>?_,λh1=>⟨λh=>key _ λm=>?_,λh2=>⟨λh=>key _ λm=>?_,λh3=>⟨λh=>key _ λm=>?_,λh4=>⟨λh=>key _ λm=>?_,λh5=>key _ λm=>?_⟩⟩⟩⟩⟩<;>rw[e m]<;>simp_all[ak.holds]
def yx1:z77.ok pP:=λargs t ht=>by
 simp only[z77]at ht
 split at ht<;>cases ht;exact xF6 _ _ _
def WB:ax:=.all
noncomputable def zL1(_:Unit):ak Stop:= .ai (.done (.list (Ty.int i64) lC))
def zK9(_:Unit):o8 (Env.of pP (j9 [])) 1000 (x9 pP 219) .unit (x6 10 []) (v7 pP 219) WB (v6 pP 219 []) [] =zL1 ():=by kernel_rfl
def xD2:SCall pP 219 [] (.list (.int .i64) lC):=by
 refine s8 rfl rfl (by kernel_rfl) (o6 (hK (l:=[]) trivial) (n:=1000) (hint:=.unit) (keep:=x6 10 []) (p:=WB) (boxes:=[]) rfl ?_);have e:=zK9 ();unfold v6 v7 at e;erw [e];exact rfl
def Xn:Fo.ok pP:=qp6 xD2
def qB6:ax:=.all
def qB5(c:C):o8 (Env.of pP (j9 [])) 1000 (x9 pP 155) .unit (x6 10 []) (v7 pP 155) qB6 (v6 pP 155 [c.sv]) [] =(.ai (.done (.list (Ty.int i64) [c.x,c.y,c.z,c.e,c.f,c.s]))):=by kernel_rfl
def xF7(c:C):SCall pP 155 [c.sv] (.list (.int .i64) [c.x,c.y,c.z,c.e,c.f,c.s]):=by
 refine s8 rfl rfl (by kernel_rfl) (o6 (hK (l:=[]) trivial) (n:=1000) (hint:=.unit) (keep:=x6 10 []) (p:=qB6) (boxes:=[]) rfl ?_);have e:=qB5 c;unfold v6 v7 at e;erw [e];exact rfl
def yx2:z78.ok pP:=Um xF7
def q31:ax:=.all
def q30(k:Int):o8 (Env.of pP (j9 [Fo])) 1000 (x9 pP 152) .unit (x6 18 [0,3,4]) (v7 pP 152) q31 (v6 pP 152 [J k]) [] =(.ai (.at (x8 pP 152 0) 18 (x7 18 [(0,J k),(3,.list (Ty.int i64) lC),(4,J 0)]) [])):=by kernel_rfl
def q33:ax:=.ah (.ah (.all) (.all)) (.all)
def q32(k i:Int):o8 (Env.of pP (j9 [Fo])) 1000 (x9 pP 152) .unit (x6 18 [0,3,4]) (x8 pP 152 0) q33 (x7 18 [(0,J k),(3,.list (.int .i64) lC),(4,J i)]) [] =(.ag (i<14) (.aj (0<=i&&i<14) (.ag (lC.getD i.toNat 0==k) (.ai (.done (.bool true))) (.ai (.at (x8 pP 152 0) 18 (x7 18 [(0,J k),(3,.list (Ty.int i64) lC),(4,J (i64.wrap (i+1)))]) [])))) (.ai (.done (.bool false)))):=by kernel_rfl
def jz5:ax:=.ah (.ln 9 pA) (.ln 5 (.ah (.ln 3 pA) (.ar (.ah (.ln 6 (.ah .all .all)) (.ln 6 pA)))))
def jz4(c:C):o8 (Env.of pP (j9 [K6,Lc,z77])) 1000 (x9 pP 71) .unit (x6 64 [1,35]) (v7 pP 71) jz5 (v6 pP 71 [c.sv]) [] =(let y0:ak Stop:=.ai (.at (x8 pP 71 0) 64 (x7 64 [(1,.ptr 0 0),(35,J 0)]) [some (.cells [J c.code,J c.has,J c.x,J c.y,J c.z,J c.e,J c.f,J c.s])]); .ag (!bM c.code) (.ai (.done (.bool false))) (.ag (i64.wrap ↑(BitVec.ofInt 64 c.has &&& ~~~BitVec.ofInt 64 (fk c.code)).toNat != 0) (.ai (.done (.bool false))) (.ag (rU c.code) (.ag (c.has != fk c.code) (.ai (.done (.bool false))) y0) y0))):=by kernel_rfl
def jz7:ax:=let z1:ax:=.ah (.ln 3 pA) (.ln 3 (.ah .all .all));let z0:ax:=.ah z1 z1;.ah (.ah z0 (.ah z0 (.ah z0 (.ah z0 (.ah z0 z0))))) .all
noncomputable def Sv(c:C)(i:Int):ak Stop:=let y0:ak Stop:=.ai (.at (x8 pP 71 0) 64 (x7 64 [(1,.ptr 0 0),(35,J (i64.wrap (i+1)))]) [some (.cells [J c.code,J c.has,J c.x,J c.y,J c.z,J c.e,J c.f,J c.s])]);let y1:ak Stop:=.ai (.done (.bool false));let y2:=i64.wrap ↑(BitVec.ofInt 64 (c.has.fdiv (2 ^ min i.toNat 64)) &&&BitVec.ofInt 64 1).toNat==0;let y3:=decide (0<=i); .ag (i<6) (.ag (i==0) (.aj y3 (.ag y2 (.ag (c.x<0) y1 (.ag (c.x>0) y1 y0)) (.ag (c.x<lo c.code i) y1 (.ag (c.x>hi c.code i) y1 y0)))) (.ag (i==1) (.aj y3 (.ag y2 (.ag (c.y<0) y1 (.ag (c.y>0) y1 y0)) (.ag (c.y<lo c.code i) y1 (.ag (c.y>hi c.code i) y1 y0)))) (.ag (i==2) (.aj y3 (.ag y2 (.ag (c.z<0) y1 (.ag (c.z>0) y1 y0)) (.ag (c.z<lo c.code i) y1 (.ag (c.z>hi c.code i) y1 y0)))) (.ag (i==3) (.aj y3 (.ag y2 (.ag (c.e<0) y1 (.ag (c.e>0) y1 y0)) (.ag (c.e<lo c.code i) y1 (.ag (c.e>hi c.code i) y1 y0)))) (.ag (i==4) (.aj y3 (.ag y2 (.ag (c.f<0) y1 (.ag (c.f>0) y1 y0)) (.ag (c.f<lo c.code i) y1 (.ag (c.f>hi c.code i) y1 y0)))) (.aj y3 (.ag y2 (.ag (c.s<0) y1 (.ag (c.s>0) y1 y0)) (.ag (c.s<lo c.code i) y1 (.ag (c.s>hi c.code i) y1 y0))))))))) (.ai (.done (.bool true)))
def jz6(c:C)(i:Int):o8 (Env.of pP (j9 [K6,Lc,z77])) 1000 (x9 pP 71) .unit (x6 64 [1,35]) (x8 pP 71 0) jz7 (x7 64 [(1,.ptr 0 0),(35,J i)]) [some (.cells c.cells)] =Sv c i:=by kernel_rfl
def jA2:ax:=.ah (.ln 18 pA) (.ln 3 (.ah (.ln 14 pA) (.ln 7 (.ah (.ln 6 pA) (.ln 6 (.ah .all .all))))))
def jA1(c:C):o8 (Env.of pP (j9 [Lk,Fq,Jl,z78,Lf])) 1000 (x9 pP 74) .unit (x6 70 [1,3,4]) (v7 pP 74) jA2 (v6 pP 74 [c.sv]) [] =(let y0:ak Stop:=.ai (.done (.bool false)); .ag (!bM c.code) y0 (.ag (c.has<0) y0 (.ag (i64.wrap ↑(BitVec.ofInt 64 c.has &&& ~~~BitVec.ofInt 64 (fk c.code)).toNat != 0) y0 (.ag (!(!fk c.code==32||c.has==32)) y0 (.ai (.at (x8 pP 74 0) 70 (x7 70 [(1,.ptr 0 0),(3,.list (Ty.int i64) [c.x,c.y,c.z,c.e,c.f,c.s]),(4,J 0)]) [some (.cells [J c.code,J c.has,J c.x,J c.y,J c.z,J c.e,J c.f,J c.s])])))))):=by kernel_rfl
def jA4:ax:=let z0:ax:=.ah (.ln 7 (.ah .all .all)) (.ln 7 pA);.ah (.ah (.ln 9 (.ah (.ln 4 pA) (.ar (.ar z0)))) (.ln 12 z0)) .all
noncomputable def Te(c:C)(i:Int):ak Stop:= .ag (i<↑[c.x,c.y,c.z,c.e,c.f,c.s].length) (.aj (0<=u64.wrap i) (.ag (i64.wrap ↑(BitVec.ofInt 64 (c.has.fdiv (2 ^ min (u64.wrap i).toNat 64)) &&&BitVec.ofInt 64 1).toNat==1) (.aj (0<=i&&i<↑[c.x,c.y,c.z,c.e,c.f,c.s].length) (.ag (!vq c.code i ([c.x,c.y,c.z,c.e,c.f,c.s].getD i.toNat 0)) (.ai (.done (.bool false))) (.ag (!i64.wrap ↑(BitVec.ofInt 64 (c.has.fdiv (2 ^ min (u64.wrap i).toNat 64)) &&&BitVec.ofInt 64 1).toNat==1) (.aj (0<=i&&i<↑[c.x,c.y,c.z,c.e,c.f,c.s].length) (.ag ([c.x,c.y,c.z,c.e,c.f,c.s].getD i.toNat 0 != 0) (.ai (.done (.bool false))) (.ai (.at (x8 pP 74 0) 70 (x7 70 [(1,.ptr 0 0),(3,.list (Ty.int i64) [c.x,c.y,c.z,c.e,c.f,c.s]),(4,J (i64.wrap (i+1)))]) [some (.cells [J c.code,J c.has,J c.x,J c.y,J c.z,J c.e,J c.f,J c.s])])))) (.ai (.at (x8 pP 74 0) 70 (x7 70 [(1,.ptr 0 0),(3,.list (Ty.int i64) [c.x,c.y,c.z,c.e,c.f,c.s]),(4,J (i64.wrap (i+1)))]) [some (.cells [J c.code,J c.has,J c.x,J c.y,J c.z,J c.e,J c.f,J c.s])]))))) (.ag (!i64.wrap ↑(BitVec.ofInt 64 (c.has.fdiv (2 ^ min (u64.wrap i).toNat 64)) &&&BitVec.ofInt 64 1).toNat==1) (.aj (0<=i&&i<↑[c.x,c.y,c.z,c.e,c.f,c.s].length) (.ag ([c.x,c.y,c.z,c.e,c.f,c.s].getD i.toNat 0 != 0) (.ai (.done (.bool false))) (.ai (.at (x8 pP 74 0) 70 (x7 70 [(1,.ptr 0 0),(3,.list (Ty.int i64) [c.x,c.y,c.z,c.e,c.f,c.s]),(4,J (i64.wrap (i+1)))]) [some (.cells [J c.code,J c.has,J c.x,J c.y,J c.z,J c.e,J c.f,J c.s])])))) (.ai (.at (x8 pP 74 0) 70 (x7 70 [(1,.ptr 0 0),(3,.list (Ty.int i64) [c.x,c.y,c.z,c.e,c.f,c.s]),(4,J (i64.wrap (i+1)))]) [some (.cells [J c.code,J c.has,J c.x,J c.y,J c.z,J c.e,J c.f,J c.s])]))))) (.ai (.done (.bool true)))
def jA3(c:C)(i:Int):o8 (Env.of pP (j9 [Lk,Fq,Jl,z78,Lf])) 1000 (x9 pP 74) .unit (x6 70 [1,3,4]) (x8 pP 74 0) jA4 (x7 70 [(1,.ptr 0 0),(3,.list (.int .i64) [c.x,c.y,c.z,c.e,c.f,c.s]),(4,J i)]) [some (.cells c.cells)] =Te c i:=by kernel_rfl
def bit(h i:Int):Int:=i64.wrap ↑(BitVec.ofInt 64 (h.fdiv (2 ^ min i.toNat 64)) &&&BitVec.ofInt 64 1).toNat
def andNot(h m:Int):Int:=i64.wrap ↑(BitVec.ofInt 64 h &&& ~~~BitVec.ofInt 64 m).toNat
def zz6(h i:Int):bit h i=0\/bit h i=1:=by
 unfold bit;generalize BitVec.ofInt 64 (h.fdiv (2 ^ min i.toNat 64))=x
 have e:(x &&&BitVec.ofInt 64 1).toNat=x.toNat % 2:=by
  rw[aiy];exact Nat.and_one_is_mod _
 rw[e]
 have h2:x.toNat % 2=0\/x.toNat % 2=1:=by omega
 rcases h2 with h2|h2<;>rw[h2]
 .exact .inl rfl
 .exact .inr rfl
variable{i:Int}
def jw3(h:0<=i/\i<=100):u64.wrap i=i:=by
 have h2:IntKind.wrap .u64 i=if false&&i % 18446744073709551616>=9223372036854775808 then i % 18446744073709551616-18446744073709551616 else i % 18446744073709551616:=rfl
 rw[h2];simp only[Il,eY,iD];omega
def okW(c:C)(i:Int):Bool:=if bit c.has i=0 then c.num i==0 else az (c.num i) (lo c.code i) (hi c.code i)
def rest(c:C):Nat->Bool
 |0=>true
 |n+1=>okW c (5-n)&&rest c n
def Ko(c:C)(h:0<=i)(h6:i<6):rest c (6-i).toNat=(okW c i&&rest c (6-(i+1)).toNat):=by
 obtain⟨n,hn⟩:∃n:Nat,(6-i).toNat=n+1:=⟨(5-i).toNat,by omega⟩;rw[hn,show(6-(i+1)).toNat=n by omega,rest,show(5:Int)-n=i by omega]
def C.pre(c:C):Bool:=bM c.code&& (andNot c.has (fk c.code)==0&&!(rU c.code&&!(c.has==fk c.code)))
def C.zW(c:C):Bool:=bM c.code&& (0<=c.has&& (andNot c.has (fk c.code)==0&& (!(fk c.code==32)||c.has==32)))
def C.valid(c:C):Bool:=c.pre&&rest c 6
def C.vw(c:C):Bool:=c.zW&&rest c 6
noncomputable def stV(c:C)(i:Int):Stop:=Stop.at (x8 pP 71 0) 64 (x7 64 [(1,SV.ptr 0 0),(35,J i)]) [some (aR.cells c.cells)]
noncomputable def je6(c:C)(i:Int):Stop:=Stop.at (x8 pP 74 0) 70 (x7 70 [(1,SV.ptr 0 0),(3,SV.list (Ty.int i64) [c.x,c.y,c.z,c.e,c.f,c.s]),(4,J i)]) [some (aR.cells c.cells)]
variable{n h:Int}
def qV5{l:Int}:az n l h=false↔n<l\/h<n:=by
 rw[<-EW,az,aH,aV,aV];omega
def qV6{l:Int}:az n l h=true↔l<=n/\n<=h:=by
 rw[az,aH,aV,aV]
def yo5(c:C):c.num 0=c.x:=rfl
def yo6(c:C):c.num 1=c.y:=rfl
def yo7(c:C):c.num 2=c.z:=rfl
def yo8(c:C):c.num 3=c.e:=rfl
def yo9(c:C):c.num 4=c.f:=rfl
def yp0(c:C):c.num 5=c.s:=rfl
def Yk{c:C}(hn:c.num i=n):(okW c i=true↔(bit c.has i=0/\n=0)\/(bit c.has i≠0/\lo c.code i<=n/\n<=hi c.code i)):=by
 unfold okW;rw[hn]
 by_cases h:bit c.has i=0
 .simp[h]
 .simp[h,qV6]
def jA9{c:C}(h0:0<=i)(Q:Stop->Prop)(q0:6<=i->Q (.done (.bool true)))(q1:i<6->¬okW c i=true->Q (.done (.bool false)))(q2:i<6->okW c i=true->Q (stV c (i+1))):(Sv c i).holds Q:=by
 have wi:i<6->i64.wrap (i+1)=i+1:=λh=>MT (by omega) (by omega)
 have eb:i64.wrap ↑(BitVec.ofInt 64 (c.has.fdiv (2 ^ min i.toNat 64)) &&&BitVec.ofInt 64 1).toNat=bit c.has i:=rfl;unfold Sv;rw[eb];unfold stV C.cells at q2
 have key:∀n,c.num i=n->i<6->(ak.ag (bit c.has i==0)
   (.ag (n<0) (.ai (Stop.done (SV.bool false))) (.ag (n>0) (.ai (Stop.done (SV.bool false))) (.ai (Stop.at (x8 pP 71 0) 64 (x7 64 [(1,SV.ptr 0 0),(35,J (i64.wrap (i+1)))]) [some (aR.cells [J c.code,J c.has,J c.x,J c.y,J c.z,J c.e,J c.f,J c.s])]))))
   (.ag (n<lo c.code i) (.ai (Stop.done (SV.bool false))) (.ag (n>hi c.code i) (.ai (Stop.done (SV.bool false))) (.ai (Stop.at (x8 pP 71 0) 64 (x7 64 [(1,SV.ptr 0 0),(35,J (i64.wrap (i+1)))]) [some (aR.cells [J c.code,J c.has,J c.x,J c.y,J c.z,J c.e,J c.f,J c.s])]))))).holds Q:=by
  intro n hn h6;have ok:=Yk (c:=c) hn;rw[wi h6];simp only[ak.holds,cI,dM,aV,ez]
  repeat' (first|apply aX|intro _)
  all_goals first
   |(refine q1 h6 ?_;rw[ok];omega)
   |(refine q2 h6 ?_;rw[ok];omega)
 simp only[ak.holds,cI,dM,aV,ez]at key ⊢;refine⟨λh6=>⟨?_,λn0=>⟨?_,λn1=>⟨?_,λn2=>⟨?_,λn3=>⟨?_,λn4=>?_⟩⟩⟩⟩⟩,λh=>q0 (by omega)⟩
 .rintro rfl;exact⟨h0,key _ (yo5 c) h6⟩
 .rintro rfl;exact⟨h0,key _ (yo6 c) h6⟩
 .rintro rfl;exact⟨h0,key _ (yo7 c) h6⟩
 .rintro rfl;exact⟨h0,key _ (yo8 c) h6⟩
 .rintro rfl;exact⟨h0,key _ (yo9 c) h6⟩
 .obtain rfl:i=5:=by omega
  exact⟨h0,key _ (yp0 c) h6⟩
def fsV:mR pP [K6,Lc,z77] :=⟨yP8,yL2,yx1,trivial⟩
def jB0(c:C)(v:Bool):∀i:Int,(0<=i/\i<=6/\v=rest c (6-i).toNat)->t9 pP (x9 pP 71) (.bool v) (x8 pP 71 0) (x7 64 [(1,.ptr 0 0),(35,J i)]) [some (.cells c.cells)] :=by
 refine Qa (hK fsV) (n:=1000) (hint:=.unit) rfl (λi:Int=>0<=i/\i<=6/\v=rest c (6-i).toNat) (λi=>(6-i).toNat) (x6 64 [1,35]) (λ_=>x8 pP 71 0) (λi=>x7 64 [(1,.ptr 0 0),(35,J i)]) (λ_=>[some (.cells c.cells)]) (λ_=>jz7) λi hi=>?_
 obtain⟨h0,h6,hv⟩:=hi;rw[jz6];refine jA9 h0 _ (λh=>?_) (λh hw=>?_) (λh hw=>?_)
 .show SV.bool true=SV.bool v
  rw[hv,show(6-i).toNat=0 by omega];rfl
 .show SV.bool false=SV.bool v
  rw[hv,Ko c h0 h];simp[hw]
 .refine⟨o5 _ _,.inl ⟨i+1,⟨by omega,by omega,?_⟩,by omega,rfl,rfl,rfl⟩⟩
  rw[hv,Ko c h0 h,hw,tA]
def Q5(c:C):SCall pP 71 [c.sv] (.bool c.valid):=by
 refine s8 rfl rfl (by kernel_rfl) (o6 (hK fsV) (n:=1000) (hint:=.unit) (keep:=x6 64 [1,35]) (p:=jz5) (boxes:=[]) rfl ?_);have e:=jz4 c;unfold v6 v7 at e;erw [e];have ea:i64.wrap ↑(BitVec.ofInt 64 c.has &&& ~~~BitVec.ofInt 64 (fk c.code)).toNat=andNot c.has (fk c.code):=rfl;rw[ea];simp only[ak.holds,iJ,qW,px,ot];refine⟨λh=>?_,λh=>⟨λh2=>?_,λh2=>⟨λh3=>⟨λh4=>?_,λh4=>?_⟩,λh3=>?_⟩⟩⟩;.simp[C.valid,C.pre,h]
 .simp[C.valid,C.pre,h,h2]
 .simp[C.valid,C.pre,h,h2,h3,h4]
 .exact⟨o5 _ _,jB0 c _ 0 ⟨by omega,by omega,by
   have:c.pre=true:=by
    simp only[C.pre,h,h3,h2];rw[show(c.has==fk c.code)=true by simpa using h4];rfl
   rw[C.valid,this,tA];rfl⟩⟩
 .exact⟨o5 _ _,jB0 c _ 0 ⟨by omega,by omega,by simp[C.valid,C.pre,h,h2,h3]⟩⟩
def Ym(k:Int):bM k=true↔k∈lC:=by
 have:bM k=true↔(k=0\/(k=1\/(oP k\/qJ k))):=by simp[bM]
 rw[this];unfold oP qJ lC;simp only[qT,aih,or_false];omega
def q34(k:Int):∀i:Int,(0<=i/\i<=14/\∀j:Nat,(j:Int)<i->lC.getD j 0≠k)->t9 pP (x9 pP 152) (.bool (bM k)) (x8 pP 152 0) (x7 18 [(0,J k),(3,.list (.int .i64) lC),(4,J i)]) [] :=by
 refine Qa (hK (l:=[Fo]) ⟨Xn,trivial⟩) (n:=1000) (hint:=.unit) rfl (λi:Int=>0<=i/\i<=14/\∀j:Nat,(j:Int)<i->lC.getD j 0≠k) (λi=>(14-i).toNat) (x6 18 [0,3,4]) (λ_=>x8 pP 152 0) (λi=>x7 18 [(0,J k),(3,.list (.int .i64) lC),(4,J i)]) (λ_=>[]) (λ_=>q33) λi hi=>?_
 obtain⟨h0,Nk,hj⟩:=hi;rw[q32];have hl:((lC.length:Nat):Int)=14:=rfl
 have yg:∀j:Nat,lC.getD j (Ty.iH (Ty.int i64))=lC.getD j 0:=λ_=>rfl
 (try rw[hl]);(try rw[yg])
 simp only[ak.holds,aV,ez,cI,dM,aH];refine⟨λh=>⟨⟨h0,h⟩,λhk=>?_,λhk=>?_⟩,λh=>?_⟩
 .show SV.bool true=SV.bool (bM k)
  have:bM k=true:=by
   rw[Ym,<-hk]
   have cW:i.toNat<lC.length:=by have:lC.length=14:=rfl;omega
   rw[cK,cc cW];exact Cb cW
  rw[this]
 .rw[MT (by omega) (by omega)]
  refine⟨o5 _ _,.inl ⟨i+1,⟨by omega,by omega,λj hj1=>?_⟩,by omega,by trivial,by trivial,by trivial⟩⟩
  by_cases iE:(j:Int)<i
  .exact hj j iE
  .obtain rfl:j=i.toNat:=by omega
   exact hk
 .show SV.bool false=SV.bool (bM k)
  have:bM k=false:=by
   rw[<-EW,Ym];intro hm;obtain⟨j,TR⟩:=List.getElem?_of_mem hm;have cW:j<lC.length:=(iZ.1 TR).1;have h14':lC.length=14:=rfl;refine hj j (by omega) ?_;rw[cK,TR];rfl
  rw[this]
def xK9(k:Int):SCall pP 152 [J k] (.bool (bM k)):=by
 refine s8 rfl rfl (by kernel_rfl) (o6 (hK (l:=[Fo]) ⟨Xn,trivial⟩) (n:=1000) (hint:=.unit) (keep:=x6 18 [0,3,4]) (p:=q31) (boxes:=[]) rfl ?_);have e:=q30 k;unfold v6 v7 at e;erw [e];exact⟨o5 _ _,q34 k 0 ⟨by omega,by omega,λj hj=>by omega⟩⟩
def yB6:Lk.ok pP:=rq xK9
def qG7:mR pP [Lk,Fq,Jl,z78,Lf] :=⟨yB6,Xy,yv8,yx2,yI2,trivial⟩
def xi9(k n:Int)(h0:0<=i)(h6:i<6):vq k i n=az n (lo k i) (hi k i):=by
 unfold vq lo hi
 have:i=0\/i=1\/i=2\/i=3\/i=4\/i=5:=by omega
 rcases this with rfl|rfl|rfl|rfl|rfl|rfl<;>simp<;>(repeat' split)<;>rfl
def yp5(c:C)(h0:0<=i)(h6:i<6):[c.x,c.y,c.z,c.e,c.f,c.s].getD i.toNat 0=c.num i:=by
 have:i=0\/i=1\/i=2\/i=3\/i=4\/i=5:=by omega
 rcases this with rfl|rfl|rfl|rfl|rfl|rfl<;>rfl
def jA6{c:C}(h0:0<=i)(mK:i<=6)(Q:Stop->Prop)(q0:6<=i->Q (.done (.bool true)))(q1:i<6->¬okW c i=true->Q (.done (.bool false)))(q2:i<6->okW c i=true->Q (je6 c (i+1))):(Te c i).holds Q:=by
 have hl:(([c.x,c.y,c.z,c.e,c.f,c.s].length:Nat):Int)=6:=rfl;unfold Te
 (try rw[hl]);(try rw[jw3 ⟨h0,by omega⟩])
 have eb:i64.wrap ↑(BitVec.ofInt 64 (c.has.fdiv (2 ^ min i.toNat 64)) &&&BitVec.ofInt 64 1).toNat=bit c.has i:=rfl;rw[eb]
 by_cases h6:i<6
 .rw[MT (by omega) (by omega),yp5 c h0 h6,xi9 _ _ h0 h6]
  have ok:=Yk (c:=c) (i:=i) rfl;have b01:=zz6 c.has i;unfold je6 C.cells at q2;simp only[ak.holds,cI,dM,px,ot,aV,ez,aH,iJ,qW,qV6,qV5]
  repeat' (first|apply aX|intro _)
  all_goals first
   |omega
   |(refine q1 h6 ?_;rw[ok];omega)
   |(refine q2 h6 ?_;rw[ok];omega)
 .simp only[ak.holds,aV,ez]
  exact⟨λh=>absurd h h6,λ_=>q0 (by omega)⟩
def jA7(c:C)(v:Bool):∀i:Int,(0<=i/\i<=6/\v=rest c (6-i).toNat)->t9 pP (x9 pP 74) (.bool v) (x8 pP 74 0) (x7 70 [(1,.ptr 0 0),(3,.list (.int .i64) [c.x,c.y,c.z,c.e,c.f,c.s]),(4,J i)]) [some (.cells c.cells)] :=by
 refine Qa (hK qG7) (n:=1000) (hint:=.unit) rfl (λi:Int=>0<=i/\i<=6/\v=rest c (6-i).toNat) (λi=>(6-i).toNat) (x6 70 [1,3,4]) (λ_=>x8 pP 74 0) (λi=>x7 70 [(1,.ptr 0 0),(3,.list (.int .i64) [c.x,c.y,c.z,c.e,c.f,c.s]),(4,J i)]) (λ_=>[some (.cells c.cells)]) (λ_=>jA4) λi hi=>?_
 obtain⟨h0,h6,hv⟩:=hi;rw[jA3];refine jA6 h0 h6 _ (λh=>?_) (λh hw=>?_) (λh hw=>?_)
 .show SV.bool true=SV.bool v
  rw[hv,show(6-i).toNat=0 by omega];rfl
 .show SV.bool false=SV.bool v
  rw[hv,Ko c h0 h];simp[hw]
 .refine⟨o5 _ _,.inl ⟨i+1,⟨by omega,by omega,?_⟩,by omega,rfl,rfl,rfl⟩⟩
  rw[hv,Ko c h0 h,hw,tA]
def Q4(c:C):SCall pP 74 [c.sv] (.bool c.vw):=by
 refine s8 rfl rfl (by kernel_rfl) (o6 (hK qG7) (n:=1000) (hint:=.unit) (keep:=x6 70 [1,3,4]) (p:=jA2) (boxes:=[]) rfl ?_);have e:=jA1 c;unfold v6 v7 at e;erw [e];have ea:i64.wrap ↑(BitVec.ofInt 64 c.has &&& ~~~BitVec.ofInt 64 (fk c.code)).toNat=andNot c.has (fk c.code):=rfl;rw[ea];simp only[ak.holds,iJ,qW,px,ot,aV,ez];refine⟨λh=>?_,λh=>⟨λh1=>?_,λh1=>⟨λh2=>?_,λh2=>⟨λh3=>?_,λh3=>?_⟩⟩⟩⟩;.simp[C.vw,C.zW,h]
 .simp[C.vw,C.zW,h,show ¬0<=c.has by omega]
 .simp[C.vw,C.zW,h,h2]
 .simp only[C.vw,C.zW,h3];simp
 .exact⟨o5 _ _,jA7 c _ 0 ⟨by omega,by omega,by simp only[C.vw,C.zW,h,h2,h3,show(decide (0<=c.has))=true by simp;omega];simp⟩⟩
def jI0{x:BitVec 64}(h:i64.wrap (x.toNat:Int)=0):x=0#64:=by
 have hx:=x.isLt
 have h2:IntKind.wrap .i64 (x.toNat:Int)=if true&&(x.toNat:Int) % 18446744073709551616>=9223372036854775808 then(x.toNat:Int) % 18446744073709551616-18446744073709551616 else(x.toNat:Int) % 18446744073709551616:=rfl
 rw[h2]at h;simp only[tA,aV]at h
 have:x.toNat=0:=by split at h<;>omega
 exact BitVec.eq_of_toNat_eq (by simpa using this)
def XY(h1: -9223372036854775808<=h)(h2:h<=9223372036854775807):(BitVec.ofInt 64 h).msb=decide (h<0):=by
 rw[BitVec.msb_eq_toInt,BitVec.toInt_ofInt]
 congr 1
 rw[Int.bmod_eq_of_le (by omega) (by omega)]
def zo4{m:Int}(h1: -9223372036854775808<=h)(h2:h<=9223372036854775807)(hm:0<=m)(kZ:m<=100)(ha:andNot h m=0):0<=h/\(m=0->h=0):=by
 have hx:BitVec.ofInt 64 h &&& ~~~BitVec.ofInt 64 m=0#64:=jI0 ha;constructor
 .have hb:(BitVec.ofInt 64 h &&& ~~~BitVec.ofInt 64 m).msb=false:=by rw[hx];rfl
  rw[BitVec.msb_and,BitVec.msb_not,XY h1 h2,XY (by omega) (by omega)]at hb
  have:¬m<0:=by omega
  simpa[this]using hb
 .rintro rfl
  have e:(~~~BitVec.ofInt 64 0)=BitVec.allOnes 64:=by rfl
  rw[e,BitVec.and_allOnes]at hx
  have h3:(BitVec.ofInt 64 h).toInt=0:=by rw[hx];rfl
  rw[BitVec.toInt_ofInt,Int.bmod_eq_of_le (by omega) (by omega)]at h3;exact h3
def atQ{c:C}(h1: -9223372036854775808<=c.has)(h2:c.has<=9223372036854775807):c.valid=c.vw:=by
 have key:c.pre=c.zW:=by
  rw[uQ]
  have hm:fk c.code=0\/fk c.code=23\/fk c.code=31\/fk c.code=32:=by
   unfold fk;(repeat' split)<;>simp
  have ahu:=zo4 h1 h2 (m:=fk c.code) (by omega) (by omega);simp only[C.pre,C.zW,aH,ia,iJ,cI,dM,aV,aiw,qW]
  have ha:rU c.code=true↔(oP c.code\/qJ c.code):=by simp[rU]
  have hs:fk c.code=32↔oP c.code:=by
   unfold fk oP;(repeat' split)<;>omega
  have hn:qJ c.code->fk c.code=0:=by
   intro hn;unfold qJ at hn;unfold fk oP;(repeat' split)<;>omega
  constructor
  .rintro ⟨a,b,d⟩
   refine⟨a,(ahu b).1,b,?_⟩
   by_cases T7:fk c.code=32
   .right
    rcases d with d|d
    .exact absurd (ha.2 (.inl (hs.1 T7))) (by rw[d];simp)
    .rw[d,T7]
   .exact .inl T7
  .rintro ⟨a,_,b,d⟩
   refine⟨a,b,?_⟩
   by_cases hw:rU c.code=true
   .right
    rcases ha.1 hw with h|h
    .have:=hs.2 h
     rcases d with d|d
     .exact absurd this d
     .rw[this,d]
    .rw[hn h];exact(ahu b).2 (hn h)
   .exact .inl (by simpa using hw)
 rw[C.valid,C.vw,key]
end Go.Proofs.YtnkaepnblikcdaaGreat.Gc
namespace Go.Proofs.YtnkaepnblikcdaaGreat
open Go.Sx
def V3.cells(v:V3):List SV:=[J v.1,J v.2.1,J v.2.2]
structure Fw where
 ma:Ma
 mode:Int
 bf:Bool
 pos:V4
 loc:V3
 e:Int
 bH:Int
 queue:List Bk
 lines:List Int
 mo:Mo
 aT:Bool
 bL:Int
 back:Bool
 ret:V4
 bt:Int
 waits:Int
 c0:Co
 c1:Co
 g0:Gu
 g1:Gu
 fo:Int
 line:Int
 aU:Int
 bc:Int
 r0:Int
 r1:Int
def Fw.cells(f:Fw):List SV:=[J f.ma.x.num,J f.ma.x.den,J f.ma.x.bP,J f.ma.x.bV,J f.ma.x.bB,J f.ma.x.min,J f.ma.x.max,J f.ma.y.num,J f.ma.y.den,J f.ma.y.bP,
 J f.ma.y.bV,J f.ma.y.bB,J f.ma.y.min,J f.ma.y.max,J f.ma.z.num,J f.ma.z.den,J f.ma.z.bP,J f.ma.z.bV,J f.ma.z.bB,J f.ma.z.min,
 J f.ma.z.max,J f.ma.e.num,J f.ma.e.den,J f.ma.e.bP,J f.ma.e.bV,J f.ma.e.bB,J f.ma.e.min,J f.ma.e.max,.bool f.ma.xy,J f.ma.aU,
 J f.mode,.bool f.bf,J f.pos.1,J f.pos.2.1,J f.pos.2.2.1,J f.pos.2.2.2,J f.loc.1,J f.loc.2.1,J f.loc.2.2,J f.e,
 J f.bH,LB f.queue,LI f.lines,J f.mo.1.1.1,J f.mo.1.1.2.1,J f.mo.1.1.2.2.1,J f.mo.1.1.2.2.2,J f.mo.1.2.1,J f.mo.1.2.2.1,J f.mo.1.2.2.2.1,
 J f.mo.1.2.2.2.2,J f.mo.2.1,J f.mo.2.2,.bool f.aT,J f.bL,.bool f.back,J f.ret.1,J f.ret.2.1,J f.ret.2.2.1,J f.ret.2.2.2,
 J f.bt,J f.waits,J f.c0.target,J f.c0.kp,J f.c0.ki,J f.c0.scale,J f.c0.sum,J f.c0.dA,J f.c1.target,J f.c1.kp,
 J f.c1.ki,J f.c1.scale,J f.c1.sum,J f.c1.dA,J f.g0.low,J f.g0.bQ,J f.g0.watch,J f.g0.cG,J f.g0.bN,J f.g0.base,
 J f.g0.count,J f.g0.idle,J f.g0.quiet,J f.g0.fault,.bool f.g0.dc,J f.g1.low,J f.g1.bQ,J f.g1.watch,J f.g1.cG,J f.g1.bN,
 J f.g1.base,J f.g1.count,J f.g1.idle,J f.g1.quiet,J f.g1.fault,.bool f.g1.dc,J f.fo,J f.line,J f.aU,J f.bc,
 J f.r0,J f.r1]
def Fw.sv(f:Fw):SV:=.agg f.cells
inductive yx:SV->SV->Prop where
 |same (x:SV):yx x x
 |nil (t:Ty):yx .cm (.list t [])
def j7:List SV->List SV->Prop
 |[],[] =>True
 |x::xs,y::ys=>yx x y/\j7 xs ys
 |_,_=>False
theorem j7.refl:∀l:List SV,j7 l l
 |[] =>trivial
 |x::l=>⟨.same x,j7.refl l⟩
theorem j7.append:∀{a b c d:List SV},j7 a b->j7 c d->j7 (a++c) (b++d)
 |[],[],_,_,_,h=>h
 |x::xs,y::ys,_,_,h,k=>⟨h.1,h.2.append k⟩
def yx.nY{R:Nat->Prop}{I:bu}{n:Nat}{w:World}{x y:SV}{v:Value}(h:yx x y)(hr:aJ R I n w x v):aJ R I n w y v:=by
 cases h with
 |same=>exact hr
 |nil t=>exact⟨none,0,by rw[show v=_ from hr];rfl,bA _,λh=>absurd h (gZ _)⟩
theorem j7.nY{R:Nat->Prop}{I:bu}{n:Nat}{w:World}:∀{xs ys:List SV} {vs:List Value},j7 xs ys->j8 R I n w xs vs->j8 R I n w ys vs
 |[],[],_,_,hr=>hr
 |x::xs,y::ys,_,h,hr=>by
  obtain⟨u,us,rfl,h1,h2⟩:=hr;exact⟨u,us,rfl,h.1.nY h1,h.2.nY h2⟩
variable{P:Program}
def x81{f:FuncId}{cs ds:List SV}{rest:List SV}{v:SV}(hn:j7 cs ds)(h:SCall P f (.agg ds::rest) v):SCall P f (.agg cs::rest) v:=by
 intro m w0 R0 I w vs hm bR;obtain⟨u,us,rfl,⟨ws,h1,h2⟩,h3⟩:=bR;exact h m w0 R0 I w _ hm ⟨u,us,rfl,⟨ws,h1,hn.nY h2⟩,h3⟩
def pN:List SV->Option (Int×List SV)
 |.int .i64 a0::r=>some (a0,r)
 |_=>none
variable{l r:List SV}
def rE{x:Int}(h:pN l=some (x,r)):j7 l ([J x] ++r):=by
 unfold pN at h
 split at h<;>cases h;exact j7.refl _
def C8:List SV->Option (Bool×List SV)
 |.bool b::r=>some (b,r)
 |_=>none
def Mn{x:Bool}(h:C8 l=some (x,r)):j7 l ([SV.bool x] ++r):=by
 unfold C8 at h
 split at h<;>cases h;exact j7.refl _
def Mm:List SV->Option (V4×List SV)
 |.int .i64 a0::.int .i64 a1::.int .i64 a2::.int .i64 a3::r=>some ((a0,a1,a2,a3),r)
 |_=>none
def jr7{x:V4}(h:Mm l=some (x,r)):j7 l (V4.cells x++r):=by
 unfold Mm at h
 split at h<;>cases h;exact j7.refl _
def SJ:List SV->Option (V3×List SV)
 |.int .i64 a0::.int .i64 a1::.int .i64 a2::r=>some ((a0,a1,a2),r)
 |_=>none
def jr5{x:V3}(h:SJ l=some (x,r)):j7 l (V3.cells x++r):=by
 unfold SJ at h
 split at h<;>cases h;exact j7.refl _
def SK:List SV->Option (Mo×List SV)
 |.int .i64 a0::.int .i64 a1::.int .i64 a2::.int .i64 a3::.int .i64 a4::.int .i64 a5::.int .i64 a6::.int .i64 a7::.int .i64 a8::.int .i64 a9::r=>some ((((a0,a1,a2,a3),a4,a5,a6,a7),a8,a9),r)
 |_=>none
def jp8{x:Mo}(h:SK l=some (x,r)):j7 l (Mo.cells x++r):=by
 unfold SK at h
 split at h<;>cases h;exact j7.refl _
def Mt:List SV->Option (Co×List SV)
 |.int .i64 a0::.int .i64 a1::.int .i64 a2::.int .i64 a3::.int .i64 a4::.int .i64 a5::r=>some (⟨a0,a1,a2,a3,a4,a5⟩,r)
 |_=>none
def jo8{x:Co}(h:Mt l=some (x,r)):j7 l (Co.cells x++r):=by
 unfold Mt at h
 split at h<;>cases h;exact j7.refl _
def Ms:List SV->Option (Gu×List SV)
 |.int .i64 a0::.int .i64 a1::.int .i64 a2::.int .i64 a3::.int .i64 a4::.int .i64 a5::.int .i64 a6::.int .i64 a7::.int .i64 a8::.int .i64 a9::.bool d::r=>some (⟨a0,a1,a2,a3,a4,a5,a6,a7,a8,a9,d⟩,r)
 |_=>none
def jp2{x:Gu}(h:Ms l=some (x,r)):j7 l (Gu.cells x++r):=by
 unfold Ms at h
 split at h<;>cases h;exact j7.refl _
def Eh:List SV->Option (Ax×List SV)
 |.int .i64 a0::.int .i64 a1::.int .i64 a2::.int .i64 a3::.int .i64 a4::.int .i64 a5::.int .i64 a6::r=>some (⟨a0,a1,a2,a3,a4,a5,a6⟩,r)
 |_=>none
def Mu{x:Ax}(h:Eh l=some (x,r)):j7 l (Ax.cells x++r):=by
 unfold Eh at h
 split at h<;>cases h;exact j7.refl _
def QY:List SV->Option (List Bk×List SV)
 |.list (.pair (.pair (.int .i64) (.pair (.int .i64) (.pair (.int .i64) (.int .i64)))) (.pair (.int .i64) (.pair (.int .i64) (.pair (.int .i64) (.int .i64))))) l::r=>some (l,r)
 |.cm::r=>some ([],r)
 |_=>none
def jq8{x:List Bk}(h:QY l=some (x,r)):j7 l ([LB x] ++r):=by
 unfold QY at h
 split at h;.cases h;exact j7.refl _
 .cases h;exact⟨.nil _,j7.refl _⟩
 .cases h
def QZ:List SV->Option (List Int×List SV)
 |.list (.int .i64) l::r=>some (l,r)
 |.cm::r=>some ([],r)
 |_=>none
def jp4{x:List Int}(h:QZ l=some (x,r)):j7 l ([LI x] ++r):=by
 unfold QZ at h
 split at h;.cases h;exact j7.refl _
 .cases h;exact⟨.nil _,j7.refl _⟩
 .cases h
def yx.trans{x y z:SV}(h:yx x y)(k:yx y z):yx x z:=by
 cases h with
 |same=>exact k
 |nil t=>cases k;exact .nil t
theorem j7.trans:∀{a b c:List SV},j7 a b->j7 b c->j7 a c
 |[],[],[],_,_=>trivial
 |_::_,_::_,_::_,h,k=>⟨h.1.trans k.1,j7.trans h.2 k.2⟩
def SL(l:List SV):Option (Ma×List SV):=
 match Eh l with
 |none=>none
 |some (x,l1)=>
   match Eh l1 with
   |none=>none
   |some (y,l2)=>
     match Eh l2 with
     |none=>none
     |some (z,l3)=>
       match Eh l3 with
       |none=>none
       |some (e,l4)=>
         match C8 l4 with
         |none=>none
         |some (b,l5)=>
           match pN l5 with
           |none=>none
           |some (t,l6)=>
             some (⟨x,y,z,e,b,t⟩,l6)
def jp6{x:Ma}(h:SL l=some (x,r)):j7 l (Ma.cells x++r):=by
 unfold SL at h
 split at h;.cases h
 rename_i x l1 h1
 split at h;.cases h
 rename_i y l2 h2
 split at h;.cases h
 rename_i z l3 h3
 split at h;.cases h
 rename_i e l4 h4
 split at h;.cases h
 rename_i b l5 h5
 split at h;.cases h
 rename_i t l6 h6
 cases h
 have k6:=rE h6;have k5:=j7.trans (Mn h5) (j7.append (j7.refl _) k6);have k4:=j7.trans (Mu h4) (j7.append (j7.refl _) k5);have k3:=j7.trans (Mu h3) (j7.append (j7.refl _) k4);have k2:=j7.trans (Mu h2) (j7.append (j7.refl _) k3);have k1:=j7.trans (Mu h1) (j7.append (j7.refl _) k2);exact k1
def SM(l:List SV):Option (Fw×List SV):=
 match SL l with
 |none=>none
 |some (y0,l1)=>
   match pN l1 with
   |none=>none
   |some (y1,l2)=>
     match C8 l2 with
     |none=>none
     |some (y2,l3)=>
       match Mm l3 with
       |none=>none
       |some (y3,l4)=>
         match SJ l4 with
         |none=>none
         |some (y4,l5)=>
           match pN l5 with
           |none=>none
           |some (y5,l6)=>
             match pN l6 with
             |none=>none
             |some (y6,l7)=>
               match QY l7 with
               |none=>none
               |some (y7,l8)=>
                 match QZ l8 with
                 |none=>none
                 |some (y8,l9)=>
                   match SK l9 with
                   |none=>none
                   |some (y9,l10)=>
                     match C8 l10 with
                     |none=>none
                     |some (dg,l11)=>
                       match pN l11 with
                       |none=>none
                       |some (fA,l12)=>
                         match C8 l12 with
                         |none=>none
                         |some (kR,l13)=>
                           match Mm l13 with
                           |none=>none
                           |some (jP,l14)=>
                             match pN l14 with
                             |none=>none
                             |some (jO,l15)=>
                               match pN l15 with
                               |none=>none
                               |some (jN,l16)=>
                                 match Mt l16 with
                                 |none=>none
                                 |some (jM,l17)=>
                                   match Mt l17 with
                                   |none=>none
                                   |some (lE,l18)=>
                                     match Ms l18 with
                                     |none=>none
                                     |some (sA,l19)=>
                                       match Ms l19 with
                                       |none=>none
                                       |some (Zs,l20)=>
                                         match pN l20 with
                                         |none=>none
                                         |some (Zr,l21)=>
                                           match pN l21 with
                                           |none=>none
                                           |some (Zq,l22)=>
                                             match pN l22 with
                                             |none=>none
                                             |some (Zp,l23)=>
                                               match pN l23 with
                                               |none=>none
                                               |some (Zo,l24)=>
                                                 match pN l24 with
                                                 |none=>none
                                                 |some (Zn,l25)=>
                                                   match pN l25 with
                                                   |none=>none
                                                   |some (Zm,l26)=>
                                                     some (⟨y0,y1,y2,y3,y4,y5,y6,y7,y8,y9,dg,fA,kR,jP,jO,jN,jM,lE,sA,Zs,Zr,Zq,Zp,Zo,Zn,Zm⟩,l26)
def jp0{x:Fw}(h:SM l=some (x,r)):j7 l (Fw.cells x++r):=by
 unfold SM at h
 split at h;.cases h
 rename_i y0 l1 h1
 split at h;.cases h
 rename_i y1 l2 h2
 split at h;.cases h
 rename_i y2 l3 h3
 split at h;.cases h
 rename_i y3 l4 h4
 split at h;.cases h
 rename_i y4 l5 h5
 split at h;.cases h
 rename_i y5 l6 h6
 split at h;.cases h
 rename_i y6 l7 h7
 split at h;.cases h
 rename_i y7 l8 h8
 split at h;.cases h
 rename_i y8 l9 h9
 split at h;.cases h
 rename_i y9 l10 lw
 split at h;.cases h
 rename_i dg l11 HL
 split at h;.cases h
 rename_i fA l12 HK
 split at h;.cases h
 rename_i kR l13 HJ
 split at h;.cases h
 rename_i jP l14 Nk
 split at h;.cases h
 rename_i jO l15 h15
 split at h;.cases h
 rename_i jN l16 h16
 split at h;.cases h
 rename_i jM l17 h17
 split at h;.cases h
 rename_i lE l18 h18
 split at h;.cases h
 rename_i sA l19 h19
 split at h;.cases h
 rename_i Zs l20 h20
 split at h;.cases h
 rename_i Zr l21 h21
 split at h;.cases h
 rename_i Zq l22 h22
 split at h;.cases h
 rename_i Zp l23 h23
 split at h;.cases h
 rename_i Zo l24 h24
 split at h;.cases h
 rename_i Zn l25 h25
 split at h;.cases h
 rename_i Zm l26 h26
 cases h
 have k26:=rE h26;have k25:=j7.trans (rE h25) (j7.append (j7.refl _) k26);have k24:=j7.trans (rE h24) (j7.append (j7.refl _) k25);have k23:=j7.trans (rE h23) (j7.append (j7.refl _) k24);have k22:=j7.trans (rE h22) (j7.append (j7.refl _) k23);have k21:=j7.trans (rE h21) (j7.append (j7.refl _) k22);have k20:=j7.trans (jp2 h20) (j7.append (j7.refl _) k21);have k19:=j7.trans (jp2 h19) (j7.append (j7.refl _) k20);have k18:=j7.trans (jo8 h18) (j7.append (j7.refl _) k19);have k17:=j7.trans (jo8 h17) (j7.append (j7.refl _) k18);have k16:=j7.trans (rE h16) (j7.append (j7.refl _) k17);have k15:=j7.trans (rE h15) (j7.append (j7.refl _) k16);have k14:=j7.trans (jr7 Nk) (j7.append (j7.refl _) k15);have k13:=j7.trans (Mn HJ) (j7.append (j7.refl _) k14);have k12:=j7.trans (rE HK) (j7.append (j7.refl _) k13);have k11:=j7.trans (Mn HL) (j7.append (j7.refl _) k12);have Mf:=j7.trans (jp8 lw) (j7.append (j7.refl _) k11);have k9:=j7.trans (jp4 h9) (j7.append (j7.refl _) Mf);have k8:=j7.trans (jq8 h8) (j7.append (j7.refl _) k9);have k7:=j7.trans (rE h7) (j7.append (j7.refl _) k8);have k6:=j7.trans (rE h6) (j7.append (j7.refl _) k7);have k5:=j7.trans (jr5 h5) (j7.append (j7.refl _) k6);have k4:=j7.trans (jr7 h4) (j7.append (j7.refl _) k5);have k3:=j7.trans (Mn h3) (j7.append (j7.refl _) k4);have k2:=j7.trans (rE h2) (j7.append (j7.refl _) k3);have k1:=j7.trans (jp6 h1) (j7.append (j7.refl _) k2);exact k1
def yL(l:List SV):Option Fw:=match SM l with
 |some (f,r)=>match r with
  |[] =>some f
  |_=>none
 |none=>none
variable{f:Fw}
def Cn(h:yL l=some f):j7 l f.cells:=by
 unfold yL at h
 split at h
 .split at h
  .rename_i h1
   cases h;have:=jp0 h1
   rwa [wA]at this
  .cases h
 .cases h
def gU(f:FuncId)(h:Fw->List SV->Option (ak SV)):aB:=⟨f,λargs=>match args with
 |.agg l::rest=>match yL l with
  |some x=>h x rest
  |none=>none
 |_=>none⟩
theorem Ky{f:FuncId}{a b:List SV}(h:∀v,SCall P f a v->SCall P f b v):∀t:ak SV,t.bw (SCall P f a)->t.bw (SCall P f b)
 |.ai v,k=>h v k
 |.ag _ t u,k=>⟨λhb=>Ky h t (k.1 hb),λhb=>Ky h u (k.2 hb)⟩
 |.aj _ t,k=>λhb=>Ky h t (k hb)
 |.aA _,_=>trivial
def iz{f:FuncId}{h:Fw->List SV->Option (ak SV)}(k:∀x rest t,h x rest=some t->t.bw (SCall P f (x.sv::rest))):(gU f h).ok P:=λargs t ht=>by
 simp only[gU]at ht
 split at ht
 .split at ht
  .rename_i hx
   exact Ky (λv hv=>x81 (Cn hx) hv) t (k _ _ _ ht)
  .cases ht
 .cases ht
def fC(f:FuncId)(h:Fw->ak SV):aB:=gU f λx rest=>match rest with
 |[] =>some (h x)
 |_=>none
def fE{f:FuncId}{h:Fw->ak SV}(k:∀x,(h x).bw (SCall P f [x.sv])):(fC f h).ok P:=iz λx rest t ht=>by
 split at ht<;>cases ht;exact k x
def tP(f:Fw):Bool:=f.ma.ok&& (f.c0.ok&& (f.c1.ok&& (f.g0.ok&&f.g1.ok)))
def xg:tP f=true↔f.ma.ok=true/\f.c0.ok=true/\f.c1.ok=true/\f.g0.ok=true/\f.g1.ok=true:=by simp only[tP,aH]
def HP(n:Int):Bool:=az n (-16777216) 16777216
def X2(f:Fw):Bool:=az f.mode 1 3
def wW(f:Fw):Bool:=HP f.loc.1&& (HP f.loc.2.1&& (HP f.loc.2.2&& (HP f.e&& (az f.bH 0 1048576&& (az f.bt 0 1048576&& (az f.waits 0 3&& (az f.fo 0 255&& (az f.line 0 1099511627776&& (az f.bL 0 1099511627776&& (az f.aU 0 1099511627776&&az f.bc 0 400000))))))))))
def oE:wW f=true↔(-16777216<=f.loc.1/\f.loc.1<=16777216)/\(-16777216<=f.loc.2.1/\f.loc.2.1<=16777216)/\(-16777216<=f.loc.2.2/\f.loc.2.2<=16777216)/\(-16777216<=f.e/\f.e<=16777216)/\(0<=f.bH/\f.bH<=1048576)/\(0<=f.bt/\f.bt<=1048576)/\(0<=f.waits/\f.waits<=3)/\(0<=f.fo/\f.fo<=255)/\(0<=f.line/\f.line<=1099511627776)/\(0<=f.bL/\f.bL<=1099511627776)/\(0<=f.aU/\f.aU<=1099511627776)/\0<=f.bc/\f.bc<=400000:=by simp only[wW,HP,aH,v5]
def A4(f:Fw):Bool:=X2 f&&wW f
def Fx:A4 f=true↔(1<=f.mode/\f.mode<=3)/\wW f=true:=by simp only[A4,X2,aH,v5]
theorem xR3(f:Fw):SCall pP 86 [f.sv] (.bool (tP f)):=
 aY aL [pS,z58,DL] ⟨qB,O2,Fu,trivial⟩ 1000 (.ah (.ln 4 (.ah (.ln 4 (.ah (.ln 4 (.ah (.ln 3 pA) (.ln 3 pA))) (.ln 8 pA))) (.ln 13 pA))) (.ln 18 pA))
  (t:=.ag (f.ma.ok)
 (rT (.ag (f.c0.ok)
   (rT (.ag (f.c1.ok)
     (rT (.ag (f.g0.ok)
       (rT (.ai (SV.bool f.g1.ok)))
       (.ai (SV.bool false))))
     (.ai (SV.bool false))))
   (.ai (SV.bool false))))
 (.ai (SV.bool false)))
   (by kernel_rfl) (by simp only[ak.holds,sM];(repeat' (first|apply aX|intro _));all_goals(refine jh ?_;rw[xg];(try simp only[sM]); first|omega|grind)) (by kernel_rfl)
def xR4(c d:Co)(g h:Gu):SCall pP 68 [.agg (c.cells++d.cells),.agg (g.cells++h.cells)] (.bool (c.ok&& (d.ok&& (g.ok&&h.ok)))):=
 aY aL [z59,DK] ⟨O1,Ft,trivial⟩ 1000 (.ah (.ln 3 (.ah (.ln 3 (.ah (.ar (.ar pA)) (.ar (.ar pA)))) (.ln 6 pA))) (.ln 10 pA))
  (t:=rT (.ag (c.ok)
 (rT (.ag (d.ok)
   (rT (.ag (g.ok)
     (rT (.ai (SV.bool h.ok)))
     (.ai (SV.bool false))))
   (.ai (SV.bool false))))
 (.ai (SV.bool false))))
  (by kernel_rfl) (by simp only[ak.holds,sM];(repeat' (first|apply aX|intro _));all_goals(simp_all)) (by kernel_rfl)
theorem xP8(f:Fw):SCall pP 87 [f.sv] (.bool (A4 f)):=
 aY aL [] trivial 1000 (let z1:ax:=.ln 10 pA;let z0:ax:=.ah (.ln 3 (.ah (.ln 16 pA) (.ln 3 (.ah (.ln 5 (.ah z1 (.ln 3 (.ah (.ln 5 (.ah (.ln 4 pA) (.ar (.ar (.ah (.ln 5 (.ah .all (.ah (.ln 3 (.ah (.ln 14 pA) (.ar (.ar (.ah (.ln 5 (.ah (.ln 9 pA) (.ar (.ar (.ah (.ln 5 (.ah (.ln 4 pA) (.ar (.ar (.ah (.ln 5 (.ah .all (.ah (.ln 3 (.ah (.ar (.ar (.ah (.ln 4 (.ah (.ar (.ar (.ah (.ln 4 (.ah (.ar (.ar (.ah (.ln 3 pA) (.ln 3 pA)))) (.ar (.ar pA)))) (.ln 7 pA)))) (.ln 6 pA))) (.ln 11 pA)))) z1)) (.ln 14 pA)))) (.ln 5 pA)))))) z1))))) (.ln 15 pA)))))) (.ln 18 pA)))) (.ln 5 pA)))))) z1)))) (.ln 16 pA))))) (.ln 20 pA);.ah (.ln 3 (.ah (.ln 3 (.ah .all z0)) (.ln 4 z0))) (.ln 8 z0))
  (t:=let y1:ak SV:=.ai (.bool false);let y0:ak SV:=.ag (f.loc.1>=-16777216) (.ag (!decide (f.loc.1<=16777216)) y1 (.ag (f.loc.2.1>=-16777216) (.ag (!decide (f.loc.2.1<=16777216)) y1 (.ag (f.loc.2.2>=-16777216) (.ag (!decide (f.loc.2.2<=16777216)) y1 (.ag (f.e>=-16777216) (.ag (!decide (f.e<=16777216)) y1 (.ag (f.bH>=0) (.ag (!decide (f.bH<=1048576)) y1 (.ag (f.bt>=0) (.ag (!decide (f.bt<=1048576)) y1 (.ag (f.waits>=0) (.ag (!decide (f.waits<=3)) y1 (.ag (f.fo>=0) (.ag (!decide (f.fo<=255)) y1 (.ag (f.line>=0) (.ag (f.line<=1099511627776) (.ag (f.bL>=0) (.ag (f.bL<=1099511627776) (.ag (f.aU>=0) (.ag (f.aU<=1099511627776) (.ag (f.bc>=0) (.ai (.bool (f.bc<=400000))) y1) y1) y1) y1) y1) y1) y1)) y1)) y1)) y1)) y1)) y1)) y1)) y1)) y1;.ag (f.mode != 1) (.ag (f.mode != 2) (.ag (f.mode != 3) y1 y0) y0) y0)
  (by kernel_rfl) (by simp only[ak.holds,sM];(repeat' (first|apply aX|intro _));all_goals(refine jh ?_;rw[Fx,oE];(try simp only[sM]); first|omega|grind)) (by kernel_rfl)
theorem xP9(f:Fw):SCall pP 91 [f.sv] (.bool (wW f)):=
 aY aL [] trivial 1000 (let z0:ax:=.ah (.ln 3 (.ah (.ar (.ar (.ah (.ln 4 (.ah (.ar (.ar (.ah (.ln 4 (.ah (.ar (.ar (.ah (.ln 4 (.ah (.ar (.ar (.ah (.ln 17 pA) (.ln 17 pA)))) (.ln 16 pA))) (.ln 21 pA)))) (.ln 20 pA))) (.ln 25 pA)))) (.ln 24 pA))) (.ln 29 pA)))) (.ln 28 pA))) (.ln 32 pA);let z2:ax:=.ln 12 pA;let z1:ax:=.ah z2 z2;.ah (.ln 3 (.ah (.ln 3 (.ah (.ln 4 (.ah (.ln 3 (.ah (.ln 4 (.ah (.ar (.ar (.ah (.ln 4 (.ah (.ln 3 (.ah (.ar (.ar (.ah (.ln 4 (.ah (.ar (.ar (.ah (.ln 4 (.ah (.ar (.ar (.ah (.ln 4 (.ah (.ar (.ar (.ah (.ln 4 (.ah (.ar (.ah (.ar (.ar (.ah (.ln 4 (.ah (.ar (.ar (.ah (.ln 4 (.ah (.ar (.ar (.ah (.ln 3 pA) (.ln 3 pA)))) (.ar (.ar pA)))) (.ln 7 pA)))) (.ln 6 pA))) (.ln 11 pA)))) (.ln 10 pA))) z2)) (.ln 4 z1)))) (.ln 3 z1))) (.ln 8 z1)))) (.ln 7 z1))) (.ln 12 z1)))) (.ln 11 z1))) (.ln 16 z1)))) (.ln 15 z1))) (.ln 19 z1))) (.ln 4 z0)))) (.ln 3 z0))) (.ln 8 z0))) (.ln 8 z0))) (.ln 13 z0))) (.ln 13 z0))) (.ln 17 z0))
  (t:=let y1:ak SV:=.ai (.bool false);let y0:ak SV:=.ag (f.bH>=0) (.ag (f.bH<=1048576) (.ag (f.bt>=0) (.ag (f.bt<=1048576) (.ag (f.waits>=0) (.ag (f.waits<=3) (.ag (f.fo>=0) (.ag (f.fo<=255) (.ag (f.bc>=0) y1 y1) y1) y1) y1) y1) y1) y1) y1) y1;let y2:ak SV:=.ag (f.e<=16777216) y1 y1;.ag (f.loc.1>=-16777216) (.ag (f.loc.1<=16777216) (.ag (f.loc.2.1>=-16777216) (.ag (f.loc.2.1<=16777216) (.ag (f.loc.2.2>=-16777216) (.ag (f.loc.2.2<=16777216) (.ag (f.e>=-16777216) (.ag (f.bH>=0) (.ag (f.bH<=1048576) (.ag (f.bt>=0) (.ag (f.bt<=1048576) (.ag (f.waits>=0) (.ag (f.waits<=3) (.ag (f.fo>=0) (.ag (f.fo<=255) (.ag (f.bc>=0) (.ag (f.e<=16777216) (.ag (f.bc<=400000) (.ag (f.line>=0) (.ag (f.line<=1099511627776) (.ag (f.bL>=0) (.ag (f.bL<=1099511627776) (.ag (f.aU>=0) (.ai (.bool (f.aU<=1099511627776))) y1) y1) y1) y1) y1) y1) y1) y2) y2) y2) y2) y2) y2) y2) y2) y2) y0) y0) y0) y0) y0) y0) y0)
  (by kernel_rfl) (by simp only[ak.holds,sM];(repeat' (first|apply aX|intro _));all_goals(refine jh ?_;rw[oE];(try simp only[sM]); first|omega|grind)) (by kernel_rfl)
theorem xP5(c:V4):ak.holds (λv=>v=(.bool (u7 c))) (let y0:ak SV:=.ai (.bool false);rT (.ag (c.1>=-16777216) (.ag (!decide (c.1<=16777216)) y0 (rT (.ag (c.2.1>=-16777216) (.ag (!decide (c.2.1<=16777216)) y0 (rT (.ag (c.2.2.1>=-16777216) (.ag (!decide (c.2.2.1<=16777216)) y0 (rT (.ag (c.2.2.2>=-16777216) (.ag (!decide (c.2.2.2<=16777216)) y0 (.ai (.bool true))) y0))) y0))) y0))) y0):ak SV):=by simp only[ak.holds,sM];(repeat' (first|apply aX|intro _));all_goals(refine jh ?_;rw[fO];(try simp only[sM]); first|omega|grind)
def xP3(c:V4):SCall pP 184 [V4.sv c] (.bool (u7 c)):=
 aY aL [] trivial 1000 (.go (.ar (.ah (.ln 3 (.ah .all (.go (.ar (.ah (.ln 3 (.ah .all (.go (.ar (.ah (.ln 3 (.ah .all (.go (.ar (.ah (.ln 3 (.ah .all (.go pA))) (.ln 3 pA)))))) (.ln 3 pA)))))) (.ln 3 pA)))))) (.ln 3 pA))))
  (by kernel_rfl) (xP5 c) (by kernel_rfl)
def xP4(c:V4):SCall pP 92 [V4.sv c] (.bool (u7 c)):=
 aY aL [] trivial 1000 (.go (.ar (.ah (.ln 3 (.ah .all (.go (.ar (.ah (.ln 3 (.ah .all (.go (.ar (.ah (.ln 3 (.ah .all (.go (.ar (.ah (.ln 3 (.ah .all (.go pA))) (.ln 3 pA)))))) (.ln 3 pA)))))) (.ln 3 pA)))))) (.ln 3 pA))))
  (by kernel_rfl) (xP5 c) (by kernel_rfl)
def kL(c:V4):Bool:=G7 1152921504606846976 c
def wE{c:V4}:kL c=true↔(-1152921504606846976<=c.1/\c.1<=1152921504606846976)/\(-1152921504606846976<=c.2.1/\c.2.1<=1152921504606846976)/\(-1152921504606846976<=c.2.2.1/\c.2.2.1<=1152921504606846976)/\-1152921504606846976<=c.2.2.2/\c.2.2.2<=1152921504606846976:=DM
def Pm(m:Mo):G7 562949970198528 (fc m)=true:=by
 rw[DM]
 by_cases h:f6 m.1=true/\0<=m.2.1/\m.2.1<=aF m.1.1
 .rw[A6 h];have:=E3 m.1.1 m.2.1;omega
 .rw[JV h];decide
def Rq:aB:=fC 86 λf=>.ai (.bool (tP f))
def YM:Rq.ok pP:=fE (λf=>xR3 f)
def qf3:aB:=fC 87 λf=>.ai (.bool (A4 f))
def yE7:qf3.ok pP:=fE (λf=>xP8 f)
def qf4:aB:=fC 91 λf=>.ai (.bool (wW f))
def yE8:qf4.ok pP:=fE (λf=>xP9 f)
def rv:aB:=vA 184 λc=>.ai (.bool (u7 c))
def vB:aB:=vA 92 λc=>.ai (.bool (u7 c))
def PQ:rv.ok pP:=zB (xP3)
def FM:vB.ok pP:=zB (xP4)
def eQ(a b:V4):V4:=(i64.wrap (a.1+b.1),i64.wrap (a.2.1+b.2.1),i64.wrap (a.2.2.1+b.2.2.1),i64.wrap (a.2.2.2+b.2.2.2))
def bI(a b:V4):V4:=(i64.wrap (a.1-b.1),i64.wrap (a.2.1-b.2.1),i64.wrap (a.2.2.1-b.2.2.1),i64.wrap (a.2.2.2-b.2.2.2))
variable{a b:V4}
def vP(ha:kL a=true)(hb:kL b=true):eQ a b=f5 a b:=by
 rw[wE]at ha hb;unfold eQ f5;rw[aG (x:=a.1+b.1) (by omega) (by omega),aG (x:=a.2.1+b.2.1) (by omega) (by omega),aG (x:=a.2.2.1+b.2.2.1) (by omega) (by omega),aG (x:=a.2.2.2+b.2.2.2) (by omega) (by omega)]
def uj(ha:kL a=true)(hb:kL b=true):bI a b=iC a b:=by
 rw[wE]at ha hb;unfold bI iC;rw[aG (x:=a.1-b.1) (by omega) (by omega),aG (x:=a.2.1-b.2.1) (by omega) (by omega),aG (x:=a.2.2.1-b.2.2.1) (by omega) (by omega),aG (x:=a.2.2.2-b.2.2.2) (by omega) (by omega)]
def xS4(a b:V4):ak.holds (λv=>v=(V4.sv (eQ a b))) (rT (rT (rT (rT (rT (rT (rT (rT (rT (rT (rT (rT (.ai (.agg [.int .i64 (i64.wrap (a.1+b.1)),.int .i64 (i64.wrap (a.2.1+b.2.1)),.int .i64 (i64.wrap (a.2.2.1+b.2.2.1)),.int .i64 (i64.wrap (a.2.2.2+b.2.2.2))]))))))))))))):ak SV):=by simp only[ak.holds,sM];exact rfl
def xS2(a b:V4):SCall pP 137 [V4.sv a,V4.sv b] (V4.sv (eQ a b)):=
 aY aL [] trivial 1000 (.go (.ar (.go (.ar (.go (.ar (.go (.ar (.go pA)))))))))
  (by kernel_rfl) (xS4 a b) (by kernel_rfl)
def xS3(a b:V4):SCall pP 172 [V4.sv a,V4.sv b] (V4.sv (eQ a b)):=
 aY aL [] trivial 1000 (.go (.ar (.go (.ar (.go (.ar (.go (.ar (.go pA)))))))))
  (by kernel_rfl) (xS4 a b) (by kernel_rfl)
def zH:aB:=Df 137 λa b=>.ai (V4.sv (eQ a b))
def xK:aB:=Df 172 λa b=>.ai (V4.sv (eQ a b))
def YL:zH.ok pP:=KF (λa b=>xS2 a b)
def J9:xK.ok pP:=KF (λa b=>xS3 a b)
def xN7(a b:V4):ak.holds (λv=>v=(V4.sv (bI a b))) (rT (rT (rT (rT (rT (rT (rT (rT (rT (rT (rT (rT (.ai (.agg [.int .i64 (i64.wrap (a.1-b.1)),.int .i64 (i64.wrap (a.2.1-b.2.1)),.int .i64 (i64.wrap (a.2.2.1-b.2.2.1)),.int .i64 (i64.wrap (a.2.2.2-b.2.2.2))]))))))))))))):ak SV):=by simp only[ak.holds,sM];exact rfl
def xN5(a b:V4):SCall pP 209 [V4.sv a,V4.sv b] (V4.sv (bI a b)):=
 aY aL [] trivial 1000 (.go (.ar (.go (.ar (.go (.ar (.go (.ar (.go pA)))))))))
  (by kernel_rfl) (xN7 a b) (by kernel_rfl)
def xN6(a b:V4):SCall pP 111 [V4.sv a,V4.sv b] (V4.sv (bI a b)):=
 aY aL [] trivial 1000 (.go (.ar (.go (.ar (.go (.ar (.go (.ar (.go pA)))))))))
  (by kernel_rfl) (xN7 a b) (by kernel_rfl)
def xM:aB:=Df 209 λa b=>.ai (V4.sv (bI a b))
def xL:aB:=Df 111 λa b=>.ai (V4.sv (bI a b))
def PS:xM.ok pP:=KF (λa b=>xN5 a b)
def zo:xL.ok pP:=KF (λa b=>xN6 a b)
def Mc(m:Mo):Bool:=az m.1.1.1 0 0&& (az m.1.1.2.1 0 0&& (az m.1.1.2.2.1 0 0&& (az m.1.1.2.2.2 0 0&& (az m.1.2.1 0 0&& (az m.1.2.2.1 0 0&& (az m.1.2.2.2.1 0 0&& (az m.1.2.2.2.2 0 0&& (az m.2.1 0 0&&az m.2.2 0 0))))))))
def JW{m:Mo}:Mc m=true↔m.1.1.1=0/\m.1.1.2.1=0/\m.1.1.2.2.1=0/\m.1.1.2.2.2=0/\m.1.2.1=0/\m.1.2.2.1=0/\m.1.2.2.2.1=0/\m.1.2.2.2.2=0/\m.2.1=0/\m.2.2=0:=by
 have z:∀n:Int,az n 0 0=true↔n=0:=λn=>by rw[v5];omega
 simp only[Mc,aH,z]
def Bv(f:Fw):Bool:=Mc f.mo&&az f.bL 0 0
def MH:Bv f=true↔Mc f.mo=true/\f.bL=0:=by
 have z:∀n:Int,az n 0 0=true↔n=0:=λn=>by rw[v5];omega
 simp only[Bv,aH,z]
def dU(f:Fw):Bool:=match f.aT with
 |true=>mu f.mo f.ma.aU
 |false=>Bv f
def zf(h:f.aT=true):dU f=mu f.mo f.ma.aU:=by unfold dU;rw[h]
def zg(h:f.aT=false):dU f=Bv f:=by unfold dU;rw[h]
def eV(f:Fw):V4:=match f.aT with
 |true=>iC f.pos (fc f.mo)
 |false=>f.pos
def uT(h:f.aT=true):eV f=iC f.pos (fc f.mo):=by unfold eV;rw[h]
def yI(h:f.aT=false):eV f=f.pos:=by unfold eV;rw[h]
theorem xO7(f:Fw):SCall pP 88 [f.sv] (.bool (dU f)):=
 aY aL [sI,z70,Lm] ⟨A8,sx,PY,trivial⟩ 1000 (.ah (.ah (.ar (.ar pA)) (.ar (.ar pA))) (.ah (.ln 9 pA) (.ln 7 (.ah (.ln 5 (.ah .all (.ah (.ar (.ar pA)) (.ar (.ar pA))))) (.ln 5 pA)))))
  (t:=let y0:ak SV:=.ai (.bool false);.ag (!f.aT) (.ag (f.mo.1.1.1==0&& (f.mo.1.1.2.1==0&& (f.mo.1.1.2.2.1==0&& (f.mo.1.1.2.2.2==0&&true)))&& (f.mo.1.2.1==0&& (f.mo.1.2.2.1==0&& (f.mo.1.2.2.2.1==0&& (f.mo.1.2.2.2.2==0&&true))))&& (f.mo.2.1==0&& (f.mo.2.2==0&&true))) (.ai (.bool (f.bL==0))) y0) (.ag (!f6 f.mo.1) y0 (.ag (f.mo.2.1>=0) (.ag (!decide (f.mo.2.1<=i64.wrap (aF f.mo.1.1-1))) y0 (.ag (f.mo.2.2>=1) (.ai (.bool (f.mo.2.2<=fP f.mo.1 (i64.wrap (f.mo.2.1+1)) f.ma.aU))) y0)) y0)))
  (by kernel_rfl) (by
   have iv:=L5 f.mo.1 (f.mo.2.1+1) f.ma.aU;have dr:=nQ f.mo.1.1;have w1:=aG (x:=aF f.mo.1.1-1) (by omega) (by omega)
   have w2:0<=f.mo.2.1/\f.mo.2.1<=aF f.mo.1.1-1->i64.wrap (f.mo.2.1+1)=f.mo.2.1+1:=λh=>aG (by omega) (by omega)
   have rm:=lF (m:=f.mo) (t:=f.ma.aU);have st:=MH (f:=f);have m0:=JW (m:=f.mo)
   cases hm:f.aT
   .rw[zg hm]
    simp only[ak.holds,hm,sM];(repeat' (first|apply aX|intro _));
    all_goals(refine jh ?_;rw[st,m0];(try simp only[sM]);first|omega|grind)
   .rw[zf hm]
    simp only[ak.holds,hm,w1,sM];(repeat' (first|apply aX|intro _));
    all_goals(refine jh ?_;rw[rm];(try simp only[sM]);first|omega|grind)) (by kernel_rfl)
def xB1(f:Fw)(h:kL f.pos=true):SCall pP 136 [f.sv] (V4.sv (eV f)):=
 aY aL [xM,Lh] ⟨PS,PT,trivial⟩ 1000 (.ah (.all) (.all))
  (t:=let y0:=bI f.pos (fc f.mo);.ag (!f.aT) (.ai (.agg [.int .i64 f.pos.1,.int .i64 f.pos.2.1,.int .i64 f.pos.2.2.1,.int .i64 f.pos.2.2.2])) (.ai (.agg [.int .i64 y0.1,.int .i64 y0.2.1,.int .i64 y0.2.2.1,.int .i64 y0.2.2.2])))
  (by kernel_rfl) (by
   have mr:=DM.1 (Pm f.mo);have hb:kL (fc f.mo)=true:=wE.2 (by omega)
   cases hm:f.aT
   .rw[yI hm]
    simp only[ak.holds,hm,sM];first|rfl|(intros;rfl)
   .rw[uT hm]
    simp only[ak.holds,hm,sM]
    rw[uj h hb];rfl) (by kernel_rfl)
def qe5:aB:=fC 88 λf=>.ai (.bool (dU f))
def yD8:qe5.ok pP:=fE (λf=>xO7 f)
def z44:aB:=fC 136 λf=>.aj (kL f.pos) (.ai (V4.sv (eV f)))
def Xr:z44.ok pP:=fE (λf h=>xB1 f h)
def xf2:ax:=.ah (.ln 17 pA) (.ln 7 (.ah (.ln 9 pA) (.ln 4 (.ah (.ln 4 pA) (.ln 4 (.ah .all (.ah .all (.ah .all .all))))))))
def qp0(f:Fw):o8 (Env.of pP (j9 [rv,z44,zH,sI])) 1000 (x9 pP 89) .unit (x6 75 [1,3,46,47,48]) (v7 pP 89) xf2 (v6 pP 89 [f.sv]) [] =(let y0:ak Stop:=.ai (.done (.bool false));let y1:=eQ (eV f) f.mo.1.1; .ag ((↑f.queue.length:Int)>32) y0 (.ag ((↑f.lines.length:Int) !=(↑f.queue.length:Int)) y0 (.ag (!u7 f.pos) y0 (.ag (!u7 f.ret) y0 (.aj (kL f.pos) (.ag (!u7 (eV f)) y0 (.ag (!u7 y1) y0 (.ai (.at (x8 pP 89 0) 75 (x7 75 [(1,.ptr 0 0),(3,.ptr 1 0),(46,.list w9 f.queue),(47,.int .i64 (↑f.queue.length:Int)),(48,.int .i64 0)]) [some (.cells (Fw.cells f)),some (.cells [.int .i64 y1.1,.int .i64 y1.2.1,.int .i64 y1.2.2.1,.int .i64 y1.2.2.2])]))))))))):=by kernel_rfl
def Qz:ax:=.ah (.ah (.ln 11 pA) (.ln 5 (.ah (.ln 5 (.ah (.ln 3 pA) (.ln 3 (.ah .all .all)))) (.ln 9 pA)))) .all
def qp1(f:Fw)(p:V4)(n i:Int):o8 (Env.of pP (j9 [rv,z44,zH,sI])) 1000 (x9 pP 89) .unit (x6 75 [1,3,46,47,48]) (x8 pP 89 0) Qz (x7 75 [(1,.ptr 0 0),(3,.ptr 1 0),(46,LB f.queue),(47,J n),(48,J i)]) [some (.cells f.cells),some (.cells p.cells)] =(let y0:=eQ p (f.queue.getD i.toNat aM).1;let y1:ak Stop:=.ai (.done (.bool false)); .ag (i<n) (.aj (0<=i&&i< (↑f.queue.length:Int)) (.ag (!f6 (f.queue.getD i.toNat aM)) y1 (.aj (0<=i&&i< (↑f.lines.length:Int)) (.ag (f.lines.getD i.toNat 0>=0) (.ag (!decide (f.lines.getD i.toNat 0<=1099511627776)) y1 (.ag (!u7 y0) y1 (.ai (.at (x8 pP 89 0) 75 (x7 75 [(1,.ptr 0 0),(3,.ptr 1 0),(46,.list w9 f.queue),(47,.int .i64 n),(48,.int .i64 (i64.wrap (i+1)))]) [some (.cells (Fw.cells f)),some (.cells [.int .i64 y0.1,.int .i64 y0.2.1,.int .i64 y0.2.2.1,.int .i64 y0.2.2.2])])))) y1)))) (.ai (.done (.bool true)))):=by kernel_rfl
def RZ:ax:=.ah (.all) (.all)
def gp1(f:Fw)(p:V4)(n i:Int):o8 (Env.of pP (j9 [rv,z44,zH,sI])) 1000 (x9 pP 66) .unit (x6 29 [2,3,17,18,19]) (x8 pP 66 0) RZ (x7 29 [(2,.ptr 0 0),(3,.ptr 1 0),(17,LB f.queue),(18,J n),(19,J i)]) [some (.cells (V4.cells z4)),some (.cells p.cells)] =(let y0:=eQ p (f.queue.getD i.toNat aM).1; .ag (i<n) (.aj (0<=i&&i< (↑f.queue.length:Int)) (.ai (.at (x8 pP 66 0) 29 (x7 29 [(2,.ptr 0 0),(3,.ptr 1 0),(17,.list w9 f.queue),(18,.int .i64 n),(19,.int .i64 (i64.wrap (i+1)))]) [some (.cells [.int .i64 0,.int .i64 0,.int .i64 0,.int .i64 0]),some (.cells [.int .i64 y0.1,.int .i64 y0.2.1,.int .i64 y0.2.2.1,.int .i64 y0.2.2.2])]))) (.ai (.done (.agg [.int .i64 p.1,.int .i64 p.2.1,.int .i64 p.2.2.1,.int .i64 p.2.2.2])))):=by kernel_rfl
def qJ8:ax:=.ah (.all) (.all)
def gp0(f:Fw):o8 (Env.of pP (j9 [rv,z44,zH,sI])) 1000 (x9 pP 66) .unit (x6 29 [2,3,17,18,19]) (v7 pP 66) qJ8 (v6 pP 66 [f.sv]) [] =(let y0:=x7 29 [(2,.ptr 0 0),(3,.ptr 1 0),(17,.list w9 f.queue),(18,.int .i64 (↑f.queue.length:Int)),(19,.int .i64 0)];let y1:=eQ (eV f) f.mo.1.1;let y2:aR:=.cells [.int .i64 0,.int .i64 0,.int .i64 0,.int .i64 0]; .aj (kL f.pos) (.ag (f.aT) (.ai (.at (x8 pP 66 0) 29 y0 [some y2,some (.cells [.int .i64 y1.1,.int .i64 y1.2.1,.int .i64 y1.2.2.1,.int .i64 y1.2.2.2])])) (.ai (.at (x8 pP 66 0) 29 y0 [some y2,some (.cells [.int .i64 (eV f).1,.int .i64 (eV f).2.1,.int .i64 (eV f).2.2.1,.int .i64 (eV f).2.2.2])])))):=by kernel_rfl
def dJ(p:V4)(q:List Bk):Nat->V4
 |0=>p
 |i+1=>f5 (dJ p q i) (q.getD i aM).1
def nT(p:V4)(q:List Bk)(ls:List Int)(i:Nat):Bool:=f6 (q.getD i aM)&& (az (ls.getD i 0) 0 1099511627776&&u7 (dJ p q (i+1)))
def za{p:V4}{q:List Bk}{ls:List Int}{i:Nat}:nT p q ls i=true↔f6 (q.getD i aM)=true/\(0<=ls.getD i 0/\ls.getD i 0<=1099511627776)/\u7 (dJ p q (i+1))=true:=by simp only[nT,aH,v5]
def dx(f:Fw):V4:=f5 (eV f) f.mo.1.1
def fh(f:Fw):Bool:=f.queue.length<=32&& (f.lines.length=f.queue.length&& (u7 f.pos&& (u7 f.ret&& (u7 (eV f)&& (u7 (dx f)&& (List.range f.queue.length).all λi=>nT (dx f) f.queue f.lines i)))))
def pL{f:Fw}:fh f=true↔f.queue.length<=32/\f.lines.length=f.queue.length/\u7 f.pos=true/\u7 f.ret=true/\u7 (eV f)=true/\u7 (dx f)=true/\∀i,i<f.queue.length->nT (dx f) f.queue f.lines i=true:=by
 simp only[fh,aH,aV,nM,aij]
def iq{c:V4}(h:u7 c=true):kL c=true:=by rw[fO]at h;exact wE.2 (by omega)
def JL(h:dU f=true):u7 f.mo.1.1=true:=by
 cases hm:f.aT with
 |true=>
  rw[zf hm,lF]at h;have:=(nU.1 (sV.1 h.1).1.1).1;exact fO.2 this
 |false=>
  rw[zg hm,MH,JW]at h;rw[fO];omega
def EB:mR pP [rv,z44,zH,sI] :=⟨PQ,Xr,YL,A8,trivial⟩
section
variable {f:Fw}
noncomputable abbrev RQ(f:Fw)(v:Bool)(p:V4)(i:Nat):Prop:=t9 pP (x9 pP 89) (.bool v) (x8 pP 89 0) (x7 75 [(1,.ptr 0 0),(3,.ptr 1 0),(46,LB f.queue),(47,J f.queue.length),(48,J i)]) [some (.cells f.cells),some (.cells p.cells)]
theorem xf4(hl:f.lines.length=f.queue.length)(bD:f.queue.length<=32){p:V4}{v:Bool}(hv:v=true↔∀i,i<f.queue.length->nT p f.queue f.lines i=true):∀ (k i:Nat),i+k=f.queue.length->u7 (dJ p f.queue i)=true->(∀t,t<i->nT p f.queue f.lines t=true)->RQ f v (dJ p f.queue i) i
 |0,i,hi,hn,hp=>by
  unfold RQ;refine o6 (kW EB) (n:=1000) (hint:=.unit) (keep:=x6 75 [1,3,46,47,48]) (p:=Qz) rfl ?_;erw [qp1 f (dJ p f.queue i) f.queue.length i];refine⟨λc=>absurd (bG c) (by omega),λ_=>?_⟩;rw[hv.2 λt ht=>hp t (by omega)];exact rfl
 |k+1,i,hi,hn,hp=>by
  have bad:¬nT p f.queue f.lines i=true->v=false:=λc=>by
   cases v with
   |false=>rfl
   |true=>exact absurd (hv.1 rfl i (by omega)) c
  have nx:nT p f.queue f.lines i=true->RQ f v (dJ p f.queue (i+1)) (i+1):=λok=>xf4 hl bD hv k (i+1) (by omega) (za.1 ok).2.2 λt ht=>by
   rcases jv t i with c|c
   .exact hp t c
   .rw[show t=i by omega];exact ok
  have t0:(i:Int).toNat=i:=by omega
  have w1:i64.wrap ((i:Int)+1)=((i+1:Nat):Int):=by rw[aG (by omega) (by omega)];omega
  have b1:=iq hn
  have ps:f6 (f.queue.getD i aM)=true->eQ (dJ p f.queue i) (f.queue.getD i aM).1=dJ p f.queue (i+1):=λc=>vP b1 (iq (fO.2 (nU.1 (sV.1 c).1.1).1))
  have Us:decide ((i:Int)<f.queue.length)=true:=bn (by omega);unfold RQ at nx ⊢;refine o6 (kW EB) (n:=1000) (hint:=.unit) (keep:=x6 75 [1,3,46,47,48]) (p:=Qz) rfl ?_;erw [qp1 f (dJ p f.queue i) f.queue.length i];have bi:=@za p f.queue f.lines i;simp only[Us,t0,w1,ak.holds,aH,aV,ez,yF,iG,ir,dV,jI,mG,iJ,qW];refine⟨by omega,λc=>?_,λc=>⟨by omega,λd=>⟨λg=>?_,λg=>⟨λn=>?_,λn=>?_⟩⟩,λd=>?_⟩⟩;.rw[bad λo=>by rw[(bi.1 o).1]at c;cases c]
  .rw[bad λo=>by have:=(bi.1 o).2.1;omega]
  .rw[ps c]at n;rw[bad λo=>by rw[(bi.1 o).2.2]at n;cases n]
  .rw[ps c]at n ⊢;exact⟨o5 _ _,nx (bi.2 ⟨c,by omega,n⟩)⟩
  .rw[bad λo=>by have:=(bi.1 o).2.1;omega]
def xT7(f:Fw)(h:dU f=true):SCall pP 89 [f.sv] (.bool (fh f)):=by
 have qi:=@pL f;have nc:=JL h;refine s8 rfl rfl (by kernel_rfl) (o6 (kW EB) (n:=1000) (hint:=.unit) (keep:=x6 75 [1,3,46,47,48]) (p:=xf2) (boxes:=[]) rfl ?_);have q:=qp0 f;unfold v6 v7 at q;erw [q]
 have bad:∀{P:Prop},(fh f=true->P)->¬P->fh f=false:=λ{P} k n=>by
  cases hq:fh f with
  |false=>rfl
  |true=>exact absurd (k hq) n
 simp only[ak.holds,aH,aV,ez,px,ot,dz,iJ,qW];refine⟨λa=>?_,λa=>⟨λb=>?_,λb=>⟨λc=>?_,λc=>⟨λd=>?_,λd=>⟨iq c,λg=>?_,λg=>?_⟩⟩⟩⟩⟩;.rw[bad (λk=>(qi.1 k).1) (by omega)]
 .rw[bad (λk=>(qi.1 k).2.1) (by omega)]
 .rw[bad (λk=>(qi.1 k).2.2.1) (by rw[c];exact fS)]
 .rw[bad (λk=>(qi.1 k).2.2.2.1) (by rw[d];exact fS)]
 .rw[bad (λk=>(qi.1 k).2.2.2.2.1) (by rw[g];exact fS)]
 .have e:eQ (eV f) f.mo.1.1=dx f:=vP (iq g) (iq nc)
  rw[e];refine⟨λi=>?_,λi=>⟨o5 _ _,?_⟩⟩;.rw[bad (λk=>(qi.1 k).2.2.2.2.2.1) (by rw[i];exact fS)]
  .have:=xf4 (f:=f) (p:=dx f) (v:=fh f) (by omega) (by omega) ⟨λk=>(qi.1 k).2.2.2.2.2.2,λk=>qi.2 ⟨by omega,by omega,c,d,g,i,k⟩⟩ f.queue.length 0 (by omega) i (λt ht=>absurd ht (tu _))
   exact this
end
def ej(f:Fw):V4:=dJ (dx f) f.queue f.queue.length
def xb9(h:fh f=true):∀i,i<=f.queue.length->u7 (dJ (dx f) f.queue i)=true
 |0,_=>(pL.1 h).2.2.2.2.2.1
 |i+1,hi=>(za.1 ((pL.1 h).2.2.2.2.2.2 i (by omega))).2.2
def W4(h:fh f=true){i:Nat}(hi:i<f.queue.length):u7 (f.queue.getD i aM).1=true:=
 fO.2 (nU.1 (sV.1 (za.1 ((pL.1 h).2.2.2.2.2.2 i hi)).1).1.1).1
def Ku(h:dU f=true)(hm:f.aT=false):dx f=eV f:=by
 rw[zg hm,MH,JW]at h;unfold dx f5;rw[h.1.1,h.1.2.1,h.1.2.2.1,h.1.2.2.2.1];simp
section
variable {f:Fw}
theorem qK0(h:fh f=true):∀ (k i:Nat),i+k=f.queue.length->
  t9 pP (x9 pP 66) (V4.sv (ej f)) (x8 pP 66 0) (x7 29 [(2,.ptr 0 0),(3,.ptr 1 0),(17,LB f.queue),(18,J f.queue.length),(19,J i)]) [some (.cells (V4.cells z4)),some (.cells (V4.cells (dJ (dx f) f.queue i)))]
 |0,i,hi=>by
  refine o6 (kW EB) (n:=1000) (hint:=.unit) (keep:=x6 29 [2,3,17,18,19]) (p:=RZ) rfl ?_;erw [gp1 f (dJ (dx f) f.queue i) f.queue.length i];refine⟨λc=>absurd (bG c) (by omega),λ_=>?_⟩;unfold ej;rw[show f.queue.length=i by omega];exact rfl
 |k+1,i,hi=>by
  have nx:=qK0 h k (i+1) (by omega);have bD:=(pL.1 h).1
  have t0:(i:Int).toNat=i:=by omega
  have w1:i64.wrap ((i:Int)+1)=((i+1:Nat):Int):=by rw[aG (by omega) (by omega)];omega
  have ps:eQ (dJ (dx f) f.queue i) (f.queue.getD i aM).1=dJ (dx f) f.queue (i+1):=vP (iq (xb9 h i (by omega))) (iq (W4 h (by omega)));refine o6 (kW EB) (n:=1000) (hint:=.unit) (keep:=x6 29 [2,3,17,18,19]) (p:=RZ) rfl ?_;erw [gp1 f (dJ (dx f) f.queue i) f.queue.length i];refine⟨λ_=>?_,λc=>absurd (cO c) (by omega)⟩;simp only[t0,w1,ps,ak.holds,aH,aV];exact⟨by omega,o5 _ _,nx⟩
def xH6(f:Fw)(h:(dU f&&fh f)=true):SCall pP 66 [f.sv] (V4.sv (ej f)):=by
 rw[aH]at h;have q:=pL.1 h.2;refine s8 rfl rfl (by kernel_rfl) (o6 (kW EB) (n:=1000) (hint:=.unit) (keep:=x6 29 [2,3,17,18,19]) (p:=qJ8) (boxes:=[]) rfl ?_);have e:=gp0 f;unfold v6 v7 at e;erw [e];have nx:=qK0 h.2 f.queue.length 0 (by omega);refine⟨iq q.2.2.1,λc=>⟨o5 _ _,?_⟩,λc=>⟨o5 _ _,?_⟩⟩
 .have:eQ (eV f) f.mo.1.1=dx f:=vP (iq q.2.2.2.2.1) (iq (JL h.1))
  rw[this];exact nx
 .have:=Ku h.1 c
  rw[<-this];exact nx
end
def G5(m:Mo)(t:Int):Bool:=az t 1 1048576&& (f6 m.1&& (if m.2.1=aF m.1.1 then az m.2.2 0 0 else az m.2.1 0 (aF m.1.1-1)&&az m.2.2 1 (fP m.1 (m.2.1+1) t)))
def jC7{m:Mo}{t:Int}:G5 m t=true↔(1<=t/\t<=1048576)/\f6 m.1=true/\((m.2.1=aF m.1.1/\m.2.2=0)\/(¬m.2.1=aF m.1.1/\(0<=m.2.1/\m.2.1<=aF m.1.1-1)/\1<=m.2.2/\m.2.2<=fP m.1 (m.2.1+1) t)):=by
 simp only[G5,aH,v5]
 by_cases h:m.2.1=aF m.1.1
 .simp only[h,pc,v5]
  constructor;.intro ⟨a,b,c⟩;exact⟨a,b,.inl ⟨trivial,by omega⟩⟩
  .rintro ⟨a,b,⟨_,c⟩|⟨c,_⟩⟩
   .exact⟨a,b,by omega⟩
   .exact absurd trivial c
 .simp only[h,iD,aH,v5]
  constructor;.intro ⟨a,b,c⟩;exact⟨a,b,.inr ⟨not_false,c⟩⟩
  .rintro ⟨a,b,⟨c,_⟩|⟨_,c⟩⟩
   .exact absurd c (by trivial)
   .exact⟨a,b,c⟩
def sB(f:Fw):V4:=match f.aT with
 |true=>iC f.mo.1.1 (fc f.mo)
 |false=>z4
def Qj(h:f.aT=true):sB f=iC f.mo.1.1 (fc f.mo):=by unfold sB;rw[h]
def Qk(h:f.aT=false):sB f=z4:=by unfold sB;rw[h]
def zi(f:Fw):Bool:=dU f&&u7 (eV f)
def X0:zi f=true↔dU f=true/\u7 (eV f)=true:=by simp only[zi,aH]
def JU(m:Mo):kL (fc m)=true:=by
 have mr:=DM.1 (Pm m);exact wE.2 (by omega)
theorem x47(m:Mo)(t:Int):SCall pP 186 [Mo.sv m,J t] (.bool (G5 m t)):=
 aY aL [sH,rl,Ll] ⟨A7,sw,PX,trivial⟩ 1000 (.ah (.ln 7 pA) (.ar (.ar (.ah (.ln 4 pA) (.ln 4 (.ah .all (.ah .all (.ah (.ln 4 (.ah (.ln 3 (.ah (.ln 9 pA) (.ln 9 pA))) (.ln 13 pA))) (.ln 18 pA)))))))))
  (t:=let y0:ak SV:=.ai (.bool false);.ag (t<1) y0 (.ag (t>1048576) y0 (.ag (!f6 m.1) y0 (.ag (m.2.1==aF m.1.1) (.ai (.bool (m.2.2==0))) (.ag (m.2.1>=0) (.ag (m.2.1<aF m.1.1) (.ag (m.2.2>=1) (.ai (.bool (m.2.2<=fP m.1 (i64.wrap (m.2.1+1)) t))) y0) y0) y0)))))
  (by kernel_rfl) (by
   have iv:=L5 m.1 (m.2.1+1) t;have dr:=nQ m.1.1
   have w1:0<=m.2.1/\m.2.1<=aF m.1.1-1->i64.wrap (m.2.1+1)=m.2.1+1:=λh=>aG (by omega) (by omega)
   simp only[ak.holds,sM];(repeat' (first|apply aX|intro _));
   all_goals(refine jh ?_;rw[jC7];(try simp only[sM]);first|omega|grind)) (by kernel_rfl)
def qo7:aB:=Gj 186 λm t=>.ai (.bool (G5 m t))
def yO9:qo7.ok pP:=Q8 x47
def xV3(f:Fw)(h:dU f=true):SCall pP 187 [f.sv] (V4.sv (sB f)):=
 aY aL [xL,DH] ⟨zo,FN,trivial⟩ 1000 (.ah (.all) (.all))
  (t:=let y0:=bI f.mo.1.1 (fc f.mo);.ag (!f.aT) (.ai (.agg [.int .i64 0,.int .i64 0,.int .i64 0,.int .i64 0])) (.ai (.agg [.int .i64 y0.1,.int .i64 y0.2.1,.int .i64 y0.2.2.1,.int .i64 y0.2.2.2])))
  (by kernel_rfl) (by
   cases hm:f.aT
   .rw[Qk hm]
    simp only[ak.holds,hm,sM];first|rfl|(intros;rfl)
   .rw[Qj hm]
    simp only[ak.holds,hm,sM]
    rw[uj (iq (JL h)) (JU _)];rfl) (by kernel_rfl)
theorem xO0(f:Fw)(h:u7 f.pos=true):SCall pP 93 [f.sv] (.bool (zi f)):=
 aY aL [qo7,z75,DH,xL,vB] ⟨yO9,Xk,FN,zo,FM,trivial⟩ 1000 (.ah (.ah (.ar (.ar pA)) (.ar (.ar pA))) (.ah (.ln 4 (.ah (.ln 6 pA) (.ln 6 pA))) (.ln 11 pA)))
  (t:=.ag (!f.aT) (.ag (f.mo.1.1.1==0&& (f.mo.1.1.2.1==0&& (f.mo.1.1.2.2.1==0&& (f.mo.1.1.2.2.2==0&&true)))&& (f.mo.1.2.1==0&& (f.mo.1.2.2.1==0&& (f.mo.1.2.2.2.1==0&& (f.mo.1.2.2.2.2==0&&true))))&& (f.mo.2.1==0&& (f.mo.2.2==0&&true))) (.ai (.bool (f.bL==0))) (.ai (.bool false))) (.ag (G5 f.mo f.ma.aU) (.ag (!kO f.mo) (.ai (.bool (u7 (bI f.pos (fc f.mo))))) (.ai (.bool false))) (.ai (.bool false))))
  (by kernel_rfl) (by
   have ei:=IJ (m:=f.mo);have vi:=jC7 (m:=f.mo) (t:=f.ma.aU);have ip:=L4 (b:=f.mo.1) (i:=f.mo.2.1+1) (t:=f.ma.aU)
   cases hm:f.aT
   .have e:zi f=Bv f:=by unfold zi;rw[zg hm,yI hm,h,U2]
    rw[e];simp only[ak.holds,hm,sM];(repeat' (first|apply aX|intro _));
    all_goals(refine jh ?_;rw[MH,JW];(try simp only[sM]);first|omega|grind)
   .have e:zi f=true↔mu f.mo f.ma.aU=true/\u7 (iC f.pos (fc f.mo))=true:=by rw[X0,zf hm,uT hm]
    have hw:bI f.pos (fc f.mo)=iC f.pos (fc f.mo):=uj (iq h) (JU _);simp only[ak.holds,hm,hw,sM];(repeat' (first|apply aX|intro _));
    all_goals(refine jh ?_;rw[e,lF];(try simp only[sM]);first|omega|grind)) (by kernel_rfl)
def Dx:aB:=fC 187 λf=>.aj (dU f) (.ai (V4.sv (sB f)))
def yJ4:Dx.ok pP:=fE (λf h=>xV3 f h)
def xf5:ax:=.ah (.ln 7 pA) (.ln 7 (.ah .all (.ah .all .all)))
def qr0(f:Fw):o8 (Env.of pP (j9 [vB,Dx,xK,sH])) 1000 (x9 pP 94) .unit (x6 60 [1,3,4]) (v7 pP 94) xf5 (v6 pP 94 [f.sv]) [] =(let y0:=eQ f.pos (sB f); .ag ((↑f.queue.length:Int)>32) (.ai (.done (.bool false))) (.ag ((↑f.lines.length:Int) !=(↑f.queue.length:Int)) (.ai (.done (.bool false))) (.aj (dU f) (.ag (!u7 y0) (.ai (.done (.bool false))) (.ai (.at (x8 pP 94 0) 60 (x7 60 [(1,.ptr 0 0),(3,.ptr 1 0),(4,.int .i64 0)]) [some (.cells (Fw.cells f)),some (.cells [.int .i64 y0.1,.int .i64 y0.2.1,.int .i64 y0.2.2.1,.int .i64 y0.2.2.2])])))))):=by kernel_rfl
def Qy:ax:=.ah (.ah (.ln 7 pA) (.ln 5 (.ah (.ln 5 (.ah .all (.ah .all .all))) (.ln 5 pA)))) .all
def qr1(f:Fw)(p:V4)(i:Int):o8 (Env.of pP (j9 [vB,Dx,xK,sH])) 1000 (x9 pP 94) .unit (x6 60 [1,3,4]) (x8 pP 94 0) Qy (x7 60 [(1,.ptr 0 0),(3,.ptr 1 0),(4,J i)]) [some (.cells f.cells),some (.cells p.cells)] =(let y0:=eQ p (f.queue.getD i.toNat aM).1;let y1:ak Stop:=.ai (.done (.bool false));let y2:=i< (↑f.queue.length:Int); .ag (decide y2) (.aj (0<=i&&decide y2) (.ag (!f6 (f.queue.getD i.toNat aM)) y1 (.aj (0<=i&&i< (↑f.lines.length:Int)) (.ag (f.lines.getD i.toNat 0>=0) (.ag (!decide (f.lines.getD i.toNat 0<=1099511627776)) y1 (.aj (0<=i&&decide y2) (.ag (!u7 y0) y1 (.ai (.at (x8 pP 94 0) 60 (x7 60 [(1,.ptr 0 0),(3,.ptr 1 0),(4,.int .i64 (i64.wrap (i+1)))]) [some (.cells (Fw.cells f)),some (.cells [.int .i64 y0.1,.int .i64 y0.2.1,.int .i64 y0.2.2.1,.int .i64 y0.2.2.2])]))))) y1)))) (.ai (.done (.bool true)))):=by kernel_rfl
def qK3:ax:=.all
def qK2(f:Fw):o8 (Env.of pP (j9 [vB,Dx,xK,sH])) 1000 (x9 pP 96) .unit (x6 26 [1,2,3,4]) (v7 pP 96) qK3 (v6 pP 96 [f.sv]) [] =(let y0:=eQ f.pos (sB f); .aj (dU f) (.ai (.at (x8 pP 96 0) 26 (x7 26 [(1,.ptr 0 0),(2,.ptr 1 0),(3,.ptr 2 0),(4,.int .i64 0)]) [some (.cells (Fw.cells f)),some (.cells [.int .i64 0,.int .i64 0,.int .i64 0,.int .i64 0]),some (.cells [.int .i64 y0.1,.int .i64 y0.2.1,.int .i64 y0.2.2.1,.int .i64 y0.2.2.2])]))):=by kernel_rfl
def RY:ax:=.ah (.all) (.all)
def qK6(f:Fw)(p:V4)(i:Int):o8 (Env.of pP (j9 [vB,Dx,xK,sH])) 1000 (x9 pP 96) .unit (x6 26 [1,2,3,4]) (x8 pP 96 0) RY (x7 26 [(1,.ptr 0 0),(2,.ptr 1 0),(3,.ptr 2 0),(4,J i)]) [some (.cells f.cells),some (.cells (V4.cells z4)),some (.cells p.cells)] =(let y0:=eQ p (f.queue.getD i.toNat aM).1; .ag (i< (↑f.queue.length:Int)) (.aj (0<=i&&i< (↑f.queue.length:Int)) (.ai (.at (x8 pP 96 0) 26 (x7 26 [(1,.ptr 0 0),(2,.ptr 1 0),(3,.ptr 2 0),(4,.int .i64 (i64.wrap (i+1)))]) [some (.cells (Fw.cells f)),some (.cells [.int .i64 0,.int .i64 0,.int .i64 0,.int .i64 0]),some (.cells [.int .i64 y0.1,.int .i64 y0.2.1,.int .i64 y0.2.2.1,.int .i64 y0.2.2.2])]))) (.ai (.done (.agg [.int .i64 p.1,.int .i64 p.2.1,.int .i64 p.2.2.1,.int .i64 p.2.2.2])))):=by kernel_rfl
def jy6(h1:a.1=b.1)(h2:a.2.1=b.2.1)(h3:a.2.2.1=b.2.2.1)(h4:a.2.2.2=b.2.2.2):a=b:=Ia h1 (Ia h2 (Ia h3 h4))
def ZY(h:dU f=true):f5 f.pos (sB f)=dx f:=by
 cases hm:f.aT with
 |true=>
  rw[Qj hm];unfold dx;rw[uT hm];exact jy6 (by simp only[f5,iC];omega) (by simp only[f5,iC];omega) (by simp only[f5,iC];omega) (by simp only[f5,iC];omega)
 |false=>
  rw[Qk hm,Ku h hm,yI hm];exact jy6 (by simp only[f5,z4];omega) (by simp only[f5,z4];omega) (by simp only[f5,z4];omega) (by simp only[f5,z4];omega)
def ZZ(h:dU f=true):kL (sB f)=true:=by
 have c:=fO.1 (JL h);have m:=DM.1 (Pm f.mo)
 cases hm:f.aT with
 |true=>rw[Qj hm,wE];simp only[iC];omega
 |false=>rw[Qk hm];decide
def vr(f:Fw):Bool:=f.queue.length<=32&& (f.lines.length=f.queue.length&& (u7 (dx f)&& (List.range f.queue.length).all λi=>nT (dx f) f.queue f.lines i))
def xg9{f:Fw}:vr f=true↔f.queue.length<=32/\f.lines.length=f.queue.length/\u7 (dx f)=true/\∀i,i<f.queue.length->nT (dx f) f.queue f.lines i=true:=by
 simp only[vr,aH,aV,nM,aij]
def DW:mR pP [vB,Dx,xK,sH] :=⟨FM,yJ4,J9,A7,trivial⟩
section
variable {f:Fw}
noncomputable abbrev NA(f:Fw)(v:Bool)(p:V4)(i:Nat):Prop:=t9 pP (x9 pP 94) (.bool v) (x8 pP 94 0) (x7 60 [(1,.ptr 0 0),(3,.ptr 1 0),(4,J i)]) [some (.cells f.cells),some (.cells p.cells)]
theorem xf7(hl:f.lines.length=f.queue.length)(bD:f.queue.length<=32){p:V4}{v:Bool}(hv:v=true↔∀i,i<f.queue.length->nT p f.queue f.lines i=true):∀ (k i:Nat),i+k=f.queue.length->u7 (dJ p f.queue i)=true->(∀t,t<i->nT p f.queue f.lines t=true)->NA f v (dJ p f.queue i) i
 |0,i,hi,hn,hp=>by
  unfold NA;refine o6 (kW DW) (n:=1000) (hint:=.unit) (keep:=x6 60 [1,3,4]) (p:=Qy) rfl ?_;erw [qr1 f (dJ p f.queue i) i];refine⟨λc=>absurd (bG c) (by omega),λ_=>?_⟩;rw[hv.2 λt ht=>hp t (by omega)];exact rfl
 |k+1,i,hi,hn,hp=>by
  have bad:¬nT p f.queue f.lines i=true->v=false:=λc=>by
   cases v with
   |false=>rfl
   |true=>exact absurd (hv.1 rfl i (by omega)) c
  have nx:nT p f.queue f.lines i=true->NA f v (dJ p f.queue (i+1)) (i+1):=λok=>xf7 hl bD hv k (i+1) (by omega) (za.1 ok).2.2 λt ht=>by
   rcases jv t i with c|c
   .exact hp t c
   .rw[show t=i by omega];exact ok
  have t0:(i:Int).toNat=i:=by omega
  have w1:i64.wrap ((i:Int)+1)=((i+1:Nat):Int):=by rw[aG (by omega) (by omega)];omega
  have b1:=iq hn
  have ps:f6 (f.queue.getD i aM)=true->eQ (dJ p f.queue i) (f.queue.getD i aM).1=dJ p f.queue (i+1):=λc=>vP b1 (iq (fO.2 (nU.1 (sV.1 c).1.1).1))
  have Us:decide ((i:Int)<f.queue.length)=true:=bn (by omega);unfold NA at nx ⊢;refine o6 (kW DW) (n:=1000) (hint:=.unit) (keep:=x6 60 [1,3,4]) (p:=Qy) rfl ?_;erw [qr1 f (dJ p f.queue i) i];have bi:=@za p f.queue f.lines i;simp only[Us,t0,w1,ak.holds,aH,aV,ez,yF,iG,ir,dV,jI,mG,iJ,qW];refine⟨by omega,λc=>?_,λc=>⟨by omega,λd=>⟨λg=>?_,λg=>⟨by omega,λn=>?_,λn=>?_⟩⟩,λd=>?_⟩⟩;.rw[bad λo=>by rw[(bi.1 o).1]at c;cases c]
  .rw[bad λo=>by have:=(bi.1 o).2.1;omega]
  .rw[ps c]at n;rw[bad λo=>by rw[(bi.1 o).2.2]at n;cases n]
  .rw[ps c]at n ⊢;exact⟨o5 _ _,nx (bi.2 ⟨c,by omega,n⟩)⟩
  .rw[bad λo=>by have:=(bi.1 o).2.1;omega]
def xT6(f:Fw)(h:(dU f&&u7 f.pos)=true):SCall pP 94 [f.sv] (.bool (vr f)):=by
 rw[aH]at h;have qi:=@xg9 f;refine s8 rfl rfl (by kernel_rfl) (o6 (kW DW) (n:=1000) (hint:=.unit) (keep:=x6 60 [1,3,4]) (p:=xf5) (boxes:=[]) rfl ?_);have q:=qr0 f;unfold v6 v7 at q;erw [q]
 have bad:∀{P:Prop},(vr f=true->P)->¬P->vr f=false:=λ{P} k n=>by
  cases hq:vr f with
  |false=>rfl
  |true=>exact absurd (k hq) n
 have e:eQ f.pos (sB f)=dx f:=by rw[vP (iq h.2) (ZZ h.1),ZY h.1]
 rw[e];simp only[h.1,ak.holds,aH,aV,ez,px,ot,dz,iJ,qW,dV];refine⟨λa=>?_,λa=>⟨λb=>?_,λb=>⟨λi=>?_,λi=>⟨o5 _ _,?_⟩⟩⟩⟩;.rw[bad (λk=>(qi.1 k).1) (by omega)]
 .rw[bad (λk=>(qi.1 k).2.1) (by omega)]
 .rw[bad (λk=>(qi.1 k).2.2.1) (by rw[i];exact fS)]
 .exact xf7 (f:=f) (p:=dx f) (v:=vr f) (by omega) (by omega) ⟨λk=>(qi.1 k).2.2.2,λk=>qi.2 ⟨by omega,by omega,i,k⟩⟩ f.queue.length 0 (by omega) i (λt ht=>absurd ht (tu _))
theorem qL2(h:fh f=true):∀ (k i:Nat),i+k=f.queue.length->
  t9 pP (x9 pP 96) (V4.sv (ej f)) (x8 pP 96 0) (x7 26 [(1,.ptr 0 0),(2,.ptr 1 0),(3,.ptr 2 0),(4,J i)]) [some (.cells f.cells),some (.cells (V4.cells z4)),some (.cells (V4.cells (dJ (dx f) f.queue i)))]
 |0,i,hi=>by
  refine o6 (kW DW) (n:=1000) (hint:=.unit) (keep:=x6 26 [1,2,3,4]) (p:=RY) rfl ?_;erw [qK6 f (dJ (dx f) f.queue i) i];refine⟨λc=>absurd (bG c) (by omega),λ_=>?_⟩;unfold ej;rw[show f.queue.length=i by omega];exact rfl
 |k+1,i,hi=>by
  have nx:=qL2 h k (i+1) (by omega);have bD:=(pL.1 h).1
  have t0:(i:Int).toNat=i:=by omega
  have w1:i64.wrap ((i:Int)+1)=((i+1:Nat):Int):=by rw[aG (by omega) (by omega)];omega
  have ps:eQ (dJ (dx f) f.queue i) (f.queue.getD i aM).1=dJ (dx f) f.queue (i+1):=vP (iq (xb9 h i (by omega))) (iq (W4 h (by omega)));refine o6 (kW DW) (n:=1000) (hint:=.unit) (keep:=x6 26 [1,2,3,4]) (p:=RY) rfl ?_;erw [qK6 f (dJ (dx f) f.queue i) i];refine⟨λ_=>?_,λc=>absurd (cO c) (by omega)⟩;simp only[t0,w1,ps,ak.holds,aH,aV];exact⟨by omega,o5 _ _,nx⟩
def xH7(f:Fw)(h:(dU f&&fh f)=true):SCall pP 96 [f.sv] (V4.sv (ej f)):=by
 rw[aH]at h;have q:=pL.1 h.2;refine s8 rfl rfl (by kernel_rfl) (o6 (kW DW) (n:=1000) (hint:=.unit) (keep:=x6 26 [1,2,3,4]) (p:=qK3) (boxes:=[]) rfl ?_);have e:=qK2 f;unfold v6 v7 at e;erw [e];have nx:=qL2 h.2 f.queue.length 0 (by omega)
 have e2:eQ f.pos (sB f)=dx f:=by rw[vP (iq q.2.2.1) (ZZ h.1),ZY h.1]
 rw[e2];exact⟨h.1,o5 _ _,nx⟩
end
end Go.Proofs.YtnkaepnblikcdaaGreat
