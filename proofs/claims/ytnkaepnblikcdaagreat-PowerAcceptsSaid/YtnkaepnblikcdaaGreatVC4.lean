/-
  Evaluator, contracts, plain law.
-/
import Derived.Test.YtnkaepnblikcdaaGreatVC3
set_option maxRecDepth 100000
set_option linter.unusedVariables false
set_option linter.unusedSimpArgs false
open Go.IntKind (i64 u64 u8)
namespace Go.Proofs.YtnkaepnblikcdaaGreat
open Go.Sx
def q07:List Int->Nat
 |[] =>0
 |x::l=>x.toNat+q07 l
theorem q08:∀{s:List Int} {j:Nat} {v:Int},j<s.length->0<=v->v<s.getD j 0->q07 (s.set j v)+1<=q07 s
 |x::l,0,v,_,h0,h=>by
  have h:v<x:=h;simp only[List.set,q07];omega
 |x::l,j+1,v,hj,h0,h=>by
  have:=q08 (s:=l) (j:=j) (v:=v) (by simpa using hj) h0 (by simpa using h);simp only[List.set,q07];omega
section
variable {l:List Bk} {caps:List Int} {e:Int}
abbrev atL(s:List Int)(i:Nat):Int:=s.getD i 0
structure IsGr (l:List Bk) (caps:List Int) (e:Int) (s:List Int):Prop where
 len:s.length=l.length+1
 sol:Sol (uL l caps) (reL l) e l.length (atL s)
 top:∀x,Sol (uL l caps) (reL l) e l.length x->∀i,i<=l.length->x i<=atL s i
variable{s:List Int}
theorem IsGr.unique{s':List Int}(h:IsGr l caps e s)(k:IsGr l caps e s'):s=s':=by
 rw[qS7 (n:=l.length+1) (g:=atL s') h.len λj hj=>?_,<-qS7 (n:=l.length+1) (g:=atL s') k.len λj hj=>rfl];have h1:=h.top _ k.sol j (by omega);have h2:=k.top _ h.sol j (by omega);show atL s j=atL s' j;omega
open Classical in
noncomputable def rgL(l:List Bk)(caps:List Int)(e:Int):List Int:=if h:∃s,IsGr l caps e s then h.choose else []
theorem y53(h:IsGr l caps e s):rgL l caps e=s:=by
 have hx:∃s,IsGr l caps e s:=⟨s,h⟩;unfold rgL;rw[dif_pos hx];exact IsGr.unique hx.choose_spec h
structure Dn (l:List Bk) (caps:List Int) (e:Int) (s:List Int):Prop where
 len:s.length=l.length+1
 first:atL s 0=e
 last:atL s l.length=0
 cap:∀i,0<i->i<l.length->atL s i<=uL l caps i
 top:∀x,Sol (uL l caps) (reL l) e l.length x->∀i,i<=l.length->x i<=atL s i
theorem Dn.rng(h:PlOk l caps e)(d:Dn l caps e s){i:Nat}(hi:i<=l.length):0<=atL s i/\atL s i<=1099511627776:=by
 have z:=d.top _ (xG0 h.lim) i hi;have he:=h.ent;rcases Nat.eq_zero_or_pos i with rfl|hp
 .rw[d.first];exact he
 .rw[if_neg (by omega)]at z
  rcases Nat.lt_or_ge i l.length with k|k
  .have:=d.cap i hp k
   have:=xU9 h i;omega
  .rw[show i=l.length by omega,d.last];omega
def qY5(l:List Bk)(s:List Int)(j:Nat):Int:=min (atL s (j-1)+reL l (j-1)) (atL s (j+1)+reL l j)
theorem Dn.isGr(d:Dn l caps e s)(h:∀j,0<j->j<l.length->atL s j<=qY5 l s j):IsGr l caps e s:=by
 refine⟨d.len,⟨d.first,d.last,d.cap,λi hi=>?_,λi h0 hi=>?_⟩,d.top⟩
 .have:=h (i+1) (by omega) hi
  unfold qY5 at this;rw[Nat.add_sub_cancel]at this;omega
 .have:=h i h0 hi
  unfold qY5 at this;omega
theorem Dn.lower(h:PlOk l caps e)(d:Dn l caps e s){j:Nat}(h0:0<j)(hj:j<l.length)(hm:qY5 l s j<atL s j):Dn l caps e (s.set j (qY5 l s j)):=by
 have hl:=d.len
 have g:∀i,atL (s.set j (qY5 l s j)) i=if j=i then qY5 l s j else atL s i:=λi=>xE3 (by omega)
 refine⟨by simpa using hl,?_,?_,λi hi hn=>?_,λx hx i hi=>?_⟩
 .rw[g,if_neg (by omega)];exact d.first
 .rw[g,if_neg (by omega)];exact d.last
 .rw[g]
  have:=d.cap i hi hn
  split
  .rename_i hji;subst hji;omega
  .exact this
 .rw[g]
  split
  .rename_i hji
   subst hji;have h1:=d.top x hx (j-1) (by omega);have h2:=d.top x hx (j+1) (by omega);have h3:=hx.up (j-1) (by omega);have h4:=hx.down j h0 hj;rw[show j-1+1=j by omega]at h3;unfold qY5;omega
  .exact d.top x hx i hi
noncomputable def slG(l:List Bk)(caps:List Int)(e:Int)(i:Int)(b:Bool)(v:SV):List SV:=x7 85 [(0,LB l),(1,LI caps),(2,J e),(7,J l.length),(8,.row 0),(9,J i),(10,.bool b),(11,v)]
noncomputable abbrev RG(l:List Bk)(caps:List Int)(e:Int)(k:Nat)(i:Int)(b:Bool)(v:SV)(s:List Int):Prop:=t8 pP (x9 pP 264) (LI (rgL l caps e)) (x8 pP 264 k) (slG l caps e i b v) [some (.rows (.int .i64) s)]
theorem fsG:zm7 pP [z97] :=⟨yn3,trivial⟩
theorem y46(i j:Int)(h:IsGr l caps e s):RG l caps e 1 i false (J j) s:=by
 unfold RG slG;refine o5 (kW fsG) (n:=1000) (hint:=.unit) (keep:=x6 85 [0,1,2,7,8,9,10,11]) (p:=y48) rfl ?_;erw [rg2 l caps e l.length s i j false];refine⟨λc=>(by cases c),λ_=>?_⟩;show LI s=_;rw[y53 h]
theorem y44(i j:Int)(h:RG l caps e 2 i false (J 1) s):RG l caps e 1 i true (J j) s:=by
 unfold RG slG at h ⊢;refine o5 (kW fsG) (n:=1000) (hint:=.unit) (keep:=x6 85 [0,1,2,7,8,9,10,11]) (p:=y48) rfl ?_;erw [rg2 l caps e l.length s i j true];exact⟨λ_=>⟨u7 _ _,h⟩,λc=>(by cases c)⟩
theorem y45(i:Int)(h:RG l caps e 2 i false (J 1) s):RG l caps e 1 i true .undef s:=by
 unfold RG slG at h ⊢;refine o5 (kW fsG) (n:=1000) (hint:=.unit) (keep:=x6 85 [0,1,2,7,8,9,10,11]) (p:=y50) rfl ?_;erw [y49 l caps e l.length s i true];exact⟨λ_=>⟨u7 _ _,h⟩,λc=>(by cases c)⟩
theorem y51(h:PlOk l caps e)(hlen:l.length<=1000000)(i:Int)(m:Nat)(ih:∀ (s:List Int) (j:Int),Dn l caps e s->q07 s+1<=m->RG l caps e 1 i true (J j) s):
  ∀ (k j:Nat) (s:List Int) (b:Bool),j+k=l.length->1<=j->Dn l caps e s->(b=false->q07 s<=m/\∀t,0<t->t<j->atL s t<=qY5 l s t)->(b=true->q07 s+1<=m)->RG l caps e 2 i b (J j) s
 |0,j,s,b,hj,h1,d,hf,ht=>by
  have key:RG l caps e 1 i b (J j) s:=by
   cases b with
   |true=>exact ih s j d (ht rfl)
   |false=>exact y46 i j (d.isGr λt h0 h2=>(hf rfl).2 t h0 (by omega))
  unfold RG slG at key ⊢;refine o5 (kW fsG) (n:=1000) (hint:=.unit) (keep:=x6 85 [0,1,2,7,8,9,10,11]) (p:=y52) rfl ?_;erw [rg3 l caps e l.length s i j b];exact⟨λc=>absurd (of_decide_eq_true c) (by omega),λ_=>⟨u7 _ _,key⟩⟩
 |k+1,j,s,b,hj,h1,d,hf,ht=>by
  have hl:=d.len
  have w1:i64.wrap ((j:Int)-1)=((j-1:Nat):Int):=by rw[w64 (by omega) (by omega)];omega
  have w2:i64.wrap ((j:Int)+1)=((j+1:Nat):Int):=by rw[w64 (by omega) (by omega)];omega
  have t0:(j:Int).toNat=j:=by omega
  have t1:((j-1:Nat):Int).toNat=j-1:=by omega
  have t2:((j+1:Nat):Int).toNat=j+1:=by omega
  have sb1:f4 (l.getD (j-1) dBk)=true:=qu6 (p:=λb=>f4 b=true) h.snd (by omega);have sb2:f4 (l.getD j dBk)=true:=qu6 (p:=λb=>f4 b=true) h.snd (by omega);have r1:=d.rng h (i:=j-1) (by omega);have r2:=d.rng h (i:=j+1) (by omega);have r0:=d.rng h (i:=j) (by omega);have q1:=h.reR (j-1);have q2:=h.reR j
  have w3:i64.wrap (s.getD (j+1) 0+rea (l.getD j dBk))=atL s (j+1)+reL l j:=by
   show i64.wrap (atL s (j+1)+reL l j)=_;exact w64 (by omega) (by omega)
  have w4:i64.wrap (s.getD (j-1) 0+rea (l.getD (j-1) dBk))=atL s (j-1)+reL l (j-1):=by
   show i64.wrap (atL s (j-1)+reL l (j-1))=_;exact w64 (by omega) (by omega)
  have hm:(if atL s (j+1)+reL l j<atL s (j-1)+reL l (j-1)then atL s (j+1)+reL l j else atL s (j-1)+reL l (j-1))=qY5 l s j:=by unfold qY5;split<;>omega
  have hm0:0<=qY5 l s j:=by unfold qY5;omega
  have hj2:(j:Int)<l.length:=by omega
  have yes:qY5 l s j<atL s j->RG l caps e 2 i true (J ((j+1:Nat):Int)) (s.set j (qY5 l s j)):=λhc=>by
   have d':=d.lower h (by omega) (by omega) hc;have ms:=q08 (s:=s) (j:=j) (v:=qY5 l s j) (by omega) hm0 hc
   refine y51 h hlen i m ih k (j+1) _ true (by omega) (by omega) d' (λc=>by cases c) λ_=>?_
   cases b with
   |true=>have:=ht rfl;omega
   |false=>have:=(hf rfl).1;omega
  have no:¬qY5 l s j<atL s j->RG l caps e 2 i b (J ((j+1:Nat):Int)) s:=λhc=>by
   refine y51 h hlen i m ih k (j+1) s b (by omega) (by omega) d (λc=>⟨(hf c).1,λt h0 h2=>?_⟩) ht;rcases Nat.lt_or_ge t j with k1|k1
   .exact(hf c).2 t h0 k1
   .rw[show t=j by omega];omega
  unfold RG slG at yes no ⊢;refine o5 (kW fsG) (n:=1000) (hint:=.unit) (keep:=x6 85 [0,1,2,7,8,9,10,11]) (p:=y52) rfl ?_;erw [rg3 l caps e l.length s i j b];refine⟨λ_=>?_,λc=>absurd (of_decide_eq_false c) (by omega)⟩;simp only[w1,w2,t0,t1,t2,sb1,sb2,w3,w4,hm,Tree.holds,Bool.and_eq_true,decide_eq_true_eq,decide_eq_false_iff_not];refine⟨by omega,by omega,by omega,trivial,by omega,by omega,by omega,trivial,by omega,by omega,λc=>⟨by omega,by omega,u7 _ _,yes c⟩,λc=>⟨u7 _ _,no c⟩⟩
theorem y47(h:PlOk l caps e)(hlen:l.length<=1000000)(i:Int):∀ (m:Nat) (s:List Int) (j:Int),Dn l caps e s->q07 s<=m->RG l caps e 1 i true (J j) s
 |0,s,j,d,hm=>y44 i j (y51 h hlen i 0 (λ_ _ _ k=>by omega) (l.length-1) 1 s false (by have:=h.ne;omega) (Nat.le_refl _) d (λ_=>⟨hm,λt h0 h1=>by omega⟩) λc=>by cases c)
 |m+1,s,j,d,hm=>y44 i j (y51 h hlen i (m+1) (λs' j' d' k=>y47 h hlen i m s' j' d' (by omega)) (l.length-1) 1 s false (by have:=h.ne;omega) (Nat.le_refl _) d (λ_=>⟨hm,λt h0 h1=>by omega⟩) λc=>by cases c)
end
section
variable {l:List Bk} {caps:List Int} {e:Int}
def iv(l:List Bk)(caps:List Int)(e:Int)(t:Nat):Int:=if t=0 then e else uL l caps t
def ivL(l:List Bk)(caps:List Int)(e:Int)(i:Nat):List Int:=(List.range i).map (iv l caps e)
theorem qL5(i:Nat):ivL l caps e (i+1)=ivL l caps e i++[iv l caps e i] :=by unfold ivL;rw[List.range_succ,List.map_append];rfl
theorem qL3(i:Nat):(ivL l caps e i).length=i:=by simp[ivL]
theorem qL1{i t:Nat}(h:t<i):(ivL l caps e i).getD t 0=iv l caps e t:=by
 unfold ivL;rw[List.getD_eq_getElem?_getD,List.getElem?_map,List.getElem?_range h];rfl
theorem qL4:ivL l caps e 1=[e] :=rfl
theorem qL2(h:PlOk l caps e):ivL l caps e l.length++[0] =ivL l caps e (l.length+1):=by
 have hn:=h.ne;rw[qL5];unfold iv;rw[if_neg (by omega),xV0]
theorem qL6(h:PlOk l caps e):Dn l caps e (ivL l caps e (l.length+1)):=by
 have hn:=h.ne
 have g:∀t,t<=l.length->atL (ivL l caps e (l.length+1)) t=iv l caps e t:=λt ht=>qL1 (by omega)
 refine⟨qL3 _,?_,?_,λi h0 hi=>?_,λx hx i hi=>?_⟩
 .rw[g 0 (by omega)];rfl
 .rw[g _ (Nat.le_refl _)];unfold iv;rw[if_neg (by omega),xV0]
 .rw[g i (by omega)];unfold iv;rw[if_neg (by omega)];omega
 .rw[g i hi]
  unfold iv
  split
  .rename_i h0;subst h0;rw[hx.first];omega
  .rename_i h0
   rcases Nat.lt_or_ge i l.length with k|k
   .exact hx.cap i (by omega) k
   .rw[show i=l.length by omega,hx.last,xV0];omega
theorem y39(h:PlOk l caps e)(hlen:l.length<=1000000)(i:Int):RG l caps e 1 i true .undef (ivL l caps e (l.length+1)):=by
 refine y45 i ?_
 refine y51 h hlen i (q07 (ivL l caps e (l.length+1))) (λs j d k=>y47 h hlen i _ s j d (Nat.le_refl _)) (l.length-1) 1 _ false (by have:=h.ne;omega) (Nat.le_refl _) (qL6 h) (λ_=>⟨Nat.le_refl _,λt h0 h1=>by omega⟩) λc=>by cases c
theorem qX5(a b c:Int):(if b< (if a<c then a else c)then b else if a<c then a else c)=min c (min a b):=by(repeat' split)<;>omega
theorem y40(h:PlOk l caps e)(hlen:l.length<=1000000):∀ (k i:Nat),i+k=l.length->1<=i->
  t8 pP (x9 pP 264) (LI (rgL l caps e)) (x8 pP 264 0) (x7 85 [(0,LB l),(1,LI caps),(2,J e),(7,J l.length),(8,.row 0),(9,J i),(10,.undef),(11,.undef)]) [some (.rows (.int .i64) (ivL l caps e i))]
 |0,i,hi,h1=>by
  have hin:i=l.length:=by omega
  subst hin;have ex:=y39 h hlen (l.length:Int);unfold RG slG at ex;refine o5 (kW fsG) (n:=1000) (hint:=.unit) (keep:=x6 85 [0,1,2,7,8,9,10,11]) (p:=y41) rfl ?_;erw [rg1 l caps e l.length (ivL l caps e l.length) l.length];refine⟨λc=>absurd (of_decide_eq_true c) (by omega),λ_=>?_⟩;rw[<-qL2 h]at ex;exact⟨decide_eq_true (by rw[qL3];omega),u7 _ _,ex⟩
 |k+1,i,hi,h1=>by
  have hl:=h.len
  have e1:i64.wrap ((i:Int)-1)=((i-1:Nat):Int):=by rw[w64 (by omega) (by omega)];omega
  have w2:i64.wrap ((i:Int)+1)=((i+1:Nat):Int):=by rw[w64 (by omega) (by omega)];omega
  have t0:(i:Int).toNat=i:=by omega
  have t1:((i-1:Nat):Int).toNat=i-1:=by omega
  have hx:min (caps.getD i 0) (min (l.getD (i-1) dBk).2.2.2.1 (l.getD i dBk).2.2.2.1)=iv l caps e i:=by
   unfold iv;rw[if_neg (by omega),xU8 (by omega) (by omega)];rfl
  have nx:=y40 h hlen k (i+1) (by omega) (by omega);refine o5 (kW fsG) (n:=1000) (hint:=.unit) (keep:=x6 85 [0,1,2,7,8,9,10,11]) (p:=y41) rfl ?_;erw [rg1 l caps e l.length (ivL l caps e i) i];refine⟨λ_=>?_,λc=>absurd (of_decide_eq_false c) (by omega)⟩;simp only[e1,w2,t0,t1,qX5,hx,<-qL5,qL3,Tree.holds,Bool.and_eq_true,decide_eq_true_eq,List.length_cons,List.length_nil];exact⟨by omega,by omega,by omega,by omega,u7 _ _,nx⟩
theorem xf9(h:PlOk l caps e)(hlen:l.length<=1000000):SCall pP 264 [LB l,LI caps,J e] (LI (rgL l caps e)):=by
 have hn:=h.ne;have hl:=h.len;refine s7 rfl rfl (by kernel_rfl) (o5 (kW fsG) (n:=1000) (hint:=.unit) (keep:=x6 85 [0,1,2,7,8,9,10,11]) (p:=y38) (boxes:=[]) rfl ?_);have q:=rg0 l caps e;unfold v6 v7 at q;erw [q];refine⟨u7 _ _,?_⟩;refine o5 (kW fsG) (n:=1000) (hint:=.unit) (keep:=x6 85 [0,1,2,7,8,9,10,11]) (p:=y43) rfl ?_;erw [y42 l caps e l.length 1]
 by_cases h2:l.length=1
 .have ex:=y39 h hlen 1
  rw[<-qL2 h,h2,qL4]at ex;unfold RG slG at ex;refine⟨λc=>absurd (of_decide_eq_true c) (by omega),λ_=>?_⟩;rw[h2]at ex ⊢;exact⟨rfl,u7 _ _,ex⟩
 .have e1:i64.wrap ((1:Int)-1)=((0:Nat):Int):=by decide
  have w2:i64.wrap ((1:Int)+1)=((2:Nat):Int):=by decide
  have t0:(1:Int).toNat=1:=rfl;have t1:((0:Nat):Int).toNat=0:=rfl
  have hx:min (caps.getD 1 0) (min (l.getD 0 dBk).2.2.2.1 (l.getD 1 dBk).2.2.2.1)=iv l caps e 1:=by
   unfold iv;rw[if_neg (by omega),xU8 (by omega) (by omega)];rfl
  have nx:=y40 h hlen (l.length-2) 2 (by omega) (by omega)
  have e2:[e] ++[iv l caps e 1] =ivL l caps e 2:=by rw[qL5,qL4]
  refine⟨λ_=>?_,λc=>absurd (of_decide_eq_false c) (by omega)⟩;simp only[e1,w2,t0,t1,qX5,hx,e2,Tree.holds,Bool.and_eq_true,decide_eq_true_eq,List.length_cons,List.length_nil];exact⟨by omega,by omega,by omega,by omega,u7 _ _,nx⟩
theorem y54(h:PlOk l caps e):∃s,IsGr l caps e s:=by
 -- by descent
 have go:∀ (m:Nat) (s:List Int),q07 s<=m->Dn l caps e s->∃s,IsGr l caps e s:=by
  intro m
  induction m with
  |zero=>
   intro s hm d;refine⟨s,d.isGr λj h0 hj=>?_⟩
   by_cases hc:qY5 l s j<atL s j
   .have r1:=d.rng h (i:=j-1) (by omega)
    have r2:=d.rng h (i:=j+1) (by omega);have q1:=h.reR (j-1);have q2:=h.reR j;have ms:=q08 (s:=s) (j:=j) (v:=qY5 l s j) (by have:=d.len;omega) (by unfold qY5;omega) hc;omega
   .omega
  |succ m ih=>
   intro s hm d
   by_cases hx:∀j,0<j->j<l.length->atL s j<=qY5 l s j
   .exact⟨s,d.isGr hx⟩
   .obtain⟨j,hj⟩:=Classical.not_forall.1 hx
    have h0:0<j:=Classical.byContradiction λc=>hj λa=>absurd a c
    have h1:j<l.length:=Classical.byContradiction λc=>hj λ_ a=>absurd a c
    have hc:qY5 l s j<atL s j:=by
     have:¬atL s j<=qY5 l s j:=λc=>hj λ_ _=>c
     omega
    have r1:=d.rng h (i:=j-1) (by omega);have r2:=d.rng h (i:=j+1) (by omega);have q1:=h.reR (j-1);have q2:=h.reR j;have ms:=q08 (s:=s) (j:=j) (v:=qY5 l s j) (by have:=d.len;omega) (by unfold qY5;omega) hc;exact ih _ (by omega) (d.lower h h0 h1 hc)
 exact go _ _ (Nat.le_refl _) (qL6 h)
theorem y55(h:PlOk l caps e):IsGr l caps e (rgL l caps e):=by
 obtain⟨s,hs⟩:=y54 h;rw[y53 hs];exact hs
noncomputable def z14:Fact:=qk8 264 λl caps e=>.req (yv8 l caps e) (.leaf (LI (rgL l caps e)))
theorem ye7:z14.ok pP:=qk9 λl caps e h=>xf9 (yv9.1 h).2 (yv9.1 h).1
end
section
variable {l:List Bk} {caps:List Int} {e:Int} {s:List Int}
def xJ4(l:List Bk)(caps:List Int)(s:List Int)(i:Nat):Prop:=0<=atL s i/\(i<l.length->atL s i<=crL l i)/\(0<i->atL s i<=crL l (i-1))/\(0<i->i<l.length->atL s i<=zA7 caps i)/\(i<l.length->atL s (i+1)-atL s i<=reL l i/\atL s i-atL s (i+1)<=reL l i)
def zc9(l:List Bk)(caps:List Int)(e:Int)(s:List Int):Prop:=zc8 (crL l) (zA7 caps) (reL l) e l.length (atL s)
theorem yL4:zc9 l caps e s↔atL s 0=e/\atL s l.length=0/\∀i,i<=l.length->xJ4 l caps s i:=Iff.rfl
noncomputable def chB(l:List Bk)(caps:List Int)(e:Int)(s:List Int):Bool:=@decide (zc9 l caps e s) (Classical.propDecidable _)
theorem zC2(h:zc9 l caps e s):chB l caps e s=true:=by unfold chB;exact @decide_eq_true _ (Classical.propDecidable _) h
theorem zC1(h:¬zc9 l caps e s):chB l caps e s=false:=by unfold chB;exact @decide_eq_false _ (Classical.propDecidable _) h
structure SOk (l:List Bk) (s:List Int):Prop where
 len:s.length=l.length+1
 rng:∀c∈s,0<=c/\c<=1099511627776
theorem SOk.get(h:SOk l s)(i:Nat):0<=atL s i/\atL s i<=1099511627776:=qu5 (p:=λc:Int=>0<=c/\c<=1099511627776) h.rng (by decide) i
theorem xM8{x r:Int}:sz x<=r↔x<=r/\-x<=r:=by unfold sz;split<;>omega
theorem fsC:zm7 pP [z97,fSz 295] :=⟨yn3,yq6,trivial⟩
noncomputable abbrev RCh(l:List Bk)(caps:List Int)(e:Int)(s:List Int)(i:Nat):Prop:=t8 pP (x9 pP 265) (.bool (chB l caps e s)) (x8 pP 265 0) (x7 111 [(0,LB l),(1,LI caps),(2,J e),(3,LI s),(9,J l.length),(10,J i)]) []
theorem yT8(h:PlOk l caps e)(hlen:l.length<=1000000)(hs:SOk l s)(i:Nat)(hin:i<l.length)(hz:i=0)(nx:xJ4 l caps s i->RCh l caps e s (i+1))(bad:¬xJ4 l caps s i->chB l caps e s=false):RCh l caps e s i:=by
 have hl:=h.len;have hsl:=hs.len;have r0:=hs.get i;have r2:=hs.get (i+1);have q1:=h.reR i
 have w2:i64.wrap ((i:Int)+1)=((i+1:Nat):Int):=by rw[w64 (by omega) (by omega)];omega
 have t0:(i:Int).toNat=i:=by omega
 have t1:((i-1:Nat):Int).toNat=i-1:=by omega
 have t2:((i+1:Nat):Int).toNat=i+1:=by omega
 have w3:i64.wrap (s.getD (i+1) 0-s.getD i 0)=atL s (i+1)-atL s i:=w64 (by unfold atL at r0 r2;omega) (by unfold atL at r0 r2;omega);have iR:inR (atL s (i+1)-atL s i) (-4611686018427387904) 4611686018427387904=true:=j8.2 (by omega);have c1:(l.getD i dBk).2.2.2.1=crL l i:=rfl;have c2:(l.getD (i-1) dBk).2.2.2.1=crL l (i-1):=rfl;have c3:caps.getD i 0=zA7 caps i:=rfl;have c4:rea (l.getD i dBk)=reL l i:=rfl;have c5:s.getD i 0=atL s i:=rfl;have dle:decide ((i:Int)<=l.length)=true:=decide_eq_true (by omega);unfold RCh at nx ⊢;refine o5 (kW fsC) (n:=1000) (hint:=.unit) (keep:=x6 111 [0,1,2,3,9,10]) (p:=yT0) rfl ?_;erw [rc1 l caps e s l.length i];have szz:=@xM8 (atL s (i+1)-atL s i) (reL l i);have sb:f4 (l.getD i dBk)=true:=qu6 (p:=λb=>f4 b=true) h.snd hin;have d1:decide ((i:Int)<l.length)=true:=decide_eq_true (by omega);have d2:decide ((i:Int)>0)=false:=decide_eq_false (by omega);simp only[dle,d1,d2,w2,t0,t2,w3,iR,sb,c1,c3,c4,c5,Tree.holds,Bool.and_eq_true,decide_eq_true_eq,decide_eq_false_iff_not,Bool.true_eq_false,Bool.false_eq_true,false_implies,true_implies,true_and,and_true,not_false_eq_true]
 (repeat' (first|exact⟨u7 _ _,nx (by unfold xJ4;omega)⟩|apply And.intro|intro _))
 all_goals first
  |omega
  |(rw[bad (by unfold xJ4;omega)])
theorem yT7(h:PlOk l caps e)(hlen:l.length<=1000000)(hs:SOk l s)(i:Nat)(hin:i<l.length)(hz:0<i)(nx:xJ4 l caps s i->RCh l caps e s (i+1))(bad:¬xJ4 l caps s i->chB l caps e s=false):RCh l caps e s i:=by
 have hl:=h.len;have hsl:=hs.len;have r0:=hs.get i;have r2:=hs.get (i+1);have q1:=h.reR i
 have w2:i64.wrap ((i:Int)+1)=((i+1:Nat):Int):=by rw[w64 (by omega) (by omega)];omega
 have t0:(i:Int).toNat=i:=by omega
 have t1:((i-1:Nat):Int).toNat=i-1:=by omega
 have t2:((i+1:Nat):Int).toNat=i+1:=by omega
 have w3:i64.wrap (s.getD (i+1) 0-s.getD i 0)=atL s (i+1)-atL s i:=w64 (by unfold atL at r0 r2;omega) (by unfold atL at r0 r2;omega);have iR:inR (atL s (i+1)-atL s i) (-4611686018427387904) 4611686018427387904=true:=j8.2 (by omega);have c1:(l.getD i dBk).2.2.2.1=crL l i:=rfl;have c2:(l.getD (i-1) dBk).2.2.2.1=crL l (i-1):=rfl;have c3:caps.getD i 0=zA7 caps i:=rfl;have c4:rea (l.getD i dBk)=reL l i:=rfl;have c5:s.getD i 0=atL s i:=rfl;have dle:decide ((i:Int)<=l.length)=true:=decide_eq_true (by omega);unfold RCh at nx ⊢;refine o5 (kW fsC) (n:=1000) (hint:=.unit) (keep:=x6 111 [0,1,2,3,9,10]) (p:=yT0) rfl ?_;erw [rc1 l caps e s l.length i];have szz:=@xM8 (atL s (i+1)-atL s i) (reL l i);have sb:f4 (l.getD i dBk)=true:=qu6 (p:=λb=>f4 b=true) h.snd hin;have d1:decide ((i:Int)<l.length)=true:=decide_eq_true (by omega)
 have w1:i64.wrap ((i:Int)-1)=((i-1:Nat):Int):=by rw[w64 (by omega) (by omega)];omega
 have d2:decide ((i:Int)>0)=true:=decide_eq_true (by omega);simp only[dle,d1,d2,w1,w2,t0,t1,t2,w3,iR,sb,c1,c2,c3,c4,c5,Tree.holds,Bool.and_eq_true,decide_eq_true_eq,decide_eq_false_iff_not,Bool.true_eq_false,Bool.false_eq_true,false_implies,true_implies,true_and,and_true,not_false_eq_true]
 (repeat' (first|exact⟨u7 _ _,nx (by unfold xJ4;omega)⟩|apply And.intro|intro _))
 all_goals first
  |omega
  |(rw[bad (by unfold xJ4;omega)])
theorem yT5(h:PlOk l caps e)(hlen:l.length<=1000000)(hs:SOk l s)(i:Nat)(hin:l.length<=i)(hle:i<=l.length)(nx:xJ4 l caps s i->RCh l caps e s (i+1))(bad:¬xJ4 l caps s i->chB l caps e s=false):RCh l caps e s i:=by
 have hl:=h.len;have hsl:=hs.len;have r0:=hs.get i;have r2:=hs.get (i+1);have q1:=h.reR i
 have w2:i64.wrap ((i:Int)+1)=((i+1:Nat):Int):=by rw[w64 (by omega) (by omega)];omega
 have t0:(i:Int).toNat=i:=by omega
 have t1:((i-1:Nat):Int).toNat=i-1:=by omega
 have t2:((i+1:Nat):Int).toNat=i+1:=by omega
 have w3:i64.wrap (s.getD (i+1) 0-s.getD i 0)=atL s (i+1)-atL s i:=w64 (by unfold atL at r0 r2;omega) (by unfold atL at r0 r2;omega);have iR:inR (atL s (i+1)-atL s i) (-4611686018427387904) 4611686018427387904=true:=j8.2 (by omega);have c1:(l.getD i dBk).2.2.2.1=crL l i:=rfl;have c2:(l.getD (i-1) dBk).2.2.2.1=crL l (i-1):=rfl;have c3:caps.getD i 0=zA7 caps i:=rfl;have c4:rea (l.getD i dBk)=reL l i:=rfl;have c5:s.getD i 0=atL s i:=rfl;have dle:decide ((i:Int)<=l.length)=true:=decide_eq_true (by omega);unfold RCh at nx ⊢;refine o5 (kW fsC) (n:=1000) (hint:=.unit) (keep:=x6 111 [0,1,2,3,9,10]) (p:=yT0) rfl ?_;erw [rc1 l caps e s l.length i];have szz:=@xM8 (atL s (i+1)-atL s i) (reL l i);have d1:decide ((i:Int)<l.length)=false:=decide_eq_false (by omega);have hne:=h.ne
 have w1:i64.wrap ((i:Int)-1)=((i-1:Nat):Int):=by rw[w64 (by omega) (by omega)];omega
 have d2:decide ((i:Int)>0)=true:=decide_eq_true (by omega);simp only[dle,d1,d2,w1,w2,t0,t1,t2,w3,iR,c1,c2,c3,c4,c5,Tree.holds,Bool.and_eq_true,decide_eq_true_eq,decide_eq_false_iff_not,Bool.true_eq_false,Bool.false_eq_true,false_implies,true_implies,true_and,and_true,not_false_eq_true]
 (repeat' (first|exact⟨u7 _ _,nx (by unfold xJ4;omega)⟩|apply And.intro|intro _))
 all_goals first
  |omega
  |(rw[bad (by unfold xJ4;omega)])
theorem yT6(h:PlOk l caps e)(hlen:l.length<=1000000)(hs:SOk l s)(h0:atL s 0=e)(hn:atL s l.length=0):∀ (k i:Nat),i+k=l.length+1->(∀t,t<i->xJ4 l caps s t)->RCh l caps e s i
 |0,i,hi,hp=>by
  unfold RCh;refine o5 (kW fsC) (n:=1000) (hint:=.unit) (keep:=x6 111 [0,1,2,3,9,10]) (p:=yT0) rfl ?_;erw [rc1 l caps e s l.length i];refine⟨λc=>absurd (of_decide_eq_true c) (by omega),λ_=>?_⟩;rw[zC2 (yL4.2 ⟨h0,hn,λt ht=>hp t (by omega)⟩)];exact rfl
 |k+1,i,hi,hp=>by
  have nx:xJ4 l caps s i->RCh l caps e s (i+1):=λok=>yT6 h hlen hs h0 hn k (i+1) (by omega) λt ht=>by
   rcases Nat.lt_or_ge t i with c|c
   .exact hp t c
   .rw[show t=i by omega];exact ok
  have bad:¬xJ4 l caps s i->chB l caps e s=false:=λc=>zC1 λq=>c ((yL4.1 q).2.2 i (by omega))
  rcases Nat.lt_or_ge i l.length with hin|hin
  .rcases Nat.eq_zero_or_pos i with hz|hz
   .exact yT8 h hlen hs i hin hz nx bad
   .exact yT7 h hlen hs i hin hz nx bad
  .exact yT5 h hlen hs i hin (by omega) nx bad
theorem xb6(h:PlOk l caps e)(hlen:l.length<=1000000)(hs:SOk l s):SCall pP 265 [LB l,LI caps,J e,LI s] (.bool (chB l caps e s)):=by
 have hsl:=hs.len;refine s7 rfl rfl (by kernel_rfl) (o5 (kW fsC) (n:=1000) (hint:=.unit) (keep:=x6 111 [0,1,2,3,9,10]) (p:=yS9) (boxes:=[]) rfl ?_);have q:=rc0 l caps e s;unfold v6 v7 at q;erw [q]
 have t0:(l.length:Int).toNat=l.length:=by omega
 have no0:¬atL s 0=e->chB l caps e s=false:=λc=>zC1 λk=>c k.1
 have non:¬atL s l.length=0->chB l caps e s=false:=λc=>zC1 λk=>c k.2.1
 simp only[t0,Tree.holds,Bool.and_eq_true,decide_eq_true_eq,bne_iff_ne,bne_eq_false_iff_eq,ne_eq];exact⟨by omega,λc=>by rw[no0 c],λc=>⟨by omega,λd=>by rw[non d],λd=>⟨u7 _ _,yT6 h hlen hs c d (l.length+1) 0 (by omega) λt ht=>absurd ht (Nat.not_lt_zero _)⟩⟩⟩
def yv2(l:List Bk)(caps:List Int)(e:Int)(s:List Int):Bool:=yv8 l caps e&& (decide (s.length=l.length+1)&&s.all λc=>inR c 0 1099511627776)
theorem yv3:yv2 l caps e s=true↔(l.length<=1000000/\PlOk l caps e)/\SOk l s:=by
 simp only[yv2,Bool.and_eq_true,yv9,decide_eq_true_eq,List.all_eq_true,j8];exact⟨λ⟨h1,h2,h3⟩=>⟨h1,h2,h3⟩,λ⟨h1,h2,h3⟩=>⟨h1,h2,h3⟩⟩
noncomputable def zX6:Fact:=⟨265,λargs=>match args with
 |[.list (.pair (.pair (.int .i64) (.pair (.int .i64) (.pair (.int .i64) (.int .i64)))) (.pair (.int .i64) (.pair (.int .i64) (.pair (.int .i64) (.int .i64))))) l,.list (.int .i64) caps,.int .i64 e,.list (.int .i64) s] =>some (.req (yv2 l caps e s) (.leaf (.bool (chB l caps e s))))
 |_=>none⟩
theorem yb7:zX6.ok pP:=λargs t ht=>by
 simp only[zX6]at ht
 split at ht
 .injection ht with ht;subst ht
  intro h;have k:=yv3.1 h;exact xb6 k.1.2 k.1.1 k.2
 .cases ht
end
def yO1:Plan:=.all
theorem pr0(l:List Bk)(caps:List Int)(e:Int):o7 (Env.of pP (j9 [qb5,z14,zX6])) 1000 (x9 pP 199) o9 (x6 85 [0,1,2,10,11,13,14,15,62,63]) (v7 pP 199) yO1 (v6 pP 199 [LB l,LI caps,J e]) [] =(.leaf (.at (x8 pP 199 0) 85 (x7 85 [(0,.list o9 l),(1,.list (Ty.int IntKind.i64) caps),(2,.int .i64 e),(10,SV.undef),(11,SV.undef),(13,.list o9 l),(14,.int .i64 (↑l.length:Int)),(15,.int .i64 0),(62,SV.undef),(63,SV.undef)]) [])):=by kernel_rfl
def yO3:Plan:=let z0:Plan:=.fork .all (.fork .all (.fork .all .all));.fork (.fork .all .all) (.fork (.ln 5 (.lit .all)) (.ln 3 (.fork (.lit (.lit (.fork (.ln 10 (.lit .all)) (.ln 10 (.fork .all z0))))) (.ln 7 z0))))
theorem pr1(l:List Bk)(caps:List Int)(e i:Int):o7 (Env.of pP (j9 [qb5,z14,zX6])) 1000 (x9 pP 199) o9 (x6 85 [0,1,2,10,11,13,14,15,62,63]) (x8 pP 199 0) yO3 (x7 85 [(0,LB l),(1,LI caps),(2,J e),(10,.undef),(11,.undef),(13,LB l),(14,J l.length),(15,J i),(62,.undef),(63,.undef)]) [] =(let y1:Tree Stop:=.leaf (.done (.tuple [.list o9 [],.int .i64 1]));let y2:=(↑l.length:Int);let y3:=Ty.int IntKind.i64;let y0:Tree Stop:=.node (y2==0) (.leaf (.done (.tuple [.list o9 [],.int .i64 0]))) (.req (yv8 l caps e) (.req (yv2 l caps e (rgL l caps e)) (.node (!chB l caps e (rgL l caps e)) (.leaf (.done (.tuple [.list o9 [],.int .i64 8]))) (.node (l.isEmpty) (.leaf (.at (x8 pP 199 1) 85 (x7 85 [(0,.list o9 l),(1,.list y3 caps),(2,.int .i64 e),(10,.list y3 (rgL l caps e)),(11,SV.arr 0 0 0),(13,.list o9 l),(14,.int .i64 y2),(15,.int .i64 i),(62,.int .i64 0),(63,.int .i64 0)]) [some (.cells [])])) (.req (decide ((0+l.length)*64<=140737488355328)) (.leaf (.at (x8 pP 199 1) 85 (x7 85 [(0,.list o9 l),(1,.list y3 caps),(2,.int .i64 e),(10,.list y3 (rgL l caps e)),(11,SV.row 0),(13,.list o9 l),(14,.int .i64 y2),(15,.int .i64 i),(62,.int .i64 y2),(63,.int .i64 0)]) [some (.rows o9 l)]))))))); .node (decide (i<y2)) (.req (decide (0<=i)&&decide (i<y2)) (.node (!f4 (l.getD i.toNat dBk)) y1 (.leaf (.at (x8 pP 199 0) 85 (x7 85 [(0,.list o9 l),(1,.list y3 caps),(2,.int .i64 e),(10,SV.undef),(11,SV.undef),(13,.list o9 l),(14,.int .i64 y2),(15,.int .i64 (i64.wrap (i+1))),(62,SV.undef),(63,SV.undef)]) [])))) (.node ((↑caps.length:Int) != y2) y1 (.node (decide (y2>0)) (.node (decide (e<0)) y1 (.req (decide (0<y2)) (.node (decide (e> (l.getD 0 dBk).2.2.2.1)) y1 y0))) y0))):=by kernel_rfl
def yO5:Plan:=.fork (.all) (.all)
theorem pr2(l:List Bk)(caps:List Int)(e:Int)(s:List Int)(o:List Bk)(i j k:Int):o7 (Env.of pP (j9 [qb5,z14,zX6])) 1000 (x9 pP 199) o9 (x6 85 [0,1,2,10,11,13,14,15,62,63]) (x8 pP 199 1) yO5 (x7 85 [(0,LB l),(1,LI caps),(2,J e),(10,LI s),(11,.row 0),(13,LB l),(14,J j),(15,J k),(62,J l.length),(63,J i)]) [some (.rows o9 o)] =(let y0:=o.set i.toNat ((o.getD i.toNat dBk).1,(o.getD i.toNat dBk).2.1,s.getD i.toNat 0,(o.getD i.toNat dBk).2.2.2);let y1:=y0.getD i.toNat dBk; .node (decide (i< (↑l.length:Int))) (.req (decide (0<=i)&&decide (i< (↑s.length:Int))) (.req (decide (0<=i)&&decide (i< (↑o.length:Int))) (.req (decide (i.toNat<o.length)) (.req (decide (0<=i64.wrap (i+1))&&decide (i64.wrap (i+1)< (↑s.length:Int))) (.req (decide (0<=i)&&decide (i< (↑y0.length:Int))) (.req (decide (i.toNat<y0.length)) (.leaf (.at (x8 pP 199 1) 85 (x7 85 [(0,.list o9 l),(1,.list (Ty.int IntKind.i64) caps),(2,.int .i64 e),(10,.list (Ty.int IntKind.i64) s),(11,SV.row 0),(13,.list o9 l),(14,.int .i64 j),(15,.int .i64 k),(62,.int .i64 (↑l.length:Int)),(63,.int .i64 (i64.wrap (i+1)))]) [some (.rows o9 (y0.set i.toNat (y1.1,y1.2.1,y1.2.2.1,y1.2.2.2.1,s.getD (i64.wrap (i+1)).toNat 0)))])))))))) (.leaf (.done (.tuple [.list o9 o,.int .i64 0])))):=by kernel_rfl
section
variable {l:List Bk} {caps:List Int} {e:Int}
theorem IsGr.dn{s:List Int}(g:IsGr l caps e s):Dn l caps e s:=⟨g.len,g.sol.first,g.sol.last,g.sol.cap,g.top⟩
theorem y56(h:PlOk l caps e):SOk l (rgL l caps e):=by
 have g:=y55 h;refine⟨g.len,λc hc=>?_⟩;obtain⟨t,ht,rfl⟩:=List.getElem_of_mem hc;have hl:=g.len;have:=g.dn.rng h (i:=t) (by omega);unfold atL at this;rw[List.getD_eq_getElem?_getD,List.getElem?_eq_getElem ht]at this;exact this
theorem yL6(h:PlOk l caps e)(he:e<=crL l 0):(zc9 l caps e (rgL l caps e)↔gL l caps e 0=e)/\(gL l caps e 0=e->∀i,i<=l.length->atL (rgL l caps e) i=gL l caps e i):=
 yL5 h.lim he (λi=>(h.crR i).1) (y55 h).sol (y55 h).top
theorem qt5:zm7 pP [qb5,z14,zX6] :=⟨yp4,ye7,yb7,trivial⟩
theorem yO4(h:PlOk l caps e)(hlen:l.length<=1000000){s:List Int}(hs:s.length=l.length+1)(hg:∀t,t<=l.length->s.getD t 0=gL l caps e t):∀ (k i:Nat) (o:List Bk) (j m:Int),i+k=l.length->o.length=l.length->(∀t,t<i->o.getD t dBk=xD7 (l.getD t dBk) (gL l caps e t) (gL l caps e (t+1)))->(∀t,i<=t->o.getD t dBk=l.getD t dBk)->
  t8 pP (x9 pP 199) (.tuple [LB (plB l (gL l caps e)),J 0]) (x8 pP 199 1) (x7 85 [(0,LB l),(1,LI caps),(2,J e),(10,LI s),(11,.row 0),(13,LB l),(14,J j),(15,J m),(62,J l.length),(63,J i)]) [some (.rows o9 o)]
 |0,i,o,j,m,hi,ho,h1,h2=>by
  refine o5 (kW qt5) (n:=1000) (hint:=o9) (keep:=x6 85 [0,1,2,10,11,13,14,15,62,63]) (p:=yO5) rfl ?_;erw [pr2 l caps e s o i j m];refine⟨λc=>absurd (of_decide_eq_true c) (by omega),λ_=>?_⟩;show SV.tuple [LB o,J 0] =_;rw[qS8 (d:=dBk) ho λt ht=>h1 t (by omega)];rfl
 |k+1,i,o,j,m,hi,ho,h1,h2=>by
  refine o5 (kW qt5) (n:=1000) (hint:=o9) (keep:=x6 85 [0,1,2,10,11,13,14,15,62,63]) (p:=yO5) rfl ?_;erw [pr2 l caps e s o i j m]
  have t0:(i:Int).toNat=i:=by omega
  have w1:i64.wrap ((i:Int)+1)=((i+1:Nat):Int):=by rw[w64 (by omega) (by omega)];omega
  have t1:((i+1:Nat):Int).toNat=i+1:=by omega
  refine⟨λ_=>?_,λc=>absurd (of_decide_eq_false c) (by omega)⟩;simp only[t0,w1,t1,hg i (by omega),hg (i+1) (by omega),hs,Tree.holds,Bool.and_eq_true,decide_eq_true_eq,decide_eq_false_iff_not,List.length_set];refine⟨by omega,by omega,by omega,by omega,by omega,by omega,u7 _ _,?_⟩;refine yO4 h hlen hs hg k (i+1) _ j m (by omega) (by simpa using ho) (λt ht=>?_) (λt ht=>?_)
  .rw[xE4 (by simp;omega)]
   split
   .rename_i hit
    subst hit;rw[xE4 (by omega),if_pos rfl,h2 i (by omega)];rfl
   .rename_i hit
    rw[xE4 (by omega),if_neg hit];exact h1 t (by omega)
  .rw[xE4 (by simp;omega),if_neg (by omega),xE4 (by omega),if_neg (by omega)]
   exact h2 t (by omega)
theorem yO2(h:PlOk l caps e)(hlen:l.length<=1000000):∀ (k i:Nat),i+k=l.length->
  t8 pP (x9 pP 199) (plS l caps e) (x8 pP 199 0) (x7 85 [(0,LB l),(1,LI caps),(2,J e),(10,.undef),(11,.undef),(13,LB l),(14,J l.length),(15,J i),(62,.undef),(63,.undef)]) []
 |k,i,hi=>by
  have hd:(plS l caps e).data=true:=by unfold plS;(repeat' split)<;>rfl
  refine o5 (kW qt5) (n:=1000) (hint:=o9) (keep:=x6 85 [0,1,2,10,11,13,14,15,62,63]) (p:=yO3) hd ?_;erw [pr1 l caps e i]
  have t0:(i:Int).toNat=i:=by omega
  match k,hi with
  |k+1,hi=>
   have w1:i64.wrap ((i:Int)+1)=((i+1:Nat):Int):=by rw[w64 (by omega) (by omega)];omega
   have hsb:f4 (l.getD i dBk)=true:=qu6 (p:=λb=>f4 b=true) h.snd (by omega)
   have hi2:(i:Int)<l.length:=by omega
   have:=yO2 h hlen k (i+1) (by omega);simp only[t0,w1,hsb,hi2,Tree.holds,Bool.and_eq_true,decide_eq_true_eq,decide_eq_false_iff_not,Bool.not_true,Bool.false_eq_true,false_implies,true_and,not_true_eq_false,and_true,true_implies];exact⟨by omega,u7 _ _,this⟩
  |0,hi=>
   have hi2:¬((i:Int)<l.length):=by omega
   have hne:=h.ne;have hl:=h.len;have he:=h.ent;have ok:yv8 l caps e=true:=yv9.2 ⟨hlen,h⟩;have sok:=y56 h;have oc:yv2 l caps e (rgL l caps e)=true:=yv3.2 ⟨⟨hlen,h⟩,sok⟩;have lz:((l.length:Int)==0)=false:=beq_eq_false_iff_ne.2 (by omega)
   have le:l.isEmpty=false:=by cases l with
    |nil=>simp at hne
    |cons=>rfl
   have lc:((caps.length:Int) !=(l.length:Int))=false:=bne_eq_false_iff_eq.2 (by omega);have hc:crL l 0=(l.getD 0 dBk).2.2.2.1:=rfl
   have no:¬¬True:=λc=>c trivial
   unfold plS;simp only[t0,hi2,lc,lz,le,ok,oc,Tree.holds,Bool.and_eq_true,decide_eq_true_eq,decide_eq_false_iff_not,Bool.false_eq_true,false_implies,true_and,true_implies,not_false_eq_true,bne_iff_ne,bne_eq_false_iff_eq,ne_eq,beq_self_eq_true,Bool.not_eq_true',Bool.not_eq_false'];refine⟨λ_=>⟨λa=>absurd a (by omega),λ_=>⟨by omega,λa=>?_,λa=>⟨λb=>?_,λb=>⟨by omega,u7 _ _,?_⟩⟩⟩⟩,λa=>absurd a (by omega)⟩
   .rw[if_neg (by omega)];rfl
   .have p:=yL6 h (show e<=crL l 0 by omega)
    have:¬gL l caps e 0=e:=λc=>by
     rw[zC2 (p.1.2 c)]at b;cases b
    rw[if_pos (by omega),if_neg this];rfl
   .have p:=yL6 h (show e<=crL l 0 by omega)
    have g0:gL l caps e 0=e:=by
     refine p.1.1 ?_
     refine Classical.byContradiction λc=>?_
     rw[zC1 c]at b;cases b
    rw[if_pos (by omega),if_pos g0];exact yO4 h hlen sok.len (p.2 g0) l.length 0 l (l.length:Int) (i:Int) (by omega) rfl (λt ht=>absurd ht (Nat.not_lt_zero _)) (λt _=>rfl)
theorem xo6(h:PlOk l caps e)(hlen:l.length<=1000000):SCall pP 199 [LB l,LI caps,J e] (plS l caps e):=by
 have hd:(plS l caps e).data=true:=by unfold plS;(repeat' split)<;>rfl
 refine s7 rfl hd (by kernel_rfl) (o5 (kW qt5) (n:=1000) (hint:=o9) (keep:=x6 85 [0,1,2,10,11,13,14,15,62,63]) (p:=yO1) (boxes:=[]) hd ?_);have q:=pr0 l caps e;unfold v6 v7 at q;erw [q];exact⟨u7 _ _,yO2 h hlen l.length 0 (by omega)⟩
end
def z83:Fact:=qk8 199 plT
theorem yl9:z83.ok pP:=qk9 λl caps e=>yM4 λok=>xo6 (yv9.1 ok).2 (yv9.1 ok).1
def mn(a b:Int):Int:=if b<a then b else a
def sqv(b:Bk)(i:Int):Int:=match xX7 b&&inR i 1 (dom b.1)with
 |true=>mn (mn b.2.2.2.1 (b.2.2.1+2*b.2.1*i)) (b.2.2.2.2+2*b.2.1*(dom b.1+1-i))
 |false=>0
variable{b:Bk}{i:Int}
theorem xI6(h:¬(xX7 b=true/\1<=i/\i<=dom b.1)):sqv b i=0:=by
 unfold sqv
 cases q:xX7 b&&inR i 1 (dom b.1)with
 |false=>rfl
 |true=>rw[Bool.and_eq_true,j8]at q;exact absurd q h
theorem xI7(h:xX7 b=true/\1<=i/\i<=dom b.1):sqv b i=mn (mn b.2.2.2.1 (b.2.2.1+2*b.2.1*i)) (b.2.2.2.2+2*b.2.1*(dom b.1+1-i)):=by
 unfold sqv;rw[show(xX7 b&&inR i 1 (dom b.1))=true by rw[Bool.and_eq_true,j8];exact h]
theorem zh0{a j:Int}(ha:1<=a/\a<=16777216)(hj:1<=j/\j<=16777217):2<=2*a*j/\2*a*j<=562949986975744:=by
 have e:2*a*j=2*(a*j):=Int.mul_assoc _ _ _;have h1:1*1<=a*j:=Int.mul_le_mul ha.1 hj.1 (by omega) (by omega);have h2:a*j<=16777216*16777217:=Int.mul_le_mul ha.2 hj.2 (by omega) (by omega);omega
theorem xI5(h:xX7 b=true/\1<=i/\i<=dom b.1):1<=sqv b i/\sqv b i<=1099511627776:=by
 have v:=xX8.1 h.1;have d:=zN3 b.1;have p:=zh0 v.1.2.1 (j:=i) (by omega);have q:=zh0 v.1.2.1 (j:=dom b.1+1-i) (by omega)
 rw[xI7 h];unfold mn;(repeat' split)<;>omega
theorem xI4(b:Bk)(i:Int):0<=sqv b i/\sqv b i<=1099511627776:=by
 by_cases h:xX7 b=true/\1<=i/\i<=dom b.1
 .have:=xI5 h;omega
 .rw[xI6 h];omega
theorem xu4(b:Bk)(i:Int):Tree.holds (λv=>v=(J (sqv b i))) (let y0:=b.2.2.1+i64.wrap (i64.wrap (2*b.2.1)*i);let y1:=b.2.2.2.2+i64.wrap (i64.wrap (2*b.2.1)*i64.wrap (i64.wrap (dom b.1+1)-i));.node (!xX7 b) (.leaf (.int .i64 0)) (.node (decide (i<1)) (.leaf (.int .i64 0)) (.node (decide (i>dom b.1)) (.leaf (.int .i64 0)) (.leaf (.int .i64 (if i64.wrap y1<if i64.wrap y0<b.2.2.2.1 then i64.wrap y0 else b.2.2.2.1 then i64.wrap y1 else if i64.wrap y0<b.2.2.2.1 then i64.wrap y0 else b.2.2.2.1))))):Tree SV):=by
  have d:=zN3 b.1;simp only[Tree.holds,sL,ne_eq,sLb,sLc,eq_self,sLd,sLe,sLf]
  (repeat' (first|apply And.intro|intro _))
  all_goals first
   |(rw[xI6 (by first|omega|grind)];rfl)
   |(have hv:xX7 b=true/\1<=i/\i<=dom b.1:=by first|grind|omega
     have v:=xX8.1 hv.1;have p:=zh0 v.1.2.1 (j:=i) (by omega);have q:=zh0 v.1.2.1 (j:=dom b.1+1-i) (by omega);refine xM6 ?_;rw[w64 (x:=2*b.2.1) (by omega) (by omega),w64 (x:=2*b.2.1*i) (by omega) (by omega),w64 (x:=b.2.2.1+2*b.2.1*i) (by omega) (by omega),w64 (x:=dom b.1+1) (by omega) (by omega),w64 (x:=dom b.1+1-i) (by omega) (by omega),w64 (x:=2*b.2.1*(dom b.1+1-i)) (by omega) (by omega),w64 (x:=b.2.2.2.2+2*b.2.1*(dom b.1+1-i)) (by omega) (by omega),xI7 hv]
     rfl)
theorem xu2(b:Bk)(i:Int):SCall pP 245 [Bk.sv b,J i] (J (sqv b i)):=
 xD1 (hB (l:=[qe4,zZ0]) (k:=[]) (j:=[]) (i:=[]) ([] :List Nat) ([277] :List Nat) ([] :List Nat) ([] :List Nat) (⟨ys5,yc8,trivial⟩) u9 u9 u9) 1000 (.fork .all (.fork (.ln 3 (.lit .all)) (.ln 3 (.fork .all .all))))
  (by kernel_rfl) (xu4 b i) (by kernel_rfl) (by kernel_rfl)
theorem xu3(b:Bk)(i:Int):SCall pP 239 [Bk.sv b,J i] (J (sqv b i)):=
 v8 mix [qe6,zZ1] ⟨ys7,yc9,trivial⟩ 1000 (.fork .all (.fork (.ln 3 (.lit .all)) (.ln 3 (.fork .all .all))))
  (by kernel_rfl) (xu4 b i) (by kernel_rfl) (by kernel_rfl)
def qb9:Fact:=qf3 245 λb i=>.leaf (J (sqv b i))
def qc0:Fact:=qf3 239 λb i=>.leaf (J (sqv b i))
theorem yp8:qb9.ok pP:=qf6 (xu2)
theorem yp9:qc0.ok pP:=qf6 (xu3)
def ivl(b:Bk)(i t:Int):Int:=if 1<=sqv b i/\1<=t/\t<=1048576 then(t+isq (sqv b i)-1) / isq (sqv b i)else 0
theorem xh8(b:Bk)(i t:Int):SCall pP 183 [Bk.sv b,J i,J t] (J (ivl b i t)):=
 v8 mix [qb9,z29] ⟨yp8,yg2,trivial⟩ 1000 (.fork (.ln 5 (.lit .all)) (.lit (.lit (.fork (.lit (.lit (.lit .all))) (.lit (.lit (.fork .all .all)))))))
  (t:=.node (sqv b i==0) (.leaf (.int .i64 0)) (.node (decide (t<1)) (.leaf (.int .i64 0)) (.node (decide (t>1048576)) (.leaf (.int .i64 0)) (.req (inR (sqv b i) 0 9223372036854775807) (.req (!isq (sqv b i)==0) (.leaf (.int .i64 (i64.wrap ((i64.wrap (i64.wrap (t+isq (sqv b i))-1)).tdiv (isq (sqv b i)))))))))))
  (by kernel_rfl) (by
   have s:=xI4 b i;simp only[Tree.holds,j8,sL,ne_eq,sLb,sLc,eq_self,sLd,sLe,sLf]
   (repeat' (first|apply And.intro|intro _))
   all_goals first
    |omega
    |(refine xM6 ?_;unfold ivl;rw[if_neg (by omega)])
    |(have p:=qK7 (n:=sqv b i) (by omega)
      have q:=qK4 (sqv b i)
      first
      |omega
      |(refine xM6 ?_
        unfold ivl
        rw[if_pos (by omega),w64 (x:=t+isq (sqv b i)) (by omega) (by omega),w64 (x:=t+isq (sqv b i)-1) (by omega) (by omega),xN8 (by omega) (by omega) (by omega),Int.tdiv_eq_ediv_of_nonneg (by omega)]))) (by kernel_rfl) (by kernel_rfl)
theorem xh9(b:Bk)(i t:Int):SCall pP 178 [Bk.sv b,J i,J t] (J (ivl b i t)):=
 v8 mix [qc0,z30] ⟨yp9,yg3,trivial⟩ 1000 (.fork (.ln 5 (.lit .all)) (.lit (.lit (.fork (.lit (.lit (.lit .all))) (.lit (.lit (.fork .all .all)))))))
  (t:=.node (decide (sqv b i<1)) (.leaf (.int .i64 0)) (.node (decide (t<1)) (.leaf (.int .i64 0)) (.node (decide (t>1048576)) (.leaf (.int .i64 0)) (.req (inR (sqv b i) 0 9223372036854775807) (.req (!isq (sqv b i)==0) (.leaf (.int .i64 (i64.wrap ((i64.wrap (i64.wrap (t+isq (sqv b i))-1)).tdiv (isq (sqv b i)))))))))))
  (by kernel_rfl) (by
   have s:=xI4 b i;simp only[Tree.holds,j8,sL,ne_eq,sLb,sLc,eq_self,sLd,sLe,sLf]
   (repeat' (first|apply And.intro|intro _))
   all_goals first
    |omega
    |(refine xM6 ?_;unfold ivl;rw[if_neg (by omega)])
    |(have p:=qK7 (n:=sqv b i) (by omega)
      have q:=qK4 (sqv b i)
      first
      |omega
      |(refine xM6 ?_
        unfold ivl
        rw[if_pos (by omega),w64 (x:=t+isq (sqv b i)) (by omega) (by omega),w64 (x:=t+isq (sqv b i)-1) (by omega) (by omega),xN8 (by omega) (by omega) (by omega),Int.tdiv_eq_ediv_of_nonneg (by omega)]))) (by kernel_rfl) (by kernel_rfl)
end Go.Proofs.YtnkaepnblikcdaaGreat
namespace Go.Sx
open Go.RowKit
noncomputable def zA3(m:Mem)(v:SV):SV:=match v with
 |.ptr id off=>match m.get id with
  |some (.cells cs)=>match cs with
   |[.int k n] =>.eptr (.int k) [n] 0 off
   |_=>.ptr id off
  |_=>.ptr id off
 |v=>v
noncomputable def zA7(m:Mem):List SV->List SV
 |[] =>[]
 |x::xs=>zA3 m x::zA7 m xs
section
variable {w0:World} {R0:RSet} {I:Rho} {w:World} {m:Mem}
end
end Go.Sx
namespace Go.Proofs.YtnkaepnblikcdaaGreat
open Go.Sx
def z31:Fact:=qf4 183 λb i t=>.leaf (J (ivl b i t))
def z32:Fact:=qf4 178 λb i t=>.leaf (J (ivl b i t))
theorem yg4:z31.ok pP:=qf5 (xh8)
theorem yg5:z32.ok pP:=qf5 (xh9)
def qU5(m:Mo):V4:=match xX7 m.1&&inR m.2.1 0 (dom m.1.1)with
 |true=>at4 m.1.1 m.2.1
 |false=>z4
def zS3(m:Mo):Bool:=xX7 m.1&&decide (m.2.1=dom m.1.1)
theorem qU8{m:Mo}(h:xX7 m.1=true/\0<=m.2.1/\m.2.1<=dom m.1.1):qU5 m=at4 m.1.1 m.2.1:=by
 unfold qU5;rw[show(xX7 m.1&&inR m.2.1 0 (dom m.1.1))=true by rw[Bool.and_eq_true,j8];exact h]
theorem qU6{m:Mo}(h:¬(xX7 m.1=true/\0<=m.2.1/\m.2.1<=dom m.1.1)):qU5 m=z4:=by
 unfold qU5
 cases q:xX7 m.1&&inR m.2.1 0 (dom m.1.1)with
 |false=>rfl
 |true=>rw[Bool.and_eq_true,j8]at q;exact absurd q h
theorem zS4{m:Mo}:zS3 m=true↔xX7 m.1=true/\m.2.1=dom m.1.1:=by simp only[zS3,Bool.and_eq_true,decide_eq_true_eq]
def m0:Mo:=(((0,0,0,0),0,0,0,0),0,0)
def okS(b:Bk)(t:Int):Bool:=xX7 b&&inR t 1 1048576
theorem yw1{b:Bk}{t:Int}:okS b t=true↔xX7 b=true/\1<=t/\t<=1048576:=by simp only[okS,Bool.and_eq_true,j8]
def y79(m:Mo)(t:Int):Bool:=xX7 m.1&& (inR m.2.1 0 (dom m.1.1-1)&&inR m.2.2 1 (ivl m.1 (m.2.1+1) t))
theorem y80{m:Mo}{t:Int}:y79 m t=true↔xX7 m.1=true/\(0<=m.2.1/\m.2.1<=dom m.1.1-1)/\1<=m.2.2/\m.2.2<=ivl m.1 (m.2.1+1) t:=by simp only[y79,Bool.and_eq_true,j8]
theorem qL7(b:Bk)(i t:Int):0<=ivl b i t/\ivl b i t<=4296015872:=by
 unfold ivl
 split
 .rename_i c
  have p:=qK7 (n:=sqv b i) c.1;have q:=qK4 (sqv b i);have h0:0<=(t+isq (sqv b i)-1) / isq (sqv b i):=Int.ediv_nonneg (by omega) (by omega);have h1:(t+isq (sqv b i)-1) / isq (sqv b i)<=t+isq (sqv b i)-1:=Int.ediv_le_self _ (by omega);omega
 .omega
theorem qL8{b:Bk}{i t:Int}(h:1<=ivl b i t):1<=t/\t<=1048576:=by
 unfold ivl at h
 split at h
 .rename_i c;exact c.2
 .omega
theorem xk4(m:Mo):Tree.holds (λv=>v=(V4.sv (qU5 m))) (let y0:Tree SV:=.leaf (.agg [.int .i64 0,.int .i64 0,.int .i64 0,.int .i64 0]);.node (!xX7 m.1) y0 (.node (decide (m.2.1<0)) y0 (.node (decide (m.2.1>dom m.1.1)) y0 (.leaf (.agg [.int .i64 (at4 m.1.1 m.2.1).1,.int .i64 (at4 m.1.1 m.2.1).2.1,.int .i64 (at4 m.1.1 m.2.1).2.2.1,.int .i64 (at4 m.1.1 m.2.1).2.2.2])))):Tree SV):=by simp only[Tree.holds,sL,ne_eq,sLb,sLc,eq_self,sLd,sLe,sLf];(repeat' (first|apply And.intro|intro _));all_goals first|(rw[qU6 (by first|omega|grind)];rfl)|(rw[qU8 (by first|omega|grind)];rfl)
theorem xk2(m:Mo):SCall pP 205 [Mo.sv m] (V4.sv (qU5 m)):=
 v8 mix [qe4,zZ0,fAt] ⟨ys5,yc8,ya4,trivial⟩ 1000 (.fork (.ln 11 (.lit .all)) (.ln 3 (.fork (.ln 7 (.lit .all)) (.ln 7 (.fork .all .all)))))
  (by kernel_rfl) (xk4 m) (by kernel_rfl) (by rfl)
theorem xk3(m:Mo):SCall pP 132 [Mo.sv m] (V4.sv (qU5 m)):=
 v8 mix [qe6,zZ1,zW7] ⟨ys7,yc9,ya5,trivial⟩ 1000 (.fork (.ln 11 (.lit .all)) (.ln 3 (.fork (.ln 7 (.lit .all)) (.ln 7 (.fork .all .all)))))
  (by kernel_rfl) (xk4 m) (by kernel_rfl) (by rfl)
theorem xd8(m:Mo):Tree.holds (λv=>v=(.bool (zS3 m))) (.node (xX7 m.fst)
 (.leaf (SV.bool (m.snd.fst==dom m.fst.fst)))
 (.leaf (SV.bool false)):Tree SV):=by simp only[Tree.holds,sL,ne_eq,sLb,sLc,eq_self,sLd,sLe,sLf];(repeat' (first|apply And.intro|intro _));all_goals(refine qC9 ?_;rw[zS4];(try simp only[sL,ne_eq,sLb,sLc,eq_self,sLd,sLe,sLf]); first|omega|grind)
theorem xd6(m:Mo):SCall pP 166 [Mo.sv m] (.bool (zS3 m)):=
 v8 mix [qe4,zZ0] ⟨ys5,yc8,trivial⟩ 1000 (.fork (.ln 6 (.lit .all)) (.ln 6 (.lit .all)))
  (by kernel_rfl) (xd8 m) (by kernel_rfl) (by kernel_rfl)
theorem xd7(m:Mo):SCall pP 173 [Mo.sv m] (.bool (zS3 m)):=
 v8 mix [qe6,zZ1] ⟨ys7,yc9,trivial⟩ 1000 (.fork (.ln 6 (.lit .all)) (.ln 6 (.lit .all)))
  (by kernel_rfl) (xd8 m) (by kernel_rfl) (by kernel_rfl)
def z47:Fact:=qk2 205 λm=>.leaf (V4.sv (qU5 m))
def z48:Fact:=qk2 132 λm=>.leaf (V4.sv (qU5 m))
theorem yh9:z47.ok pP:=qk5 (xk2)
theorem yi0:z48.ok pP:=qk5 (xk3)
def zZ4:Fact:=qk2 173 λm=>.leaf (.bool (zS3 m))
theorem yd2:zZ4.ok pP:=qk5 (xd7)
variable{a b M:Int}
theorem zQ1(hb:1<=b)(hM:0<=M)(h: -M<=a/\a<=M): -M<=a / b/\a / b<=M:=by
 constructor
 .refine Int.le_ediv_of_mul_le (by omega) ?_
  have:M*1<=M*b:=Int.mul_le_mul_of_nonneg_left hb hM;rw[Int.neg_mul];omega
 .by_cases ha:0<=a
  .have:=Int.ediv_le_self b ha;omega
  .have:=Int.ediv_neg_of_neg_of_pos (a:=a) (b:=b) (by omega) (by omega);omega
theorem qq3(hb:1<=b):a.tdiv b=if a<0/\a.tmod b≠0 then a / b+1 else a / b:=by
 rw[Int.tdiv_eq_ediv];have hs:b.sign=1:=Int.sign_eq_one_of_pos (by omega);have hd:b ∣ a↔a.tmod b=0:=⟨Int.tmod_eq_zero_of_dvd,Int.dvd_of_tmod_eq_zero⟩;rw[hs]
 by_cases h1:0<=a\/b ∣ a
 .rw[if_pos h1,if_neg (by rw[hd]at h1;omega)];omega
 .rw[if_neg h1,if_pos (by rw[hd]at h1;omega)]
def rnd(a b:Int):Int:=if b-a % b<=a % b then a / b+1 else a / b
theorem y57(hb:1<=b)(hM:0<=M)(h: -M<=a/\a<=M): -M<=rnd a b/\rnd a b<=M+1:=by
 have:=zQ1 hb hM h
 unfold rnd;split<;>omega
theorem qY2(hb:1<=b):0<=a % b/\a % b<b:=⟨Int.emod_nonneg _ (by omega),Int.emod_lt_of_pos _ (by omega)⟩
theorem xL7:a-a / b*b=a % b:=by rw[Int.emod_def,Int.mul_comm]
theorem x53{x:Int}(h0:0<=x)(h1:x<=9223372036854775807):u64.wrap x=x:=by
 have h2:IntKind.wrap .u64 x=if false&&decide (x % 18446744073709551616>=9223372036854775808)then x % 18446744073709551616-18446744073709551616 else x % 18446744073709551616:=rfl
 rw[h2];simp only[Bool.false_and,Bool.false_eq_true,if_false];omega
theorem xf3(a b:Int)(h:(inR b 1 4611686018427387904&&inR a (-4611686018427387904) 4611686018427387904)=true):Tree.holds (λv=>v=(.tuple [J (a / b),J 0])) (let y1:Tree SV:=.leaf (.tuple [.int .i64 (i64.wrap (a.tdiv b)),.int .i64 0]);let y0:Tree SV:=.req (!b==0) (.req (!b==0) (.node (a.tmod b != 0) (.node (!decide (a<0)==decide (b<0)) (.leaf (.tuple [.int .i64 (i64.wrap (i64.wrap (a.tdiv b)-1)),.int .i64 0])) y1) y1));.node (b==0) (.leaf (.tuple [.int .i64 0,.int .i64 4])) (.node (a== -9223372036854775808) (.node (b== -1) (.leaf (.tuple [.int .i64 0,.int .i64 3])) y0) y0):Tree SV):=by
  rw[Bool.and_eq_true,j8,j8]at h;have r:=zQ1 h.1.1 (by omega) h.2;have e:=qq3 (a:=a) h.1.1;have k1:i64.wrap (a / b)=a / b:=w64 (by omega) (by omega);have k2:i64.wrap (a / b+1)=a / b+1:=w64 (by omega) (by omega);have k3:i64.wrap (a / b+1-1)=a / b:=(w64 (by omega) (by omega)).trans (by omega);have hb0:decide (b<0)=false:=decide_eq_false (by omega)
  have hb1:(b==0)=false:=by simp;omega
  have hb2:(b== -1)=false:=by simp;omega
  have ha0:(a== -9223372036854775808)=false:=by simp;omega
  by_cases ha:a<0<;>by_cases hm:a.tmod b=0
  all_goals simp only[Tree.holds,hb0,hb1,hb2,ha0,ha,hm,decide_true,decide_false,Bool.true_eq_false,Bool.false_eq_true,false_implies,true_implies,true_and,and_true,Bool.not_false,bne_self_eq_false,bne_iff_ne,ne_eq,not_true_eq_false,not_false_eq_true,bne_eq_false_iff_eq,eq_self,beq_self_eq_true,Bool.not_true,show(false==false)=true from rfl,show(true==false)=false from rfl,false_and,and_false]at e ⊢
  all_goals simp only[e,if_true,if_false,k1,k2,k3,J]
theorem xf1(a b:Int)(h:(inR b 1 4611686018427387904&&inR a (-4611686018427387904) 4611686018427387904)=true):SCall pP 225 [J a,J b] (.tuple [J (a / b),J 0]):=
 v8 mix [] trivial 1000 (.fork .all (.fork (.lit (.lit (.fork .all (.fork (.ln 5 (.fork .all .all)) (.ln 5 (.lit .all)))))) (.ln 3 (.fork (.ln 5 (.fork .all .all)) (.ln 5 (.lit .all))))))
  (by kernel_rfl) (xf3 a b h) (by kernel_rfl) (by kernel_rfl)
theorem xf2(a b:Int)(h:(inR b 1 4611686018427387904&&inR a (-4611686018427387904) 4611686018427387904)=true):SCall pP 235 [J a,J b] (.tuple [J (a / b),J 0]):=
 v8 mix [] trivial 1000 (.fork .all (.fork (.lit (.lit (.fork .all (.fork (.ln 5 (.fork .all .all)) (.ln 5 (.lit .all)))))) (.ln 3 (.fork (.ln 5 (.fork .all .all)) (.ln 5 (.lit .all))))))
  (by kernel_rfl) (xf3 a b h) (by kernel_rfl) (by kernel_rfl)
def z03:Fact:=qi3 225 λa b=>.req (inR b 1 4611686018427387904&&inR a (-4611686018427387904) 4611686018427387904) (.leaf (.tuple [J (a / b),J 0]))
def z04:Fact:=qi3 235 λa b=>.req (inR b 1 4611686018427387904&&inR a (-4611686018427387904) 4611686018427387904) (.leaf (.tuple [J (a / b),J 0]))
theorem ye0:z03.ok pP:=qi6 (λa b h=>xf1 a b h)
theorem ye1:z04.ok pP:=qi6 (λa b h=>xf2 a b h)
theorem xs2(a b:Int)(h:(inR b 1 4611686018427387904&&inR a (-4611686018427387904) 4611686018427387904)=true):SCall pP 208 [J a,J b] (.tuple [J (rnd a b),J 0]):=
 v8 mix [z03] ⟨ye0,trivial⟩ 1000 (.lit (.fork (.ln 5 (.fork (.ln 4 (.lit .all)) (.lit (.lit (.fork (.ln 7 (.fork .all .all)) (.ln 7 (.lit .all))))))) (.ln 8 (.fork (.ln 7 (.fork .all .all)) (.ln 7 (.lit .all))))))
  (t:=let y1:=a-i64.wrap (a / b*b);let y2:Tree SV:=.leaf (.tuple [.int .i64 (i64.wrap (a / b+1)),.int .i64 0]);let y0:Tree SV:=.node (decide (b<0)) (.node (decide (i64.wrap y1<=i64.wrap (b-i64.wrap y1))) y2 (.leaf (.tuple [.int .i64 (a / b),.int .i64 0]))) (.leaf (.tuple [.int .i64 (a / b),.int .i64 0]));.req (inR b 1 4611686018427387904&&inR a (-4611686018427387904) 4611686018427387904) (.node (decide (b>0)) (.node (decide (i64.wrap y1>=i64.wrap (b-i64.wrap y1))) y2 y0) y0))
  (by kernel_rfl) (by
   rw[Bool.and_eq_true,j8,j8]at h;have r:=zQ1 h.1.1 (by omega) h.2;have q:=qY2 (a:=a) h.1.1;have e:=xL7 (a:=a) (b:=b);have k0:i64.wrap (a / b*b)=a / b*b:=w64 (by omega) (by omega);have k1:i64.wrap (a % b)=a % b:=w64 (by omega) (by omega);have k2:i64.wrap (a / b+1)=a / b+1:=w64 (by omega) (by omega);have k3:i64.wrap (b-a % b)=b-a % b:=w64 (by omega) (by omega);have k4:u64.wrap (a % b)=a % b:=x53 (by omega) (by omega);have k5:u64.wrap b=b:=x53 (by omega) (by omega);have k6:u64.wrap (b-a % b)=b-a % b:=x53 (by omega) (by omega)
   have hh:(inR b 1 4611686018427387904&&inR a (-4611686018427387904) 4611686018427387904)=true:=by rw[Bool.and_eq_true,j8,j8];exact h
   simp only[hh,k0,e,k1,k2,k3,k4,k5,k6,Tree.holds,ge_iff_le,sL,ne_eq,sLb,sLc,eq_self,sLd,sLe,sLf];(repeat' (first|apply And.intro|intro _));
   all_goals first
    |omega
    |(exfalso;omega)
    |(unfold rnd;rw[if_pos (by omega)];rfl)
    |(unfold rnd;rw[if_neg (by omega)];rfl)) (by kernel_rfl) (by kernel_rfl)
theorem xs3(a b:Int)(h:(inR b 1 4611686018427387904&&inR a (-4611686018427387904) 4611686018427387904)=true):SCall pP 197 [J a,J b] (.tuple [J (rnd a b),J 0]):=
 v8 mix [z04] ⟨ye1,trivial⟩ 1000 (.lit (.fork (.fork (.fork (.all) (.all)) (.fork (.all) (.all))) (.fork (.fork (.all) (.all)) (.fork (.all) (.all)))))
  (t:=let y0:=i64.wrap (a-i64.wrap (a / b*b));let y1:Tree SV:=.leaf (.tuple [.int .i64 (i64.wrap (a / b+1)),.int .i64 0]);let y2:Tree SV:=.leaf (.tuple [.int .i64 (a / b),.int .i64 0]);let y3:=0-u64.wrap y0;.req (inR b 1 4611686018427387904&&inR a (-4611686018427387904) 4611686018427387904) (.node (decide (i64.wrap (a-i64.wrap (a / b*b))<0)) (.node (decide (b<0)) (.node (decide (u64.wrap y3>=u64.wrap (u64.wrap (0-u64.wrap b)-u64.wrap y3))) y1 y2) (.node (decide (u64.wrap y3>=u64.wrap (u64.wrap b-u64.wrap y3))) y1 y2)) (.node (decide (b<0)) (.node (decide (u64.wrap y0>=u64.wrap (u64.wrap (0-u64.wrap b)-u64.wrap y0))) y1 y2) (.node (decide (u64.wrap y0>=u64.wrap (u64.wrap b-u64.wrap y0))) y1 y2))))
  (by kernel_rfl) (by
   rw[Bool.and_eq_true,j8,j8]at h;have r:=zQ1 h.1.1 (by omega) h.2;have q:=qY2 (a:=a) h.1.1;have e:=xL7 (a:=a) (b:=b);have k0:i64.wrap (a / b*b)=a / b*b:=w64 (by omega) (by omega);have k1:i64.wrap (a % b)=a % b:=w64 (by omega) (by omega);have k2:i64.wrap (a / b+1)=a / b+1:=w64 (by omega) (by omega);have k3:i64.wrap (b-a % b)=b-a % b:=w64 (by omega) (by omega);have k4:u64.wrap (a % b)=a % b:=x53 (by omega) (by omega);have k5:u64.wrap b=b:=x53 (by omega) (by omega);have k6:u64.wrap (b-a % b)=b-a % b:=x53 (by omega) (by omega)
   have hh:(inR b 1 4611686018427387904&&inR a (-4611686018427387904) 4611686018427387904)=true:=by rw[Bool.and_eq_true,j8,j8];exact h
   simp only[hh,k0,e,k1,k2,k3,k4,k5,k6,Tree.holds,ge_iff_le,sL,ne_eq,sLb,sLc,eq_self,sLd,sLe,sLf];(repeat' (first|apply And.intro|intro _));
   all_goals first
    |omega
    |(exfalso;omega)
    |(unfold rnd;rw[if_pos (by omega)];rfl)
    |(unfold rnd;rw[if_neg (by omega)];rfl)) (by kernel_rfl) (by kernel_rfl)
def qa6:Fact:=qi3 208 λa b=>.req (inR b 1 4611686018427387904&&inR a (-4611686018427387904) 4611686018427387904) (.leaf (.tuple [J (rnd a b),J 0]))
def qa7:Fact:=qi3 197 λa b=>.req (inR b 1 4611686018427387904&&inR a (-4611686018427387904) 4611686018427387904) (.leaf (.tuple [J (rnd a b),J 0]))
theorem yo4:qa6.ok pP:=qi6 (λa b h=>xs2 a b h)
theorem yo5:qa7.ok pP:=qi6 (λa b h=>xs3 a b h)
abbrev V3:=Int×Int×Int
def V3.sv(v:V3):SV:=.agg [J v.1,J v.2.1,J v.2.2]
def axM(m:Ma)(i:Int):Ax:=if i=0 then m.x else if i=1 then m.y else if i=2 then m.z else m.e
def xI8(m:Ma)(p:Int):Bool:=m.ok&&inR p (-1073741824) 1073741824
variable{m:Ma}{p:Int}
theorem n9:xI8 m p=true↔m.ok=true/\-1073741824<=p/\p<=1073741824:=by simp only[xI8,Bool.and_eq_true,j8]
def f9(m:Ma)(p:Int):Bool:=m.ok&&inR p (-70368744177664) 70368744177664
theorem xV1:f9 m p=true↔m.ok=true/\-70368744177664<=p/\p<=70368744177664:=by simp only[f9,Bool.and_eq_true,j8]
def e7(a:Ax)(p:Int):Int:=rnd (p*a.num) a.den
def xW0(a:Ax)(p:Int):Int:=rnd (p*a.den) a.num
def zT9(b:Bool)(n:Int):SV:=match b with
 |true=>.tuple [J n,J 0]
 |false=>.tuple [J 0,J 1]
variable{n:Int}
theorem zU1{b:Bool}(h:b=true):zT9 b n=.tuple [J n,J 0] :=by rw[h];rfl
theorem zU0{b:Bool}(h:b=false):zT9 b n=.tuple [J 0,J 1] :=by rw[h];rfl
theorem q09{A B:Int}(hA:0<=A)(hp: -A<=p/\p<=A)(hn:0<=n/\n<=B): -(A*B)<=p*n/\p*n<=A*B:=by
 have h1:p*n<=A*n:=Int.mul_le_mul_of_nonneg_right hp.2 hn.1;have h2:A*n<=A*B:=Int.mul_le_mul_of_nonneg_left hn.2 hA;have h3:(-A)*n<=p*n:=Int.mul_le_mul_of_nonneg_right hp.1 hn.1;rw[Int.neg_mul]at h3;omega
theorem xJ2{a:Ax}(h:a.ok=true)(hp: -1073741824<=p/\p<=1073741824):(-70368744177664<=p*a.num/\p*a.num<=70368744177664)/\-70368744177664<=e7 a p/\e7 a p<=70368744177665:=by
 rw[Ax.ok_iff]at h;have:=q09 (A:=1073741824) (B:=65536) (by omega) hp (n:=a.num) (by omega);exact⟨this,y57 (M:=70368744177664) (by omega) (by omega) this⟩
theorem xV2{a:Ax}(h:a.ok=true)(hM:0<=M)(hp: -M<=p/\p<=M):(-(M*65536)<=p*a.den/\p*a.den<=M*65536)/\-(M*65536)<=xW0 a p/\xW0 a p<=M*65536+1:=by
 rw[Ax.ok_iff]at h;have:=q09 (A:=M) (B:=65536) (by omega) hp (n:=a.den) (by omega);exact⟨this,y57 (M:=M*65536) (by omega) (by omega) this⟩
def zF0(xy:Bool)(c:V4):V4:=match xy with
 |true=>(c.1+c.2.1,c.1-c.2.1,c.2.2.1,c.2.2.2)
 |false=>c
def qZ3(m:Ma)(v:V3)(e:Int):V4:=zF0 m.xy (e7 m.x v.1,e7 m.y v.2.1,e7 m.z v.2.2,e7 m.e e)
def qY8(m:Ma)(v:V3)(e:Int):Bool:=xI8 m v.1&& (xI8 m v.2.1&& (xI8 m v.2.2&&xI8 m e))
variable{v:V3}{e:Int}
theorem qY9:qY8 m v e=true↔xI8 m v.1=true/\xI8 m v.2.1=true/\xI8 m v.2.2=true/\xI8 m e=true:=by simp only[qY8,Bool.and_eq_true]
def qH4(m:Ma)(v:V3):Bool:=m.ok&& (inR v.1 m.x.min m.x.max&& (inR v.2.1 m.y.min m.y.max&&inR v.2.2 m.z.min m.z.max))
theorem qH5:qH4 m v=true↔m.ok=true/\(m.x.min<=v.1/\v.1<=m.x.max)/\(m.y.min<=v.2.1/\v.2.1<=m.y.max)/\m.z.min<=v.2.2/\v.2.2<=m.z.max:=by simp only[qH4,Bool.and_eq_true,j8]
def xV3(xy:Bool)(p:V4):V4:=match xy with
 |true=>((p.1+p.2.1) / 2,(p.1-p.2.1) / 2,p.2.2.1,p.2.2.2)
 |false=>p
def yN7(m:Ma)(p:V4):V4:=(xW0 m.x (xV3 m.xy p).1,xW0 m.y (xV3 m.xy p).2.1,xW0 m.z (xV3 m.xy p).2.2.1,xW0 m.e (xV3 m.xy p).2.2.2)
def qZ0(m:Ma)(v:V3)(e:Int):SV:=match qY8 m v e with
 |true=>.tuple [V4.sv (qZ3 m v e),J 0]
 |false=>.tuple [V4.sv z4,J 1]
theorem qZ2(h:qY8 m v e=true):qZ0 m v e=.tuple [V4.sv (qZ3 m v e),J 0] :=by unfold qZ0;rw[h]
theorem qZ1(h:qY8 m v e=false):qZ0 m v e=.tuple [V4.sv z4,J 1] :=by unfold qZ0;rw[h]
def qi9(f:FuncId)(h:Ma->Int->Int->Tree SV):Fact:=⟨f,λargs=>match args with
 |[.agg [.int .i64 a0,.int .i64 a1,.int .i64 a2,.int .i64 a3,.int .i64 a4,.int .i64 a5,.int .i64 a6,.int .i64 b0,.int .i64 b1,.int .i64 b2,.int .i64 b3,.int .i64 b4,.int .i64 b5,.int .i64 b6,.int .i64 c0,.int .i64 c1,.int .i64 c2,.int .i64 c3,.int .i64 c4,.int .i64 c5,.int .i64 c6,.int .i64 d0,.int .i64 d1,.int .i64 d2,.int .i64 d3,.int .i64 d4,.int .i64 d5,.int .i64 d6,.bool xy,.int .i64 t],.int .i64 i,.int .i64 p] =>some (h ⟨⟨a0,a1,a2,a3,a4,a5,a6⟩,⟨b0,b1,b2,b3,b4,b5,b6⟩,⟨c0,c1,c2,c3,c4,c5,c6⟩,⟨d0,d1,d2,d3,d4,d5,d6⟩,xy,t⟩ i p)
 |_=>none⟩
variable{P:Program}{f:FuncId}
theorem qj0{h:Ma->Int->Int->Tree SV}(k:∀m i p,(h m i p).says (SCall P f [m.sv,J i,J p])):(qi9 f h).ok P:=λargs t ht=>by
 simp only[qi9]at ht
 split at ht
 .injection ht with ht;subst ht;exact k ⟨⟨_,_,_,_,_,_,_⟩,⟨_,_,_,_,_,_,_⟩,⟨_,_,_,_,_,_,_⟩,⟨_,_,_,_,_,_,_⟩,_,_⟩ _ _
 .cases ht
def qj1(f:FuncId)(h:Ma->V3->Tree SV):Fact:=⟨f,λargs=>match args with
 |[.agg [.int .i64 a0,.int .i64 a1,.int .i64 a2,.int .i64 a3,.int .i64 a4,.int .i64 a5,.int .i64 a6,.int .i64 b0,.int .i64 b1,.int .i64 b2,.int .i64 b3,.int .i64 b4,.int .i64 b5,.int .i64 b6,.int .i64 c0,.int .i64 c1,.int .i64 c2,.int .i64 c3,.int .i64 c4,.int .i64 c5,.int .i64 c6,.int .i64 d0,.int .i64 d1,.int .i64 d2,.int .i64 d3,.int .i64 d4,.int .i64 d5,.int .i64 d6,.bool xy,.int .i64 t],.agg [.int .i64 x,.int .i64 y,.int .i64 z]] =>some (h ⟨⟨a0,a1,a2,a3,a4,a5,a6⟩,⟨b0,b1,b2,b3,b4,b5,b6⟩,⟨c0,c1,c2,c3,c4,c5,c6⟩,⟨d0,d1,d2,d3,d4,d5,d6⟩,xy,t⟩ (x,y,z))
 |_=>none⟩
theorem qk0{h:Ma->V3->Tree SV}(k:∀m v,(h m v).says (SCall P f [m.sv,V3.sv v])):(qj1 f h).ok P:=λargs t ht=>by
 simp only[qj1]at ht
 split at ht
 .injection ht with ht;subst ht;exact k ⟨⟨_,_,_,_,_,_,_⟩,⟨_,_,_,_,_,_,_⟩,⟨_,_,_,_,_,_,_⟩,⟨_,_,_,_,_,_,_⟩,_,_⟩ (_,_,_)
 .cases ht
def qj8(f:FuncId)(h:Ma->V3->Int->Tree SV):Fact:=⟨f,λargs=>match args with
 |[.agg [.int .i64 a0,.int .i64 a1,.int .i64 a2,.int .i64 a3,.int .i64 a4,.int .i64 a5,.int .i64 a6,.int .i64 b0,.int .i64 b1,.int .i64 b2,.int .i64 b3,.int .i64 b4,.int .i64 b5,.int .i64 b6,.int .i64 c0,.int .i64 c1,.int .i64 c2,.int .i64 c3,.int .i64 c4,.int .i64 c5,.int .i64 c6,.int .i64 d0,.int .i64 d1,.int .i64 d2,.int .i64 d3,.int .i64 d4,.int .i64 d5,.int .i64 d6,.bool xy,.int .i64 t],.agg [.int .i64 x,.int .i64 y,.int .i64 z],.int .i64 e] =>some (h ⟨⟨a0,a1,a2,a3,a4,a5,a6⟩,⟨b0,b1,b2,b3,b4,b5,b6⟩,⟨c0,c1,c2,c3,c4,c5,c6⟩,⟨d0,d1,d2,d3,d4,d5,d6⟩,xy,t⟩ (x,y,z) e)
 |_=>none⟩
theorem qj9{h:Ma->V3->Int->Tree SV}(k:∀m v e,(h m v e).says (SCall P f [m.sv,V3.sv v,J e])):(qj8 f h).ok P:=λargs t ht=>by
 simp only[qj8]at ht
 split at ht
 .injection ht with ht;subst ht;exact k ⟨⟨_,_,_,_,_,_,_⟩,⟨_,_,_,_,_,_,_⟩,⟨_,_,_,_,_,_,_⟩,⟨_,_,_,_,_,_,_⟩,_,_⟩ (_,_,_) _
 .cases ht
def qj2(f:FuncId)(h:Ma->V4->Tree SV):Fact:=⟨f,λargs=>match args with
 |[.agg [.int .i64 a0,.int .i64 a1,.int .i64 a2,.int .i64 a3,.int .i64 a4,.int .i64 a5,.int .i64 a6,.int .i64 b0,.int .i64 b1,.int .i64 b2,.int .i64 b3,.int .i64 b4,.int .i64 b5,.int .i64 b6,.int .i64 c0,.int .i64 c1,.int .i64 c2,.int .i64 c3,.int .i64 c4,.int .i64 c5,.int .i64 c6,.int .i64 d0,.int .i64 d1,.int .i64 d2,.int .i64 d3,.int .i64 d4,.int .i64 d5,.int .i64 d6,.bool xy,.int .i64 t],.agg [.int .i64 x,.int .i64 y,.int .i64 z,.int .i64 w]] =>some (h ⟨⟨a0,a1,a2,a3,a4,a5,a6⟩,⟨b0,b1,b2,b3,b4,b5,b6⟩,⟨c0,c1,c2,c3,c4,c5,c6⟩,⟨d0,d1,d2,d3,d4,d5,d6⟩,xy,t⟩ (x,y,z,w))
 |_=>none⟩
theorem qj7{h:Ma->V4->Tree SV}(k:∀m v,(h m v).says (SCall P f [m.sv,V4.sv v])):(qj2 f h).ok P:=λargs t ht=>by
 simp only[qj2]at ht
 split at ht
 .injection ht with ht;subst ht;exact k ⟨⟨_,_,_,_,_,_,_⟩,⟨_,_,_,_,_,_,_⟩,⟨_,_,_,_,_,_,_⟩,⟨_,_,_,_,_,_,_⟩,_,_⟩ (_,_,_,_)
 .cases ht
theorem xu5(m:Ma)(p:Int):SCall pP 135 [m.sv,J 0,J p] (zT9 (xI8 m p) (e7 m.x p)):=
 v8 mix [z45,qa6] ⟨yh7,yo4,trivial⟩ 1000 (.fork (.ln 9 (.lit .all)) (.ln 7 (.fork (.ln 5 (.fork .all .all)) (.ln 5 (.lit .all)))))
  (t:=let y0:Tree SV:=.leaf (.tuple [.int .i64 0,.int .i64 1]);.node (!m.ok) y0 (.node (decide (p>=-1073741824)) (.node (!decide (p<=1073741824)) y0 (.req true (.req (true) (.req (inR m.x.den 1 4611686018427387904&&inR (i64.wrap (p*m.x.num)) (-4611686018427387904) 4611686018427387904) (.leaf (.tuple [.int .i64 (rnd (i64.wrap (p*m.x.num)) m.x.den),.int .i64 0])))))) y0))
  (by kernel_rfl) (by
   simp only[Tree.holds,sL,ne_eq,sLb,sLc,eq_self,sLd,sLe,sLf];(repeat' (first|apply And.intro|intro _));
   all_goals first
    |(rw[zU0 (Bool.eq_false_iff.2 (by rw[ne_eq,n9];first|omega|grind))];rfl)
    |(have hk:=n9.1 (show xI8 m p=true by rw[n9];first|omega|grind)
      have hx:m.x.ok=true:=by have:=Ma.ok_iff m;grind
      have r:=xJ2 hx hk.2;have ho:=(Ax.ok_iff _).1 hx;have w:=w64 (x:=p*m.x.num) (by omega) (by omega)
      first
      |(rw[zU1 (n9.2 hk),w];rfl)
      |(rw[w,j8];omega)
      |(rw[j8];omega))) (by kernel_rfl) (by unfold zT9;split<;>rfl)
theorem xu6(m:Ma)(p:Int):SCall pP 303 [m.sv,J 0,J p] (zT9 (xI8 m p) (e7 m.x p)):=
 v8 mix [z46,qa7] ⟨yh8,yo5,trivial⟩ 1000 (.fork (.ln 11 (.lit .all)) (.ln 8 (.fork (.lit (.lit (.lit .all))) (.lit (.lit (.fork .all .all))))))
  (t:=let y0:Tree SV:=.leaf (.tuple [.int .i64 0,.int .i64 1]);.node (!m.ok) y0 (.node (decide (p < -1073741824)) y0 (.node (decide (p>1073741824)) y0 (.req true (.req (true) (.req (inR m.x.den 1 4611686018427387904&&inR (i64.wrap (p*m.x.num)) (-4611686018427387904) 4611686018427387904) (.leaf (.tuple [.int .i64 (rnd (i64.wrap (p*m.x.num)) m.x.den),.int .i64 0]))))))))
  (by kernel_rfl) (by
   simp only[Tree.holds,sL,ne_eq,sLb,sLc,eq_self,sLd,sLe,sLf];(repeat' (first|apply And.intro|intro _));
   all_goals first
    |(rw[zU0 (Bool.eq_false_iff.2 (by rw[ne_eq,n9];first|omega|grind))];rfl)
    |(have hk:=n9.1 (show xI8 m p=true by rw[n9];first|omega|grind)
      have hx:m.x.ok=true:=by have:=Ma.ok_iff m;grind
      have r:=xJ2 hx hk.2;have ho:=(Ax.ok_iff _).1 hx;have w:=w64 (x:=p*m.x.num) (by omega) (by omega)
      first
      |(rw[zU1 (n9.2 hk),w];rfl)
      |(rw[w,j8];omega)
      |(rw[j8];omega))) (by kernel_rfl) (by unfold zT9;split<;>rfl)
theorem xy3(m:Ma)(p:Int):SCall pP 192 [m.sv,J 0,J p] (zT9 (f9 m p) (xW0 m.x p)):=
 v8 mix [z45,qa6] ⟨yh7,yo4,trivial⟩ 1000 (.fork (.ln 9 (.lit .all)) (.ln 7 (.fork (.ln 5 (.fork .all .all)) (.ln 5 (.lit .all)))))
  (t:=let y0:Tree SV:=.leaf (.tuple [.int .i64 0,.int .i64 1]);.node (!m.ok) y0 (.node (decide (p>=-70368744177664)) (.node (!decide (p<=70368744177664)) y0 (.req true (.req (true) (.req (inR m.x.num 1 4611686018427387904&&inR (i64.wrap (p*m.x.den)) (-4611686018427387904) 4611686018427387904) (.leaf (.tuple [.int .i64 (rnd (i64.wrap (p*m.x.den)) m.x.num),.int .i64 0])))))) y0))
  (by kernel_rfl) (by
   simp only[Tree.holds,sL,ne_eq,sLb,sLc,eq_self,sLd,sLe,sLf];(repeat' (first|apply And.intro|intro _));
   all_goals first
    |(rw[zU0 (Bool.eq_false_iff.2 (by rw[ne_eq,xV1];first|omega|grind))];rfl)
    |(have hk:=xV1.1 (show f9 m p=true by rw[xV1];first|omega|grind)
      have hx:m.x.ok=true:=by have:=Ma.ok_iff m;grind
      have r:=xV2 hx (by omega) hk.2;have ho:=(Ax.ok_iff _).1 hx;have w:=w64 (x:=p*m.x.den) (by omega) (by omega)
      first
      |(rw[zU1 (xV1.2 hk),w];rfl)
      |(rw[w,j8];omega)
      |(rw[j8];omega))) (by kernel_rfl) (by unfold zT9;split<;>rfl)
theorem xy4(m:Ma)(p:Int):SCall pP 112 [m.sv,J 0,J p] (zT9 (f9 m p) (xW0 m.x p)):=
 v8 mix [z46,qa7] ⟨yh8,yo5,trivial⟩ 1000 (.fork (.ln 11 (.lit .all)) (.ln 8 (.fork (.lit (.lit (.lit .all))) (.lit (.lit (.fork .all .all))))))
  (t:=let y0:Tree SV:=.leaf (.tuple [.int .i64 0,.int .i64 1]);.node (!m.ok) y0 (.node (decide (p < -70368744177664)) y0 (.node (decide (p>70368744177664)) y0 (.req true (.req (true) (.req (inR m.x.num 1 4611686018427387904&&inR (i64.wrap (p*m.x.den)) (-4611686018427387904) 4611686018427387904) (.leaf (.tuple [.int .i64 (rnd (i64.wrap (p*m.x.den)) m.x.num),.int .i64 0]))))))))
  (by kernel_rfl) (by
   simp only[Tree.holds,sL,ne_eq,sLb,sLc,eq_self,sLd,sLe,sLf];(repeat' (first|apply And.intro|intro _));
   all_goals first
    |(rw[zU0 (Bool.eq_false_iff.2 (by rw[ne_eq,xV1];first|omega|grind))];rfl)
    |(have hk:=xV1.1 (show f9 m p=true by rw[xV1];first|omega|grind)
      have hx:m.x.ok=true:=by have:=Ma.ok_iff m;grind
      have r:=xV2 hx (by omega) hk.2;have ho:=(Ax.ok_iff _).1 hx;have w:=w64 (x:=p*m.x.den) (by omega) (by omega)
      first
      |(rw[zU1 (xV1.2 hk),w];rfl)
      |(rw[w,j8];omega)
      |(rw[j8];omega))) (by kernel_rfl) (by unfold zT9;split<;>rfl)
theorem xu7(m:Ma)(p:Int):SCall pP 135 [m.sv,J 1,J p] (zT9 (xI8 m p) (e7 m.y p)):=
 v8 mix [z45,qa6] ⟨yh7,yo4,trivial⟩ 1000 (.fork (.ln 9 (.lit .all)) (.ln 7 (.fork (.ln 5 (.fork .all .all)) (.ln 5 (.lit .all)))))
  (t:=let y0:Tree SV:=.leaf (.tuple [.int .i64 0,.int .i64 1]);.node (!m.ok) y0 (.node (decide (p>=-1073741824)) (.node (!decide (p<=1073741824)) y0 (.req true (.req (true) (.req (inR m.y.den 1 4611686018427387904&&inR (i64.wrap (p*m.y.num)) (-4611686018427387904) 4611686018427387904) (.leaf (.tuple [.int .i64 (rnd (i64.wrap (p*m.y.num)) m.y.den),.int .i64 0])))))) y0))
  (by kernel_rfl) (by
   simp only[Tree.holds,sL,ne_eq,sLb,sLc,eq_self,sLd,sLe,sLf];(repeat' (first|apply And.intro|intro _));
   all_goals first
    |(rw[zU0 (Bool.eq_false_iff.2 (by rw[ne_eq,n9];first|omega|grind))];rfl)
    |(have hk:=n9.1 (show xI8 m p=true by rw[n9];first|omega|grind)
      have hx:m.y.ok=true:=by have:=Ma.ok_iff m;grind
      have r:=xJ2 hx hk.2;have ho:=(Ax.ok_iff _).1 hx;have w:=w64 (x:=p*m.y.num) (by omega) (by omega)
      first
      |(rw[zU1 (n9.2 hk),w];rfl)
      |(rw[w,j8];omega)
      |(rw[j8];omega))) (by kernel_rfl) (by unfold zT9;split<;>rfl)
theorem xu8(m:Ma)(p:Int):SCall pP 303 [m.sv,J 1,J p] (zT9 (xI8 m p) (e7 m.y p)):=
 v8 mix [z46,qa7] ⟨yh8,yo5,trivial⟩ 1000 (.fork (.ln 11 (.lit .all)) (.ln 8 (.fork (.lit (.lit (.lit .all))) (.lit (.lit (.fork .all .all))))))
  (t:=let y0:Tree SV:=.leaf (.tuple [.int .i64 0,.int .i64 1]);.node (!m.ok) y0 (.node (decide (p < -1073741824)) y0 (.node (decide (p>1073741824)) y0 (.req true (.req (true) (.req (inR m.y.den 1 4611686018427387904&&inR (i64.wrap (p*m.y.num)) (-4611686018427387904) 4611686018427387904) (.leaf (.tuple [.int .i64 (rnd (i64.wrap (p*m.y.num)) m.y.den),.int .i64 0]))))))))
  (by kernel_rfl) (by
   simp only[Tree.holds,sL,ne_eq,sLb,sLc,eq_self,sLd,sLe,sLf];(repeat' (first|apply And.intro|intro _));
   all_goals first
    |(rw[zU0 (Bool.eq_false_iff.2 (by rw[ne_eq,n9];first|omega|grind))];rfl)
    |(have hk:=n9.1 (show xI8 m p=true by rw[n9];first|omega|grind)
      have hx:m.y.ok=true:=by have:=Ma.ok_iff m;grind
      have r:=xJ2 hx hk.2;have ho:=(Ax.ok_iff _).1 hx;have w:=w64 (x:=p*m.y.num) (by omega) (by omega)
      first
      |(rw[zU1 (n9.2 hk),w];rfl)
      |(rw[w,j8];omega)
      |(rw[j8];omega))) (by kernel_rfl) (by unfold zT9;split<;>rfl)
theorem xy5(m:Ma)(p:Int):SCall pP 192 [m.sv,J 1,J p] (zT9 (f9 m p) (xW0 m.y p)):=
 v8 mix [z45,qa6] ⟨yh7,yo4,trivial⟩ 1000 (.fork (.ln 9 (.lit .all)) (.ln 7 (.fork (.ln 5 (.fork .all .all)) (.ln 5 (.lit .all)))))
  (t:=let y0:Tree SV:=.leaf (.tuple [.int .i64 0,.int .i64 1]);.node (!m.ok) y0 (.node (decide (p>=-70368744177664)) (.node (!decide (p<=70368744177664)) y0 (.req true (.req (true) (.req (inR m.y.num 1 4611686018427387904&&inR (i64.wrap (p*m.y.den)) (-4611686018427387904) 4611686018427387904) (.leaf (.tuple [.int .i64 (rnd (i64.wrap (p*m.y.den)) m.y.num),.int .i64 0])))))) y0))
  (by kernel_rfl) (by
   simp only[Tree.holds,sL,ne_eq,sLb,sLc,eq_self,sLd,sLe,sLf];(repeat' (first|apply And.intro|intro _));
   all_goals first
    |(rw[zU0 (Bool.eq_false_iff.2 (by rw[ne_eq,xV1];first|omega|grind))];rfl)
    |(have hk:=xV1.1 (show f9 m p=true by rw[xV1];first|omega|grind)
      have hx:m.y.ok=true:=by have:=Ma.ok_iff m;grind
      have r:=xV2 hx (by omega) hk.2;have ho:=(Ax.ok_iff _).1 hx;have w:=w64 (x:=p*m.y.den) (by omega) (by omega)
      first
      |(rw[zU1 (xV1.2 hk),w];rfl)
      |(rw[w,j8];omega)
      |(rw[j8];omega))) (by kernel_rfl) (by unfold zT9;split<;>rfl)
theorem xy6(m:Ma)(p:Int):SCall pP 112 [m.sv,J 1,J p] (zT9 (f9 m p) (xW0 m.y p)):=
 v8 mix [z46,qa7] ⟨yh8,yo5,trivial⟩ 1000 (.fork (.ln 11 (.lit .all)) (.ln 8 (.fork (.lit (.lit (.lit .all))) (.lit (.lit (.fork .all .all))))))
  (t:=let y0:Tree SV:=.leaf (.tuple [.int .i64 0,.int .i64 1]);.node (!m.ok) y0 (.node (decide (p < -70368744177664)) y0 (.node (decide (p>70368744177664)) y0 (.req true (.req (true) (.req (inR m.y.num 1 4611686018427387904&&inR (i64.wrap (p*m.y.den)) (-4611686018427387904) 4611686018427387904) (.leaf (.tuple [.int .i64 (rnd (i64.wrap (p*m.y.den)) m.y.num),.int .i64 0]))))))))
  (by kernel_rfl) (by
   simp only[Tree.holds,sL,ne_eq,sLb,sLc,eq_self,sLd,sLe,sLf];(repeat' (first|apply And.intro|intro _));
   all_goals first
    |(rw[zU0 (Bool.eq_false_iff.2 (by rw[ne_eq,xV1];first|omega|grind))];rfl)
    |(have hk:=xV1.1 (show f9 m p=true by rw[xV1];first|omega|grind)
      have hx:m.y.ok=true:=by have:=Ma.ok_iff m;grind
      have r:=xV2 hx (by omega) hk.2;have ho:=(Ax.ok_iff _).1 hx;have w:=w64 (x:=p*m.y.den) (by omega) (by omega)
      first
      |(rw[zU1 (xV1.2 hk),w];rfl)
      |(rw[w,j8];omega)
      |(rw[j8];omega))) (by kernel_rfl) (by unfold zT9;split<;>rfl)
theorem xu9(m:Ma)(p:Int):SCall pP 135 [m.sv,J 2,J p] (zT9 (xI8 m p) (e7 m.z p)):=
 v8 mix [z45,qa6] ⟨yh7,yo4,trivial⟩ 1000 (.fork (.ln 9 (.lit .all)) (.ln 7 (.fork (.ln 5 (.fork .all .all)) (.ln 5 (.lit .all)))))
  (t:=let y0:Tree SV:=.leaf (.tuple [.int .i64 0,.int .i64 1]);.node (!m.ok) y0 (.node (decide (p>=-1073741824)) (.node (!decide (p<=1073741824)) y0 (.req true (.req (true) (.req (inR m.z.den 1 4611686018427387904&&inR (i64.wrap (p*m.z.num)) (-4611686018427387904) 4611686018427387904) (.leaf (.tuple [.int .i64 (rnd (i64.wrap (p*m.z.num)) m.z.den),.int .i64 0])))))) y0))
  (by kernel_rfl) (by
   simp only[Tree.holds,sL,ne_eq,sLb,sLc,eq_self,sLd,sLe,sLf];(repeat' (first|apply And.intro|intro _));
   all_goals first
    |(rw[zU0 (Bool.eq_false_iff.2 (by rw[ne_eq,n9];first|omega|grind))];rfl)
    |(have hk:=n9.1 (show xI8 m p=true by rw[n9];first|omega|grind)
      have hx:m.z.ok=true:=by have:=Ma.ok_iff m;grind
      have r:=xJ2 hx hk.2;have ho:=(Ax.ok_iff _).1 hx;have w:=w64 (x:=p*m.z.num) (by omega) (by omega)
      first
      |(rw[zU1 (n9.2 hk),w];rfl)
      |(rw[w,j8];omega)
      |(rw[j8];omega))) (by kernel_rfl) (by unfold zT9;split<;>rfl)
theorem xv0(m:Ma)(p:Int):SCall pP 303 [m.sv,J 2,J p] (zT9 (xI8 m p) (e7 m.z p)):=
 v8 mix [z46,qa7] ⟨yh8,yo5,trivial⟩ 1000 (.fork (.ln 11 (.lit .all)) (.ln 8 (.fork (.lit (.lit (.lit .all))) (.lit (.lit (.fork .all .all))))))
  (t:=let y0:Tree SV:=.leaf (.tuple [.int .i64 0,.int .i64 1]);.node (!m.ok) y0 (.node (decide (p < -1073741824)) y0 (.node (decide (p>1073741824)) y0 (.req true (.req (true) (.req (inR m.z.den 1 4611686018427387904&&inR (i64.wrap (p*m.z.num)) (-4611686018427387904) 4611686018427387904) (.leaf (.tuple [.int .i64 (rnd (i64.wrap (p*m.z.num)) m.z.den),.int .i64 0]))))))))
  (by kernel_rfl) (by
   simp only[Tree.holds,sL,ne_eq,sLb,sLc,eq_self,sLd,sLe,sLf];(repeat' (first|apply And.intro|intro _));
   all_goals first
    |(rw[zU0 (Bool.eq_false_iff.2 (by rw[ne_eq,n9];first|omega|grind))];rfl)
    |(have hk:=n9.1 (show xI8 m p=true by rw[n9];first|omega|grind)
      have hx:m.z.ok=true:=by have:=Ma.ok_iff m;grind
      have r:=xJ2 hx hk.2;have ho:=(Ax.ok_iff _).1 hx;have w:=w64 (x:=p*m.z.num) (by omega) (by omega)
      first
      |(rw[zU1 (n9.2 hk),w];rfl)
      |(rw[w,j8];omega)
      |(rw[j8];omega))) (by kernel_rfl) (by unfold zT9;split<;>rfl)
theorem xy7(m:Ma)(p:Int):SCall pP 192 [m.sv,J 2,J p] (zT9 (f9 m p) (xW0 m.z p)):=
 v8 mix [z45,qa6] ⟨yh7,yo4,trivial⟩ 1000 (.fork (.ln 9 (.lit .all)) (.ln 7 (.fork (.ln 5 (.fork .all .all)) (.ln 5 (.lit .all)))))
  (t:=let y0:Tree SV:=.leaf (.tuple [.int .i64 0,.int .i64 1]);.node (!m.ok) y0 (.node (decide (p>=-70368744177664)) (.node (!decide (p<=70368744177664)) y0 (.req true (.req (true) (.req (inR m.z.num 1 4611686018427387904&&inR (i64.wrap (p*m.z.den)) (-4611686018427387904) 4611686018427387904) (.leaf (.tuple [.int .i64 (rnd (i64.wrap (p*m.z.den)) m.z.num),.int .i64 0])))))) y0))
  (by kernel_rfl) (by
   simp only[Tree.holds,sL,ne_eq,sLb,sLc,eq_self,sLd,sLe,sLf];(repeat' (first|apply And.intro|intro _));
   all_goals first
    |(rw[zU0 (Bool.eq_false_iff.2 (by rw[ne_eq,xV1];first|omega|grind))];rfl)
    |(have hk:=xV1.1 (show f9 m p=true by rw[xV1];first|omega|grind)
      have hx:m.z.ok=true:=by have:=Ma.ok_iff m;grind
      have r:=xV2 hx (by omega) hk.2;have ho:=(Ax.ok_iff _).1 hx;have w:=w64 (x:=p*m.z.den) (by omega) (by omega)
      first
      |(rw[zU1 (xV1.2 hk),w];rfl)
      |(rw[w,j8];omega)
      |(rw[j8];omega))) (by kernel_rfl) (by unfold zT9;split<;>rfl)
theorem xy8(m:Ma)(p:Int):SCall pP 112 [m.sv,J 2,J p] (zT9 (f9 m p) (xW0 m.z p)):=
 v8 mix [z46,qa7] ⟨yh8,yo5,trivial⟩ 1000 (.fork (.ln 11 (.lit .all)) (.ln 8 (.fork (.lit (.lit (.lit .all))) (.lit (.lit (.fork .all .all))))))
  (t:=let y0:Tree SV:=.leaf (.tuple [.int .i64 0,.int .i64 1]);.node (!m.ok) y0 (.node (decide (p < -70368744177664)) y0 (.node (decide (p>70368744177664)) y0 (.req true (.req (true) (.req (inR m.z.num 1 4611686018427387904&&inR (i64.wrap (p*m.z.den)) (-4611686018427387904) 4611686018427387904) (.leaf (.tuple [.int .i64 (rnd (i64.wrap (p*m.z.den)) m.z.num),.int .i64 0]))))))))
  (by kernel_rfl) (by
   simp only[Tree.holds,sL,ne_eq,sLb,sLc,eq_self,sLd,sLe,sLf];(repeat' (first|apply And.intro|intro _));
   all_goals first
    |(rw[zU0 (Bool.eq_false_iff.2 (by rw[ne_eq,xV1];first|omega|grind))];rfl)
    |(have hk:=xV1.1 (show f9 m p=true by rw[xV1];first|omega|grind)
      have hx:m.z.ok=true:=by have:=Ma.ok_iff m;grind
      have r:=xV2 hx (by omega) hk.2;have ho:=(Ax.ok_iff _).1 hx;have w:=w64 (x:=p*m.z.den) (by omega) (by omega)
      first
      |(rw[zU1 (xV1.2 hk),w];rfl)
      |(rw[w,j8];omega)
      |(rw[j8];omega))) (by kernel_rfl) (by unfold zT9;split<;>rfl)
theorem xv1(m:Ma)(p:Int):SCall pP 135 [m.sv,J 3,J p] (zT9 (xI8 m p) (e7 m.e p)):=
 v8 mix [z45,qa6] ⟨yh7,yo4,trivial⟩ 1000 (.fork (.ln 9 (.lit .all)) (.ln 7 (.fork (.ln 5 (.fork .all .all)) (.ln 5 (.lit .all)))))
  (t:=let y0:Tree SV:=.leaf (.tuple [.int .i64 0,.int .i64 1]);.node (!m.ok) y0 (.node (decide (p>=-1073741824)) (.node (!decide (p<=1073741824)) y0 (.req true (.req (true) (.req (inR m.e.den 1 4611686018427387904&&inR (i64.wrap (p*m.e.num)) (-4611686018427387904) 4611686018427387904) (.leaf (.tuple [.int .i64 (rnd (i64.wrap (p*m.e.num)) m.e.den),.int .i64 0])))))) y0))
  (by kernel_rfl) (by
   simp only[Tree.holds,sL,ne_eq,sLb,sLc,eq_self,sLd,sLe,sLf];(repeat' (first|apply And.intro|intro _));
   all_goals first
    |(rw[zU0 (Bool.eq_false_iff.2 (by rw[ne_eq,n9];first|omega|grind))];rfl)
    |(have hk:=n9.1 (show xI8 m p=true by rw[n9];first|omega|grind)
      have hx:m.e.ok=true:=by have:=Ma.ok_iff m;grind
      have r:=xJ2 hx hk.2;have ho:=(Ax.ok_iff _).1 hx;have w:=w64 (x:=p*m.e.num) (by omega) (by omega)
      first
      |(rw[zU1 (n9.2 hk),w];rfl)
      |(rw[w,j8];omega)
      |(rw[j8];omega))) (by kernel_rfl) (by unfold zT9;split<;>rfl)
theorem xv2(m:Ma)(p:Int):SCall pP 303 [m.sv,J 3,J p] (zT9 (xI8 m p) (e7 m.e p)):=
 v8 mix [z46,qa7] ⟨yh8,yo5,trivial⟩ 1000 (.fork (.ln 11 (.lit .all)) (.ln 8 (.fork (.lit (.lit (.lit .all))) (.lit (.lit (.fork .all .all))))))
  (t:=let y0:Tree SV:=.leaf (.tuple [.int .i64 0,.int .i64 1]);.node (!m.ok) y0 (.node (decide (p < -1073741824)) y0 (.node (decide (p>1073741824)) y0 (.req true (.req (true) (.req (inR m.e.den 1 4611686018427387904&&inR (i64.wrap (p*m.e.num)) (-4611686018427387904) 4611686018427387904) (.leaf (.tuple [.int .i64 (rnd (i64.wrap (p*m.e.num)) m.e.den),.int .i64 0]))))))))
  (by kernel_rfl) (by
   simp only[Tree.holds,sL,ne_eq,sLb,sLc,eq_self,sLd,sLe,sLf];(repeat' (first|apply And.intro|intro _));
   all_goals first
    |(rw[zU0 (Bool.eq_false_iff.2 (by rw[ne_eq,n9];first|omega|grind))];rfl)
    |(have hk:=n9.1 (show xI8 m p=true by rw[n9];first|omega|grind)
      have hx:m.e.ok=true:=by have:=Ma.ok_iff m;grind
      have r:=xJ2 hx hk.2;have ho:=(Ax.ok_iff _).1 hx;have w:=w64 (x:=p*m.e.num) (by omega) (by omega)
      first
      |(rw[zU1 (n9.2 hk),w];rfl)
      |(rw[w,j8];omega)
      |(rw[j8];omega))) (by kernel_rfl) (by unfold zT9;split<;>rfl)
theorem xy9(m:Ma)(p:Int):SCall pP 192 [m.sv,J 3,J p] (zT9 (f9 m p) (xW0 m.e p)):=
 v8 mix [z45,qa6] ⟨yh7,yo4,trivial⟩ 1000 (.fork (.ln 9 (.lit .all)) (.ln 7 (.fork (.ln 5 (.fork .all .all)) (.ln 5 (.lit .all)))))
  (t:=let y0:Tree SV:=.leaf (.tuple [.int .i64 0,.int .i64 1]);.node (!m.ok) y0 (.node (decide (p>=-70368744177664)) (.node (!decide (p<=70368744177664)) y0 (.req true (.req (true) (.req (inR m.e.num 1 4611686018427387904&&inR (i64.wrap (p*m.e.den)) (-4611686018427387904) 4611686018427387904) (.leaf (.tuple [.int .i64 (rnd (i64.wrap (p*m.e.den)) m.e.num),.int .i64 0])))))) y0))
  (by kernel_rfl) (by
   simp only[Tree.holds,sL,ne_eq,sLb,sLc,eq_self,sLd,sLe,sLf];(repeat' (first|apply And.intro|intro _));
   all_goals first
    |(rw[zU0 (Bool.eq_false_iff.2 (by rw[ne_eq,xV1];first|omega|grind))];rfl)
    |(have hk:=xV1.1 (show f9 m p=true by rw[xV1];first|omega|grind)
      have hx:m.e.ok=true:=by have:=Ma.ok_iff m;grind
      have r:=xV2 hx (by omega) hk.2;have ho:=(Ax.ok_iff _).1 hx;have w:=w64 (x:=p*m.e.den) (by omega) (by omega)
      first
      |(rw[zU1 (xV1.2 hk),w];rfl)
      |(rw[w,j8];omega)
      |(rw[j8];omega))) (by kernel_rfl) (by unfold zT9;split<;>rfl)
theorem xz0(m:Ma)(p:Int):SCall pP 112 [m.sv,J 3,J p] (zT9 (f9 m p) (xW0 m.e p)):=
 v8 mix [z46,qa7] ⟨yh8,yo5,trivial⟩ 1000 (.fork (.ln 11 (.lit .all)) (.ln 8 (.fork (.lit (.lit (.lit .all))) (.lit (.lit (.fork .all .all))))))
  (t:=let y0:Tree SV:=.leaf (.tuple [.int .i64 0,.int .i64 1]);.node (!m.ok) y0 (.node (decide (p < -70368744177664)) y0 (.node (decide (p>70368744177664)) y0 (.req true (.req (true) (.req (inR m.e.num 1 4611686018427387904&&inR (i64.wrap (p*m.e.den)) (-4611686018427387904) 4611686018427387904) (.leaf (.tuple [.int .i64 (rnd (i64.wrap (p*m.e.den)) m.e.num),.int .i64 0]))))))))
  (by kernel_rfl) (by
   simp only[Tree.holds,sL,ne_eq,sLb,sLc,eq_self,sLd,sLe,sLf];(repeat' (first|apply And.intro|intro _));
   all_goals first
    |(rw[zU0 (Bool.eq_false_iff.2 (by rw[ne_eq,xV1];first|omega|grind))];rfl)
    |(have hk:=xV1.1 (show f9 m p=true by rw[xV1];first|omega|grind)
      have hx:m.e.ok=true:=by have:=Ma.ok_iff m;grind
      have r:=xV2 hx (by omega) hk.2;have ho:=(Ax.ok_iff _).1 hx;have w:=w64 (x:=p*m.e.den) (by omega) (by omega)
      first
      |(rw[zU1 (xV1.2 hk),w];rfl)
      |(rw[w,j8];omega)
      |(rw[j8];omega))) (by kernel_rfl) (by unfold zT9;split<;>rfl)
def qf9(f:FuncId)(h:Co->Int->Tree SV):Fact:=⟨f,λargs=>match args with
 |[.agg [.int .i64 a0,.int .i64 a1,.int .i64 a2,.int .i64 a3,.int .i64 a4,.int .i64 a5],.int .i64 i] =>some (h ⟨a0,a1,a2,a3,a4,a5⟩ i)
 |_=>none⟩
theorem qg0{h:Co->Int->Tree SV}(k:∀c i,(h c i).says (SCall P f [c.sv,J i])):(qf9 f h).ok P:=λargs t ht=>by
 simp only[qf9]at ht
 split at ht
 .injection ht with ht;subst ht;exact k ⟨_,_,_,_,_,_⟩ _
 .cases ht
def qh7(f:FuncId)(h:Gu->Tree SV):Fact:=⟨f,λargs=>match args with
 |[.agg [.int .i64 a0,.int .i64 a1,.int .i64 a2,.int .i64 a3,.int .i64 a4,.int .i64 a5,.int .i64 a6,.int .i64 a7,.int .i64 a8,.int .i64 a9,.bool d]] =>some (h ⟨a0,a1,a2,a3,a4,a5,a6,a7,a8,a9,d⟩)
 |_=>none⟩
theorem qh8{h:Gu->Tree SV}(k:∀g,(h g).says (SCall P f [g.sv])):(qh7 f h).ok P:=λargs t ht=>by
 simp only[qh7]at ht
 split at ht
 .injection ht with ht;subst ht;exact k ⟨_,_,_,_,_,_,_,_,_,_,_⟩
 .cases ht
def qh5(f:FuncId)(h:Gu->Int->Tree SV):Fact:=⟨f,λargs=>match args with
 |[.agg [.int .i64 a0,.int .i64 a1,.int .i64 a2,.int .i64 a3,.int .i64 a4,.int .i64 a5,.int .i64 a6,.int .i64 a7,.int .i64 a8,.int .i64 a9,.bool d],.int .i64 i] =>some (h ⟨a0,a1,a2,a3,a4,a5,a6,a7,a8,a9,d⟩ i)
 |_=>none⟩
theorem qh6{h:Gu->Int->Tree SV}(k:∀g i,(h g i).says (SCall P f [g.sv,J i])):(qh5 f h).ok P:=λargs t ht=>by
 simp only[qh5]at ht
 split at ht
 .injection ht with ht;subst ht;exact k ⟨_,_,_,_,_,_,_,_,_,_,_⟩ _
 .cases ht
def Co.zero:Co:=⟨0,0,0,0,0,0⟩
def zl5(c:Co)(t:Int):Bool:=c.ok&&inR t 0 400000
variable{c:Co}
theorem zl6{t:Int}:zl5 c t=true↔c.ok=true/\0<=t/\t<=400000:=by simp only[zl5,Bool.and_eq_true,j8]
def Co.aim(c:Co)(t:Int):Co:=⟨t,c.kp,c.ki,c.scale,0,c.limit⟩
def zl7(c:Co)(t:Int):SV:=match zl5 c t with
 |true=>.tuple [Co.sv (c.aim t),J 0]
 |false=>.tuple [Co.sv Co.zero,J 1]
theorem zl9{t:Int}(h:zl5 c t=true):zl7 c t=.tuple [Co.sv (c.aim t),J 0] :=by unfold zl7;rw[h]
theorem zl8{t:Int}(h:zl5 c t=false):zl7 c t=.tuple [Co.sv Co.zero,J 1] :=by unfold zl7;rw[h]
def Gu.zero:Gu:=⟨0,0,0,0,0,0,0,0,0,0,false⟩
def Gu.touch(g:Gu):Gu:=match g.ok with
 |true=>{g with quiet:=0}
 |false=>g
def Gu.stop(g:Gu):Gu:=match g.ok with
 |true=>{g with fault:=4}
 |false=>g
variable{g:Gu}
theorem Gu.touch_yes(h:g.ok=true):g.touch={g with quiet:=0}:=by unfold Gu.touch;rw[h]
theorem Gu.touch_no(h:g.ok=false):g.touch=g:=by unfold Gu.touch;rw[h]
theorem Gu.stop_yes(h:g.ok=true):g.stop={g with fault:=4}:=by unfold Gu.stop;rw[h]
theorem Gu.stop_no(h:g.ok=false):g.stop=g:=by unfold Gu.stop;rw[h]
def Gu.resE(g:Gu)(r:Int):Int:=match g.ok with
 |true=>if g.fault=0 then 14 else if r<g.low then 16 else if g.high<r then 16 else 0
 |false=>1
def Gu.rest(g:Gu)(r:Int):Gu:=⟨g.low,g.high,g.watch,g.rise,g.band,r,0,g.idle,0,0,g.door⟩
theorem xa0(c:Co)(t:Int):Tree.holds (λv=>v=(zl7 c t)) (let y0:Tree SV:=.leaf (.tuple [.agg [.int .i64 0,.int .i64 0,.int .i64 0,.int .i64 0,.int .i64 0,.int .i64 0],.int .i64 1]);.node (!c.ok) y0 (.node (decide (t<0)) y0 (.node (decide (t>400000)) y0 (.leaf (.tuple [.agg [.int .i64 t,.int .i64 c.kp,.int .i64 c.ki,.int .i64 c.scale,.int .i64 0,.int .i64 c.limit],.int .i64 0])))):Tree SV):=by
  simp only[Tree.holds,sL,ne_eq,sLb,sLc,eq_self,sLd,sLe,sLf];(repeat' (first|apply And.intro|intro _));
  all_goals first
   |(rw[zl8 (Bool.eq_false_iff.2 (by rw[ne_eq,zl6];first|omega|grind))];rfl)
   |(rw[zl9 (zl6.2 (by first|omega|grind))];rfl)
theorem y98(c:Co)(t:Int):SCall pP 217 [c.sv,J t] (zl7 c t):=
 v8 mix [zY0] ⟨yb9,trivial⟩ 1000 (.fork (.ln 5 (.lit .all)) (.lit (.lit (.fork (.lit (.lit (.lit .all))) (.lit (.lit (.fork .all .all)))))))
  (by kernel_rfl) (xa0 c t) (by kernel_rfl) (by unfold zl7;split<;>rfl)
theorem y99(c:Co)(t:Int):SCall pP 275 [c.sv,J t] (zl7 c t):=
 v8 mix [zY1] ⟨yc0,trivial⟩ 1000 (.fork (.ln 5 (.lit .all)) (.lit (.lit (.fork (.lit (.lit (.lit .all))) (.lit (.lit (.fork .all .all)))))))
  (by kernel_rfl) (xa0 c t) (by kernel_rfl) (by unfold zl7;split<;>rfl)
def zW1:Fact:=qf9 217 λc t=>.node (zl5 c t) (.leaf (.tuple [Co.sv (c.aim t),J 0])) (.leaf (.tuple [Co.sv Co.zero,J 1]))
def zW2:Fact:=qf9 275 λc t=>.node (zl5 c t) (.leaf (.tuple [Co.sv (c.aim t),J 0])) (.leaf (.tuple [Co.sv Co.zero,J 1]))
theorem q97:zW1.ok pP:=qg0 (λc t=>⟨λhk=>zl9 hk▸y98 c t,λhk=>zl8 hk▸y98 c t⟩)
theorem q98:zW2.ok pP:=qg0 (λc t=>⟨λhk=>zl9 hk▸y99 c t,λhk=>zl8 hk▸y99 c t⟩)
theorem xx6(g:Gu):Tree.holds (λv=>v=(g.touch.sv)) (.node (g.ok) (.leaf (.agg [.int .i64 g.low,.int .i64 g.high,.int .i64 g.watch,.int .i64 g.rise,.int .i64 g.band,.int .i64 g.base,.int .i64 g.count,.int .i64 g.idle,.int .i64 0,.int .i64 g.fault,.bool g.door])) (.leaf (.agg [.int .i64 g.low,.int .i64 g.high,.int .i64 g.watch,.int .i64 g.rise,.int .i64 g.band,.int .i64 g.base,.int .i64 g.count,.int .i64 g.idle,.int .i64 g.quiet,.int .i64 g.fault,.bool g.door])):Tree SV):=by simp only[Tree.holds,sL,ne_eq,sLb,sLc,eq_self,sLd,sLe,sLf];(repeat' (first|apply And.intro|intro _));all_goals first|(rw[Gu.touch_yes (by assumption)];rfl)|(rw[Gu.touch_no (by assumption)];rfl)
theorem xx4(g:Gu):SCall pP 73 [g.sv] (g.touch.sv):=
 v8 mix [z15] ⟨ye8,trivial⟩ 1000 (.fork (.all) (.all))
  (by kernel_rfl) (xx6 g) (by kernel_rfl) (by kernel_rfl)
theorem xx5(g:Gu):SCall pP 157 [g.sv] (g.touch.sv):=
 v8 mix [z16] ⟨ye9,trivial⟩ 1000 (.fork (.all) (.all))
  (by kernel_rfl) (xx6 g) (by kernel_rfl) (by kernel_rfl)
def qd1:Fact:=qh7 73 λg=>.leaf g.touch.sv
def qd2:Fact:=qh7 157 λg=>.leaf g.touch.sv
theorem yr4:qd1.ok pP:=qh8 (xx4)
theorem yr5:qd2.ok pP:=qh8 (xx5)
theorem xv6(g:Gu):Tree.holds (λv=>v=(g.stop.sv)) (.node (g.ok) (.leaf (.agg [.int .i64 g.low,.int .i64 g.high,.int .i64 g.watch,.int .i64 g.rise,.int .i64 g.band,.int .i64 g.base,.int .i64 g.count,.int .i64 g.idle,.int .i64 g.quiet,.int .i64 4,.bool g.door])) (.leaf (.agg [.int .i64 g.low,.int .i64 g.high,.int .i64 g.watch,.int .i64 g.rise,.int .i64 g.band,.int .i64 g.base,.int .i64 g.count,.int .i64 g.idle,.int .i64 g.quiet,.int .i64 g.fault,.bool g.door])):Tree SV):=by simp only[Tree.holds,sL,ne_eq,sLb,sLc,eq_self,sLd,sLe,sLf];(repeat' (first|apply And.intro|intro _));all_goals first|(rw[Gu.stop_yes (by assumption)];rfl)|(rw[Gu.stop_no (by assumption)];rfl)
theorem xv4(g:Gu):SCall pP 211 [g.sv] (g.stop.sv):=
 v8 mix [z15] ⟨ye8,trivial⟩ 1000 (.fork (.all) (.all))
  (by kernel_rfl) (xv6 g) (by kernel_rfl) (by kernel_rfl)
theorem xv5(g:Gu):SCall pP 158 [g.sv] (g.stop.sv):=
 v8 mix [z16] ⟨ye9,trivial⟩ 1000 (.fork (.all) (.all))
  (by kernel_rfl) (xv6 g) (by kernel_rfl) (by kernel_rfl)
def qc2:Fact:=qh7 211 λg=>.leaf g.stop.sv
def qc3:Fact:=qh7 158 λg=>.leaf g.stop.sv
theorem yq1:qc2.ok pP:=qh8 (xv4)
theorem yq2:qc3.ok pP:=qh8 (xv5)
theorem xr3(g:Gu)(r:Int):Tree.holds (λv=>v=(.tuple [if g.resE r=0 then(g.rest r).sv else Gu.zero.sv,J (g.resE r)])) (let y0:Tree SV:=.leaf (.tuple [.agg [.int .i64 0,.int .i64 0,.int .i64 0,.int .i64 0,.int .i64 0,.int .i64 0,.int .i64 0,.int .i64 0,.int .i64 0,.int .i64 0,.bool false],.int .i64 16]);.node (!g.ok) (.leaf (.tuple [.agg [.int .i64 0,.int .i64 0,.int .i64 0,.int .i64 0,.int .i64 0,.int .i64 0,.int .i64 0,.int .i64 0,.int .i64 0,.int .i64 0,.bool false],.int .i64 1])) (.node (g.fault==0) (.leaf (.tuple [.agg [.int .i64 0,.int .i64 0,.int .i64 0,.int .i64 0,.int .i64 0,.int .i64 0,.int .i64 0,.int .i64 0,.int .i64 0,.int .i64 0,.bool false],.int .i64 14])) (.node (decide (r<g.low)) y0 (.node (decide (r>g.high)) y0 (.leaf (.tuple [.agg [.int .i64 g.low,.int .i64 g.high,.int .i64 g.watch,.int .i64 g.rise,.int .i64 g.band,.int .i64 r,.int .i64 0,.int .i64 g.idle,.int .i64 0,.int .i64 0,.bool g.door],.int .i64 0]))))):Tree SV):=by
  simp only[Tree.holds,sL,ne_eq,sLb,sLc,eq_self,sLd,sLe,sLf];(repeat' (first|apply And.intro|intro _));
  all_goals(unfold Gu.resE;simp_all only[];grind[Gu.rest,Gu.zero,Gu.sv,Gu.cells,J])
theorem xr1(g:Gu)(r:Int):SCall pP 212 [g.sv,J r] (.tuple [if g.resE r=0 then(g.rest r).sv else Gu.zero.sv,J (g.resE r)]):=
 v8 mix [z15] ⟨ye8,trivial⟩ 1000 (.fork .all (.fork .all (.fork (.ln 4 (.lit .all)) (.ln 4 (.fork .all .all)))))
  (by kernel_rfl) (xr3 g r) (by kernel_rfl) (by split<;>rfl)
theorem xr2(g:Gu)(r:Int):SCall pP 220 [g.sv,J r] (.tuple [if g.resE r=0 then(g.rest r).sv else Gu.zero.sv,J (g.resE r)]):=
 v8 mix [z16] ⟨ye9,trivial⟩ 1000 (.fork .all (.fork .all (.fork (.ln 4 (.lit .all)) (.ln 4 (.fork .all .all)))))
  (by kernel_rfl) (xr3 g r) (by kernel_rfl) (by split<;>rfl)
def qa0:Fact:=qh5 212 λg r=>.node (decide (g.resE r=0)) (.leaf (.tuple [(g.rest r).sv,J 0])) (.leaf (.tuple [Gu.zero.sv,J (g.resE r)]))
def qa1:Fact:=qh5 220 λg r=>.node (decide (g.resE r=0)) (.leaf (.tuple [(g.rest r).sv,J 0])) (.leaf (.tuple [Gu.zero.sv,J (g.resE r)]))
theorem yn7:qa0.ok pP:=qh6 (λg r=>by
 have h:=xr1 g r;constructor
 .intro hd
  have hd:=of_decide_eq_true hd;rw[if_pos hd,hd]at h;exact h
 .intro hd
  have hd:=of_decide_eq_false hd
  rw[if_neg hd]at h;exact h)
theorem yn8:qa1.ok pP:=qh6 (λg r=>by
 have h:=xr2 g r;constructor
 .intro hd
  have hd:=of_decide_eq_true hd;rw[if_pos hd,hd]at h;exact h
 .intro hd
  have hd:=of_decide_eq_false hd
  rw[if_neg hd]at h;exact h)
end Go.Proofs.YtnkaepnblikcdaaGreat
namespace Go.Proofs.YtnkaepnblikcdaaGreat.Gc
open Go.Sx
structure C where
 code:Int
 has:Int
 x:Int
 y:Int
 z:Int
 e:Int
 f:Int
 s:Int
def C.cells(c:C):List SV:=[J c.code,J c.has,J c.x,J c.y,J c.z,J c.e,J c.f,J c.s]
def C.sv(c:C):SV:=.agg c.cells
def oneS(k:Int):Prop:=k=4\/k=1104\/k=1109\/k=1140\/k=1190\/k=1106
def none0(k:Int):Prop:=k=28\/k=1024\/k=1025\/k=1107\/k=1112\/k=1999
instance (k:Int):Decidable (oneS k):=by unfold oneS;infer_instance
instance (k:Int):Decidable (none0 k):=by unfold none0;infer_instance
def may(k:Int):Int:=if k=0 then 23 else if k=1 then 31 else if oneS k then 32 else 0
def allW(k:Int):Bool:=decide (oneS k)||decide (none0 k)
def okC(k:Int):Bool:=decide (k=0)||(decide (k=1)||(decide (oneS k)||decide (none0 k)))
def lo(k:Int)(w:Int):Int:=if w=4 then 1 else if w≠5 then -1073741824 else 0
def hi(k:Int)(w:Int):Int:=if w=4 then 1048576 else if w≠5 then 1073741824 else if k=4 then 1048576 else if k=1106 then 255 else 400000
def C.num(c:C)(w:Int):Int:=if w=0 then c.x else if w=1 then c.y else if w=2 then c.z else if w=3 then c.e else if w=4 then c.f else c.s
def factC(f:FuncId)(h:C->Tree SV):Fact:=⟨f,λargs=>match args with
 |[.agg [.int .i64 a0,.int .i64 a1,.int .i64 a2,.int .i64 a3,.int .i64 a4,.int .i64 a5,.int .i64 a6,.int .i64 a7]] =>some (h ⟨a0,a1,a2,a3,a4,a5,a6,a7⟩)
 |_=>none⟩
theorem factC_ok{P:Program}{f:FuncId}{h:C->Tree SV}(k:∀c,(h c).says (SCall P f [c.sv])):(factC f h).ok P:=λargs t ht=>by
 simp only[factC]at ht
 split at ht
 .injection ht with ht;subst ht;exact k ⟨_,_,_,_,_,_,_,_⟩
 .cases ht
def qe7:Fact:=qi0 140 λk=>.leaf (.tuple [J (may k),.bool (allW k),.bool (okC k)])
def qb6:Fact:=qi3 142 λk w=>.leaf (.tuple [J (lo k w),J (hi k w)])
def zW5:Fact:=qi0 153 λk=>.leaf (J (may k))
def zY3:Fact:=qi3 154 λk h=>.leaf (.bool (!(may k==32)||h==32))
def yS7(k w n:Int):Bool:=if w<4 then inR n (-1073741824) 1073741824 else if w=4 then inR n 1 1048576 else if k=4 then inR n 0 1048576 else if k=1106 then inR n 0 255 else inR n 0 400000
def z92:Fact:=qi4 156 λk w n=>.leaf (.bool (yS7 k w n))
def zZ6:Fact:=⟨141,λargs=>match args with
 |[.ptr id off,.int .i64 w] =>some (.node (w==0) (.leaf (.ptr id (off+2))) (.node (w==1) (.leaf (.ptr id (off+3))) (.node (w==2) (.leaf (.ptr id (off+4))) (.node (w==3) (.leaf (.ptr id (off+5))) (.node (w==4) (.leaf (.ptr id (off+6))) (.leaf (.ptr id (off+7))))))))
 |_=>none⟩
def zE6:List Int:=[0,1,4,28,1024,1025,1104,1106,1107,1109,1112,1140,1190,1999]
def zY2:Fact:=qf0 219 (.leaf (.list (.int .i64) zE6))
def zZ7:Fact:=factC 155 λc=>.leaf (.list (.int .i64) [c.x,c.y,c.z,c.e,c.f,c.s])
def z35:Fact:=qi0 152 λk=>.leaf (.bool (okC k))
theorem xA1(k:Int):SCall pP 140 [J k] (.tuple [J (may k),.bool (allW k),.bool (okC k)]):=
 v8 mix [] trivial 1000 (let z1:Plan:=.fork (.all) (.all);let z0:Plan:=.fork (.all) (.fork z1 (.fork z1 (.fork z1 (.fork z1 (.fork z1 z1)))));.fork (.all) (.fork (.all) (.fork z0 (.fork z0 (.fork z0 (.fork z0 (.fork z0 z0)))))))
  (t:=let y1:Tree SV:=.leaf (.tuple [J 0,.bool false,.bool false]);let y2:Tree SV:=.leaf (.tuple [J 32,.bool true,.bool true]);let y3:Tree SV:=.leaf (.tuple [J 0,.bool true,.bool true]);let y0:Tree SV:=.node (k==28) (.node (k==28) y3 y1) (.node (k==1024) (.node (k==1024) y3 y1) (.node (k==1025) (.node (k==1025) y3 y1) (.node (k==1107) (.node (k==1107) y3 y1) (.node (k==1112) (.node (k==1112) y3 y1) (.node (k==1999) y3 y1)))));.node (k==0) (.leaf (.tuple [J 23,.bool false,.bool true])) (.node (k==1) (.leaf (.tuple [J 31,.bool false,.bool true])) (.node (k==4) (.node (k==4) y2 y0) (.node (k==1104) (.node (k==1104) y2 y0) (.node (k==1109) (.node (k==1109) y2 y0) (.node (k==1140) (.node (k==1140) y2 y0) (.node (k==1190) (.node (k==1190) y2 y0) (.node (k==1106) y2 y0))))))))
  (by kernel_rfl) (by
   simp only[Tree.holds]
   repeat' (first|apply And.intro|intro _)
   all_goals(simp_all[may,allW,okC,lo,hi,oneS,none0,yS7,inR,J,C.sv,C.cells])) (by kernel_rfl) (by kernel_rfl)
theorem yt4:qe7.ok pP:=qi7 xA1
theorem xt9(k w:Int):SCall pP 142 [J k,J w] (.tuple [J (lo k w),J (hi k w)]):=
 v8 mix [] trivial 1000 (.fork (.all) (.fork (.all) (.fork (.all) (.fork (.all) (.all)))))
  (t:=.node (w==4)
 (.leaf (SV.tuple [J 1,J 1048576]))
 (.node (w != 5)
  (.leaf (SV.tuple [J (-1073741824),J 1073741824]))
  (.node (k==4)
   (.leaf (SV.tuple [J 0,J 1048576]))
   (.node (k==1106)
    (.leaf (SV.tuple [J 0,J 255]))
    (.leaf (SV.tuple [J 0,J 400000]))))))
   (by kernel_rfl) (by
    simp only[Tree.holds]
    repeat' (first|apply And.intro|intro _)
    all_goals(simp_all[may,allW,okC,lo,hi,oneS,none0,yS7,inR,J,C.sv,C.cells])) (by kernel_rfl) (by kernel_rfl)
theorem yp5:qb6.ok pP:=qi6 xt9
theorem xa3(k:Int):SCall pP 153 [J k] (J (may k)):=
 v8 mix [] trivial 1000 (.fork (.all) (.fork (.all) (.fork (.fork (.all) (.all)) (.fork (.fork (.all) (.all)) (.fork (.fork (.all) (.all)) (.fork (.fork (.all) (.all)) (.fork (.fork (.all) (.all)) (.fork (.all) (.all)))))))))
  (t:=let y0:Tree SV:=.leaf (J 32);let y1:Tree SV:=.leaf (J 0);.node (k==0) (.leaf (J 23)) (.node (k==1) (.leaf (J 31)) (.node (k==4) (.node (k==4) y0 y1) (.node (k==1104) (.node (k==1104) y0 y1) (.node (k==1109) (.node (k==1109) y0 y1) (.node (k==1140) (.node (k==1140) y0 y1) (.node (k==1190) (.node (k==1190) y0 y1) (.node (k==1106) y0 y1))))))))
  (by kernel_rfl) (by
   simp only[Tree.holds]
   repeat' (first|apply And.intro|intro _)
   all_goals(simp_all[may,allW,okC,lo,hi,oneS,none0,yS7,inR,J,C.sv,C.cells])) (by kernel_rfl) (by kernel_rfl)
theorem ya1:zW5.ok pP:=qi7 xa3
theorem xc1(k h:Int):SCall pP 154 [J k,J h] (.bool (!(may k==32)||h==32)):=
 v8 mix [zW5] ⟨ya1,trivial⟩ 1000 (.fork (.lit (.lit (.all))) (.lit (.lit (.all))))
  (t:=.node (may k != 32)
 (.leaf (SV.bool true))
 (.leaf (SV.bool (h==32))))
   (by kernel_rfl) (by
    simp only[Tree.holds]
    repeat' (first|apply And.intro|intro _)
    all_goals(simp_all[may,allW,okC,lo,hi,oneS,none0,yS7,inR,J,C.sv,C.cells])) (by kernel_rfl) (by kernel_rfl)
theorem yc2:zY3.ok pP:=qi6 xc1
theorem xq2(k w n:Int):SCall pP 156 [J k,J w,J n] (.bool (yS7 k w n)):=
 v8 mix [] trivial 1000 (.fork (.fork (.lit (.lit (.all))) (.lit (.lit (.all)))) (.fork (.fork (.lit (.lit (.all))) (.lit (.lit (.all)))) (.fork (.fork (.lit (.lit (.all))) (.lit (.lit (.all)))) (.fork (.fork (.lit (.lit (.all))) (.lit (.lit (.all)))) (.fork (.lit (.lit (.all))) (.lit (.lit (.all))))))))
  (t:=let y0:Tree SV:=.leaf (.bool false);.node (decide (w<4)) (.node (decide (n>=-1073741824)) (.leaf (.bool (decide (n<=1073741824)))) y0) (.node (w==4) (.node (decide (n>=1)) (.leaf (.bool (decide (n<=1048576)))) y0) (.node (k==4) (.node (decide (n>=0)) (.leaf (.bool (decide (n<=1048576)))) y0) (.node (k==1106) (.node (decide (n>=0)) (.leaf (.bool (decide (n<=255)))) y0) (.node (decide (n>=0)) (.leaf (.bool (decide (n<=400000)))) y0)))))
  (by kernel_rfl) (by
   simp only[Tree.holds]
   repeat' (first|apply And.intro|intro _)
   all_goals(simp_all[yS7,inR,J])
   all_goals((repeat' split)<;>intros<;>omega)) (by kernel_rfl) (by kernel_rfl)
theorem ym8:z92.ok pP:=qi5 xq2
theorem hK{l:List Fact}(h:zm7 pP l):Known pP (Env.of pP (j9 l)):=qO7 mix (xL8 l h.all)
theorem xe3(id off:Nat)(w:Int):(Tree.node (w==0) (.leaf (.ptr id (off+2))) (.node (w==1) (.leaf (.ptr id (off+3))) (.node (w==2) (.leaf (.ptr id (off+4))) (.node (w==3) (.leaf (.ptr id (off+5))) (.node (w==4) (.leaf (.ptr id (off+6))) (.leaf (.ptr id (off+7)))))))).says (SCall pP 141 [.ptr id off,J w]):=by
 have key:∀v,(∀m,(zU2 (Env.of pP (j9 [])) 1000 141 [.ptr id off,J w] .all m).holds λx=>x=(v,m))->SCall pP 141 [.ptr id off,J w] v:=λv h=>xC5 (hK (l:=[]) trivial) h
 have e:∀m,zU2 (Env.of pP (j9 [])) 1000 141 [.ptr id off,J w] .all m=.node (w==0) (.leaf (.ptr id (off+2),m)) (.node (w==1) (.leaf (.ptr id (off+3),m)) (.node (w==2) (.leaf (.ptr id (off+4),m)) (.node (w==3) (.leaf (.ptr id (off+5),m)) (.node (w==4) (.leaf (.ptr id (off+6),m)) (.leaf (.ptr id (off+7),m)))))):=λm=>by kernel_rfl
 simp only[Tree.says]
 refine⟨λh=>key _ λm=>?_,λh1=>⟨λh=>key _ λm=>?_,λh2=>⟨λh=>key _ λm=>?_,λh3=>⟨λh=>key _ λm=>?_,λh4=>⟨λh=>key _ λm=>?_,λh5=>key _ λm=>?_⟩⟩⟩⟩⟩<;>rw[e m]<;>simp_all[Tree.holds]
theorem yd3:zZ6.ok pP:=λargs t ht=>by
 simp only[zZ6]at ht
 split at ht
 .injection ht with ht;subst ht;exact xe3 _ _ _
 .cases ht
def zE8:Plan:=.all
noncomputable def zE9(_:Unit):Tree Stop:= .leaf (.done (.list (Ty.int IntKind.i64) zE6))
theorem zE7(_:Unit):o7 (Env.of pP (j9 [])) 1000 (x9 pP 219) .unit (x6 10 []) (v7 pP 219) zE8 (v6 pP 219 []) [] =zE9 ():=by kernel_rfl
theorem xc0:SCall pP 219 [] (.list (.int .i64) zE6):=by
 refine s7 rfl rfl (by kernel_rfl) (o5 (hK (l:=[]) trivial) (n:=1000) (hint:=.unit) (keep:=x6 10 []) (p:=zE8) (boxes:=[]) rfl ?_);have e:=zE7 ();unfold v6 v7 at e;erw [e];exact rfl
theorem yc1:zY2.ok pP:=qf1 xc0
def qo6:Plan:=.all
theorem qo5(c:C):o7 (Env.of pP (j9 [])) 1000 (x9 pP 155) .unit (x6 10 []) (v7 pP 155) qo6 (v6 pP 155 [c.sv]) [] =(.leaf (.done (.list (Ty.int IntKind.i64) [c.x,c.y,c.z,c.e,c.f,c.s]))):=by kernel_rfl
theorem xe4(c:C):SCall pP 155 [c.sv] (.list (.int .i64) [c.x,c.y,c.z,c.e,c.f,c.s]):=by
 refine s7 rfl rfl (by kernel_rfl) (o5 (hK (l:=[]) trivial) (n:=1000) (hint:=.unit) (keep:=x6 10 []) (p:=qo6) (boxes:=[]) rfl ?_);have e:=qo5 c;unfold v6 v7 at e;erw [e];exact rfl
theorem yd4:zZ7.ok pP:=factC_ok xe4
def qO3:Plan:=.all
theorem qO2(k:Int):o7 (Env.of pP (j9 [zY2])) 1000 (x9 pP 152) .unit (x6 18 [0,3,4]) (v7 pP 152) qO3 (v6 pP 152 [J k]) [] =(.leaf (.at (x8 pP 152 0) 18 (x7 18 [(0,J k),(3,.list (Ty.int IntKind.i64) zE6),(4,J 0)]) [])):=by kernel_rfl
def qO5:Plan:=.fork (.fork (.all) (.all)) (.all)
theorem qO4(k i:Int):o7 (Env.of pP (j9 [zY2])) 1000 (x9 pP 152) .unit (x6 18 [0,3,4]) (x8 pP 152 0) qO5 (x7 18 [(0,J k),(3,.list (.int .i64) zE6),(4,J i)]) [] =(.node (decide (i<14)) (.req (decide (0<=i)&&decide (i<14)) (.node (zE6.getD i.toNat 0==k) (.leaf (.done (.bool true))) (.leaf (.at (x8 pP 152 0) 18 (x7 18 [(0,J k),(3,.list (Ty.int IntKind.i64) zE6),(4,J (i64.wrap (i+1)))]) [])))) (.leaf (.done (.bool false)))):=by kernel_rfl
def xX3:Plan:=.fork (.ln 9 (.lit .all)) (.ln 5 (.fork (.ln 3 (.lit .all)) (.lit (.fork (.ln 6 (.fork .all .all)) (.ln 6 (.lit .all))))))
theorem xX2(c:C):o7 (Env.of pP (j9 [qe7,qb6,zZ6])) 1000 (x9 pP 71) .unit (x6 64 [1,35]) (v7 pP 71) xX3 (v6 pP 71 [c.sv]) [] =(let y0:Tree Stop:=.leaf (.at (x8 pP 71 0) 64 (x7 64 [(1,.ptr 0 0),(35,J 0)]) [some (.cells [J c.code,J c.has,J c.x,J c.y,J c.z,J c.e,J c.f,J c.s])]); .node (!okC c.code) (.leaf (.done (.bool false))) (.node (i64.wrap ↑(BitVec.ofInt 64 c.has &&& ~~~BitVec.ofInt 64 (may c.code)).toNat != 0) (.leaf (.done (.bool false))) (.node (allW c.code) (.node (c.has != may c.code) (.leaf (.done (.bool false))) y0) y0))):=by kernel_rfl
def xX5:Plan:=let z1:Plan:=.fork (.ln 3 (.lit .all)) (.ln 3 (.fork .all .all));let z0:Plan:=.fork z1 z1;.fork (.fork z0 (.fork z0 (.fork z0 (.fork z0 (.fork z0 z0))))) .all
noncomputable def xX6(c:C)(i:Int):Tree Stop:=let y0:Tree Stop:=.leaf (.at (x8 pP 71 0) 64 (x7 64 [(1,.ptr 0 0),(35,J (i64.wrap (i+1)))]) [some (.cells [J c.code,J c.has,J c.x,J c.y,J c.z,J c.e,J c.f,J c.s])]);let y1:Tree Stop:=.leaf (.done (.bool false));let y2:=i64.wrap ↑(BitVec.ofInt 64 (c.has.fdiv (2 ^ min i.toNat 64)) &&&BitVec.ofInt 64 1).toNat==0;let y3:=decide (0<=i); .node (decide (i<6)) (.node (i==0) (.req y3 (.node y2 (.node (decide (c.x<0)) y1 (.node (decide (c.x>0)) y1 y0)) (.node (decide (c.x<lo c.code i)) y1 (.node (decide (c.x>hi c.code i)) y1 y0)))) (.node (i==1) (.req y3 (.node y2 (.node (decide (c.y<0)) y1 (.node (decide (c.y>0)) y1 y0)) (.node (decide (c.y<lo c.code i)) y1 (.node (decide (c.y>hi c.code i)) y1 y0)))) (.node (i==2) (.req y3 (.node y2 (.node (decide (c.z<0)) y1 (.node (decide (c.z>0)) y1 y0)) (.node (decide (c.z<lo c.code i)) y1 (.node (decide (c.z>hi c.code i)) y1 y0)))) (.node (i==3) (.req y3 (.node y2 (.node (decide (c.e<0)) y1 (.node (decide (c.e>0)) y1 y0)) (.node (decide (c.e<lo c.code i)) y1 (.node (decide (c.e>hi c.code i)) y1 y0)))) (.node (i==4) (.req y3 (.node y2 (.node (decide (c.f<0)) y1 (.node (decide (c.f>0)) y1 y0)) (.node (decide (c.f<lo c.code i)) y1 (.node (decide (c.f>hi c.code i)) y1 y0)))) (.req y3 (.node y2 (.node (decide (c.s<0)) y1 (.node (decide (c.s>0)) y1 y0)) (.node (decide (c.s<lo c.code i)) y1 (.node (decide (c.s>hi c.code i)) y1 y0))))))))) (.leaf (.done (.bool true)))
theorem xX4(c:C)(i:Int):o7 (Env.of pP (j9 [qe7,qb6,zZ6])) 1000 (x9 pP 71) .unit (x6 64 [1,35]) (x8 pP 71 0) xX5 (x7 64 [(1,.ptr 0 0),(35,J i)]) [some (.cells c.cells)] =xX6 c i:=by kernel_rfl
def xY2:Plan:=.fork (.ln 18 (.lit .all)) (.ln 3 (.fork (.ln 14 (.lit .all)) (.ln 7 (.fork (.ln 6 (.lit .all)) (.ln 6 (.fork .all .all))))))
theorem xY1(c:C):o7 (Env.of pP (j9 [z35,zW5,zY3,zZ7,z92])) 1000 (x9 pP 74) .unit (x6 70 [1,3,4]) (v7 pP 74) xY2 (v6 pP 74 [c.sv]) [] =(let y0:Tree Stop:=.leaf (.done (.bool false)); .node (!okC c.code) y0 (.node (decide (c.has<0)) y0 (.node (i64.wrap ↑(BitVec.ofInt 64 c.has &&& ~~~BitVec.ofInt 64 (may c.code)).toNat != 0) y0 (.node (!(!may c.code==32||c.has==32)) y0 (.leaf (.at (x8 pP 74 0) 70 (x7 70 [(1,.ptr 0 0),(3,.list (Ty.int IntKind.i64) [c.x,c.y,c.z,c.e,c.f,c.s]),(4,J 0)]) [some (.cells [J c.code,J c.has,J c.x,J c.y,J c.z,J c.e,J c.f,J c.s])])))))):=by kernel_rfl
def xY4:Plan:=let z0:Plan:=.fork (.ln 7 (.fork .all .all)) (.ln 7 (.lit .all));.fork (.fork (.ln 9 (.fork (.ln 4 (.lit .all)) (.lit (.lit z0)))) (.ln 12 z0)) .all
noncomputable def xY5(c:C)(i:Int):Tree Stop:= .node (decide (i<↑[c.x,c.y,c.z,c.e,c.f,c.s].length)) (.req (decide (0<=u64.wrap i)) (.node (i64.wrap ↑(BitVec.ofInt 64 (c.has.fdiv (2 ^ min (u64.wrap i).toNat 64)) &&&BitVec.ofInt 64 1).toNat==1) (.req (decide (0<=i)&&decide (i<↑[c.x,c.y,c.z,c.e,c.f,c.s].length)) (.node (!yS7 c.code i ([c.x,c.y,c.z,c.e,c.f,c.s].getD i.toNat 0)) (.leaf (.done (.bool false))) (.node (!i64.wrap ↑(BitVec.ofInt 64 (c.has.fdiv (2 ^ min (u64.wrap i).toNat 64)) &&&BitVec.ofInt 64 1).toNat==1) (.req (decide (0<=i)&&decide (i<↑[c.x,c.y,c.z,c.e,c.f,c.s].length)) (.node ([c.x,c.y,c.z,c.e,c.f,c.s].getD i.toNat 0 != 0) (.leaf (.done (.bool false))) (.leaf (.at (x8 pP 74 0) 70 (x7 70 [(1,.ptr 0 0),(3,.list (Ty.int IntKind.i64) [c.x,c.y,c.z,c.e,c.f,c.s]),(4,J (i64.wrap (i+1)))]) [some (.cells [J c.code,J c.has,J c.x,J c.y,J c.z,J c.e,J c.f,J c.s])])))) (.leaf (.at (x8 pP 74 0) 70 (x7 70 [(1,.ptr 0 0),(3,.list (Ty.int IntKind.i64) [c.x,c.y,c.z,c.e,c.f,c.s]),(4,J (i64.wrap (i+1)))]) [some (.cells [J c.code,J c.has,J c.x,J c.y,J c.z,J c.e,J c.f,J c.s])]))))) (.node (!i64.wrap ↑(BitVec.ofInt 64 (c.has.fdiv (2 ^ min (u64.wrap i).toNat 64)) &&&BitVec.ofInt 64 1).toNat==1) (.req (decide (0<=i)&&decide (i<↑[c.x,c.y,c.z,c.e,c.f,c.s].length)) (.node ([c.x,c.y,c.z,c.e,c.f,c.s].getD i.toNat 0 != 0) (.leaf (.done (.bool false))) (.leaf (.at (x8 pP 74 0) 70 (x7 70 [(1,.ptr 0 0),(3,.list (Ty.int IntKind.i64) [c.x,c.y,c.z,c.e,c.f,c.s]),(4,J (i64.wrap (i+1)))]) [some (.cells [J c.code,J c.has,J c.x,J c.y,J c.z,J c.e,J c.f,J c.s])])))) (.leaf (.at (x8 pP 74 0) 70 (x7 70 [(1,.ptr 0 0),(3,.list (Ty.int IntKind.i64) [c.x,c.y,c.z,c.e,c.f,c.s]),(4,J (i64.wrap (i+1)))]) [some (.cells [J c.code,J c.has,J c.x,J c.y,J c.z,J c.e,J c.f,J c.s])]))))) (.leaf (.done (.bool true)))
theorem xY3(c:C)(i:Int):o7 (Env.of pP (j9 [z35,zW5,zY3,zZ7,z92])) 1000 (x9 pP 74) .unit (x6 70 [1,3,4]) (x8 pP 74 0) xY4 (x7 70 [(1,.ptr 0 0),(3,.list (.int .i64) [c.x,c.y,c.z,c.e,c.f,c.s]),(4,J i)]) [some (.cells c.cells)] =xY5 c i:=by kernel_rfl
def bit(h i:Int):Int:=i64.wrap ↑(BitVec.ofInt 64 (h.fdiv (2 ^ min i.toNat 64)) &&&BitVec.ofInt 64 1).toNat
def andNot(h m:Int):Int:=i64.wrap ↑(BitVec.ofInt 64 h &&& ~~~BitVec.ofInt 64 m).toNat
theorem zv9(h i:Int):bit h i=0\/bit h i=1:=by
 unfold bit;generalize BitVec.ofInt 64 (h.fdiv (2 ^ min i.toNat 64))=x
 have e:(x &&&BitVec.ofInt 64 1).toNat=x.toNat % 2:=by
  rw[BitVec.toNat_and];exact Nat.and_one_is_mod _
 rw[e]
 have h2:x.toNat % 2=0\/x.toNat % 2=1:=by omega
 rcases h2 with h2|h2<;>rw[h2]
 .exact .inl rfl
 .exact .inr rfl
variable{i:Int}
theorem xU5(h:0<=i/\i<=100):u64.wrap i=i:=by
 have h2:IntKind.wrap .u64 i=if false&&decide (i % 18446744073709551616>=9223372036854775808)then i % 18446744073709551616-18446744073709551616 else i % 18446744073709551616:=rfl
 rw[h2];simp only[Bool.false_and,Bool.false_eq_true,if_false];omega
def okW(c:C)(i:Int):Bool:=if bit c.has i=0 then c.num i==0 else inR (c.num i) (lo c.code i) (hi c.code i)
def rest(c:C):Nat->Bool
 |0=>true
 |n+1=>okW c (5-n)&&rest c n
theorem yZ4(c:C)(h:0<=i)(h6:i<6):rest c (6-i).toNat=(okW c i&&rest c (6-(i+1)).toNat):=by
 obtain⟨n,hn⟩:∃n:Nat,(6-i).toNat=n+1:=⟨(5-i).toNat,by omega⟩;rw[hn,show(6-(i+1)).toNat=n by omega,rest,show(5:Int)-n=i by omega]
def C.pre(c:C):Bool:=okC c.code&& (andNot c.has (may c.code)==0&&!(allW c.code&&!(c.has==may c.code)))
def C.preR(c:C):Bool:=okC c.code&& (decide (0<=c.has)&& (andNot c.has (may c.code)==0&& (!(may c.code==32)||c.has==32)))
def C.valid(c:C):Bool:=c.pre&&rest c 6
def C.validR(c:C):Bool:=c.preR&&rest c 6
noncomputable def stV(c:C)(i:Int):Stop:=Stop.at (x8 pP 71 0) 64 (x7 64 [(1,SV.ptr 0 0),(35,J i)]) [some (Box.cells c.cells)]
noncomputable def xJ0(c:C)(i:Int):Stop:=Stop.at (x8 pP 74 0) 70 (x7 70 [(1,SV.ptr 0 0),(3,SV.list (Ty.int IntKind.i64) [c.x,c.y,c.z,c.e,c.f,c.s]),(4,J i)]) [some (Box.cells c.cells)]
variable{n h:Int}
theorem qG9{l:Int}:inR n l h=false↔n<l\/h<n:=by
 rw[<-Bool.not_eq_true,inR,Bool.and_eq_true,decide_eq_true_eq,decide_eq_true_eq];omega
theorem qH0{l:Int}:inR n l h=true↔l<=n/\n<=h:=by
 rw[inR,Bool.and_eq_true,decide_eq_true_eq,decide_eq_true_eq]
theorem q64(c:C):c.num 0=c.x:=rfl
theorem q65(c:C):c.num 1=c.y:=rfl
theorem q66(c:C):c.num 2=c.z:=rfl
theorem q67(c:C):c.num 3=c.e:=rfl
theorem q68(c:C):c.num 4=c.f:=rfl
theorem q69(c:C):c.num 5=c.s:=rfl
theorem yw3{c:C}(hn:c.num i=n):(okW c i=true↔(bit c.has i=0/\n=0)\/(bit c.has i≠0/\lo c.code i<=n/\n<=hi c.code i)):=by
 unfold okW;rw[hn]
 by_cases h:bit c.has i=0
 .simp[h]
 .simp[h,qH0]
theorem xY8{c:C}(h0:0<=i)(Q:Stop->Prop)(q0:6<=i->Q (.done (.bool true)))(q1:i<6->¬okW c i=true->Q (.done (.bool false)))(q2:i<6->okW c i=true->Q (stV c (i+1))):(xX6 c i).holds Q:=by
 have wi:i<6->i64.wrap (i+1)=i+1:=λh=>x42 (by omega) (by omega)
 have eb:i64.wrap ↑(BitVec.ofInt 64 (c.has.fdiv (2 ^ min i.toNat 64)) &&&BitVec.ofInt 64 1).toNat=bit c.has i:=rfl;unfold xX6;rw[eb];unfold stV C.cells at q2
 have key:∀n,c.num i=n->i<6->(Tree.node (bit c.has i==0)
   (.node (decide (n<0)) (.leaf (Stop.done (SV.bool false))) (.node (decide (n>0)) (.leaf (Stop.done (SV.bool false))) (.leaf (Stop.at (x8 pP 71 0) 64 (x7 64 [(1,SV.ptr 0 0),(35,J (i64.wrap (i+1)))]) [some (Box.cells [J c.code,J c.has,J c.x,J c.y,J c.z,J c.e,J c.f,J c.s])]))))
   (.node (decide (n<lo c.code i)) (.leaf (Stop.done (SV.bool false))) (.node (decide (n>hi c.code i)) (.leaf (Stop.done (SV.bool false))) (.leaf (Stop.at (x8 pP 71 0) 64 (x7 64 [(1,SV.ptr 0 0),(35,J (i64.wrap (i+1)))]) [some (Box.cells [J c.code,J c.has,J c.x,J c.y,J c.z,J c.e,J c.f,J c.s])]))))).holds Q:=by
  intro n hn h6;have ok:=yw3 (c:=c) hn;rw[wi h6];simp only[Tree.holds,beq_iff_eq,beq_eq_false_iff_ne,decide_eq_true_eq,decide_eq_false_iff_not]
  repeat' (first|apply And.intro|intro _)
  all_goals first
   |(refine q1 h6 ?_;rw[ok];omega)
   |(refine q2 h6 ?_;rw[ok];omega)
 simp only[Tree.holds,beq_iff_eq,beq_eq_false_iff_ne,decide_eq_true_eq,decide_eq_false_iff_not]at key ⊢;refine⟨λh6=>⟨?_,λn0=>⟨?_,λn1=>⟨?_,λn2=>⟨?_,λn3=>⟨?_,λn4=>?_⟩⟩⟩⟩⟩,λh=>q0 (by omega)⟩
 .rintro rfl;exact⟨h0,key _ (q64 c) h6⟩
 .rintro rfl;exact⟨h0,key _ (q65 c) h6⟩
 .rintro rfl;exact⟨h0,key _ (q66 c) h6⟩
 .rintro rfl;exact⟨h0,key _ (q67 c) h6⟩
 .rintro rfl;exact⟨h0,key _ (q68 c) h6⟩
 .obtain rfl:i=5:=by omega
  exact⟨h0,key _ (q69 c) h6⟩
theorem fsV:zm7 pP [qe7,qb6,zZ6] :=⟨yt4,yp5,yd3,trivial⟩
theorem xY9(c:C)(v:Bool):∀i:Int,(0<=i/\i<=6/\v=rest c (6-i).toNat)->t8 pP (x9 pP 71) (.bool v) (x8 pP 71 0) (x7 64 [(1,.ptr 0 0),(35,J i)]) [some (.cells c.cells)] :=by
 refine y81 (hK fsV) (n:=1000) (hint:=.unit) rfl (λi:Int=>0<=i/\i<=6/\v=rest c (6-i).toNat) (λi=>(6-i).toNat) (x6 64 [1,35]) (λ_=>x8 pP 71 0) (λi=>x7 64 [(1,.ptr 0 0),(35,J i)]) (λ_=>[some (.cells c.cells)]) (λ_=>xX5) λi hi=>?_
 obtain⟨h0,h6,hv⟩:=hi;rw[xX4];refine xY8 h0 _ (λh=>?_) (λh hw=>?_) (λh hw=>?_)
 .show SV.bool true=SV.bool v
  rw[hv,show(6-i).toNat=0 by omega];rfl
 .show SV.bool false=SV.bool v
  rw[hv,yZ4 c h0 h];simp[hw]
 .refine⟨u7 _ _,.inl ⟨i+1,⟨by omega,by omega,?_⟩,by omega,rfl,rfl,rfl⟩⟩
  rw[hv,yZ4 c h0 h,hw,Bool.true_and]
theorem s_valid(c:C):SCall pP 71 [c.sv] (.bool c.valid):=by
 refine s7 rfl rfl (by kernel_rfl) (o5 (hK fsV) (n:=1000) (hint:=.unit) (keep:=x6 64 [1,35]) (p:=xX3) (boxes:=[]) rfl ?_);have e:=xX2 c;unfold v6 v7 at e;erw [e];have ea:i64.wrap ↑(BitVec.ofInt 64 c.has &&& ~~~BitVec.ofInt 64 (may c.code)).toNat=andNot c.has (may c.code):=rfl;rw[ea];simp only[Tree.holds,Bool.not_eq_true',Bool.not_eq_false',bne_iff_ne,bne_eq_false_iff_eq];refine⟨λh=>?_,λh=>⟨λh2=>?_,λh2=>⟨λh3=>⟨λh4=>?_,λh4=>?_⟩,λh3=>?_⟩⟩⟩
 .simp[C.valid,C.pre,h]
 .simp[C.valid,C.pre,h,h2]
 .simp[C.valid,C.pre,h,h2,h3,h4]
 .exact⟨u7 _ _,xY9 c _ 0 ⟨by omega,by omega,by
   have:c.pre=true:=by
    simp only[C.pre,h,h3,h2];rw[show(c.has==may c.code)=true by simpa using h4];rfl
   rw[C.valid,this,Bool.true_and];rfl⟩⟩
 .exact⟨u7 _ _,xY9 c _ 0 ⟨by omega,by omega,by simp[C.valid,C.pre,h,h2,h3]⟩⟩
theorem yv0(k:Int):okC k=true↔k∈zE6:=by
 have:okC k=true↔(k=0\/(k=1\/(oneS k\/none0 k))):=by simp[okC]
 rw[this];unfold oneS none0 zE6;simp only[List.mem_cons,List.not_mem_nil,or_false];omega
theorem qO6(k:Int):∀i:Int,(0<=i/\i<=14/\∀j:Nat,(j:Int)<i->zE6.getD j 0≠k)->t8 pP (x9 pP 152) (.bool (okC k)) (x8 pP 152 0) (x7 18 [(0,J k),(3,.list (.int .i64) zE6),(4,J i)]) [] :=by
 refine y81 (hK (l:=[zY2]) ⟨yc1,trivial⟩) (n:=1000) (hint:=.unit) rfl (λi:Int=>0<=i/\i<=14/\∀j:Nat,(j:Int)<i->zE6.getD j 0≠k) (λi=>(14-i).toNat) (x6 18 [0,3,4]) (λ_=>x8 pP 152 0) (λi=>x7 18 [(0,J k),(3,.list (.int .i64) zE6),(4,J i)]) (λ_=>[]) (λ_=>qO5) λi hi=>?_
 obtain⟨h0,h14,hj⟩:=hi;rw[qO4];have hl:((zE6.length:Nat):Int)=14:=rfl
 have hget:∀j:Nat,zE6.getD j (Ty.dflt (Ty.int IntKind.i64))=zE6.getD j 0:=λ_=>rfl
 (try rw[hl]);(try rw[hget])
 simp only[Tree.holds,decide_eq_true_eq,decide_eq_false_iff_not,beq_iff_eq,beq_eq_false_iff_ne,Bool.and_eq_true];refine⟨λh=>⟨⟨h0,h⟩,λhk=>?_,λhk=>?_⟩,λh=>?_⟩
 .show SV.bool true=SV.bool (okC k)
  have:okC k=true:=by
   rw[yv0,<-hk]
   have hlt:i.toNat<zE6.length:=by have:zE6.length=14:=rfl;omega
   rw[List.getD_eq_getElem?_getD,List.getElem?_eq_getElem hlt];exact List.getElem_mem hlt
  rw[this]
 .rw[x42 (by omega) (by omega)]
  refine⟨u7 _ _,.inl ⟨i+1,⟨by omega,by omega,λj hj1=>?_⟩,by omega,by trivial,by trivial,by trivial⟩⟩
  by_cases hji:(j:Int)<i
  .exact hj j hji
  .obtain rfl:j=i.toNat:=by omega
   exact hk
 .show SV.bool false=SV.bool (okC k)
  have:okC k=false:=by
   rw[<-Bool.not_eq_true,yv0];intro hm;obtain⟨j,hj2⟩:=List.getElem?_of_mem hm;have hlt:j<zE6.length:=(List.getElem?_eq_some_iff.1 hj2).1;have h14':zE6.length=14:=rfl;refine hj j (by omega) ?_;rw[List.getD_eq_getElem?_getD,hj2];rfl
  rw[this]
theorem xi2(k:Int):SCall pP 152 [J k] (.bool (okC k)):=by
 refine s7 rfl rfl (by kernel_rfl) (o5 (hK (l:=[zY2]) ⟨yc1,trivial⟩) (n:=1000) (hint:=.unit) (keep:=x6 18 [0,3,4]) (p:=qO3) (boxes:=[]) rfl ?_);have e:=qO2 k;unfold v6 v7 at e;erw [e];exact⟨u7 _ _,qO6 k 0 ⟨by omega,by omega,λj hj=>by omega⟩⟩
theorem yg8:z35.ok pP:=qi7 xi2
theorem qt7:zm7 pP [z35,zW5,zY3,zZ7,z92] :=⟨yg8,ya1,yc2,yd4,ym8,trivial⟩
theorem yS8(k n:Int)(h0:0<=i)(h6:i<6):yS7 k i n=inR n (lo k i) (hi k i):=by
 unfold yS7 lo hi
 have:i=0\/i=1\/i=2\/i=3\/i=4\/i=5:=by omega
 rcases this with rfl|rfl|rfl|rfl|rfl|rfl<;>simp<;>(repeat' split)<;>rfl
theorem q74(c:C)(h0:0<=i)(h6:i<6):[c.x,c.y,c.z,c.e,c.f,c.s].getD i.toNat 0=c.num i:=by
 have:i=0\/i=1\/i=2\/i=3\/i=4\/i=5:=by omega
 rcases this with rfl|rfl|rfl|rfl|rfl|rfl<;>rfl
theorem xY6{c:C}(h0:0<=i)(hle:i<=6)(Q:Stop->Prop)(q0:6<=i->Q (.done (.bool true)))(q1:i<6->¬okW c i=true->Q (.done (.bool false)))(q2:i<6->okW c i=true->Q (xJ0 c (i+1))):(xY5 c i).holds Q:=by
 have hl:(([c.x,c.y,c.z,c.e,c.f,c.s].length:Nat):Int)=6:=rfl;unfold xY5
 (try rw[hl]);(try rw[xU5 ⟨h0,by omega⟩])
 have eb:i64.wrap ↑(BitVec.ofInt 64 (c.has.fdiv (2 ^ min i.toNat 64)) &&&BitVec.ofInt 64 1).toNat=bit c.has i:=rfl;rw[eb]
 by_cases h6:i<6
 .rw[x42 (by omega) (by omega),q74 c h0 h6,yS8 _ _ h0 h6]
  have ok:=yw3 (c:=c) (i:=i) rfl;have b01:=zv9 c.has i;unfold xJ0 C.cells at q2;simp only[Tree.holds,beq_iff_eq,beq_eq_false_iff_ne,bne_iff_ne,bne_eq_false_iff_eq,decide_eq_true_eq,decide_eq_false_iff_not,Bool.and_eq_true,Bool.not_eq_true',Bool.not_eq_false',qH0,qG9]
  repeat' (first|apply And.intro|intro _)
  all_goals first
   |omega
   |(refine q1 h6 ?_;rw[ok];omega)
   |(refine q2 h6 ?_;rw[ok];omega)
 .simp only[Tree.holds,decide_eq_true_eq,decide_eq_false_iff_not]
  exact⟨λh=>absurd h h6,λ_=>q0 (by omega)⟩
theorem xY7(c:C)(v:Bool):∀i:Int,(0<=i/\i<=6/\v=rest c (6-i).toNat)->t8 pP (x9 pP 74) (.bool v) (x8 pP 74 0) (x7 70 [(1,.ptr 0 0),(3,.list (.int .i64) [c.x,c.y,c.z,c.e,c.f,c.s]),(4,J i)]) [some (.cells c.cells)] :=by
 refine y81 (hK qt7) (n:=1000) (hint:=.unit) rfl (λi:Int=>0<=i/\i<=6/\v=rest c (6-i).toNat) (λi=>(6-i).toNat) (x6 70 [1,3,4]) (λ_=>x8 pP 74 0) (λi=>x7 70 [(1,.ptr 0 0),(3,.list (.int .i64) [c.x,c.y,c.z,c.e,c.f,c.s]),(4,J i)]) (λ_=>[some (.cells c.cells)]) (λ_=>xY4) λi hi=>?_
 obtain⟨h0,h6,hv⟩:=hi;rw[xY3];refine xY6 h0 h6 _ (λh=>?_) (λh hw=>?_) (λh hw=>?_)
 .show SV.bool true=SV.bool v
  rw[hv,show(6-i).toNat=0 by omega];rfl
 .show SV.bool false=SV.bool v
  rw[hv,yZ4 c h0 h];simp[hw]
 .refine⟨u7 _ _,.inl ⟨i+1,⟨by omega,by omega,?_⟩,by omega,rfl,rfl,rfl⟩⟩
  rw[hv,yZ4 c h0 h,hw,Bool.true_and]
theorem s_validR(c:C):SCall pP 74 [c.sv] (.bool c.validR):=by
 refine s7 rfl rfl (by kernel_rfl) (o5 (hK qt7) (n:=1000) (hint:=.unit) (keep:=x6 70 [1,3,4]) (p:=xY2) (boxes:=[]) rfl ?_);have e:=xY1 c;unfold v6 v7 at e;erw [e];have ea:i64.wrap ↑(BitVec.ofInt 64 c.has &&& ~~~BitVec.ofInt 64 (may c.code)).toNat=andNot c.has (may c.code):=rfl;rw[ea];simp only[Tree.holds,Bool.not_eq_true',Bool.not_eq_false',bne_iff_ne,bne_eq_false_iff_eq,decide_eq_true_eq,decide_eq_false_iff_not];refine⟨λh=>?_,λh=>⟨λh1=>?_,λh1=>⟨λh2=>?_,λh2=>⟨λh3=>?_,λh3=>?_⟩⟩⟩⟩
 .simp[C.validR,C.preR,h]
 .simp[C.validR,C.preR,h,show ¬0<=c.has by omega]
 .simp[C.validR,C.preR,h,h2]
 .simp only[C.validR,C.preR,h3];simp
 .exact⟨u7 _ _,xY7 c _ 0 ⟨by omega,by omega,by simp only[C.validR,C.preR,h,h2,h3,show(decide (0<=c.has))=true by simp;omega];simp⟩⟩
theorem x43{x:BitVec 64}(h:i64.wrap (x.toNat:Int)=0):x=0#64:=by
 have hx:=x.isLt
 have h2:IntKind.wrap .i64 (x.toNat:Int)=if true&&decide ((x.toNat:Int) % 18446744073709551616>=9223372036854775808)then(x.toNat:Int) % 18446744073709551616-18446744073709551616 else(x.toNat:Int) % 18446744073709551616:=rfl
 rw[h2]at h;simp only[Bool.true_and,decide_eq_true_eq]at h
 have:x.toNat=0:=by split at h<;>omega
 exact BitVec.eq_of_toNat_eq (by simpa using this)
theorem q06(h1: -9223372036854775808<=h)(h2:h<=9223372036854775807):(BitVec.ofInt 64 h).msb=decide (h<0):=by
 rw[BitVec.msb_eq_toInt,BitVec.toInt_ofInt]
 congr 1
 rw[Int.bmod_eq_of_le (by omega) (by omega)]
theorem zn0{m:Int}(h1: -9223372036854775808<=h)(h2:h<=9223372036854775807)(hm:0<=m)(hm2:m<=100)(ha:andNot h m=0):0<=h/\(m=0->h=0):=by
 have hx:BitVec.ofInt 64 h &&& ~~~BitVec.ofInt 64 m=0#64:=x43 ha;constructor
 .have hb:(BitVec.ofInt 64 h &&& ~~~BitVec.ofInt 64 m).msb=false:=by rw[hx];rfl
  rw[BitVec.msb_and,BitVec.msb_not,q06 h1 h2,q06 (by omega) (by omega)]at hb
  have:¬m<0:=by omega
  simpa[this]using hb
 .rintro rfl
  have e:(~~~BitVec.ofInt 64 0)=BitVec.allOnes 64:=by rfl
  rw[e,BitVec.and_allOnes]at hx
  have h3:(BitVec.ofInt 64 h).toInt=0:=by rw[hx];rfl
  rw[BitVec.toInt_ofInt,Int.bmod_eq_of_le (by omega) (by omega)]at h3;exact h3
theorem valid_eq{c:C}(h1: -9223372036854775808<=c.has)(h2:c.has<=9223372036854775807):c.valid=c.validR:=by
 have key:c.pre=c.preR:=by
  rw[Bool.eq_iff_iff]
  have hm:may c.code=0\/may c.code=23\/may c.code=31\/may c.code=32:=by
   unfold may;(repeat' split)<;>simp
  have hmay:=zn0 h1 h2 (m:=may c.code) (by omega) (by omega);simp only[C.pre,C.preR,Bool.and_eq_true,Bool.or_eq_true,Bool.not_eq_true',beq_iff_eq,beq_eq_false_iff_ne,decide_eq_true_eq,Bool.and_eq_false_iff,Bool.not_eq_false']
  have ha:allW c.code=true↔(oneS c.code\/none0 c.code):=by simp[allW]
  have hs:may c.code=32↔oneS c.code:=by
   unfold may oneS;(repeat' split)<;>omega
  have hn:none0 c.code->may c.code=0:=by
   intro hn;unfold none0 at hn;unfold may oneS;(repeat' split)<;>omega
  constructor
  .rintro ⟨a,b,d⟩
   refine⟨a,(hmay b).1,b,?_⟩
   by_cases h32:may c.code=32
   .right
    rcases d with d|d
    .exact absurd (ha.2 (.inl (hs.1 h32))) (by rw[d];simp)
    .rw[d,h32]
   .exact .inl h32
  .rintro ⟨a,_,b,d⟩
   refine⟨a,b,?_⟩
   by_cases hw:allW c.code=true
   .right
    rcases ha.1 hw with h|h
    .have:=hs.2 h
     rcases d with d|d
     .exact absurd this d
     .rw[this,d]
    .rw[hn h];exact(hmay b).2 (hn h)
   .exact .inl (by simpa using hw)
 rw[C.valid,C.validR,key]
end Go.Proofs.YtnkaepnblikcdaaGreat.Gc
namespace Go.Proofs.YtnkaepnblikcdaaGreat
open Go.Sx
def V3.cells(v:V3):List SV:=[J v.1,J v.2.1,J v.2.2]
structure Fw where
 ma:Ma
 mode:Int
 homed:Bool
 pos:V4
 loc:V3
 e:Int
 feed:Int
 queue:List Bk
 lines:List Int
 mo:Mo
 moving:Bool
 active:Int
 back:Bool
 ret:V4
 dwell:Int
 waits:Int
 c0:Co
 c1:Co
 g0:Gu
 g1:Gu
 fan:Int
 line:Int
 ticks:Int
 cold:Int
 r0:Int
 r1:Int
def Fw.cells(f:Fw):List SV:=[J f.ma.x.num,J f.ma.x.den,J f.ma.x.speed,J f.ma.x.accel,J f.ma.x.jerk,J f.ma.x.min,J f.ma.x.max,J f.ma.y.num,J f.ma.y.den,J f.ma.y.speed,
 J f.ma.y.accel,J f.ma.y.jerk,J f.ma.y.min,J f.ma.y.max,J f.ma.z.num,J f.ma.z.den,J f.ma.z.speed,J f.ma.z.accel,J f.ma.z.jerk,J f.ma.z.min,
 J f.ma.z.max,J f.ma.e.num,J f.ma.e.den,J f.ma.e.speed,J f.ma.e.accel,J f.ma.e.jerk,J f.ma.e.min,J f.ma.e.max,.bool f.ma.xy,J f.ma.ticks,
 J f.mode,.bool f.homed,J f.pos.1,J f.pos.2.1,J f.pos.2.2.1,J f.pos.2.2.2,J f.loc.1,J f.loc.2.1,J f.loc.2.2,J f.e,
 J f.feed,LB f.queue,LI f.lines,J f.mo.1.1.1,J f.mo.1.1.2.1,J f.mo.1.1.2.2.1,J f.mo.1.1.2.2.2,J f.mo.1.2.1,J f.mo.1.2.2.1,J f.mo.1.2.2.2.1,
 J f.mo.1.2.2.2.2,J f.mo.2.1,J f.mo.2.2,.bool f.moving,J f.active,.bool f.back,J f.ret.1,J f.ret.2.1,J f.ret.2.2.1,J f.ret.2.2.2,
 J f.dwell,J f.waits,J f.c0.target,J f.c0.kp,J f.c0.ki,J f.c0.scale,J f.c0.sum,J f.c0.limit,J f.c1.target,J f.c1.kp,
 J f.c1.ki,J f.c1.scale,J f.c1.sum,J f.c1.limit,J f.g0.low,J f.g0.high,J f.g0.watch,J f.g0.rise,J f.g0.band,J f.g0.base,
 J f.g0.count,J f.g0.idle,J f.g0.quiet,J f.g0.fault,.bool f.g0.door,J f.g1.low,J f.g1.high,J f.g1.watch,J f.g1.rise,J f.g1.band,
 J f.g1.base,J f.g1.count,J f.g1.idle,J f.g1.quiet,J f.g1.fault,.bool f.g1.door,J f.fan,J f.line,J f.ticks,J f.cold,
 J f.r0,J f.r1]
def Fw.sv(f:Fw):SV:=.agg f.cells
inductive NilL:SV->SV->Prop where
 |same (x:SV):NilL x x
 |nil (t:Ty):NilL .nilS (.list t [])
def v5:List SV->List SV->Prop
 |[],[] =>True
 |x::xs,y::ys=>NilL x y/\v5 xs ys
 |_,_=>False
theorem v5.refl:∀l:List SV,v5 l l
 |[] =>trivial
 |x::l=>⟨.same x,v5.refl l⟩
theorem v5.append:∀{a b c d:List SV},v5 a b->v5 c d->v5 (a++c) (b++d)
 |[],[],_,_,_,h=>h
 |x::xs,y::ys,_,_,h,k=>⟨h.1,h.2.append k⟩
variable{I:Rho}{w:World}
theorem NilL.rep{R:Nat->Prop}{n:Nat}{x y:SV}{v:Value}(h:NilL x y)(hr:Rep R I n w x v):Rep R I n w y v:=by
 cases h with
 |same=>exact hr
 |nil t=>exact⟨none,0,by rw[show v=_ from hr];rfl,Nat.le_refl _,λh=>absurd h (Nat.lt_irrefl _)⟩
theorem v5.rep{R:Nat->Prop}{n:Nat}:∀{xs ys:List SV} {vs:List Value},v5 xs ys->j7 R I n w xs vs->j7 R I n w ys vs
 |[],[],_,_,hr=>hr
 |x::xs,y::ys,_,h,hr=>by
  obtain⟨u,us,rfl,h1,h2⟩:=hr;exact⟨u,us,rfl,h.1.rep h1,h.2.rep h2⟩
variable{P:Program}{cs:List SV}{v:SV}
theorem xC7{f:FuncId}{ds:List SV}{rest:List SV}(hn:v5 cs ds)(h:SCall P f (.agg ds::rest) v):SCall P f (.agg cs::rest) v:=by
 intro m w0 R0 I w vs hm hvs;obtain⟨u,us,rfl,⟨ws,h1,h2⟩,h3⟩:=hvs;exact h m w0 R0 I w _ hm ⟨u,us,rfl,⟨ws,h1,hn.rep h2⟩,h3⟩
def tkI:List SV->Option (Int×List SV)
 |.int .i64 a0::r=>some (a0,r)
 |_=>none
variable{l r:List SV}
theorem xP0{x:Int}(h:tkI l=some (x,r)):v5 l ([J x] ++r):=by
 unfold tkI at h
 split at h
 .cases h;exact v5.refl _
 .cases h
def tkT:List SV->Option (Bool×List SV)
 |.bool b::r=>some (b,r)
 |_=>none
theorem xQ6{x:Bool}(h:tkT l=some (x,r)):v5 l ([SV.bool x] ++r):=by
 unfold tkT at h
 split at h
 .cases h;exact v5.refl _
 .cases h
def xQ9:List SV->Option (V4×List SV)
 |.int .i64 a0::.int .i64 a1::.int .i64 a2::.int .i64 a3::r=>some ((a0,a1,a2,a3),r)
 |_=>none
theorem xR0{x:V4}(h:xQ9 l=some (x,r)):v5 l (V4.cells x++r):=by
 unfold xQ9 at h
 split at h
 .cases h;exact v5.refl _
 .cases h
def xQ7:List SV->Option (V3×List SV)
 |.int .i64 a0::.int .i64 a1::.int .i64 a2::r=>some ((a0,a1,a2),r)
 |_=>none
theorem xQ8{x:V3}(h:xQ7 l=some (x,r)):v5 l (V3.cells x++r):=by
 unfold xQ7 at h
 split at h
 .cases h;exact v5.refl _
 .cases h
def xP4:List SV->Option (Mo×List SV)
 |.int .i64 a0::.int .i64 a1::.int .i64 a2::.int .i64 a3::.int .i64 a4::.int .i64 a5::.int .i64 a6::.int .i64 a7::.int .i64 a8::.int .i64 a9::r=>some ((((a0,a1,a2,a3),a4,a5,a6,a7),a8,a9),r)
 |_=>none
theorem xP5{x:Mo}(h:xP4 l=some (x,r)):v5 l (Mo.cells x++r):=by
 unfold xP4 at h
 split at h
 .cases h;exact v5.refl _
 .cases h
def xO4:List SV->Option (Co×List SV)
 |.int .i64 a0::.int .i64 a1::.int .i64 a2::.int .i64 a3::.int .i64 a4::.int .i64 a5::r=>some (⟨a0,a1,a2,a3,a4,a5⟩,r)
 |_=>none
theorem xO5{x:Co}(h:xO4 l=some (x,r)):v5 l (Co.cells x++r):=by
 unfold xO4 at h
 split at h
 .cases h;exact v5.refl _
 .cases h
def xO8:List SV->Option (Gu×List SV)
 |.int .i64 a0::.int .i64 a1::.int .i64 a2::.int .i64 a3::.int .i64 a4::.int .i64 a5::.int .i64 a6::.int .i64 a7::.int .i64 a8::.int .i64 a9::.bool d::r=>some (⟨a0,a1,a2,a3,a4,a5,a6,a7,a8,a9,d⟩,r)
 |_=>none
theorem xO9{x:Gu}(h:xO8 l=some (x,r)):v5 l (Gu.cells x++r):=by
 unfold xO8 at h
 split at h
 .cases h;exact v5.refl _
 .cases h
def xO2:List SV->Option (Ax×List SV)
 |.int .i64 a0::.int .i64 a1::.int .i64 a2::.int .i64 a3::.int .i64 a4::.int .i64 a5::.int .i64 a6::r=>some (⟨a0,a1,a2,a3,a4,a5,a6⟩,r)
 |_=>none
theorem xO3{x:Ax}(h:xO2 l=some (x,r)):v5 l (Ax.cells x++r):=by
 unfold xO2 at h
 split at h
 .cases h;exact v5.refl _
 .cases h
def tkQ:List SV->Option (List Bk×List SV)
 |.list (.pair (.pair (.int .i64) (.pair (.int .i64) (.pair (.int .i64) (.int .i64)))) (.pair (.int .i64) (.pair (.int .i64) (.pair (.int .i64) (.int .i64))))) l::r=>some (l,r)
 |.nilS::r=>some ([],r)
 |_=>none
theorem xQ5{x:List Bk}(h:tkQ l=some (x,r)):v5 l ([LB x] ++r):=by
 unfold tkQ at h
 split at h
 .cases h;exact v5.refl _
 .cases h;exact⟨.nil _,v5.refl _⟩
 .cases h
def tkL:List SV->Option (List Int×List SV)
 |.list (.int .i64) l::r=>some (l,r)
 |.nilS::r=>some ([],r)
 |_=>none
theorem xP1{x:List Int}(h:tkL l=some (x,r)):v5 l ([LI x] ++r):=by
 unfold tkL at h
 split at h
 .cases h;exact v5.refl _
 .cases h;exact⟨.nil _,v5.refl _⟩
 .cases h
theorem NilL.trans{x y z:SV}(h:NilL x y)(k:NilL y z):NilL x z:=by
 cases h with
 |same=>exact k
 |nil t=>cases k;exact .nil t
theorem v5.trans:∀{a b c:List SV},v5 a b->v5 b c->v5 a c
 |[],[],[],_,_=>trivial
 |_::_,_::_,_::_,h,k=>⟨h.1.trans k.1,v5.trans h.2 k.2⟩
def xP2(l:List SV):Option (Ma×List SV):=
 match xO2 l with
 |none=>none
 |some (x,l1)=>
   match xO2 l1 with
   |none=>none
   |some (y,l2)=>
     match xO2 l2 with
     |none=>none
     |some (z,l3)=>
       match xO2 l3 with
       |none=>none
       |some (e,l4)=>
         match tkT l4 with
         |none=>none
         |some (b,l5)=>
           match tkI l5 with
           |none=>none
           |some (t,l6)=>
             some (⟨x,y,z,e,b,t⟩,l6)
theorem xP3{x:Ma}(h:xP2 l=some (x,r)):v5 l (Ma.cells x++r):=by
 unfold xP2 at h
 split at h
 .cases h
 rename_i x l1 h1
 split at h
 .cases h
 rename_i y l2 h2
 split at h
 .cases h
 rename_i z l3 h3
 split at h
 .cases h
 rename_i e l4 h4
 split at h
 .cases h
 rename_i b l5 h5
 split at h
 .cases h
 rename_i t l6 h6
 cases h
 have k6:=xP0 h6;have k5:=v5.trans (xQ6 h5) (v5.append (v5.refl _) k6);have k4:=v5.trans (xO3 h4) (v5.append (v5.refl _) k5);have k3:=v5.trans (xO3 h3) (v5.append (v5.refl _) k4);have k2:=v5.trans (xO3 h2) (v5.append (v5.refl _) k3);have k1:=v5.trans (xO3 h1) (v5.append (v5.refl _) k2);exact k1
def xO6(l:List SV):Option (Fw×List SV):=
 match xP2 l with
 |none=>none
 |some (y0,l1)=>
   match tkI l1 with
   |none=>none
   |some (y1,l2)=>
     match tkT l2 with
     |none=>none
     |some (y2,l3)=>
       match xQ9 l3 with
       |none=>none
       |some (y3,l4)=>
         match xQ7 l4 with
         |none=>none
         |some (y4,l5)=>
           match tkI l5 with
           |none=>none
           |some (y5,l6)=>
             match tkI l6 with
             |none=>none
             |some (y6,l7)=>
               match tkQ l7 with
               |none=>none
               |some (y7,l8)=>
                 match tkL l8 with
                 |none=>none
                 |some (y8,l9)=>
                   match xP4 l9 with
                   |none=>none
                   |some (y9,l10)=>
                     match tkT l10 with
                     |none=>none
                     |some (y10,l11)=>
                       match tkI l11 with
                       |none=>none
                       |some (y11,l12)=>
                         match tkT l12 with
                         |none=>none
                         |some (y12,l13)=>
                           match xQ9 l13 with
                           |none=>none
                           |some (y13,l14)=>
                             match tkI l14 with
                             |none=>none
                             |some (y14,l15)=>
                               match tkI l15 with
                               |none=>none
                               |some (y15,l16)=>
                                 match xO4 l16 with
                                 |none=>none
                                 |some (y16,l17)=>
                                   match xO4 l17 with
                                   |none=>none
                                   |some (y17,l18)=>
                                     match xO8 l18 with
                                     |none=>none
                                     |some (y18,l19)=>
                                       match xO8 l19 with
                                       |none=>none
                                       |some (y19,l20)=>
                                         match tkI l20 with
                                         |none=>none
                                         |some (y20,l21)=>
                                           match tkI l21 with
                                           |none=>none
                                           |some (y21,l22)=>
                                             match tkI l22 with
                                             |none=>none
                                             |some (y22,l23)=>
                                               match tkI l23 with
                                               |none=>none
                                               |some (y23,l24)=>
                                                 match tkI l24 with
                                                 |none=>none
                                                 |some (y24,l25)=>
                                                   match tkI l25 with
                                                   |none=>none
                                                   |some (y25,l26)=>
                                                     some (⟨y0,y1,y2,y3,y4,y5,y6,y7,y8,y9,y10,y11,y12,y13,y14,y15,y16,y17,y18,y19,y20,y21,y22,y23,y24,y25⟩,l26)
variable{x:Fw}
theorem xO7(h:xO6 l=some (x,r)):v5 l (Fw.cells x++r):=by
 unfold xO6 at h
 split at h
 .cases h
 rename_i y0 l1 h1
 split at h
 .cases h
 rename_i y1 l2 h2
 split at h
 .cases h
 rename_i y2 l3 h3
 split at h
 .cases h
 rename_i y3 l4 h4
 split at h
 .cases h
 rename_i y4 l5 h5
 split at h
 .cases h
 rename_i y5 l6 h6
 split at h
 .cases h
 rename_i y6 l7 h7
 split at h
 .cases h
 rename_i y7 l8 h8
 split at h
 .cases h
 rename_i y8 l9 h9
 split at h
 .cases h
 rename_i y9 l10 h10
 split at h
 .cases h
 rename_i y10 l11 h11
 split at h
 .cases h
 rename_i y11 l12 h12
 split at h
 .cases h
 rename_i y12 l13 h13
 split at h
 .cases h
 rename_i y13 l14 h14
 split at h
 .cases h
 rename_i y14 l15 h15
 split at h
 .cases h
 rename_i y15 l16 h16
 split at h
 .cases h
 rename_i y16 l17 h17
 split at h
 .cases h
 rename_i y17 l18 h18
 split at h
 .cases h
 rename_i y18 l19 h19
 split at h
 .cases h
 rename_i y19 l20 h20
 split at h
 .cases h
 rename_i y20 l21 h21
 split at h
 .cases h
 rename_i y21 l22 h22
 split at h
 .cases h
 rename_i y22 l23 h23
 split at h
 .cases h
 rename_i y23 l24 h24
 split at h
 .cases h
 rename_i y24 l25 h25
 split at h
 .cases h
 rename_i y25 l26 h26
 cases h
 have k26:=xP0 h26;have k25:=v5.trans (xP0 h25) (v5.append (v5.refl _) k26);have k24:=v5.trans (xP0 h24) (v5.append (v5.refl _) k25);have k23:=v5.trans (xP0 h23) (v5.append (v5.refl _) k24);have k22:=v5.trans (xP0 h22) (v5.append (v5.refl _) k23);have k21:=v5.trans (xP0 h21) (v5.append (v5.refl _) k22);have k20:=v5.trans (xO9 h20) (v5.append (v5.refl _) k21);have k19:=v5.trans (xO9 h19) (v5.append (v5.refl _) k20);have k18:=v5.trans (xO5 h18) (v5.append (v5.refl _) k19);have k17:=v5.trans (xO5 h17) (v5.append (v5.refl _) k18);have k16:=v5.trans (xP0 h16) (v5.append (v5.refl _) k17);have k15:=v5.trans (xP0 h15) (v5.append (v5.refl _) k16);have k14:=v5.trans (xR0 h14) (v5.append (v5.refl _) k15);have k13:=v5.trans (xQ6 h13) (v5.append (v5.refl _) k14);have k12:=v5.trans (xP0 h12) (v5.append (v5.refl _) k13);have k11:=v5.trans (xQ6 h11) (v5.append (v5.refl _) k12);have k10:=v5.trans (xP5 h10) (v5.append (v5.refl _) k11);have k9:=v5.trans (xP1 h9) (v5.append (v5.refl _) k10);have k8:=v5.trans (xQ5 h8) (v5.append (v5.refl _) k9);have k7:=v5.trans (xP0 h7) (v5.append (v5.refl _) k8);have k6:=v5.trans (xP0 h6) (v5.append (v5.refl _) k7);have k5:=v5.trans (xQ8 h5) (v5.append (v5.refl _) k6);have k4:=v5.trans (xR0 h4) (v5.append (v5.refl _) k5);have k3:=v5.trans (xQ6 h3) (v5.append (v5.refl _) k4);have k2:=v5.trans (xP0 h2) (v5.append (v5.refl _) k3);have k1:=v5.trans (xP3 h1) (v5.append (v5.refl _) k2);exact k1
def zo5(l:List SV):Option Fw:=match xO6 l with
 |some (f,r)=>match r with
  |[] =>some f
  |_=>none
 |none=>none
variable{f:Fw}
theorem zo6(h:zo5 l=some f):v5 l f.cells:=by
 unfold zo5 at h
 split at h
 .split at h
  .rename_i h1
   injection h with h;subst h;have:=xO7 h1
   rwa [List.append_nil]at this
  .cases h
 .cases h
def qh2(f:FuncId)(h:Fw->List SV->Option (Tree SV)):Fact:=⟨f,λargs=>match args with
 |.agg l::rest=>match zo5 l with
  |some x=>h x rest
  |none=>none
 |_=>none⟩
theorem xC3{f:FuncId}{a b:List SV}(h:∀v,SCall P f a v->SCall P f b v):∀t:Tree SV,t.says (SCall P f a)->t.says (SCall P f b)
 |.leaf v,k=>h v k
 |.node _ t u,k=>⟨λhb=>xC3 h t (k.1 hb),λhb=>xC3 h u (k.2 hb)⟩
 |.req _ t,k=>λhb=>xC3 h t (k hb)
 |.fail _,_=>trivial
theorem qh3{f:FuncId}{h:Fw->List SV->Option (Tree SV)}(k:∀x rest t,h x rest=some t->t.says (SCall P f (x.sv::rest))):(qh2 f h).ok P:=λargs t ht=>by
 simp only[qh2]at ht
 split at ht
 .split at ht
  .rename_i hx
   exact xC3 (λv hv=>xC7 (zo6 hx) hv) t (k _ _ _ ht)
  .cases ht
 .cases ht
def qg2(f:FuncId)(h:Fw->Tree SV):Fact:=qh2 f λx rest=>match rest with
 |[] =>some (h x)
 |_=>none
theorem qg3{f:FuncId}{h:Fw->Tree SV}(k:∀x,(h x).says (SCall P f [x.sv])):(qg2 f h).ok P:=qh3 λx rest t ht=>by
 split at ht
 .injection ht with ht;subst ht;exact k x
 .cases ht
def yJ6(f:Fw):Bool:=f.ma.ok&& (f.c0.ok&& (f.c1.ok&& (f.g0.ok&&f.g1.ok)))
theorem yJ7:yJ6 f=true↔f.ma.ok=true/\f.c0.ok=true/\f.c1.ok=true/\f.g0.ok=true/\f.g1.ok=true:=by simp only[yJ6,Bool.and_eq_true]
def far(n:Int):Bool:=inR n (-16777216) 16777216
def qY4(f:Fw):Bool:=inR f.mode 1 3
def q72(f:Fw):Bool:=far f.loc.1&& (far f.loc.2.1&& (far f.loc.2.2&& (far f.e&& (inR f.feed 0 1048576&& (inR f.dwell 0 1048576&& (inR f.waits 0 3&& (inR f.fan 0 255&& (inR f.line 0 1099511627776&& (inR f.active 0 1099511627776&& (inR f.ticks 0 1099511627776&&inR f.cold 0 400000))))))))))
theorem q73:q72 f=true↔(-16777216<=f.loc.1/\f.loc.1<=16777216)/\(-16777216<=f.loc.2.1/\f.loc.2.1<=16777216)/\(-16777216<=f.loc.2.2/\f.loc.2.2<=16777216)/\(-16777216<=f.e/\f.e<=16777216)/\(0<=f.feed/\f.feed<=1048576)/\(0<=f.dwell/\f.dwell<=1048576)/\(0<=f.waits/\f.waits<=3)/\(0<=f.fan/\f.fan<=255)/\(0<=f.line/\f.line<=1099511627776)/\(0<=f.active/\f.active<=1099511627776)/\(0<=f.ticks/\f.ticks<=1099511627776)/\0<=f.cold/\f.cold<=400000:=by simp only[q72,far,Bool.and_eq_true,j8]
def qY0(f:Fw):Bool:=qY4 f&&q72 f
theorem qY1:qY0 f=true↔(1<=f.mode/\f.mode<=3)/\q72 f=true:=by simp only[qY0,qY4,Bool.and_eq_true,j8]
theorem xn8(f:Fw):SCall pP 86 [f.sv] (.bool (yJ6 f)):=
 v8 mix [z45,zY0,z15] ⟨yh7,yb9,ye8,trivial⟩ 1000 (.fork (.ln 4 (.fork (.ln 4 (.fork (.ln 4 (.fork (.ln 3 (.lit .all)) (.ln 3 (.lit .all)))) (.ln 8 (.lit .all)))) (.ln 13 (.lit .all)))) (.ln 18 (.lit .all)))
  (t:=.node (f.ma.ok)
 (.req (true) (.node (f.c0.ok)
   (.req (true) (.node (f.c1.ok)
     (.req (true) (.node (f.g0.ok)
       (.req (true) (.leaf (SV.bool f.g1.ok)))
       (.leaf (SV.bool false))))
     (.leaf (SV.bool false))))
   (.leaf (SV.bool false))))
 (.leaf (SV.bool false)))
   (by kernel_rfl) (by simp only[Tree.holds,sL,ne_eq,sLb,sLc,eq_self,sLd,sLe,sLf];(repeat' (first|apply And.intro|intro _));all_goals(refine qC9 ?_;rw[yJ7];(try simp only[sL,ne_eq,sLb,sLc,eq_self,sLd,sLe,sLf]); first|omega|grind)) (by kernel_rfl) (by kernel_rfl)
theorem xn9(c d:Co)(g h:Gu):SCall pP 68 [.agg (c.cells++d.cells),.agg (g.cells++h.cells)] (.bool (c.ok&& (d.ok&& (g.ok&&h.ok)))):=
 v8 mix [zY1,z16] ⟨yc0,ye9,trivial⟩ 1000 (.fork (.ln 3 (.fork (.ln 3 (.fork (.lit (.lit (.lit .all))) (.lit (.lit (.lit .all))))) (.ln 6 (.lit .all)))) (.ln 10 (.lit .all)))
  (t:=.req (true) (.node (c.ok)
 (.req (true) (.node (d.ok)
   (.req (true) (.node (g.ok)
     (.req (true) (.leaf (SV.bool h.ok)))
     (.leaf (SV.bool false))))
   (.leaf (SV.bool false))))
 (.leaf (SV.bool false))))
  (by kernel_rfl) (by simp only[Tree.holds,sL,ne_eq,sLb,sLc,eq_self,sLd,sLe,sLf];(repeat' (first|apply And.intro|intro _));all_goals(simp_all)) (by kernel_rfl) (by kernel_rfl)
theorem xm6(f:Fw):SCall pP 87 [f.sv] (.bool (qY0 f)):=
 v8 mix [] trivial 1000 (let z1:Plan:=.ln 10 (.lit .all);let z0:Plan:=.fork (.ln 3 (.fork (.ln 16 (.lit .all)) (.ln 3 (.fork (.ln 5 (.fork z1 (.ln 3 (.fork (.ln 5 (.fork (.ln 4 (.lit .all)) (.lit (.lit (.fork (.ln 5 (.fork .all (.fork (.ln 3 (.fork (.ln 14 (.lit .all)) (.lit (.lit (.fork (.ln 5 (.fork (.ln 9 (.lit .all)) (.lit (.lit (.fork (.ln 5 (.fork (.ln 4 (.lit .all)) (.lit (.lit (.fork (.ln 5 (.fork .all (.fork (.ln 3 (.fork (.lit (.lit (.fork (.ln 4 (.fork (.lit (.lit (.fork (.ln 4 (.fork (.lit (.lit (.fork (.ln 3 (.lit .all)) (.ln 3 (.lit .all))))) (.lit (.lit (.lit .all))))) (.ln 7 (.lit .all))))) (.ln 6 (.lit .all)))) (.ln 11 (.lit .all))))) z1)) (.ln 14 (.lit .all))))) (.ln 5 (.lit .all))))))) z1))))) (.ln 15 (.lit .all))))))) (.ln 18 (.lit .all))))) (.ln 5 (.lit .all))))))) z1)))) (.ln 16 (.lit .all)))))) (.ln 20 (.lit .all));.fork (.ln 3 (.fork (.ln 3 (.fork .all z0)) (.ln 4 z0))) (.ln 8 z0))
  (t:=let y1:Tree SV:=.leaf (.bool false);let y0:Tree SV:=.node (decide (f.loc.1>=-16777216)) (.node (!decide (f.loc.1<=16777216)) y1 (.node (decide (f.loc.2.1>=-16777216)) (.node (!decide (f.loc.2.1<=16777216)) y1 (.node (decide (f.loc.2.2>=-16777216)) (.node (!decide (f.loc.2.2<=16777216)) y1 (.node (decide (f.e>=-16777216)) (.node (!decide (f.e<=16777216)) y1 (.node (decide (f.feed>=0)) (.node (!decide (f.feed<=1048576)) y1 (.node (decide (f.dwell>=0)) (.node (!decide (f.dwell<=1048576)) y1 (.node (decide (f.waits>=0)) (.node (!decide (f.waits<=3)) y1 (.node (decide (f.fan>=0)) (.node (!decide (f.fan<=255)) y1 (.node (decide (f.line>=0)) (.node (decide (f.line<=1099511627776)) (.node (decide (f.active>=0)) (.node (decide (f.active<=1099511627776)) (.node (decide (f.ticks>=0)) (.node (decide (f.ticks<=1099511627776)) (.node (decide (f.cold>=0)) (.leaf (.bool (decide (f.cold<=400000)))) y1) y1) y1) y1) y1) y1) y1)) y1)) y1)) y1)) y1)) y1)) y1)) y1)) y1;.node (f.mode != 1) (.node (f.mode != 2) (.node (f.mode != 3) y1 y0) y0) y0)
  (by kernel_rfl) (by simp only[Tree.holds,sL,ne_eq,sLb,sLc,eq_self,sLd,sLe,sLf];(repeat' (first|apply And.intro|intro _));all_goals(refine qC9 ?_;rw[qY1,q73];(try simp only[sL,ne_eq,sLb,sLc,eq_self,sLd,sLe,sLf]); first|omega|grind)) (by kernel_rfl) (by kernel_rfl)
theorem xm7(f:Fw):SCall pP 91 [f.sv] (.bool (q72 f)):=
 v8 mix [] trivial 1000 (let z0:Plan:=.fork (.ln 3 (.fork (.lit (.lit (.fork (.ln 4 (.fork (.lit (.lit (.fork (.ln 4 (.fork (.lit (.lit (.fork (.ln 4 (.fork (.lit (.lit (.fork (.ln 17 (.lit .all)) (.ln 17 (.lit .all))))) (.ln 16 (.lit .all)))) (.ln 21 (.lit .all))))) (.ln 20 (.lit .all)))) (.ln 25 (.lit .all))))) (.ln 24 (.lit .all)))) (.ln 29 (.lit .all))))) (.ln 28 (.lit .all)))) (.ln 32 (.lit .all));let z2:Plan:=.ln 12 (.lit .all);let z1:Plan:=.fork z2 z2;.fork (.ln 3 (.fork (.ln 3 (.fork (.ln 4 (.fork (.ln 3 (.fork (.ln 4 (.fork (.lit (.lit (.fork (.ln 4 (.fork (.ln 3 (.fork (.lit (.lit (.fork (.ln 4 (.fork (.lit (.lit (.fork (.ln 4 (.fork (.lit (.lit (.fork (.ln 4 (.fork (.lit (.lit (.fork (.ln 4 (.fork (.lit (.fork (.lit (.lit (.fork (.ln 4 (.fork (.lit (.lit (.fork (.ln 4 (.fork (.lit (.lit (.fork (.ln 3 (.lit .all)) (.ln 3 (.lit .all))))) (.lit (.lit (.lit .all))))) (.ln 7 (.lit .all))))) (.ln 6 (.lit .all)))) (.ln 11 (.lit .all))))) (.ln 10 (.lit .all)))) z2)) (.ln 4 z1)))) (.ln 3 z1))) (.ln 8 z1)))) (.ln 7 z1))) (.ln 12 z1)))) (.ln 11 z1))) (.ln 16 z1)))) (.ln 15 z1))) (.ln 19 z1))) (.ln 4 z0)))) (.ln 3 z0))) (.ln 8 z0))) (.ln 8 z0))) (.ln 13 z0))) (.ln 13 z0))) (.ln 17 z0))
  (t:=let y1:Tree SV:=.leaf (.bool false);let y0:Tree SV:=.node (decide (f.feed>=0)) (.node (decide (f.feed<=1048576)) (.node (decide (f.dwell>=0)) (.node (decide (f.dwell<=1048576)) (.node (decide (f.waits>=0)) (.node (decide (f.waits<=3)) (.node (decide (f.fan>=0)) (.node (decide (f.fan<=255)) (.node (decide (f.cold>=0)) y1 y1) y1) y1) y1) y1) y1) y1) y1) y1;let y2:Tree SV:=.node (decide (f.e<=16777216)) y1 y1;.node (decide (f.loc.1>=-16777216)) (.node (decide (f.loc.1<=16777216)) (.node (decide (f.loc.2.1>=-16777216)) (.node (decide (f.loc.2.1<=16777216)) (.node (decide (f.loc.2.2>=-16777216)) (.node (decide (f.loc.2.2<=16777216)) (.node (decide (f.e>=-16777216)) (.node (decide (f.feed>=0)) (.node (decide (f.feed<=1048576)) (.node (decide (f.dwell>=0)) (.node (decide (f.dwell<=1048576)) (.node (decide (f.waits>=0)) (.node (decide (f.waits<=3)) (.node (decide (f.fan>=0)) (.node (decide (f.fan<=255)) (.node (decide (f.cold>=0)) (.node (decide (f.e<=16777216)) (.node (decide (f.cold<=400000)) (.node (decide (f.line>=0)) (.node (decide (f.line<=1099511627776)) (.node (decide (f.active>=0)) (.node (decide (f.active<=1099511627776)) (.node (decide (f.ticks>=0)) (.leaf (.bool (decide (f.ticks<=1099511627776)))) y1) y1) y1) y1) y1) y1) y1) y2) y2) y2) y2) y2) y2) y2) y2) y2) y0) y0) y0) y0) y0) y0) y0)
  (by kernel_rfl) (by simp only[Tree.holds,sL,ne_eq,sLb,sLc,eq_self,sLd,sLe,sLf];(repeat' (first|apply And.intro|intro _));all_goals(refine qC9 ?_;rw[q73];(try simp only[sL,ne_eq,sLb,sLc,eq_self,sLd,sLe,sLf]); first|omega|grind)) (by kernel_rfl) (by kernel_rfl)
theorem xm3(c:V4):Tree.holds (λv=>v=(.bool (v9 c))) (let y0:Tree SV:=.leaf (.bool false);.req (true) (.node (decide (c.1>=-16777216)) (.node (!decide (c.1<=16777216)) y0 (.req true (.node (decide (c.2.1>=-16777216)) (.node (!decide (c.2.1<=16777216)) y0 (.req true (.node (decide (c.2.2.1>=-16777216)) (.node (!decide (c.2.2.1<=16777216)) y0 (.req true (.node (decide (c.2.2.2>=-16777216)) (.node (!decide (c.2.2.2<=16777216)) y0 (.leaf (.bool true))) y0))) y0))) y0))) y0):Tree SV):=by simp only[Tree.holds,sL,ne_eq,sLb,sLc,eq_self,sLd,sLe,sLf];(repeat' (first|apply And.intro|intro _));all_goals(refine qC9 ?_;rw[q26];(try simp only[sL,ne_eq,sLb,sLc,eq_self,sLd,sLe,sLf]); first|omega|grind)
theorem xm1(c:V4):SCall pP 184 [V4.sv c] (.bool (v9 c)):=
 v8 mix [] trivial 1000 (.go (.lit (.fork (.ln 3 (.fork .all (.go (.lit (.fork (.ln 3 (.fork .all (.go (.lit (.fork (.ln 3 (.fork .all (.go (.lit (.fork (.ln 3 (.fork .all (.go (.lit .all)))) (.ln 3 (.lit .all))))))) (.ln 3 (.lit .all))))))) (.ln 3 (.lit .all))))))) (.ln 3 (.lit .all)))))
  (by kernel_rfl) (xm3 c) (by kernel_rfl) (by kernel_rfl)
theorem xm2(c:V4):SCall pP 92 [V4.sv c] (.bool (v9 c)):=
 v8 mix [] trivial 1000 (.go (.lit (.fork (.ln 3 (.fork .all (.go (.lit (.fork (.ln 3 (.fork .all (.go (.lit (.fork (.ln 3 (.fork .all (.go (.lit (.fork (.ln 3 (.fork .all (.go (.lit .all)))) (.ln 3 (.lit .all))))))) (.ln 3 (.lit .all))))))) (.ln 3 (.lit .all))))))) (.ln 3 (.lit .all)))))
  (by kernel_rfl) (xm3 c) (by kernel_rfl) (by kernel_rfl)
def zu8(c:V4):Bool:=in4 1152921504606846976 c
theorem zu9{c:V4}:zu8 c=true↔(-1152921504606846976<=c.1/\c.1<=1152921504606846976)/\(-1152921504606846976<=c.2.1/\c.2.1<=1152921504606846976)/\(-1152921504606846976<=c.2.2.1/\c.2.2.1<=1152921504606846976)/\-1152921504606846976<=c.2.2.2/\c.2.2.2<=1152921504606846976:=qG8
theorem qU7(m:Mo):in4 562949970198528 (qU5 m)=true:=by
 rw[qG8]
 by_cases h:xX7 m.1=true/\0<=m.2.1/\m.2.1<=dom m.1.1
 .rw[qU8 h];have:=zp2 m.1.1 m.2.1;omega
 .rw[qU6 h];decide
def z79:Fact:=qg2 86 λf=>.leaf (.bool (yJ6 f))
theorem yl5:z79.ok pP:=qg3 (λf=>xn8 f)
def z64:Fact:=qg2 87 λf=>.leaf (.bool (qY0 f))
theorem yj8:z64.ok pP:=qg3 (λf=>xm6 f)
def z65:Fact:=qg2 91 λf=>.leaf (.bool (q72 f))
theorem yj9:z65.ok pP:=qg3 (λf=>xm7 f)
def z60:Fact:=qm0 184 λc=>.leaf (.bool (v9 c))
def z61:Fact:=qm0 92 λc=>.leaf (.bool (v9 c))
theorem yj3:z60.ok pP:=qm5 (xm1)
theorem yj4:z61.ok pP:=qm5 (xm2)
def x16(a b:V4):V4:=(i64.wrap (a.1+b.1),i64.wrap (a.2.1+b.2.1),i64.wrap (a.2.2.1+b.2.2.1),i64.wrap (a.2.2.2+b.2.2.2))
def wsub4(a b:V4):V4:=(i64.wrap (a.1-b.1),i64.wrap (a.2.1-b.2.1),i64.wrap (a.2.2.1-b.2.2.1),i64.wrap (a.2.2.2-b.2.2.2))
variable{a b:V4}
theorem x17(ha:zu8 a=true)(hb:zu8 b=true):x16 a b=zi0 a b:=by
 rw[zu9]at ha hb;unfold x16 zi0;rw[w64 (x:=a.1+b.1) (by omega) (by omega),w64 (x:=a.2.1+b.2.1) (by omega) (by omega),w64 (x:=a.2.2.1+b.2.2.1) (by omega) (by omega),w64 (x:=a.2.2.2+b.2.2.2) (by omega) (by omega)]
theorem x47(ha:zu8 a=true)(hb:zu8 b=true):wsub4 a b=xL6 a b:=by
 rw[zu9]at ha hb;unfold wsub4 xL6;rw[w64 (x:=a.1-b.1) (by omega) (by omega),w64 (x:=a.2.1-b.2.1) (by omega) (by omega),w64 (x:=a.2.2.1-b.2.2.1) (by omega) (by omega),w64 (x:=a.2.2.2-b.2.2.2) (by omega) (by omega)]
theorem xo9(a b:V4):Tree.holds (λv=>v=(V4.sv (x16 a b))) (.req (true) (.req true (.req (true) (.req true (.req (true) (.req true (.req (true) (.req true (.req (true) (.req true (.req (true) (.req true (.leaf (.agg [.int .i64 (i64.wrap (a.1+b.1)),.int .i64 (i64.wrap (a.2.1+b.2.1)),.int .i64 (i64.wrap (a.2.2.1+b.2.2.1)),.int .i64 (i64.wrap (a.2.2.2+b.2.2.2))]))))))))))))):Tree SV):=by simp only[Tree.holds,sL,ne_eq,sLb,sLc,eq_self,sLd,sLe,sLf];exact rfl
theorem xo7(a b:V4):SCall pP 137 [V4.sv a,V4.sv b] (V4.sv (x16 a b)):=
 v8 mix [] trivial 1000 (.go (.lit (.go (.lit (.go (.lit (.go (.lit (.go (.lit (.all)))))))))))
  (by kernel_rfl) (xo9 a b) (by kernel_rfl) (by kernel_rfl)
theorem xo8(a b:V4):SCall pP 172 [V4.sv a,V4.sv b] (V4.sv (x16 a b)):=
 v8 mix [] trivial 1000 (.go (.lit (.go (.lit (.go (.lit (.go (.lit (.go (.lit (.all)))))))))))
  (by kernel_rfl) (xo9 a b) (by kernel_rfl) (by kernel_rfl)
def z84:Fact:=qm3 137 λa b=>.leaf (V4.sv (x16 a b))
def z85:Fact:=qm3 172 λa b=>.leaf (V4.sv (x16 a b))
theorem ym0:z84.ok pP:=qm4 (λa b=>xo7 a b)
theorem ym1:z85.ok pP:=qm4 (λa b=>xo8 a b)
theorem xk9(a b:V4):Tree.holds (λv=>v=(V4.sv (wsub4 a b))) (.req (true) (.req true (.req (true) (.req true (.req (true) (.req true (.req (true) (.req true (.req (true) (.req true (.req (true) (.req true (.leaf (.agg [.int .i64 (i64.wrap (a.1-b.1)),.int .i64 (i64.wrap (a.2.1-b.2.1)),.int .i64 (i64.wrap (a.2.2.1-b.2.2.1)),.int .i64 (i64.wrap (a.2.2.2-b.2.2.2))]))))))))))))):Tree SV):=by simp only[Tree.holds,sL,ne_eq,sLb,sLc,eq_self,sLd,sLe,sLf];exact rfl
theorem xk7(a b:V4):SCall pP 209 [V4.sv a,V4.sv b] (V4.sv (wsub4 a b)):=
 v8 mix [] trivial 1000 (.go (.lit (.go (.lit (.go (.lit (.go (.lit (.go (.lit (.all)))))))))))
  (by kernel_rfl) (xk9 a b) (by kernel_rfl) (by kernel_rfl)
theorem xk8(a b:V4):SCall pP 111 [V4.sv a,V4.sv b] (V4.sv (wsub4 a b)):=
 v8 mix [] trivial 1000 (.go (.lit (.go (.lit (.go (.lit (.go (.lit (.go (.lit (.all)))))))))))
  (by kernel_rfl) (xk9 a b) (by kernel_rfl) (by kernel_rfl)
def z50:Fact:=qm3 209 λa b=>.leaf (V4.sv (wsub4 a b))
def z51:Fact:=qm3 111 λa b=>.leaf (V4.sv (wsub4 a b))
theorem yi3:z50.ok pP:=qm4 (λa b=>xk7 a b)
theorem yi4:z51.ok pP:=qm4 (λa b=>xk8 a b)
def m0B(m:Mo):Bool:=inR m.1.1.1 0 0&& (inR m.1.1.2.1 0 0&& (inR m.1.1.2.2.1 0 0&& (inR m.1.1.2.2.2 0 0&& (inR m.1.2.1 0 0&& (inR m.1.2.2.1 0 0&& (inR m.1.2.2.2.1 0 0&& (inR m.1.2.2.2.2 0 0&& (inR m.2.1 0 0&&inR m.2.2 0 0))))))))
theorem qU4{m:Mo}:m0B m=true↔m.1.1.1=0/\m.1.1.2.1=0/\m.1.1.2.2.1=0/\m.1.1.2.2.2=0/\m.1.2.1=0/\m.1.2.2.1=0/\m.1.2.2.2.1=0/\m.1.2.2.2.2=0/\m.2.1=0/\m.2.2=0:=by
 have z:∀n:Int,inR n 0 0=true↔n=0:=λn=>by rw[j8];omega
 simp only[m0B,Bool.and_eq_true,z]
def xK0(f:Fw):Bool:=m0B f.mo&&inR f.active 0 0
theorem xK1:xK0 f=true↔m0B f.mo=true/\f.active=0:=by
 have z:∀n:Int,inR n 0 0=true↔n=0:=λn=>by rw[j8];omega
 simp only[xK0,Bool.and_eq_true,z]
def q02(f:Fw):Bool:=match f.moving with
 |true=>y79 f.mo f.ma.ticks
 |false=>xK0 f
theorem q04(h:f.moving=true):q02 f=y79 f.mo f.ma.ticks:=by unfold q02;rw[h]
theorem q03(h:f.moving=false):q02 f=xK0 f:=by unfold q02;rw[h]
def zu2(f:Fw):V4:=match f.moving with
 |true=>xL6 f.pos (qU5 f.mo)
 |false=>f.pos
theorem zu4(h:f.moving=true):zu2 f=xL6 f.pos (qU5 f.mo):=by unfold zu2;rw[h]
theorem zu3(h:f.moving=false):zu2 f=f.pos:=by unfold zu2;rw[h]
theorem xl5(f:Fw):SCall pP 88 [f.sv] (.bool (q02 f)):=
 v8 mix [qe4,zZ0,z31] ⟨ys5,yc8,yg4,trivial⟩ 1000 (.fork (.fork (.lit (.lit (.lit .all))) (.lit (.lit (.lit .all)))) (.fork (.ln 9 (.lit .all)) (.ln 7 (.fork (.ln 5 (.fork .all (.fork (.lit (.lit (.lit .all))) (.lit (.lit (.lit .all)))))) (.ln 5 (.lit .all))))))
  (t:=let y0:Tree SV:=.leaf (.bool false);.node (!f.moving) (.node (f.mo.1.1.1==0&& (f.mo.1.1.2.1==0&& (f.mo.1.1.2.2.1==0&& (f.mo.1.1.2.2.2==0&&true)))&& (f.mo.1.2.1==0&& (f.mo.1.2.2.1==0&& (f.mo.1.2.2.2.1==0&& (f.mo.1.2.2.2.2==0&&true))))&& (f.mo.2.1==0&& (f.mo.2.2==0&&true))) (.leaf (.bool (f.active==0))) y0) (.node (!xX7 f.mo.1) y0 (.node (decide (f.mo.2.1>=0)) (.node (!decide (f.mo.2.1<=i64.wrap (dom f.mo.1.1-1))) y0 (.node (decide (f.mo.2.2>=1)) (.leaf (.bool (decide (f.mo.2.2<=ivl f.mo.1 (i64.wrap (f.mo.2.1+1)) f.ma.ticks)))) y0)) y0)))
  (by kernel_rfl) (by
   have iv:=qL7 f.mo.1 (f.mo.2.1+1) f.ma.ticks;have dr:=zN3 f.mo.1.1;have w1:=w64 (x:=dom f.mo.1.1-1) (by omega) (by omega)
   have w2:0<=f.mo.2.1/\f.mo.2.1<=dom f.mo.1.1-1->i64.wrap (f.mo.2.1+1)=f.mo.2.1+1:=λh=>w64 (by omega) (by omega)
   have rm:=y80 (m:=f.mo) (t:=f.ma.ticks);have st:=xK1 (f:=f);have m0:=qU4 (m:=f.mo)
   cases hm:f.moving
   .rw[q03 hm]
    simp only[Tree.holds,hm,sL,ne_eq,sLb,sLc,eq_self,sLd,sLe,sLf];(repeat' (first|apply And.intro|intro _));
    all_goals(refine qC9 ?_;rw[st,m0];(try simp only[sL,ne_eq,sLb,sLc,eq_self,sLd,sLe,sLf]);first|omega|grind)
   .rw[q04 hm]
    simp only[Tree.holds,hm,w1,sL,ne_eq,sLb,sLc,eq_self,sLd,sLe,sLf];(repeat' (first|apply And.intro|intro _));
    all_goals(refine qC9 ?_;rw[rm];(try simp only[sL,ne_eq,sLb,sLc,eq_self,sLd,sLe,sLf]);first|omega|grind)) (by kernel_rfl) (by kernel_rfl)
theorem xb0(f:Fw)(h:zu8 f.pos=true):SCall pP 136 [f.sv] (V4.sv (zu2 f)):=
 v8 mix [z50,z47] ⟨yi3,yh9,trivial⟩ 1000 (.fork (.all) (.all))
  (t:=let y0:=wsub4 f.pos (qU5 f.mo);.node (!f.moving) (.leaf (.agg [.int .i64 f.pos.1,.int .i64 f.pos.2.1,.int .i64 f.pos.2.2.1,.int .i64 f.pos.2.2.2])) (.leaf (.agg [.int .i64 y0.1,.int .i64 y0.2.1,.int .i64 y0.2.2.1,.int .i64 y0.2.2.2])))
  (by kernel_rfl) (by
   have mr:=qG8.1 (qU7 f.mo);have hb:zu8 (qU5 f.mo)=true:=zu9.2 (by omega)
   cases hm:f.moving
   .rw[zu3 hm]
    simp only[Tree.holds,hm,sL,ne_eq,sLb,sLc,eq_self,sLd,sLe,sLf];first|rfl|(intros;rfl)
   .rw[zu4 hm]
    simp only[Tree.holds,hm,sL,ne_eq,sLb,sLc,eq_self,sLd,sLe,sLf]
    rw[x47 h hb];rfl) (by kernel_rfl) (by kernel_rfl)
def z56:Fact:=qg2 88 λf=>.leaf (.bool (q02 f))
theorem yi9:z56.ok pP:=qg3 (λf=>xl5 f)
def zX0:Fact:=qg2 136 λf=>.req (zu8 f.pos) (.leaf (V4.sv (zu2 f)))
theorem yb0:zX0.ok pP:=qg3 (λf h=>xb0 f h)
def yP8:Plan:=.fork (.ln 17 (.lit .all)) (.ln 7 (.fork (.ln 9 (.lit .all)) (.ln 4 (.fork (.ln 4 (.lit .all)) (.ln 4 (.fork .all (.fork .all (.fork .all .all))))))))
theorem qp0(f:Fw):o7 (Env.of pP (j9 [z60,zX0,z84,qe4])) 1000 (x9 pP 89) .unit (x6 75 [1,3,46,47,48]) (v7 pP 89) yP8 (v6 pP 89 [f.sv]) [] =(let y0:Tree Stop:=.leaf (.done (.bool false));let y1:=x16 (zu2 f) f.mo.1.1; .node (decide ((↑f.queue.length:Int)>32)) y0 (.node ((↑f.lines.length:Int) !=(↑f.queue.length:Int)) y0 (.node (!v9 f.pos) y0 (.node (!v9 f.ret) y0 (.req (zu8 f.pos) (.node (!v9 (zu2 f)) y0 (.node (!v9 y1) y0 (.leaf (.at (x8 pP 89 0) 75 (x7 75 [(1,.ptr 0 0),(3,.ptr 1 0),(46,.list o9 f.queue),(47,.int .i64 (↑f.queue.length:Int)),(48,.int .i64 0)]) [some (.cells (Fw.cells f)),some (.cells [.int .i64 y1.1,.int .i64 y1.2.1,.int .i64 y1.2.2.1,.int .i64 y1.2.2.2])]))))))))):=by kernel_rfl
def yP9:Plan:=.fork (.fork (.ln 11 (.lit .all)) (.ln 5 (.fork (.ln 5 (.fork (.ln 3 (.lit .all)) (.ln 3 (.fork .all .all)))) (.ln 9 (.lit .all))))) .all
theorem qp1(f:Fw)(p:V4)(n i:Int):o7 (Env.of pP (j9 [z60,zX0,z84,qe4])) 1000 (x9 pP 89) .unit (x6 75 [1,3,46,47,48]) (x8 pP 89 0) yP9 (x7 75 [(1,.ptr 0 0),(3,.ptr 1 0),(46,LB f.queue),(47,J n),(48,J i)]) [some (.cells f.cells),some (.cells p.cells)] =(let y0:=x16 p (f.queue.getD i.toNat dBk).1;let y1:Tree Stop:=.leaf (.done (.bool false)); .node (decide (i<n)) (.req (decide (0<=i)&&decide (i< (↑f.queue.length:Int))) (.node (!xX7 (f.queue.getD i.toNat dBk)) y1 (.req (decide (0<=i)&&decide (i< (↑f.lines.length:Int))) (.node (decide (f.lines.getD i.toNat 0>=0)) (.node (!decide (f.lines.getD i.toNat 0<=1099511627776)) y1 (.node (!v9 y0) y1 (.leaf (.at (x8 pP 89 0) 75 (x7 75 [(1,.ptr 0 0),(3,.ptr 1 0),(46,.list o9 f.queue),(47,.int .i64 n),(48,.int .i64 (i64.wrap (i+1)))]) [some (.cells (Fw.cells f)),some (.cells [.int .i64 y0.1,.int .i64 y0.2.1,.int .i64 y0.2.2.1,.int .i64 y0.2.2.2])])))) y1)))) (.leaf (.done (.bool true)))):=by kernel_rfl
def qw7:Plan:=.fork (.all) (.all)
theorem gp1(f:Fw)(p:V4)(n i:Int):o7 (Env.of pP (j9 [z60,zX0,z84,qe4])) 1000 (x9 pP 66) .unit (x6 29 [2,3,17,18,19]) (x8 pP 66 0) qw7 (x7 29 [(2,.ptr 0 0),(3,.ptr 1 0),(17,LB f.queue),(18,J n),(19,J i)]) [some (.cells (V4.cells z4)),some (.cells p.cells)] =(let y0:=x16 p (f.queue.getD i.toNat dBk).1; .node (decide (i<n)) (.req (decide (0<=i)&&decide (i< (↑f.queue.length:Int))) (.leaf (.at (x8 pP 66 0) 29 (x7 29 [(2,.ptr 0 0),(3,.ptr 1 0),(17,.list o9 f.queue),(18,.int .i64 n),(19,.int .i64 (i64.wrap (i+1)))]) [some (.cells [.int .i64 0,.int .i64 0,.int .i64 0,.int .i64 0]),some (.cells [.int .i64 y0.1,.int .i64 y0.2.1,.int .i64 y0.2.2.1,.int .i64 y0.2.2.2])]))) (.leaf (.done (.agg [.int .i64 p.1,.int .i64 p.2.1,.int .i64 p.2.2.1,.int .i64 p.2.2.2])))):=by kernel_rfl
def qw6:Plan:=.fork (.all) (.all)
theorem gp0(f:Fw):o7 (Env.of pP (j9 [z60,zX0,z84,qe4])) 1000 (x9 pP 66) .unit (x6 29 [2,3,17,18,19]) (v7 pP 66) qw6 (v6 pP 66 [f.sv]) [] =(let y0:=x7 29 [(2,.ptr 0 0),(3,.ptr 1 0),(17,.list o9 f.queue),(18,.int .i64 (↑f.queue.length:Int)),(19,.int .i64 0)];let y1:=x16 (zu2 f) f.mo.1.1;let y2:Box:=.cells [.int .i64 0,.int .i64 0,.int .i64 0,.int .i64 0]; .req (zu8 f.pos) (.node (f.moving) (.leaf (.at (x8 pP 66 0) 29 y0 [some y2,some (.cells [.int .i64 y1.1,.int .i64 y1.2.1,.int .i64 y1.2.2.1,.int .i64 y1.2.2.2])])) (.leaf (.at (x8 pP 66 0) 29 y0 [some y2,some (.cells [.int .i64 (zu2 f).1,.int .i64 (zu2 f).2.1,.int .i64 (zu2 f).2.2.1,.int .i64 (zu2 f).2.2.2])])))):=by kernel_rfl
def yN4(p:V4)(q:List Bk):Nat->V4
 |0=>p
 |i+1=>zi0 (yN4 p q i) (q.getD i dBk).1
def zw5(p:V4)(q:List Bk)(ls:List Int)(i:Nat):Bool:=xX7 (q.getD i dBk)&& (inR (ls.getD i 0) 0 1099511627776&&v9 (yN4 p q (i+1)))
theorem zw6{p:V4}{q:List Bk}{ls:List Int}{i:Nat}:zw5 p q ls i=true↔xX7 (q.getD i dBk)=true/\(0<=ls.getD i 0/\ls.getD i 0<=1099511627776)/\v9 (yN4 p q (i+1))=true:=by simp only[zw5,Bool.and_eq_true,j8]
def yQ6(f:Fw):V4:=zi0 (zu2 f) f.mo.1.1
def yR0(f:Fw):Bool:=decide (f.queue.length<=32)&& (decide (f.lines.length=f.queue.length)&& (v9 f.pos&& (v9 f.ret&& (v9 (zu2 f)&& (v9 (yQ6 f)&& (List.range f.queue.length).all λi=>zw5 (yQ6 f) f.queue f.lines i)))))
theorem yR1{f:Fw}:yR0 f=true↔f.queue.length<=32/\f.lines.length=f.queue.length/\v9 f.pos=true/\v9 f.ret=true/\v9 (zu2 f)=true/\v9 (yQ6 f)=true/\∀i,i<f.queue.length->zw5 (yQ6 f) f.queue f.lines i=true:=by
 simp only[yR0,Bool.and_eq_true,decide_eq_true_eq,List.all_eq_true,List.mem_range]
theorem q29{c:V4}(h:v9 c=true):zu8 c=true:=by rw[q26]at h;exact zu9.2 (by omega)
theorem q05(h:q02 f=true):v9 f.mo.1.1=true:=by
 cases hm:f.moving with
 |true=>
  rw[q04 hm,y80]at h;have:=(yv1.1 (xX8.1 h.1).1.1).1;exact q26.2 this
 |false=>
  rw[q03 hm,xK1,qU4]at h;rw[q26];omega
theorem fsQ:zm7 pP [z60,zX0,z84,qe4] :=⟨yj3,yb0,ym0,ys5,trivial⟩
section
variable {f:Fw}
noncomputable abbrev RQ(f:Fw)(v:Bool)(p:V4)(i:Nat):Prop:=t8 pP (x9 pP 89) (.bool v) (x8 pP 89 0) (x7 75 [(1,.ptr 0 0),(3,.ptr 1 0),(46,LB f.queue),(47,J f.queue.length),(48,J i)]) [some (.cells f.cells),some (.cells p.cells)]
theorem yQ0(hl:f.lines.length=f.queue.length)(hlen:f.queue.length<=32){p:V4}{v:Bool}(hv:v=true↔∀i,i<f.queue.length->zw5 p f.queue f.lines i=true):∀ (k i:Nat),i+k=f.queue.length->v9 (yN4 p f.queue i)=true->(∀t,t<i->zw5 p f.queue f.lines t=true)->RQ f v (yN4 p f.queue i) i
 |0,i,hi,hn,hp=>by
  unfold RQ;refine o5 (kW fsQ) (n:=1000) (hint:=.unit) (keep:=x6 75 [1,3,46,47,48]) (p:=yP9) rfl ?_;erw [qp1 f (yN4 p f.queue i) f.queue.length i];refine⟨λc=>absurd (of_decide_eq_true c) (by omega),λ_=>?_⟩;rw[hv.2 λt ht=>hp t (by omega)];exact rfl
 |k+1,i,hi,hn,hp=>by
  have bad:¬zw5 p f.queue f.lines i=true->v=false:=λc=>by
   cases v with
   |false=>rfl
   |true=>exact absurd (hv.1 rfl i (by omega)) c
  have nx:zw5 p f.queue f.lines i=true->RQ f v (yN4 p f.queue (i+1)) (i+1):=λok=>yQ0 hl hlen hv k (i+1) (by omega) (zw6.1 ok).2.2 λt ht=>by
   rcases Nat.lt_or_ge t i with c|c
   .exact hp t c
   .rw[show t=i by omega];exact ok
  have t0:(i:Int).toNat=i:=by omega
  have w1:i64.wrap ((i:Int)+1)=((i+1:Nat):Int):=by rw[w64 (by omega) (by omega)];omega
  have b1:=q29 hn
  have ps:xX7 (f.queue.getD i dBk)=true->x16 (yN4 p f.queue i) (f.queue.getD i dBk).1=yN4 p f.queue (i+1):=λc=>x17 b1 (q29 (q26.2 (yv1.1 (xX8.1 c).1.1).1))
  have dlt:decide ((i:Int)<f.queue.length)=true:=decide_eq_true (by omega);unfold RQ at nx ⊢;refine o5 (kW fsQ) (n:=1000) (hint:=.unit) (keep:=x6 75 [1,3,46,47,48]) (p:=yP9) rfl ?_;erw [qp1 f (yN4 p f.queue i) f.queue.length i];have bi:=@zw6 p f.queue f.lines i;simp only[dlt,t0,w1,Tree.holds,Bool.and_eq_true,decide_eq_true_eq,decide_eq_false_iff_not,Bool.true_eq_false,false_implies,true_implies,true_and,and_true,not_false_eq_true,Bool.not_eq_true',Bool.not_eq_false'];refine⟨by omega,λc=>?_,λc=>⟨by omega,λd=>⟨λg=>?_,λg=>⟨λn=>?_,λn=>?_⟩⟩,λd=>?_⟩⟩
  .rw[bad λo=>by rw[(bi.1 o).1]at c;cases c]
  .rw[bad λo=>by have:=(bi.1 o).2.1;omega]
  .rw[ps c]at n;rw[bad λo=>by rw[(bi.1 o).2.2]at n;cases n]
  .rw[ps c]at n ⊢;exact⟨u7 _ _,nx (bi.2 ⟨c,by omega,n⟩)⟩
  .rw[bad λo=>by have:=(bi.1 o).2.1;omega]
theorem xp9(f:Fw)(h:q02 f=true):SCall pP 89 [f.sv] (.bool (yR0 f)):=by
 have qi:=@yR1 f;have nc:=q05 h;refine s7 rfl rfl (by kernel_rfl) (o5 (kW fsQ) (n:=1000) (hint:=.unit) (keep:=x6 75 [1,3,46,47,48]) (p:=yP8) (boxes:=[]) rfl ?_);have q:=qp0 f;unfold v6 v7 at q;erw [q]
 have bad:∀{P:Prop},(yR0 f=true->P)->¬P->yR0 f=false:=λ{P} k n=>by
  cases hq:yR0 f with
  |false=>rfl
  |true=>exact absurd (k hq) n
 simp only[Tree.holds,Bool.and_eq_true,decide_eq_true_eq,decide_eq_false_iff_not,bne_iff_ne,bne_eq_false_iff_eq,ne_eq,Bool.not_eq_true',Bool.not_eq_false'];refine⟨λa=>?_,λa=>⟨λb=>?_,λb=>⟨λc=>?_,λc=>⟨λd=>?_,λd=>⟨q29 c,λg=>?_,λg=>?_⟩⟩⟩⟩⟩
 .rw[bad (λk=>(qi.1 k).1) (by omega)]
 .rw[bad (λk=>(qi.1 k).2.1) (by omega)]
 .rw[bad (λk=>(qi.1 k).2.2.1) (by rw[c];exact Bool.false_ne_true)]
 .rw[bad (λk=>(qi.1 k).2.2.2.1) (by rw[d];exact Bool.false_ne_true)]
 .rw[bad (λk=>(qi.1 k).2.2.2.2.1) (by rw[g];exact Bool.false_ne_true)]
 .have e:x16 (zu2 f) f.mo.1.1=yQ6 f:=x17 (q29 g) (q29 nc)
  rw[e];refine⟨λi=>?_,λi=>⟨u7 _ _,?_⟩⟩
  .rw[bad (λk=>(qi.1 k).2.2.2.2.2.1) (by rw[i];exact Bool.false_ne_true)]
  .have:=yQ0 (f:=f) (p:=yQ6 f) (v:=yR0 f) (by omega) (by omega) ⟨λk=>(qi.1 k).2.2.2.2.2.2,λk=>qi.2 ⟨by omega,by omega,c,d,g,i,k⟩⟩ f.queue.length 0 (by omega) i (λt ht=>absurd ht (Nat.not_lt_zero _))
   exact this
end
def qw5(f:Fw):V4:=yN4 (yQ6 f) f.queue f.queue.length
theorem yN5(h:yR0 f=true):∀i,i<=f.queue.length->v9 (yN4 (yQ6 f) f.queue i)=true
 |0,_=>(yR1.1 h).2.2.2.2.2.1
 |i+1,hi=>(zw6.1 ((yR1.1 h).2.2.2.2.2.2 i (by omega))).2.2
theorem zw7(h:yR0 f=true){i:Nat}(hi:i<f.queue.length):v9 (f.queue.getD i dBk).1=true:=
 q26.2 (yv1.1 (xX8.1 (zw6.1 ((yR1.1 h).2.2.2.2.2.2 i hi)).1).1.1).1
theorem yQ7(h:q02 f=true)(hm:f.moving=false):yQ6 f=zu2 f:=by
 rw[q03 hm,xK1,qU4]at h;unfold yQ6 zi0;rw[h.1.1,h.1.2.1,h.1.2.2.1,h.1.2.2.2.1];simp
section
variable {f:Fw}
theorem qw8(h:yR0 f=true):∀ (k i:Nat),i+k=f.queue.length->
  t8 pP (x9 pP 66) (V4.sv (qw5 f)) (x8 pP 66 0) (x7 29 [(2,.ptr 0 0),(3,.ptr 1 0),(17,LB f.queue),(18,J f.queue.length),(19,J i)]) [some (.cells (V4.cells z4)),some (.cells (V4.cells (yN4 (yQ6 f) f.queue i)))]
 |0,i,hi=>by
  refine o5 (kW fsQ) (n:=1000) (hint:=.unit) (keep:=x6 29 [2,3,17,18,19]) (p:=qw7) rfl ?_;erw [gp1 f (yN4 (yQ6 f) f.queue i) f.queue.length i];refine⟨λc=>absurd (of_decide_eq_true c) (by omega),λ_=>?_⟩;unfold qw5;rw[show f.queue.length=i by omega];exact rfl
 |k+1,i,hi=>by
  have nx:=qw8 h k (i+1) (by omega);have hlen:=(yR1.1 h).1
  have t0:(i:Int).toNat=i:=by omega
  have w1:i64.wrap ((i:Int)+1)=((i+1:Nat):Int):=by rw[w64 (by omega) (by omega)];omega
  have ps:x16 (yN4 (yQ6 f) f.queue i) (f.queue.getD i dBk).1=yN4 (yQ6 f) f.queue (i+1):=x17 (q29 (yN5 h i (by omega))) (q29 (zw7 h (by omega)));refine o5 (kW fsQ) (n:=1000) (hint:=.unit) (keep:=x6 29 [2,3,17,18,19]) (p:=qw7) rfl ?_;erw [gp1 f (yN4 (yQ6 f) f.queue i) f.queue.length i];refine⟨λ_=>?_,λc=>absurd (of_decide_eq_false c) (by omega)⟩;simp only[t0,w1,ps,Tree.holds,Bool.and_eq_true,decide_eq_true_eq];exact⟨by omega,u7 _ _,nx⟩
theorem xf6(f:Fw)(h:(q02 f&&yR0 f)=true):SCall pP 66 [f.sv] (V4.sv (qw5 f)):=by
 rw[Bool.and_eq_true]at h;have q:=yR1.1 h.2;refine s7 rfl rfl (by kernel_rfl) (o5 (kW fsQ) (n:=1000) (hint:=.unit) (keep:=x6 29 [2,3,17,18,19]) (p:=qw6) (boxes:=[]) rfl ?_);have e:=gp0 f;unfold v6 v7 at e;erw [e];have nx:=qw8 h.2 f.queue.length 0 (by omega);refine⟨q29 q.2.2.1,λc=>⟨u7 _ _,?_⟩,λc=>⟨u7 _ _,?_⟩⟩
 .have:x16 (zu2 f) f.mo.1.1=yQ6 f:=x17 (q29 q.2.2.2.2.1) (q29 (q05 h.1))
  rw[this];exact nx
 .have:=yQ7 h.1 c
  rw[<-this];exact nx
end
def x03(m:Mo)(t:Int):Bool:=inR t 1 1048576&& (xX7 m.1&& (if m.2.1=dom m.1.1 then inR m.2.2 0 0 else inR m.2.1 0 (dom m.1.1-1)&&inR m.2.2 1 (ivl m.1 (m.2.1+1) t)))
theorem x04{m:Mo}{t:Int}:x03 m t=true↔(1<=t/\t<=1048576)/\xX7 m.1=true/\((m.2.1=dom m.1.1/\m.2.2=0)\/(¬m.2.1=dom m.1.1/\(0<=m.2.1/\m.2.1<=dom m.1.1-1)/\1<=m.2.2/\m.2.2<=ivl m.1 (m.2.1+1) t)):=by
 simp only[x03,Bool.and_eq_true,j8]
 by_cases h:m.2.1=dom m.1.1
 .simp only[h,if_true,j8]
  constructor
  .intro ⟨a,b,c⟩;exact⟨a,b,.inl ⟨trivial,by omega⟩⟩
  .rintro ⟨a,b,⟨_,c⟩|⟨c,_⟩⟩
   .exact⟨a,b,by omega⟩
   .exact absurd trivial c
 .simp only[h,if_false,Bool.and_eq_true,j8]
  constructor
  .intro ⟨a,b,c⟩;exact⟨a,b,.inr ⟨not_false,c⟩⟩
  .rintro ⟨a,b,⟨c,_⟩|⟨_,c⟩⟩
   .exact absurd c (by trivial)
   .exact⟨a,b,c⟩
def yY9(f:Fw):V4:=match f.moving with
 |true=>xL6 f.mo.1.1 (qU5 f.mo)
 |false=>z4
theorem yZ1(h:f.moving=true):yY9 f=xL6 f.mo.1.1 (qU5 f.mo):=by unfold yY9;rw[h]
theorem yZ0(h:f.moving=false):yY9 f=z4:=by unfold yY9;rw[h]
def qY6(f:Fw):Bool:=q02 f&&v9 (zu2 f)
theorem qY7:qY6 f=true↔q02 f=true/\v9 (zu2 f)=true:=by simp only[qY6,Bool.and_eq_true]
theorem qU9(m:Mo):zu8 (qU5 m)=true:=by
 have mr:=qG8.1 (qU7 m);exact zu9.2 (by omega)
theorem xz6(m:Mo)(t:Int):SCall pP 186 [Mo.sv m,J t] (.bool (x03 m t)):=
 v8 mix [qe6,zZ1,z32] ⟨ys7,yc9,yg5,trivial⟩ 1000 (.fork (.ln 7 (.lit .all)) (.lit (.lit (.fork (.ln 4 (.lit .all)) (.ln 4 (.fork .all (.fork .all (.fork (.ln 4 (.fork (.ln 3 (.fork (.ln 9 (.lit .all)) (.ln 9 (.lit .all)))) (.ln 13 (.lit .all)))) (.ln 18 (.lit .all))))))))))
  (t:=let y0:Tree SV:=.leaf (.bool false);.node (decide (t<1)) y0 (.node (decide (t>1048576)) y0 (.node (!xX7 m.1) y0 (.node (m.2.1==dom m.1.1) (.leaf (.bool (m.2.2==0))) (.node (decide (m.2.1>=0)) (.node (decide (m.2.1<dom m.1.1)) (.node (decide (m.2.2>=1)) (.leaf (.bool (decide (m.2.2<=ivl m.1 (i64.wrap (m.2.1+1)) t)))) y0) y0) y0)))))
  (by kernel_rfl) (by
   have iv:=qL7 m.1 (m.2.1+1) t;have dr:=zN3 m.1.1
   have w1:0<=m.2.1/\m.2.1<=dom m.1.1-1->i64.wrap (m.2.1+1)=m.2.1+1:=λh=>w64 (by omega) (by omega)
   simp only[Tree.holds,sL,ne_eq,sLb,sLc,eq_self,sLd,sLe,sLf];(repeat' (first|apply And.intro|intro _));
   all_goals(refine qC9 ?_;rw[x04];(try simp only[sL,ne_eq,sLb,sLc,eq_self,sLd,sLe,sLf]);first|omega|grind)) (by kernel_rfl) (by kernel_rfl)
def qe5:Fact:=qk3 186 λm t=>.leaf (.bool (x03 m t))
theorem ys6:qe5.ok pP:=qk4 xz6
theorem xr4(f:Fw)(h:q02 f=true):SCall pP 187 [f.sv] (V4.sv (yY9 f)):=
 v8 mix [z51,z48] ⟨yi4,yi0,trivial⟩ 1000 (.fork (.all) (.all))
  (t:=let y0:=wsub4 f.mo.1.1 (qU5 f.mo);.node (!f.moving) (.leaf (.agg [.int .i64 0,.int .i64 0,.int .i64 0,.int .i64 0])) (.leaf (.agg [.int .i64 y0.1,.int .i64 y0.2.1,.int .i64 y0.2.2.1,.int .i64 y0.2.2.2])))
  (by kernel_rfl) (by
   cases hm:f.moving
   .rw[yZ0 hm]
    simp only[Tree.holds,hm,sL,ne_eq,sLb,sLc,eq_self,sLd,sLe,sLf];first|rfl|(intros;rfl)
   .rw[yZ1 hm]
    simp only[Tree.holds,hm,sL,ne_eq,sLb,sLc,eq_self,sLd,sLe,sLf]
    rw[x47 (q29 (q05 h)) (qU9 _)];rfl) (by kernel_rfl) (by kernel_rfl)
theorem xl2(f:Fw)(h:v9 f.pos=true):SCall pP 93 [f.sv] (.bool (qY6 f)):=
 v8 mix [qe5,zZ4,z48,z51,z61] ⟨ys6,yd2,yi0,yi4,yj4,trivial⟩ 1000 (.fork (.fork (.lit (.lit (.lit .all))) (.lit (.lit (.lit .all)))) (.fork (.ln 4 (.fork (.ln 6 (.lit .all)) (.ln 6 (.lit .all)))) (.ln 11 (.lit .all))))
  (t:=.node (!f.moving) (.node (f.mo.1.1.1==0&& (f.mo.1.1.2.1==0&& (f.mo.1.1.2.2.1==0&& (f.mo.1.1.2.2.2==0&&true)))&& (f.mo.1.2.1==0&& (f.mo.1.2.2.1==0&& (f.mo.1.2.2.2.1==0&& (f.mo.1.2.2.2.2==0&&true))))&& (f.mo.2.1==0&& (f.mo.2.2==0&&true))) (.leaf (.bool (f.active==0))) (.leaf (.bool false))) (.node (x03 f.mo f.ma.ticks) (.node (!zS3 f.mo) (.leaf (.bool (v9 (wsub4 f.pos (qU5 f.mo))))) (.leaf (.bool false))) (.leaf (.bool false))))
  (by kernel_rfl) (by
   have ei:=zS4 (m:=f.mo);have vi:=x04 (m:=f.mo) (t:=f.ma.ticks);have ip:=qL8 (b:=f.mo.1) (i:=f.mo.2.1+1) (t:=f.ma.ticks)
   cases hm:f.moving
   .have e:qY6 f=xK0 f:=by unfold qY6;rw[q03 hm,zu3 hm,h,Bool.and_true]
    rw[e];simp only[Tree.holds,hm,sL,ne_eq,sLb,sLc,eq_self,sLd,sLe,sLf];(repeat' (first|apply And.intro|intro _));
    all_goals(refine qC9 ?_;rw[xK1,qU4];(try simp only[sL,ne_eq,sLb,sLc,eq_self,sLd,sLe,sLf]);first|omega|grind)
   .have e:qY6 f=true↔y79 f.mo f.ma.ticks=true/\v9 (xL6 f.pos (qU5 f.mo))=true:=by rw[qY7,q04 hm,zu4 hm]
    have hw:wsub4 f.pos (qU5 f.mo)=xL6 f.pos (qU5 f.mo):=x47 (q29 h) (qU9 _);simp only[Tree.holds,hm,hw,sL,ne_eq,sLb,sLc,eq_self,sLd,sLe,sLf];(repeat' (first|apply And.intro|intro _));
    all_goals(refine qC9 ?_;rw[e,y80];(try simp only[sL,ne_eq,sLb,sLc,eq_self,sLd,sLe,sLf]);first|omega|grind)) (by kernel_rfl) (by kernel_rfl)
def qa2:Fact:=qg2 187 λf=>.req (q02 f) (.leaf (V4.sv (yY9 f)))
theorem yn9:qa2.ok pP:=qg3 (λf h=>xr4 f h)
def yQ1:Plan:=.fork (.ln 7 (.lit .all)) (.ln 7 (.fork .all (.fork .all .all)))
theorem qr0(f:Fw):o7 (Env.of pP (j9 [z61,qa2,z85,qe6])) 1000 (x9 pP 94) .unit (x6 60 [1,3,4]) (v7 pP 94) yQ1 (v6 pP 94 [f.sv]) [] =(let y0:=x16 f.pos (yY9 f); .node (decide ((↑f.queue.length:Int)>32)) (.leaf (.done (.bool false))) (.node ((↑f.lines.length:Int) !=(↑f.queue.length:Int)) (.leaf (.done (.bool false))) (.req (q02 f) (.node (!v9 y0) (.leaf (.done (.bool false))) (.leaf (.at (x8 pP 94 0) 60 (x7 60 [(1,.ptr 0 0),(3,.ptr 1 0),(4,.int .i64 0)]) [some (.cells (Fw.cells f)),some (.cells [.int .i64 y0.1,.int .i64 y0.2.1,.int .i64 y0.2.2.1,.int .i64 y0.2.2.2])])))))):=by kernel_rfl
def yQ2:Plan:=.fork (.fork (.ln 7 (.lit .all)) (.ln 5 (.fork (.ln 5 (.fork .all (.fork .all .all))) (.ln 5 (.lit .all))))) .all
theorem qr1(f:Fw)(p:V4)(i:Int):o7 (Env.of pP (j9 [z61,qa2,z85,qe6])) 1000 (x9 pP 94) .unit (x6 60 [1,3,4]) (x8 pP 94 0) yQ2 (x7 60 [(1,.ptr 0 0),(3,.ptr 1 0),(4,J i)]) [some (.cells f.cells),some (.cells p.cells)] =(let y0:=x16 p (f.queue.getD i.toNat dBk).1;let y1:Tree Stop:=.leaf (.done (.bool false));let y2:=i< (↑f.queue.length:Int); .node (decide y2) (.req (decide (0<=i)&&decide y2) (.node (!xX7 (f.queue.getD i.toNat dBk)) y1 (.req (decide (0<=i)&&decide (i< (↑f.lines.length:Int))) (.node (decide (f.lines.getD i.toNat 0>=0)) (.node (!decide (f.lines.getD i.toNat 0<=1099511627776)) y1 (.req (decide (0<=i)&&decide y2) (.node (!v9 y0) y1 (.leaf (.at (x8 pP 94 0) 60 (x7 60 [(1,.ptr 0 0),(3,.ptr 1 0),(4,.int .i64 (i64.wrap (i+1)))]) [some (.cells (Fw.cells f)),some (.cells [.int .i64 y0.1,.int .i64 y0.2.1,.int .i64 y0.2.2.1,.int .i64 y0.2.2.2])]))))) y1)))) (.leaf (.done (.bool true)))):=by kernel_rfl
def qx1:Plan:=.all
theorem qx0(f:Fw):o7 (Env.of pP (j9 [z61,qa2,z85,qe6])) 1000 (x9 pP 96) .unit (x6 26 [1,2,3,4]) (v7 pP 96) qx1 (v6 pP 96 [f.sv]) [] =(let y0:=x16 f.pos (yY9 f); .req (q02 f) (.leaf (.at (x8 pP 96 0) 26 (x7 26 [(1,.ptr 0 0),(2,.ptr 1 0),(3,.ptr 2 0),(4,.int .i64 0)]) [some (.cells (Fw.cells f)),some (.cells [.int .i64 0,.int .i64 0,.int .i64 0,.int .i64 0]),some (.cells [.int .i64 y0.1,.int .i64 y0.2.1,.int .i64 y0.2.2.1,.int .i64 y0.2.2.2])]))):=by kernel_rfl
def qx5:Plan:=.fork (.all) (.all)
theorem qx4(f:Fw)(p:V4)(i:Int):o7 (Env.of pP (j9 [z61,qa2,z85,qe6])) 1000 (x9 pP 96) .unit (x6 26 [1,2,3,4]) (x8 pP 96 0) qx5 (x7 26 [(1,.ptr 0 0),(2,.ptr 1 0),(3,.ptr 2 0),(4,J i)]) [some (.cells f.cells),some (.cells (V4.cells z4)),some (.cells p.cells)] =(let y0:=x16 p (f.queue.getD i.toNat dBk).1; .node (decide (i< (↑f.queue.length:Int))) (.req (decide (0<=i)&&decide (i< (↑f.queue.length:Int))) (.leaf (.at (x8 pP 96 0) 26 (x7 26 [(1,.ptr 0 0),(2,.ptr 1 0),(3,.ptr 2 0),(4,.int .i64 (i64.wrap (i+1)))]) [some (.cells (Fw.cells f)),some (.cells [.int .i64 0,.int .i64 0,.int .i64 0,.int .i64 0]),some (.cells [.int .i64 y0.1,.int .i64 y0.2.1,.int .i64 y0.2.2.1,.int .i64 y0.2.2.2])]))) (.leaf (.done (.agg [.int .i64 p.1,.int .i64 p.2.1,.int .i64 p.2.2.1,.int .i64 p.2.2.2])))):=by kernel_rfl
theorem xW6(h1:a.1=b.1)(h2:a.2.1=b.2.1)(h3:a.2.2.1=b.2.2.1)(h4:a.2.2.2=b.2.2.2):a=b:=Prod.ext h1 (Prod.ext h2 (Prod.ext h3 h4))
theorem yZ3(h:q02 f=true):zi0 f.pos (yY9 f)=yQ6 f:=by
 cases hm:f.moving with
 |true=>
  rw[yZ1 hm];unfold yQ6;rw[zu4 hm];exact xW6 (by simp only[zi0,xL6];omega) (by simp only[zi0,xL6];omega) (by simp only[zi0,xL6];omega) (by simp only[zi0,xL6];omega)
 |false=>
  rw[yZ0 hm,yQ7 h hm,zu3 hm];exact xW6 (by simp only[zi0,z4];omega) (by simp only[zi0,z4];omega) (by simp only[zi0,z4];omega) (by simp only[zi0,z4];omega)
theorem yZ2(h:q02 f=true):zu8 (yY9 f)=true:=by
 have c:=q26.1 (q05 h);have m:=qG8.1 (qU7 f.mo)
 cases hm:f.moving with
 |true=>rw[yZ1 hm,zu9];simp only[xL6];omega
 |false=>rw[yZ0 hm];decide
def yQ8(f:Fw):Bool:=decide (f.queue.length<=32)&& (decide (f.lines.length=f.queue.length)&& (v9 (yQ6 f)&& (List.range f.queue.length).all λi=>zw5 (yQ6 f) f.queue f.lines i))
theorem yQ9{f:Fw}:yQ8 f=true↔f.queue.length<=32/\f.lines.length=f.queue.length/\v9 (yQ6 f)=true/\∀i,i<f.queue.length->zw5 (yQ6 f) f.queue f.lines i=true:=by
 simp only[yQ8,Bool.and_eq_true,decide_eq_true_eq,List.all_eq_true,List.mem_range]
theorem qt6:zm7 pP [z61,qa2,z85,qe6] :=⟨yj4,yn9,ym1,ys7,trivial⟩
section
variable {f:Fw}
noncomputable abbrev RQR(f:Fw)(v:Bool)(p:V4)(i:Nat):Prop:=t8 pP (x9 pP 94) (.bool v) (x8 pP 94 0) (x7 60 [(1,.ptr 0 0),(3,.ptr 1 0),(4,J i)]) [some (.cells f.cells),some (.cells p.cells)]
theorem yQ3(hl:f.lines.length=f.queue.length)(hlen:f.queue.length<=32){p:V4}{v:Bool}(hv:v=true↔∀i,i<f.queue.length->zw5 p f.queue f.lines i=true):∀ (k i:Nat),i+k=f.queue.length->v9 (yN4 p f.queue i)=true->(∀t,t<i->zw5 p f.queue f.lines t=true)->RQR f v (yN4 p f.queue i) i
 |0,i,hi,hn,hp=>by
  unfold RQR;refine o5 (kW qt6) (n:=1000) (hint:=.unit) (keep:=x6 60 [1,3,4]) (p:=yQ2) rfl ?_;erw [qr1 f (yN4 p f.queue i) i];refine⟨λc=>absurd (of_decide_eq_true c) (by omega),λ_=>?_⟩;rw[hv.2 λt ht=>hp t (by omega)];exact rfl
 |k+1,i,hi,hn,hp=>by
  have bad:¬zw5 p f.queue f.lines i=true->v=false:=λc=>by
   cases v with
   |false=>rfl
   |true=>exact absurd (hv.1 rfl i (by omega)) c
  have nx:zw5 p f.queue f.lines i=true->RQR f v (yN4 p f.queue (i+1)) (i+1):=λok=>yQ3 hl hlen hv k (i+1) (by omega) (zw6.1 ok).2.2 λt ht=>by
   rcases Nat.lt_or_ge t i with c|c
   .exact hp t c
   .rw[show t=i by omega];exact ok
  have t0:(i:Int).toNat=i:=by omega
  have w1:i64.wrap ((i:Int)+1)=((i+1:Nat):Int):=by rw[w64 (by omega) (by omega)];omega
  have b1:=q29 hn
  have ps:xX7 (f.queue.getD i dBk)=true->x16 (yN4 p f.queue i) (f.queue.getD i dBk).1=yN4 p f.queue (i+1):=λc=>x17 b1 (q29 (q26.2 (yv1.1 (xX8.1 c).1.1).1))
  have dlt:decide ((i:Int)<f.queue.length)=true:=decide_eq_true (by omega);unfold RQR at nx ⊢;refine o5 (kW qt6) (n:=1000) (hint:=.unit) (keep:=x6 60 [1,3,4]) (p:=yQ2) rfl ?_;erw [qr1 f (yN4 p f.queue i) i];have bi:=@zw6 p f.queue f.lines i;simp only[dlt,t0,w1,Tree.holds,Bool.and_eq_true,decide_eq_true_eq,decide_eq_false_iff_not,Bool.true_eq_false,false_implies,true_implies,true_and,and_true,not_false_eq_true,Bool.not_eq_true',Bool.not_eq_false'];refine⟨by omega,λc=>?_,λc=>⟨by omega,λd=>⟨λg=>?_,λg=>⟨by omega,λn=>?_,λn=>?_⟩⟩,λd=>?_⟩⟩
  .rw[bad λo=>by rw[(bi.1 o).1]at c;cases c]
  .rw[bad λo=>by have:=(bi.1 o).2.1;omega]
  .rw[ps c]at n;rw[bad λo=>by rw[(bi.1 o).2.2]at n;cases n]
  .rw[ps c]at n ⊢;exact⟨u7 _ _,nx (bi.2 ⟨c,by omega,n⟩)⟩
  .rw[bad λo=>by have:=(bi.1 o).2.1;omega]
theorem xp8(f:Fw)(h:(q02 f&&v9 f.pos)=true):SCall pP 94 [f.sv] (.bool (yQ8 f)):=by
 rw[Bool.and_eq_true]at h;have qi:=@yQ9 f;refine s7 rfl rfl (by kernel_rfl) (o5 (kW qt6) (n:=1000) (hint:=.unit) (keep:=x6 60 [1,3,4]) (p:=yQ1) (boxes:=[]) rfl ?_);have q:=qr0 f;unfold v6 v7 at q;erw [q]
 have bad:∀{P:Prop},(yQ8 f=true->P)->¬P->yQ8 f=false:=λ{P} k n=>by
  cases hq:yQ8 f with
  |false=>rfl
  |true=>exact absurd (k hq) n
 have e:x16 f.pos (yY9 f)=yQ6 f:=by rw[x17 (q29 h.2) (yZ2 h.1),yZ3 h.1]
 rw[e];simp only[h.1,Tree.holds,Bool.and_eq_true,decide_eq_true_eq,decide_eq_false_iff_not,bne_iff_ne,bne_eq_false_iff_eq,ne_eq,Bool.not_eq_true',Bool.not_eq_false',true_and];refine⟨λa=>?_,λa=>⟨λb=>?_,λb=>⟨λi=>?_,λi=>⟨u7 _ _,?_⟩⟩⟩⟩
 .rw[bad (λk=>(qi.1 k).1) (by omega)]
 .rw[bad (λk=>(qi.1 k).2.1) (by omega)]
 .rw[bad (λk=>(qi.1 k).2.2.1) (by rw[i];exact Bool.false_ne_true)]
 .exact yQ3 (f:=f) (p:=yQ6 f) (v:=yQ8 f) (by omega) (by omega) ⟨λk=>(qi.1 k).2.2.2,λk=>qi.2 ⟨by omega,by omega,i,k⟩⟩ f.queue.length 0 (by omega) i (λt ht=>absurd ht (Nat.not_lt_zero _))
theorem qy0(h:yR0 f=true):∀ (k i:Nat),i+k=f.queue.length->
  t8 pP (x9 pP 96) (V4.sv (qw5 f)) (x8 pP 96 0) (x7 26 [(1,.ptr 0 0),(2,.ptr 1 0),(3,.ptr 2 0),(4,J i)]) [some (.cells f.cells),some (.cells (V4.cells z4)),some (.cells (V4.cells (yN4 (yQ6 f) f.queue i)))]
 |0,i,hi=>by
  refine o5 (kW qt6) (n:=1000) (hint:=.unit) (keep:=x6 26 [1,2,3,4]) (p:=qx5) rfl ?_;erw [qx4 f (yN4 (yQ6 f) f.queue i) i];refine⟨λc=>absurd (of_decide_eq_true c) (by omega),λ_=>?_⟩;unfold qw5;rw[show f.queue.length=i by omega];exact rfl
 |k+1,i,hi=>by
  have nx:=qy0 h k (i+1) (by omega);have hlen:=(yR1.1 h).1
  have t0:(i:Int).toNat=i:=by omega
  have w1:i64.wrap ((i:Int)+1)=((i+1:Nat):Int):=by rw[w64 (by omega) (by omega)];omega
  have ps:x16 (yN4 (yQ6 f) f.queue i) (f.queue.getD i dBk).1=yN4 (yQ6 f) f.queue (i+1):=x17 (q29 (yN5 h i (by omega))) (q29 (zw7 h (by omega)));refine o5 (kW qt6) (n:=1000) (hint:=.unit) (keep:=x6 26 [1,2,3,4]) (p:=qx5) rfl ?_;erw [qx4 f (yN4 (yQ6 f) f.queue i) i];refine⟨λ_=>?_,λc=>absurd (of_decide_eq_false c) (by omega)⟩;simp only[t0,w1,ps,Tree.holds,Bool.and_eq_true,decide_eq_true_eq];exact⟨by omega,u7 _ _,nx⟩
theorem xf7(f:Fw)(h:(q02 f&&yR0 f)=true):SCall pP 96 [f.sv] (V4.sv (qw5 f)):=by
 rw[Bool.and_eq_true]at h;have q:=yR1.1 h.2;refine s7 rfl rfl (by kernel_rfl) (o5 (kW qt6) (n:=1000) (hint:=.unit) (keep:=x6 26 [1,2,3,4]) (p:=qx1) (boxes:=[]) rfl ?_);have e:=qx0 f;unfold v6 v7 at e;erw [e];have nx:=qy0 h.2 f.queue.length 0 (by omega)
 have e2:x16 f.pos (yY9 f)=yQ6 f:=by rw[x17 (q29 q.2.2.1) (yZ2 h.1),yZ3 h.1]
 rw[e2];exact⟨h.1,u7 _ _,nx⟩
end
def z90:Fact:=qg2 89 λf=>.req (q02 f) (.leaf (.bool (yR0 f)))
theorem ym6:z90.ok pP:=qg3 (λf h=>xp9 f h)
def z07:Fact:=qg2 66 λf=>.req (q02 f&&yR0 f) (.leaf (V4.sv (qw5 f)))
theorem ye4:z07.ok pP:=qg3 (λf h=>xf6 f h)
def z08:Fact:=qg2 96 λf=>.req (q02 f&&yR0 f) (.leaf (V4.sv (qw5 f)))
theorem ye5:z08.ok pP:=qg3 (λf h=>xf7 f h)
def z54:Fact:=qg2 93 λf=>.req (v9 f.pos) (.leaf (.bool (qY6 f)))
theorem yi7:z54.ok pP:=qg3 (λf h=>xl2 f h)
def z89:Fact:=qg2 94 λf=>.req (q02 f&&v9 f.pos) (.leaf (.bool (yQ8 f)))
theorem ym5:z89.ok pP:=qg3 (λf h=>xp8 f h)
def yJ5(c d:Co)(g h:Gu):Bool:=c.ok&& (d.ok&& (g.ok&&h.ok))
def z80:Fact:=⟨68,λargs=>match args with
 |[.agg [.int .i64 a0,.int .i64 a1,.int .i64 a2,.int .i64 a3,.int .i64 a4,.int .i64 a5,.int .i64 a6,.int .i64 a7,.int .i64 a8,.int .i64 a9,.int .i64 a10,.int .i64 a11],.agg [.int .i64 g0,.int .i64 g1,.int .i64 g2,.int .i64 g3,.int .i64 g4,.int .i64 g5,.int .i64 g6,.int .i64 g7,.int .i64 g8,.int .i64 g9,.bool d,.int .i64 h0,.int .i64 h1,.int .i64 h2,.int .i64 h3,.int .i64 h4,.int .i64 h5,.int .i64 h6,.int .i64 h7,.int .i64 h8,.int .i64 h9,.bool u]] =>some (.leaf (.bool (yJ5 ⟨a0,a1,a2,a3,a4,a5⟩ ⟨a6,a7,a8,a9,a10,a11⟩ ⟨g0,g1,g2,g3,g4,g5,g6,g7,g8,g9,d⟩ ⟨h0,h1,h2,h3,h4,h5,h6,h7,h8,h9,u⟩)))
 |_=>none⟩
def zR8(f:Fw):Bool:=(!(f.mode==3)&&f.homed)||(!f.moving&&f.queue.isEmpty)
def xX9(f:Fw):Bool:=yJ6 f&& (qY0 f&& (q02 f&& (yR0 f&&zR8 f)))
theorem xY0:xX9 f=true↔yJ6 f=true/\qY0 f=true/\q02 f=true/\yR0 f=true/\zR8 f=true:=by simp only[xX9,Bool.and_eq_true]
theorem zR9:zR8 f=true↔(¬f.mode=3/\f.homed=true)\/(f.moving=false/\f.queue.length=0):=by
 simp only[zR8,Bool.or_eq_true,Bool.and_eq_true,Bool.not_eq_true',beq_eq_false_iff_ne,ne_eq,List.isEmpty_iff,List.length_eq_zero_iff]
theorem yR2:yR0 f=true↔v9 f.pos=true/\v9 f.ret=true/\v9 (zu2 f)=true/\yQ8 f=true:=by
 rw[yR1,yQ9];constructor
 .rintro ⟨a,b,c,d,e,g,h⟩;exact⟨c,d,e,a,b,g,h⟩
 .rintro ⟨c,d,e,a,b,g,h⟩;exact⟨a,b,c,d,e,g,h⟩
def qF6(f:Fw):Bool:=!f.moving&& (f.queue.isEmpty&&f.dwell==0)
theorem qF7:qF6 f=true↔f.moving=false/\f.queue.length=0/\f.dwell=0:=by
 simp only[qF6,Bool.and_eq_true,Bool.not_eq_true',beq_iff_eq,List.isEmpty_iff,List.length_eq_zero_iff]
theorem yl6:z80.ok pP:=λargs t ht=>by
 simp only[z80]at ht
 split at ht
 .injection ht with ht;subst ht;exact xn9 ⟨_,_,_,_,_,_⟩ ⟨_,_,_,_,_,_⟩ ⟨_,_,_,_,_,_,_,_,_,_,_⟩ ⟨_,_,_,_,_,_,_,_,_,_,_⟩
 .cases ht
theorem s_valid(f:Fw):SCall pP 31 [f.sv] (.bool (xX9 f)):=
 v8 mix [z79,z64,z56,z90] ⟨yl5,yj8,yi9,ym6,trivial⟩ 1000 (.fork (.ln 11 (.lit .all)) (.ln 3 (.fork (.ln 7 (.lit .all)) (.ln 3 (.fork (.ln 3 (.lit .all)) (.ln 3 (.fork .all (.fork (.lit (.lit (.fork (.ln 4 (.lit .all)) (.ln 3 (.fork (.ln 5 (.lit .all)) (.ln 5 (.lit .all))))))) (.ln 6 (.fork (.ln 5 (.lit .all)) (.ln 5 (.lit .all))))))))))))
  (t:=let y0:Tree SV:=.leaf (.bool false);let y1:Tree SV:=.node (!f.moving) (.leaf (.bool ((↑f.queue.length:Int)==0))) y0;.node (!yJ6 f) y0 (.node (!qY0 f) y0 (.node (!q02 f) y0 (.req (q02 f) (.node (!yR0 f) y0 (.node (f.mode != 3) (.node (f.homed) (.leaf (.bool true)) y1) y1))))))
  (by kernel_rfl) (by
   have vi:=xY0 (f:=f);have ei:=zR9 (f:=f);simp only[Tree.holds,sL,ne_eq,sLb,sLc,eq_self,sLd,sLe,sLf];(repeat' (first|apply And.intro|intro _));
   all_goals first
    |assumption
    |(refine qC9 ?_;rw[vi,ei];(try simp only[sL,ne_eq,sLb,sLc,eq_self,sLd,sLe,sLf]);first|omega|grind)) (by kernel_rfl) (by kernel_rfl)
theorem s_validR(f:Fw):SCall pP 32 [f.sv] (.bool (xX9 f)):=
 v8 mix [z46,z80,z65,z61,z54,z89] ⟨yh8,yl6,yj9,yj4,yi7,ym5,trivial⟩ 1000 (let z0:Plan:=.ln 5 (.lit .all);.fork (.ln 15 (.lit .all)) (.ln 6 (.fork (.ln 8 (.lit .all)) (.lit (.lit (.fork (.ln 5 (.fork (.ln 3 (.lit .all)) (.ln 3 (.fork .all (.fork (.ln 12 (.lit .all)) (.ln 4 (.fork (.ln 7 (.lit .all)) (.ln 3 (.fork (.ln 3 (.lit .all)) (.ln 3 (.fork .all (.fork (.ln 3 (.fork (.ln 4 (.lit .all)) (.ln 3 (.fork z0 z0)))) (.ln 7 (.fork z0 z0)))))))))))))) (.ln 9 (.lit .all))))))))
  (t:=let y0:Tree SV:=.leaf (.bool false);let y1:Tree SV:=.node (!f.moving) (.leaf (.bool ((↑f.queue.length:Int)==0))) y0;.node (!f.ma.ok) y0 (.node (!yJ5 f.c0 f.c1 f.g0 f.g1) y0 (.node (decide (f.mode>=1)) (.node (!decide (f.mode<=3)) y0 (.node (!q72 f) y0 (.node (!v9 f.pos) y0 (.node (!v9 f.ret) y0 (.req (v9 f.pos) (.node (!qY6 f) y0 (.req (q02 f&&v9 f.pos) (.node (!yQ8 f) y0 (.node (f.homed) (.node (f.mode != 3) (.leaf (.bool true)) y1) y1))))))))) y0)))
  (by kernel_rfl) (by
   have vi:=xY0 (f:=f);have ei:=zR9 (f:=f);have pi:=yJ7 (f:=f)
   have p4:yJ5 f.c0 f.c1 f.g0 f.g1=true↔f.c0.ok=true/\f.c1.ok=true/\f.g0.ok=true/\f.g1.ok=true:=by simp only[yJ5,Bool.and_eq_true]
   have mi:=qY1 (f:=f);have mo:=qY7 (f:=f);have qi:=yR2 (f:=f);simp only[Tree.holds,sL,ne_eq,sLb,sLc,eq_self,sLd,sLe,sLf];(repeat' (first|apply And.intro|intro _));
   all_goals first
    |assumption
    |(exact(mo.1 (by assumption)).1)
    |(refine qC9 ?_;rw[vi,ei];(try simp only[sL,ne_eq,sLb,sLc,eq_self,sLd,sLe,sLf]);first|omega|grind)) (by kernel_rfl) (by kernel_rfl)
def qe2:Fact:=qg2 31 λf=>.leaf (.bool (xX9 f))
theorem ys3:qe2.ok pP:=qg3 (λf=>s_valid f)
def qe3:Fact:=qg2 32 λf=>.leaf (.bool (xX9 f))
theorem ys4:qe3.ok pP:=qg3 (λf=>s_validR f)
theorem xh3(f:Fw):Tree.holds (λv=>v=(.bool (qF6 f))) (.node (!f.moving)
 (.node ((↑f.queue.length:Int)==0)
  (.leaf (SV.bool (f.dwell==0)))
  (.leaf (SV.bool false)))
 (.leaf (SV.bool false)):Tree SV):=by simp only[Tree.holds,sL,ne_eq,sLb,sLc,eq_self,sLd,sLe,sLf];(repeat' (first|apply And.intro|intro _));all_goals(refine qC9 ?_;rw[qF7];(try simp only[sL,ne_eq,sLb,sLc,eq_self,sLd,sLe,sLf]); first|omega|grind)
theorem xh1(f:Fw):SCall pP 65 [f.sv] (.bool (qF6 f)):=
 v8 mix [] trivial 1000 (.fork (.ln 4 (.fork (.lit (.lit (.lit .all))) (.lit (.lit (.lit .all))))) (.ln 7 (.lit .all)))
  (by kernel_rfl) (xh3 f) (by kernel_rfl) (by kernel_rfl)
theorem xh2(f:Fw):SCall pP 95 [f.sv] (.bool (qF6 f)):=
 v8 mix [] trivial 1000 (.fork (.ln 4 (.fork (.lit (.lit (.lit .all))) (.lit (.lit (.lit .all))))) (.ln 7 (.lit .all)))
  (by kernel_rfl) (xh3 f) (by kernel_rfl) (by kernel_rfl)
def z21:Fact:=qg2 65 λf=>.leaf (.bool (qF6 f))
theorem yf5:z21.ok pP:=qg3 (λf=>xh1 f)
def z22:Fact:=qg2 95 λf=>.leaf (.bool (qF6 f))
theorem yf6:z22.ok pP:=qg3 (λf=>xh2 f)
def zb7(f:Fw):Bool:=xX9 f&&qF6 f
theorem zb8:zb7 f=true↔xX9 f=true/\qF6 f=true:=by simp only[zb7,Bool.and_eq_true]
theorem y92(f:Fw):SCall pP 20 [f.sv] (.bool (zb7 f)):=
 v8 mix [qe2,z21] ⟨ys3,yf5,trivial⟩ 1000 (.fork (.lit (.lit (.all))) (.lit (.lit (.all))))
  (t:=.node (xX9 f)
 (.leaf (SV.bool (qF6 f)))
 (.leaf (SV.bool false)))
   (by kernel_rfl) (by simp only[Tree.holds,sL,ne_eq,sLb,sLc,eq_self,sLd,sLe,sLf];(repeat' (first|apply And.intro|intro _));all_goals(refine qC9 ?_;rw[zb8];(try simp only[sL,ne_eq,sLb,sLc,eq_self,sLd,sLe,sLf]); first|omega|grind)) (by kernel_rfl) (by kernel_rfl)
def z23:Fact:=qg2 20 λf=>.leaf (.bool (zb7 f))
theorem yf7:z23.ok pP:=qg3 (λf=>y92 f)
variable{args:List SV}
theorem xD2{f:FuncId}{v':SV}(h:SCall P f args v)(hv:∀ (R:Nat->Prop) (I:Rho) (n:Nat) (w:World) (u:Value),Rep R I n w v u->Rep R I n w v' u):SCall P f args v':=by
 intro m w0 R0 I w vs hm hvs;refine zc1.mono (λu w' hu=>?_) (h m w0 R0 I w vs hm hvs);obtain⟨I',g1,g2,g3⟩:=hu;exact⟨I',g1,g2,hv _ _ _ _ _ g3⟩
theorem q51{ds rest:List SV}(hn:v5 cs ds)(R:Nat->Prop)(I:Rho)(n:Nat)(w:World)(u:Value)(h:Rep R I n w (.tuple (.agg cs::rest)) u):Rep R I n w (.tuple (.agg ds::rest)) u:=by
 obtain⟨vs,h1,x,xs,h2,⟨ws,h3,h4⟩,h5⟩:=h;exact⟨vs,h1,x,xs,h2,⟨ws,h3,hn.rep h4⟩,h5⟩
def q34(m:Ma)(c d:Co)(g h:Gu)(cold:Int):Bool:=m.ok&& (c.ok&& (d.ok&& (g.ok&& (h.ok&& (inR cold 0 400000&& (inR g.fault 0 0&&inR h.fault 0 0))))))
variable{m:Ma}{c d:Co}{g h:Gu}{cold:Int}
theorem q35:q34 m c d g h cold=true↔m.ok=true/\c.ok=true/\d.ok=true/\g.ok=true/\h.ok=true/\(0<=cold/\cold<=400000)/\g.fault=0/\h.fault=0:=by
 have z:∀n:Int,inR n 0 0=true↔n=0:=λn=>by rw[j8];omega
 simp only[q34,Bool.and_eq_true,j8,z]
def a0:Ax:=⟨0,0,0,0,0,0,0⟩
def ma0:Ma:=⟨a0,a0,a0,a0,false,0⟩
def fw0:Fw:=⟨ma0,0,false,z4,(0,0,0),0,0,[],[],m0,false,0,false,z4,0,0,Co.zero,Co.zero,Gu.zero,Gu.zero,0,0,0,0,0,0⟩
def q33(m:Ma)(c d:Co)(g h:Gu)(cold:Int):Fw:={fw0 with ma:=m,mode:=1,c0:=c,c1:=d,g0:=g,g1:=h,cold:=cold}
def o6(f:Fw):List SV:=f.cells.take 41++(.nilS::.nilS::f.cells.drop 43)
def q36(m:Ma)(c d:Co)(g h:Gu)(cold:Int):SV:=match q34 m c d g h cold with
 |true=>.tuple [.agg (o6 (q33 m c d g h cold)),J 0]
 |false=>.tuple [.agg (o6 fw0),J 1]
theorem q38(k:q34 m c d g h cold=true):q36 m c d g h cold=.tuple [.agg (o6 (q33 m c d g h cold)),J 0] :=by unfold q36;rw[k]
theorem q37(k:q34 m c d g h cold=false):q36 m c d g h cold=.tuple [.agg (o6 fw0),J 1] :=by unfold q36;rw[k]
theorem xm4(m:Ma)(c d:Co)(g h:Gu)(cold:Int):SCall pP 61 [m.sv,.agg (c.cells++d.cells),.agg (g.cells++h.cells),J cold] (q36 m c d g h cold):=
 v8 mix [z79] ⟨yl5,trivial⟩ 1000 (.fork (.ln 13 (.lit .all)) (.lit (.fork (.ln 5 (.fork (.ln 9 (.lit .all)) (.ln 4 (.fork (.ln 4 (.lit .all)) (.ln 4 (.fork .all .all)))))) (.ln 15 (.lit .all)))))
  (t:=let y0:Tree SV:=.leaf (.tuple [.agg (o6 fw0),.int .i64 1]);.node (!yJ6 (Fw.mk m 1 false (0,0,0,0) (0,0,0) 0 0 [] [] (((0,0,0,0),0,0,0,0),0,0) false 0 false (0,0,0,0) 0 0 c d g h 0 0 0 cold 0 0)) y0 (.node (decide (cold>=0)) (.node (!decide (cold<=400000)) y0 (.req true (.node (g.fault != 0) y0 (.req true (.node (h.fault != 0) y0 (.leaf (.tuple [.agg [.int .i64 m.x.num,.int .i64 m.x.den,.int .i64 m.x.speed,.int .i64 m.x.accel,.int .i64 m.x.jerk,.int .i64 m.x.min,.int .i64 m.x.max,.int .i64 m.y.num,.int .i64 m.y.den,.int .i64 m.y.speed,.int .i64 m.y.accel,.int .i64 m.y.jerk,.int .i64 m.y.min,.int .i64 m.y.max,.int .i64 m.z.num,.int .i64 m.z.den,.int .i64 m.z.speed,.int .i64 m.z.accel,.int .i64 m.z.jerk,.int .i64 m.z.min,.int .i64 m.z.max,.int .i64 m.e.num,.int .i64 m.e.den,.int .i64 m.e.speed,.int .i64 m.e.accel,.int .i64 m.e.jerk,.int .i64 m.e.min,.int .i64 m.e.max,.bool m.xy,.int .i64 m.ticks,.int .i64 1,.bool false,.int .i64 0,.int .i64 0,.int .i64 0,.int .i64 0,.int .i64 0,.int .i64 0,.int .i64 0,.int .i64 0,.int .i64 0,SV.nilS,SV.nilS,.int .i64 0,.int .i64 0,.int .i64 0,.int .i64 0,.int .i64 0,.int .i64 0,.int .i64 0,.int .i64 0,.int .i64 0,.int .i64 0,.bool false,.int .i64 0,.bool false,.int .i64 0,.int .i64 0,.int .i64 0,.int .i64 0,.int .i64 0,.int .i64 0,.int .i64 c.target,.int .i64 c.kp,.int .i64 c.ki,.int .i64 c.scale,.int .i64 c.sum,.int .i64 c.limit,.int .i64 d.target,.int .i64 d.kp,.int .i64 d.ki,.int .i64 d.scale,.int .i64 d.sum,.int .i64 d.limit,.int .i64 g.low,.int .i64 g.high,.int .i64 g.watch,.int .i64 g.rise,.int .i64 g.band,.int .i64 g.base,.int .i64 g.count,.int .i64 g.idle,.int .i64 g.quiet,.int .i64 g.fault,.bool g.door,.int .i64 h.low,.int .i64 h.high,.int .i64 h.watch,.int .i64 h.rise,.int .i64 h.band,.int .i64 h.base,.int .i64 h.count,.int .i64 h.idle,.int .i64 h.quiet,.int .i64 h.fault,.bool h.door,.int .i64 0,.int .i64 0,.int .i64 0,.int .i64 cold,.int .i64 0,.int .i64 0],.int .i64 0]))))))) y0))
  (by kernel_rfl) (by
   simp only[yJ6,yJ5];simp only[Tree.holds,sL,ne_eq,sLb,sLc,eq_self,sLd,sLe,sLf];(repeat' (first|apply And.intro|intro _));
   all_goals first|(rw[q37 (Bool.eq_false_iff.2 (by rw[ne_eq,q35];grind))];rfl)|(rw[q38 (q35.2 (by grind))];rfl)) (by kernel_rfl) (by unfold q36;split<;>rfl)
def allQ.{u}{β:Type u}(p:β->Prop):List β->Prop
 |[] =>True
 |x::l=>p x/\allQ p l
theorem allQ.all.{u}{β:Type u}{p:β->Prop}:∀{l:List β},allQ p l->∀x∈l,p x
 |[],_=>λx hx=>by cases hx
 |y::l,h=>λx hx=>by
  cases hx with
  |head=>exact h.1
  |tail _ hx=>exact h.2.all x hx
variable{id:Nat}
theorem MRel.weak{w0:World}{R0:RSet}{m m2:Mem}{cs2:List SV}(h:MRel w0 R0 I w m)(hB:m.get id=some (.cells cs))(hn:v5 cs cs2)(h2:zc0 m id (some (.cells cs2)) m2):MRel w0 R0 I w m2/\b8 w0 R0 I w m I w m2:=by
 have hg:∀k B,m2.get k=some B->∃C,m.get k=some C/\(xG1 (I k) B->xG1 (I k) C):=λk B hk=>by
  rw[h2.1 k]at hk
  split at hk
  .rename_i hki;subst hki;exact⟨_,hB,λ_=>trivial⟩
  .exact⟨B,hk,λx=>x⟩
 have hro:∀b,RO w0 R0 I w m b->RO w0 R0 I w m2 b:=λb hb=>by
  rcases hb with hb|⟨k1,k2,k3,k4⟩
  .exact .inl hb
  .exact .inr ⟨k1,k2,λk B hk hs=>by
    obtain⟨C,hC,hs'⟩:=hg k B hk
    exact k3 k C hC (hs' hs),k4⟩
 have e:b8 w0 R0 I w m I w m2:=⟨by rw[h2.2];exact Nat.le_refl _,λ_ _=>rfl,λb hb=>⟨hro b hb,rfl⟩⟩;refine⟨⟨h.below,λk B hk=>?_,λk B hk hs=>?_,λk B hk hs=>?_,λk k' B B' hk hk' hs hs' heq=>?_,λk B hk=>?_,h.hid.1,λk B hk hs=>?_⟩,e⟩
 .obtain⟨C,hC,_⟩:=hg k B hk;rw[h2.2];exact h.lt k C hC
 .obtain⟨C,hC,hs'⟩:=hg k B hk;exact h.lo k C hC (hs' hs)
 .obtain⟨C,hC,hs'⟩:=hg k B hk;exact h.hi k C hC (hs' hs)
 .obtain⟨C,hC,c1⟩:=hg k B hk
  obtain⟨C',hC',c2⟩:=hg k' B' hk';exact h.inj k k' C C' hC hC' (c1 hs) (c2 hs') heq
 .rw[h2.1 k]at hk
  split at hk
  .rename_i hki
   subst hki;injection hk with hk;subst hk;obtain⟨arr,el,fr,k1,k2,k3⟩:=h.box k _ hB;exact⟨arr,el,fr,k1,k2,hn.rep (j7.mono e _ _ k3)⟩
  .exact za2.mono e _ (λ_=>rfl) (h.box k B hk)
 .obtain⟨C,hC,hs'⟩:=hg k B hk;exact h.hid.2 k C hC (hs' hs)
theorem qW8{w0:World}{R0:RSet}{m:Mem}(h:MRel w0 R0 I w m){B C:Box}(hB:m.get id=some B):∃m2,zc0 m id (some C) m2:=by
 obtain⟨m2,hn,hg⟩:=qW4 m.next ((List.range m.next).map λk=>if k=id then some C else m.get k);refine⟨m2,λk=>?_,hn⟩;rw[hg k,List.getElem?_map]
 by_cases hk:k<m.next
 .rw[List.getElem?_range hk];rfl
 .have hki:¬k=id:=λe=>by subst e;exact hk (h.lt k B hB)
  rw[List.getElem?_eq_none (by simpa using hk),if_neg hki]
  cases hx:m.get k with
  |none=>rfl
  |some D=>exact absurd (h.lt k D hx) hk
theorem zt2{f:FuncId}{x:List SV}{C:Box}(hn:v5 cs x)(h:za1 P f args (.cells x) (false,v,C)):za1 P f args (.cells cs) (false,v,C):=by
 intro m m' id hB hm' w0 R0 I w vs hm hvs;obtain⟨m2,h2⟩:=qW8 (C:=.cells x) hm hB;obtain⟨a,e⟩:=MRel.weak hm hB hn h2
 have hm2:zc0 m2 id (some C) m':=⟨λk=>by rw[hm'.1 k,h2.1 k];split<;>rfl,hm'.2.trans h2.2.symm⟩
 refine zc1.mono (λu w' hu=>?_) (h m2 m' id (by rw[h2.1,if_pos rfl]) hm2 w0 R0 I w vs a (j7.mono e _ _ hvs));obtain⟨I',g1,g2,g3⟩:=hu;exact⟨I',g1,e.trans g2,g3⟩
theorem zt4{f:FuncId}{x:List SV}{B:Box}(hn:v5 cs x)(h:za1 P f args B (false,v,.cells cs)):za1 P f args B (false,v,.cells x):=by
 intro m m' id hB hm' w0 R0 I w vs hm hvs;obtain⟨m1,h1⟩:=qW8 (C:=.cells cs) hm hB;refine zc1.mono (λu w' hu=>?_) (h m m1 id hB h1 w0 R0 I w vs hm hvs);obtain⟨I',g1,g2,g3⟩:=hu
 obtain⟨a,e⟩:=MRel.weak g1 (by rw[h1.1,if_pos rfl]) hn (m2:=m') ⟨λk=>by rw[hm'.1 k,h1.1 k];split<;>rfl,hm'.2.trans h1.2.symm⟩
 exact⟨I',a,g2.trans e,Rep.mono e _ _ g3⟩
def zb3(P:Program)(f:FuncId)(rest:List SV)(x:Fw)(r:SV×Fw):Prop:=za1 P f rest (.cells x.cells) (false,r.1,.cells r.2.cells)
inductive endsAt (v:SV) (y:Fw):StopX->Prop where
 |mk (cs:List SV) (hn:v5 cs y.cells) (hd:f6 cs=true):endsAt v y (.fin (.ret v [some (.cells cs)]))
variable{y:Fw}
theorem ends{u:SV}(h:u=v)(hn:v5 cs y.cells)(hd:f6 cs=true):endsAt v y (.fin (.ret u [some (.cells cs)])):=by subst h;exact .mk cs hn hd
theorem qt9(f:Fw):f6 f.cells=true:=rfl
theorem qn2{f:FuncId}{rest:List SV}(hf:qr2 P f (.ptr 0 0::rest)=true)(hd:f6 rest=true)(hv:v.data=true)(hc:f6 cs=true)(hn:v5 cs y.cells)(h:zd4 P (x9 P f) [] 1 (.ret v [some (.cells cs)]) (v7 P f) (v6 P f (.ptr 0 0::rest)) [some (.cells x.cells)]):zb3 P f rest x (v,y):=
 zt4 hn (zt3 hf h rfl hd (qt9 x) hc hv)
theorem zS5:∀t:Tree StopX,t.holds (endsAt v y)->∃cs,v5 cs y.cells/\f6 cs=true/\t.holds λo=>match o with
   |.fin r'=>r'=.ret v [some (.cells cs)]
   |.at items' size slots' boxes'=>slots'.length=size/\False
 |.leaf o,h=>by
  have h:endsAt v y o:=h
  cases h with
  |mk cs hn hd=>exact⟨cs,hn,hd,rfl⟩
 |.node b t f,h=>by
  cases b with
  |true=>
   obtain⟨cs,h1,h2,h3⟩:=zS5 t (h.1 rfl);exact⟨cs,h1,h2,λ_=>h3,λhb=>by cases hb⟩
  |false=>
   obtain⟨cs,h1,h2,h3⟩:=zS5 f (h.2 rfl);exact⟨cs,h1,h2,λhb=>(by cases hb),λ_=>h3⟩
 |.req b t,h=>by
  obtain⟨cs,h1,h2,h3⟩:=zS5 t h.2;exact⟨cs,h1,h2,h.1,h3⟩
 |.fail _,h=>h.elim
theorem qn3{E:Env}(hK:Known P E)(n:Nat)(p:Plan){keep:List Item->List Bool}{f:FuncId}{rest:List SV}{t:Tree StopX}(ht:xD3 E n (x9 P f) 1 keep (v7 P f) p (v6 P f (.ptr 0 0::rest)) [some (.cells x.cells)] =t)(h:t.holds (endsAt v y))(hf:qr2 P f (.ptr 0 0::rest)=true)(hd:f6 rest=true)(hv:v.data=true):zb3 P f rest x (v,y):=by
 obtain⟨cs,h1,h2,h3⟩:=zS5 t h;refine qn2 (cs:=cs) hf hd hv h2 h1 (y83 hK (n:=n) (keep:=keep) (p:=p) (Nat.le_refl _) ?_);rw[ht]
 exact Tree.holds_mono (λo ho=>by
  cases o with
  |fin r=>exact ho
  |«at» i s l b=>exact ho.2.elim) t h3
def okT:Tree (SV×Fw)->Tree (Bool×SV×Box)
 |.leaf x=>.leaf (false,x.1,.cells x.2.cells)
 |.node b t f=>.node b (okT t) (okT f)
 |.req b t=>.req b (okT t)
 |.fail n=>.fail n
def zu6(f:FuncId)(h:Fw->List SV->Option (Tree (SV×Fw))):BFact:=⟨f,λargs B=>match B with
 |.cells cs=>match zo5 cs with
  |some x=>match h x args with
   |some t=>some (okT t)
   |none=>none
  |none=>none
 |_=>none⟩
theorem yw2{f:FuncId}(hn:v5 cs x.cells):∀t:Tree (SV×Fw),t.says (zb3 P f args x)->(okT t).says (za1 P f args (.cells cs))
 |.leaf _,k=>zt2 hn k
 |.node _ t u,k=>⟨λhb=>yw2 hn t (k.1 hb),λhb=>yw2 hn u (k.2 hb)⟩
 |.req _ t,k=>λhb=>yw2 hn t (k hb)
 |.fail _,_=>trivial
theorem zu7{f:FuncId}{h:Fw->List SV->Option (Tree (SV×Fw))}(k:∀x rest t,h x rest=some t->t.says (zb3 P f rest x)):(zu6 f h).ok P:=λargs B t ht=>by
 simp only[zu6]at ht
 split at ht
 .split at ht
  .rename_i hx
   split at ht
   .rename_i t' ht'
    injection ht with ht;subst ht;exact yw2 (zo6 hx) t' (k _ _ _ ht')
   .cases ht
  .cases ht
 .cases ht
noncomputable def wT(m:Mem)(id:Nat):Tree (SV×Fw)->Tree (SV×Mem)
 |.leaf x=>m.set id (some (.cells x.2.cells)) λm'=>.leaf (x.1,m')
 |.node b t f=>.node b (wT m id t) (wT m id f)
 |.req b t=>.req b (wT m id t)
 |.fail n=>.fail n
noncomputable def x31(f:FuncId)(h:Fw->List SV->Option (Tree (SV×Fw))):WFact:=⟨f,λargs m=>match args with
 |a::rest=>match a with
  |.ptr id off=>match Nat.beq off 0 with
   |true=>match m.get id with
    |some B=>match B with
     |.cells cs=>match zo5 cs with
      |some x=>match h x rest with
       |some t=>some (wT m id t)
       |none=>none
      |none=>none
     |_=>none
    |none=>none
   |false=>none
  |_=>none
 |_=>none⟩
theorem x15{f:FuncId}{m:Mem}(hB:m.get id=some (.cells cs))(hn:v5 cs x.cells):∀t:Tree (SV×Fw),t.says (zb3 P f args x)->(wT m id t).says (ze4 P f (.ptr id 0::args) m)
 |.leaf _,k=>xE5 λm' hm=>(zt2 hn k:za1 P f args (.cells cs) _) m m' id hB hm
 |.node _ t u,k=>⟨λhb=>x15 hB hn t (k.1 hb),λhb=>x15 hB hn u (k.2 hb)⟩
 |.req _ t,k=>λhb=>x15 hB hn t (k hb)
 |.fail _,_=>trivial
theorem x32{f:FuncId}{h:Fw->List SV->Option (Tree (SV×Fw))}(k:∀x rest t,h x rest=some t->t.says (zb3 P f rest x)):(x31 f h).ok P:=λargs m t ht=>by
 simp only[x31]at ht
 split at ht
 .split at ht
  .rename_i id off
   split at ht
   .rename_i h0
    have h0:=Nat.eq_of_beq_eq_true h0;subst h0
    split at ht
    .rename_i B hB
     split at ht
     .rename_i cs
      split at ht
      .rename_i hx
       split at ht
       .rename_i t' ht'
        injection ht with ht;subst ht;exact x15 hB (zo6 hx) t' (k _ _ _ ht')
       .cases ht
      .cases ht
     .cases ht
    .cases ht
   .cases ht
  .cases ht
 .cases ht
def zD6:Plan:=.lit (.all)
def zD7:Plan:=.lit (.lit (.all))
def zD5:Plan:=.lit (.lit (.all))
def zD9:Plan:=.lit (.all)
def zE0:Plan:=.lit (.lit (.all))
def zD8:Plan:=.lit (.lit (.all))
end Go.Proofs.YtnkaepnblikcdaaGreat
namespace Go.Sx
open Go.RowKit
section
variable {w0:World} {R0:RSet} {I:Rho} {w:World} {m mc m':Mem} {ρc:Rho} {w':World}
theorem qz3{id:Nat}{t:Ty}{l:List t.T}{u:Value}(hm:MRel w0 R0 I w m)(hc:MRel w (RS w0 R0 I w m) ρc w' mc)(hg0:mc.get id=some (.rows t l))(h3:zb9 m (.rows t l) m')(hr:Rep (RO w (RS w0 R0 I w m) ρc w' mc) ρc mc.next w' (.row id) u):f5 w0 R0 I w m (.row m.next) m' u w':=by
 have hh:=Hand.start hm hc
 have hm':∀j B,m'.get j=some B->(j=m.next/\B=.rows t l)\/(j≠m.next/\m.get j=some B):=λj B hj=>by
  rw[h3.1 j]at hj
  by_cases e:j=m.next
  .rw[if_pos e]at hj;injection hj with hj;exact .inl ⟨e,hj.symm⟩
  .rw[if_neg e]at hj;exact .inr ⟨e,hj⟩
 have hwsz:=hm.size_le;have e:Ext (RR w0 R0 I w m ρc mc w') I m.next w' (RR w0 R0 I w m ρc mc w') (upd I m.next (ρc id)) m'.next w':=⟨by rw[h3.2];omega,λj hj=>t7 _ _ (by omega),λb hb=>⟨hb,rfl⟩⟩
 have hand:Hand w0 R0 I w m ρc mc w' (upd I m.next (ρc id)) m' ⟨0,.e⟩:=by
  refine⟨by rw[h3.2];omega,λj hj=>t7 _ _ (by omega),λj B hj=>?_,λj B hj hs=>?_,λj B hj hs=>?_,λj B hj hs=>?_,λj j' B B' hj hj' hs hs' he=>?_,λj B hj=>?_,λj B hj=>(by cases hj),λj B hj=>(by cases hj),λb hb=>?_⟩
  .rw[h3.2]
   rcases hm' j B hj with⟨rfl,_⟩|⟨_,n2⟩
   .omega
   .have:=hh.lt j B n2;omega
  .rcases hm' j B hj with⟨rfl,rfl⟩|⟨n1,n2⟩
   .rw[t9]at hs ⊢;have:=hc.lo id _ hg0 hs;omega
   .rw[t7 _ _ n1]at hs ⊢;exact hh.lo j B n2 hs
  .rcases hm' j B hj with⟨rfl,rfl⟩|⟨n1,n2⟩
   .rw[t9]at hs ⊢;exact hc.hi id _ hg0 hs
   .rw[t7 _ _ n1]at hs ⊢;exact hh.hi j B n2 hs
  .rcases hm' j B hj with⟨rfl,rfl⟩|⟨n1,n2⟩
   .rw[t9]at hs ⊢;exact λhr=>by have:=(hm.hid.1 _ hr).1;have:=hc.lo id _ hg0 hs;omega
   .rw[t7 _ _ n1]at hs ⊢;exact hh.nh j B n2 hs
  .rcases hm' j B hj with⟨rfl,rfl⟩|⟨n1,n2⟩<;>rcases hm' j' B' hj' with⟨rfl,rfl⟩|⟨n1',n2'⟩
   .rfl
   .rw[t9]at hs he;rw[t7 _ _ n1']at hs' he
    exact absurd he.symm (hh.apart id _ hg0 hs j' B' n2' hs')
   .rw[t9]at hs' he;rw[t7 _ _ n1]at hs he
    exact absurd he (hh.apart id _ hg0 hs' j B n2 hs)
   .rw[t7 _ _ n1]at hs he;rw[t7 _ _ n1']at hs' he
    exact hh.inj j j' B B' n2 n2' hs hs' he
  .rcases hm' j B hj with⟨rfl,rfl⟩|⟨n1,n2⟩
   .rw[t9]
    obtain⟨b1,b2,b3⟩:=hc.box id _ hg0;refine⟨b1,b2,λhp=>?_⟩;obtain⟨arr,el,fr,q1,q2,q3,q4⟩:=b3 hp;refine⟨arr,el,fr,q1,q2,q3,λi hi=>?_⟩;obtain⟨cs,c1,c2,c3⟩:=q4 i hi;exact⟨cs,c1,c2,r8.mono (λb hb=>⟨.inr hb,rfl⟩) _ _ _ c3⟩
   .rw[t7 _ _ n1]
    exact za2.mono e B (λ_=>rfl) (hh.box j B n2)
  .have hne:xG1 (ρc id) (.rows t l)->(ρc id).1≠b:=λhs=>by
    rcases hb with hb|hb
    .have:=hm.ro_lt hb;have:=hc.lo id _ hg0 hs;omega
    .exact hc.ro_ne hb hg0 hs
   rcases hh.ro b hb with hb|⟨g1,g2,g3,g4⟩
   .exact .inl hb
   .refine .inr ⟨g1,g2,λj B hj hs=>?_,g4⟩
    rcases hm' j B hj with⟨rfl,rfl⟩|⟨n1,n2⟩
    .rw[t9]at hs ⊢;exact hne hs
    .rw[t7 _ _ n1]at hs ⊢;exact g3 j B n2 hs
 obtain⟨g4,g5⟩:=hand.finish hm hc;obtain⟨_,a,hu,ha⟩:=hr;exact⟨_,g4,g5,by rw[h3.2];omega,a,by rw[t9];exact hu,by rw[t9];exact ha⟩
theorem qz2{t:Ty}{a:Option Addr}(hm:MRel w0 R0 I w m)(hc:MRel w (RS w0 R0 I w m) ρc w' mc)(h3:zb9 m (.rows t []) m'):f5 w0 R0 I w m (.row m.next) m' (.slice a 0 0) w':=by
 have hh:=Hand.start hm hc
 have hm':∀j B,m'.get j=some B->(j=m.next/\B=.rows t [])\/(j≠m.next/\m.get j=some B):=λj B hj=>by
  rw[h3.1 j]at hj
  by_cases e:j=m.next
  .rw[if_pos e]at hj;injection hj with hj;exact .inl ⟨e,hj.symm⟩
  .rw[if_neg e]at hj;exact .inr ⟨e,hj⟩
 have e:Ext (RR w0 R0 I w m ρc mc w') I m.next w' (RR w0 R0 I w m ρc mc w') (upd I m.next (0,0,0)) m'.next w':=⟨by rw[h3.2];omega,λj hj=>t7 _ _ (by omega),λb hb=>⟨hb,rfl⟩⟩
 have no:¬xG1 (upd I m.next (0,0,0) m.next) (.rows t []):=by rw[t9];exact Nat.lt_irrefl 0
 have hand:Hand w0 R0 I w m ρc mc w' (upd I m.next (0,0,0)) m' ⟨0,.e⟩:=by
  refine⟨by rw[h3.2];omega,λj hj=>t7 _ _ (by omega),λj B hj=>?_,λj B hj hs=>?_,λj B hj hs=>?_,λj B hj hs=>?_,λj j' B B' hj hj' hs hs' he=>?_,λj B hj=>?_,λj B hj=>(by cases hj),λj B hj=>(by cases hj),λb hb=>?_⟩
  .rw[h3.2]
   rcases hm' j B hj with⟨rfl,_⟩|⟨_,n2⟩
   .omega
   .have:=hh.lt j B n2;omega
  .rcases hm' j B hj with⟨rfl,rfl⟩|⟨n1,n2⟩
   .exact absurd hs no
   .rw[t7 _ _ n1]at hs ⊢;exact hh.lo j B n2 hs
  .rcases hm' j B hj with⟨rfl,rfl⟩|⟨n1,n2⟩
   .exact absurd hs no
   .rw[t7 _ _ n1]at hs ⊢;exact hh.hi j B n2 hs
  .rcases hm' j B hj with⟨rfl,rfl⟩|⟨n1,n2⟩
   .exact absurd hs no
   .rw[t7 _ _ n1]at hs ⊢;exact hh.nh j B n2 hs
  .rcases hm' j B hj with⟨rfl,rfl⟩|⟨n1,n2⟩
   .exact absurd hs no
   .rcases hm' j' B' hj' with⟨rfl,rfl⟩|⟨n1',n2'⟩
    .exact absurd hs' no
    .rw[t7 _ _ n1']at hs' he;rw[t7 _ _ n1]at hs he
     exact hh.inj j j' B B' n2 n2' hs hs' he
  .rcases hm' j B hj with⟨rfl,rfl⟩|⟨n1,n2⟩
   .rw[t9];exact⟨rfl,Nat.le_refl _,λh0=>absurd h0 (Nat.lt_irrefl _)⟩
   .rw[t7 _ _ n1]
    exact za2.mono e B (λ_=>rfl) (hh.box j B n2)
  .rcases hh.ro b hb with hb|⟨g1,g2,g3,g4⟩
   .exact .inl hb
   .refine .inr ⟨g1,g2,λj B hj hs=>?_,g4⟩
    rcases hm' j B hj with⟨rfl,rfl⟩|⟨n1,n2⟩
    .exact absurd hs no
    .rw[t7 _ _ n1]at hs ⊢;exact g3 j B n2 hs
 obtain⟨g4,g5⟩:=hand.finish hm hc;exact⟨_,g4,g5,by rw[h3.2];omega,a,by rw[t9],by rw[t9];exact λh0=>absurd h0 (Nat.lt_irrefl _)⟩
end
def yE7(t:Ty)(l:List t.T)(v:SV)(mc:Mem):Prop:=
 (∃id,v=.row id/\mc.get id=some (.rows t l))\/(l=[] /\(v=.nilS\/(∃id off,v=.arr id off 0)))
variable{P:Program}{E:Env}{f:FuncId}{args:List SV}{m m':Mem}
theorem yF4(hK:Known P E){n:Nat}{p:Plan}{t:Ty}{l:List t.T}(hd:f6 args=true)(h:(zU3 E n f args p).holds λx=>yE7 t l x.1 x.2)(hp:zb9 m (.rows t l) m'):zd6 P m (.row m.next) m' f args:=by
 intro w0 R0 I w vs hm hvs;unfold zU3 at h
 split at h
 .rename_i fn hfn
  have hf:=hK.e.fn f fn hfn
  split at h
  .rename_i body hb
   split at h
   .rename_i hn
    obtain⟨fr,h1,h2,h3,h4⟩:=qV1 h;obtain⟨out,h5,h6⟩:=zV6 hK.e hK.s hK.mix n _ _ _ _ _ _ h1
    cases out with
    |stop it fr' m'=>exact h5.elim
    |pan v fr' m'=>exact h5.elim
    |ret p' fr' mc=>
     dsimp only at h5;obtain⟨v',h7,h8⟩:=yZ8 hK.e h5;have h7:yE7 t l v' mc:=h7;rw[zz2 hf hb hn];obtain⟨o1,o2⟩:=yF6 hm I;have hfr:=qs1 h2 h3 h4 (j7.data (R':=RO w (RS w0 R0 I w m) I w ⟨0,.e⟩) (I':=I) (n':=0) o2 args vs hd hvs)
     refine Calls.mono (zA0 hf hb h6 h8 o1 hfr) λe w' ⟨u,he,I',g1,g2,g3⟩=>⟨u,he,?_⟩
     rcases h7 with⟨id,rfl,hg⟩|⟨rfl,rfl|⟨id,off,rfl⟩⟩
     .exact qz3 hm g1 hg hp g3
     .rw[show u=_ from g3];exact qz2 hm g1 hp
     .obtain⟨_,hu⟩:=g3
      rw[hu];exact qz2 hm g1 hp
   .exact h.elim
  .exact h.elim
 .exact h.elim
noncomputable def qW1(t:Ty)(l:List t.T):Mem:=⟨1,.n .e (some (.rows t l)) .e⟩
theorem yF9{t:Ty}{l:List t.T}(h:∀m m',zb9 m (.rows t l) m'->zd6 P m (.row m.next) m' f args):zc5 P f args (.row 0,qW1 t l):=by
 intro m v' m' ha
 change ((qW1 t l).set 0 none λmc=>m.push (.rows t l) λm id=>Tree.leaf (SV.row id,m)).holds _ at ha
 obtain⟨mc',h1,h2⟩:=Mem.set_holds ha;obtain⟨m1,h3,h4⟩:=Mem.push_holds h2;injection h4 with e1 e2;subst e1 e2;exact h m m1 h3
noncomputable def yE8(x:SV×Mem):SV:=match x.1 with
 |.row id=>match x.2.get id with
  |some (.rows t l)=>.list t l
  |_=>.undef
 |.nilS=>.nilS
 |.arr _ _ n=>match n with
  |0=>.nilS
  |_+1=>.undef
 |_=>.undef
noncomputable def Tree.ownT:Tree (SV×Mem)->Tree SV
 |.leaf x=>.leaf (yE8 x)
 |.node b t f=>.node b t.ownT f.ownT
 |.req b t=>.req b t.ownT
 |.fail n=>.fail n
theorem yF0{t:Ty}{l:List t.T}{x:SV×Mem}(h:yE8 x=.list t l):yE7 t l x.1 x.2:=by
 unfold yE8 at h
 split at h
 .rename_i id hx
  split at h
  .rename_i t' l' hg
   injection h with h1 h2;subst h1;have h2:=eq_of_heq h2;subst h2;exact .inl ⟨id,hx,hg⟩
  .cases h
 .cases h
 .split at h<;>cases h
 .cases h
theorem yE9{t:Ty}{x:SV×Mem}(h:yE8 x=.nilS):yE7 t [] x.1 x.2:=by
 unfold yE8 at h
 split at h
 .split at h<;>cases h
 .rename_i hx;exact .inr ⟨rfl,.inl hx⟩
 .rename_i id off n hx
  split at h
  .exact .inr ⟨rfl,.inr ⟨id,off,hx⟩⟩
  .cases h
 .cases h
theorem Tree.ownT_holds{L:SV->Prop}:∀t:Tree (SV×Mem),t.ownT.holds L->t.holds λx=>L (yE8 x)
 |.leaf _,h=>h
 |.node _ t f,h=>⟨λhb=>ownT_holds t (h.1 hb),λhb=>ownT_holds f (h.2 hb)⟩
 |.req _ t,h=>⟨h.1,ownT_holds t h.2⟩
 |.fail _,h=>h.elim
theorem yF5(hK:Known P E)(n:Nat)(p:Plan){t:Ty}{l:List t.T}{T:Tree SV}(hT:(zU3 E n f args p).ownT=T)(h:T.holds λv=>v=.list t l)(hd:f6 args=true)(hp:zb9 m (.rows t l) m'):zd6 P m (.row m.next) m' f args:=
 yF4 hK (n:=n) (p:=p) hd (Tree.holds_mono (λx hx=>yF0 hx) _ (Tree.ownT_holds _ (by rw[hT];exact h))) hp
theorem yF7(hK:Known P E)(n:Nat)(p:Plan){t:Ty}{T:Tree SV}(hT:(zU3 E n f args p).ownT=T)(h:T.holds λv=>v=.nilS)(hd:f6 args=true)(hp:zb9 m (.rows t []) m'):zd6 P m (.row m.next) m' f args:=
 yF4 hK (n:=n) (p:=p) (l:=([] :List t.T)) hd (Tree.holds_mono (λx hx=>yE9 hx) _ (Tree.ownT_holds _ (by rw[hT];exact h))) hp
end Go.Sx
namespace Go.Proofs.YtnkaepnblikcdaaGreat
open Go.Sx
def qo0(n:Nat):Bool:=decide ((n:Int)<=100000)
theorem qo1{n:Nat}:qo0 n=true↔n<=100000:=by simp only[qo0,decide_eq_true_eq];omega
def zX8:Fact:=⟨175,λargs=>match args with
 |[.list (.pair (.pair (.int .i64) (.pair (.int .i64) (.pair (.int .i64) (.int .i64)))) (.pair (.int .i64) (.pair (.int .i64) (.pair (.int .i64) (.int .i64))))) l] =>some (.req (qo0 (List.length l)) (.leaf (LB l)))
 |[.nilS] =>some (.leaf (LB []))
 |_=>none⟩
def zX9:Fact:=⟨176,λargs=>match args with
 |[.list (.int .i64) l] =>some (.req (qo0 (List.length l)) (.leaf (LI l)))
 |[.nilS] =>some (.leaf (LI []))
 |_=>none⟩
theorem yF3{P:Program}{f:FuncId}{t:Ty}(hn:∀cap m m',zb9 m (.rows t []) m'->zd6 P m (.row m.next) m' f [.raw (.slice none 0 cap)])(hs:∀a cap m m',zb9 m (.rows t []) m'->zd6 P m (.row m.next) m' f [.raw (.slice (some a) 0 cap)])(l:List t.T)
  (hc:∀b r,l=b::r->∀m m',zb9 m (.rows t (b::r)) m'->zd6 P m (.row m.next) m' f [.list t (b::r)]) {m m':Mem} (hp:zb9 m (.rows t l) m'):zd6 P m (.row m.next) m' f [.list t l] :=by
 cases l with
 |cons b r=>exact hc b r rfl m m' hp
 |nil=>
  intro w0 R0 I w vs hm hvs;obtain⟨u,us,rfl,h1,h2⟩:=hvs;rw[show us=[]from h2];obtain⟨a,cap,hxv,_,_⟩:=h1;injection hxv with hxv;subst hxv
  cases a with
  |none=>exact hn cap m m' hp w0 R0 I w [_] hm ⟨_,[],rfl,rfl,rfl⟩
  |some a=>exact hs a cap m m' hp w0 R0 I w [_] hm ⟨_,[],rfl,rfl,rfl⟩
theorem q88(cap:Nat):(zU3 (Env.of pP (j9 [])) 1000 175 [.raw (.slice none 0 cap)] zD6).ownT=.req true (.leaf .nilS):=by kernel_rfl
theorem q89(a:Addr)(cap:Nat):(zU3 (Env.of pP (j9 [])) 1000 175 [.raw (.slice (some a) 0 cap)] zD7).ownT=.req true (.leaf .nilS):=by kernel_rfl
theorem q87(b:Bk)(l:List Bk):(zU3 (Env.of pP (j9 [])) 1000 175 [.list o9 (b::l)] zD5).ownT=.req (!(b::l).isEmpty) (.req (decide ((0+(b::l).length)*64<=140737488355328)) (.leaf (.list o9 (b::l)))):=by kernel_rfl
theorem q91(cap:Nat):(zU3 (Env.of pP (j9 [])) 1000 176 [.raw (.slice none 0 cap)] zD9).ownT=.req true (.leaf .nilS):=by kernel_rfl
theorem q92(a:Addr)(cap:Nat):(zU3 (Env.of pP (j9 [])) 1000 176 [.raw (.slice (some a) 0 cap)] zE0).ownT=.req true (.leaf .nilS):=by kernel_rfl
theorem q90(b:Int)(l:List Int):(zU3 (Env.of pP (j9 [])) 1000 176 [.list (.int .i64) (b::l)] zD8).ownT=.req (!(b::l).isEmpty) (.req (decide ((0+(b::l).length)*8<=140737488355328)) (.leaf (.list (.int .i64) (b::l)))):=by kernel_rfl
theorem yF1(l:List Bk)(h:qo0 l.length=true):zc5 pP 175 [LB l] (.row 0,qW1 o9 l):=
 yF9 (t:=o9) λm m' hp=>yF3 (t:=o9) (λcap m m' hp=>yF7 k0 1000 zD6 (q88 cap) ⟨rfl,rfl⟩ rfl hp) (λa cap m m' hp=>yF7 k0 1000 zD7 (q89 a cap) ⟨rfl,rfl⟩ rfl hp) l (λb r e m m' hp=>yF5 (t:=o9) k0 1000 zD5 (q87 b r) ⟨rfl,by
  have h:=qo1.1 h;rw[e]at h;rw[decide_eq_true_eq];have h:(List.length (α:=Ty.T o9) (b::r):Nat)<=100000:=h
  omega,rfl⟩ rfl hp) hp
theorem yF2(l:List Int)(h:qo0 l.length=true):zc5 pP 176 [LI l] (.row 0,qW1 (.int .i64) l):=
 yF9 (t:=.int .i64) λm m' hp=>yF3 (t:=.int .i64) (λcap m m' hp=>yF7 k0 1000 zD9 (q91 cap) ⟨rfl,rfl⟩ rfl hp) (λa cap m m' hp=>yF7 k0 1000 zE0 (q92 a cap) ⟨rfl,rfl⟩ rfl hp) l (λb r e m m' hp=>yF5 (t:=.int .i64) k0 1000 zD8 (q90 b r) ⟨rfl,by
  have h:=qo1.1 h;rw[e]at h;rw[decide_eq_true_eq];have h:(List.length (α:=Ty.T (.int .i64)) (b::r):Nat)<=100000:=h
  omega,rfl⟩ rfl hp) hp
theorem yF8{P:Program}{f:FuncId}{t:Ty}{x:SV×Mem}(h:zc5 P f [.list t []] x):zc5 P f [.nilS] x:=by
 intro m v' m' ha w0 R0 I w vs hm hvs;obtain⟨u,us,rfl,h1,h2⟩:=hvs;refine h m v' m' ha w0 R0 I w _ hm ⟨u,us,rfl,?_,h2⟩;exact⟨none,0,by rw[show u=_ from h1];rfl,Nat.le_refl _,λh=>absurd h (Nat.lt_irrefl _)⟩
noncomputable def q85:OFact:=⟨175,λargs=>match args with
 |[.list (.pair (.pair (.int .i64) (.pair (.int .i64) (.pair (.int .i64) (.int .i64)))) (.pair (.int .i64) (.pair (.int .i64) (.pair (.int .i64) (.int .i64))))) l] =>some (.req (qo0 (List.length l)) (.leaf (.row 0,qW1 o9 l)))
 |[.nilS] =>some (.leaf (.row 0,qW1 o9 []))
 |_=>none⟩
noncomputable def q86:OFact:=⟨176,λargs=>match args with
 |[.list (.int .i64) l] =>some (.req (qo0 (List.length l)) (.leaf (.row 0,qW1 (.int .i64) l)))
 |[.nilS] =>some (.leaf (.row 0,qW1 (.int .i64) []))
 |_=>none⟩
theorem yk0:q85.ok pP:=λargs t ht=>by
 simp only[q85]at ht
 split at ht
 .injection ht with ht;subst ht;exact yF1 _
 .injection ht with ht;subst ht;exact yF8 (t:=o9) (yF1 [] rfl)
 .cases ht
theorem yk1:q86.ok pP:=λargs t ht=>by
 simp only[q86]at ht
 split at ht
 .injection ht with ht;subst ht;exact yF2 _
 .injection ht with ht;subst ht;exact yF8 (t:=.int .i64) (yF2 [] rfl)
 .cases ht
end Go.Proofs.YtnkaepnblikcdaaGreat
