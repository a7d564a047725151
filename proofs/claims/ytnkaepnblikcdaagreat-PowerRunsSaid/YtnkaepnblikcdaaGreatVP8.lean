/-
  Evaluator, contracts, plain law.
-/
import Derived.Test.YtnkaepnblikcdaaGreatVP7
import Derived.Test.YtnkaepnblikcdaaGreatVP6
import Derived.Test.YtnkaepnblikcdaaGreatVP5
set_option maxRecDepth 100000
set_option linter.unusedVariables false
set_option linter.defProp false
set_option linter.unusedSimpArgs false
open Go.IntKind (i64 u64 u8)
namespace Go.Proofs.YtnkaepnblikcdaaGreat
open Go.Sx Go.RowKit Go.Lib Go.Sort
def aQ.grown{w0:World}{R0:eo}{I:bu}{w w':World}{m:Mem}(h:aQ w0 R0 I w m)(yc:w'.os=w.os)(ht:w'.tape=w.tape)(hp:w'.output=w.output)(bS:w.heap.size<=w'.heap.size)(hold:∀k,k<w.heap.size->w'.heap[k]? =w.heap[k]?):aQ w0 R0 I w' m/\m8 w0 R0 I w m I w' m:=by
 have dZ:∀b,RO w0 R0 I w m b->RO w0 R0 I w' m b:=λb hb=>by
  rcases hb with hb|⟨h1,h2,h3⟩
  .exact .inl hb
  .exact .inr ⟨h1,by omega,h3⟩
 have e:m8 w0 R0 I w m I w' m:=⟨bA _,λ_ _=>rfl,λb hb=>⟨dZ b hb,hold b (h.mB hb)⟩⟩;have hs0:=h.size_le;exact⟨⟨h.below.trans ⟨yc,ht,hp,bS,λk hk=>hold k (by omega)⟩,h.lt,h.lo,λk C hk hs=>qS (h.hi k C hk hs) bS,h.inj,λk C hk=>fN.mono e C (λhs=>hold _ (h.hi k C hk hs)) (h.box k C hk),λb hb=>⟨by have:=(h.aI.1 b hb).1;omega,(hold b (h.aI.1 b hb).1).trans (h.aI.1 b hb).2⟩,h.aI.2⟩,e⟩
def Z3{R:Nat->Prop}{w:World}{x:RT}{v:List Value}:p7 R w dQ x v↔v=gF x:=by
 constructor
 .intro h
  simp only[dQ,p7]at h;obtain⟨_,_,rfl,rfl,_,_,rfl,rfl,_,_,rfl,rfl,_,_,rfl,rfl,_,_,rfl,⟨_,_,rfl,rfl,_,_,rfl,rfl,_,_,rfl,rfl,rfl⟩,_,_,rfl,rfl,_,_,rfl,rfl,_,_,rfl,rfl,rfl⟩:=h;rfl
 .rintro rfl
  simp only[dQ,p7];exact⟨[_],_,rfl,rfl,[_],_,rfl,rfl,[_],_,rfl,rfl,[_],_,rfl,rfl,[_,_,_,_],_,rfl,⟨[_],_,rfl,rfl,[_],_,rfl,rfl,[_],_,rfl,rfl,rfl⟩,[_],_,rfl,rfl,[_],_,rfl,rfl,[_],_,rfl,rfl,rfl⟩
def jc3{l:List RT}{d':Array RT}(hd:pF (l.map nl))(hp:PermIn 0 l.toArray.size l.toArray d')(hs:SortedIn (ltOf λx y:RT=>Lib.compareInt x.2.1 y.2.1) 0 l.toArray.size d'):d'.toList=(pZ (l.map nl)).map Rc.t:=by
 obtain⟨p1,p2,p3⟩:=hp
 have e1:(d'.extract 0 l.toArray.size).toList=d'.toList:=by rw[<-p1];simp
 have e2:(l.toArray.extract 0 l.toArray.size).toList=l:=by simp
 rw[e1,e2]at p3
 have Uy:∀ (k:List RT),(∀i j,i<j->j<k.length->¬(k.getD j default).2.1< (k.getD i default).2.1)->qu (k.map nl):=by
  intro k
  induction k with
  |nil=>intro _;trivial
  |cons x k ih=>
   intro h;refine⟨λy hy=>?_,ih λi j lh hj=>?_⟩
   .obtain⟨z,hz,rfl⟩:=EM.1 hy
    obtain⟨j,hj,rfl⟩:=NE hz;have:=h 0 (j+1) (by omega) (by simpa using hj);simp only[List.getD_cons_zero,List.getD_cons_succ]at this;rw[cK,cc hj]at this;show x.2.1<=k[j].2.1;simp only[Option.getD_some]at this;omega
   .have:=h (i+1) (j+1) (by omega) (by simpa using hj)
    simpa using this
 have key:=jb9 hd (p3.map nl) (Uy d'.toList λi j lh hj=>by
  have rI:j<l.toArray.size:=by rw[<-p1];simpa using hj
  have:=hs i j (rW _) lh rI;rw[JX]at this;have:=cO this
  have g:∀t,t<d'.size->d'.toList.getD t default=d'[t]! :=λt ht=>by
   rw[cK,Cg,qX ht,BW d' t ht];rfl
  have hjs:j<d'.size:=by simpa using hj
  rw[g j hjs,g i (by omega)]
  exact this)
 rw[<-key,jl6]
def qD7(d:Array RT)(t:Nat)(h:t<d.size*12):(flatK gF 12 d)[t]? =(gF d[t / 12]!)[t % 12]? :=by
 have h1:t< (flatK gF 12 d).size:=by rw[size_flatK];exact h
 have h2:t % 12< (gF d[t / 12]!).length:=by show t % 12<12;omega
 rw[qX h1,cc h2];have:=get_flatK gF 12 d t h;rw[BW (flatK gF 12 d) t h1,BW (gF d[t / 12]!) (t % 12) h2]at this;rw[this]
noncomputable def G4:iY:=⟨256,λargs m=>match args with
 |[x,y] =>match x with
  |.row id=>match y with
   |.fn g first cap=>match Nat.beq g 257&& (first.isEmpty&&cap.isEmpty)with
    |true=>match m.get id with
     |some B=>match B with
      |.rows t l=>if h:t=dQ then some (.aj (l.length<=1000&&Cx ((h▸l:List dQ.T).map nl)) (m.set id (some (.rows dQ ((pZ ((h▸l:List dQ.T).map nl)).map Rc.t))) λm=>.ai (.tuple [],m)))else none
      |_=>none
     |none=>none
    |false=>none
   |_=>none
  |_=>none
 |_=>none⟩
def jc1{m m':Mem}{id:Nat}{l:List RT}(hg:m.get id=some (.rows dQ l))(hl:l.length<=1000)(hd:pF (l.map nl))(ec:mT m id (some (.rows dQ ((pZ (l.map nl)).map Rc.t))) m'):Cq pP 256 [.row id,.fn 257 [] []] m (.tuple [],m'):=by
 intro w0 R0 I w vs hm bR;obtain⟨a,us,rfl,hra,b,xz,rfl,hrb,gO⟩:=bR;rw[show xz=[]from gO];obtain⟨aI,ad,rfl,had⟩:=hra;obtain⟨fv,fu,rfl,h5,h6⟩:=hrb;rw[show fv=[]from h5,show fu=[]from h6];obtain⟨b1,b2,b3⟩:=hm.box id _ hg;have b1:l.length=(I id).2.1:=b1;have b2:l.length<=(I id).2.2:=b2
 by_cases h0:l=[]
 .subst h0
  have q:=xX9 m w0 R0 I w [.slice ad (I id).2.1 (I id).2.2,.func (.func 257) #[] #[]] hm ⟨_,_,rfl,⟨ad,(I id).2.2,by rw[<-b1];rfl,rW _,λhp=>absurd hp (gZ 0)⟩,_,_,rfl,⟨[],[],rfl,rfl,rfl⟩,rfl⟩
  have eg:∀k,m'.get k=m.get k:=λk=>by
   rw[ec.1 k]
   split;.rename_i e;rw[e,hg];rfl
   .rfl
  refine kN.mono (λu w' hu=>?_) q;obtain⟨I',g1,g2,g3⟩:=hu;refine⟨I',g1.congr eg ec.2,⟨by rw[ec.2];exact g2.le,g2.same,λb hb=>?_⟩,g3⟩;obtain⟨k1,k2⟩:=g2.keep b hb;exact⟨by rw[RO.congr eg];exact k1,k2⟩
 .have Ho:0<l.length:=UT.2 h0
  have qM:0< (I id).2.2:=by omega
  obtain⟨arr,e,fr,q1,q2,q3,q4⟩:=b3 qM;have q3:arr.size=(I id).2.2*12:=q3;have lR:=hm.hi id _ hg qM;rw[had qM,<-b1]
  have cells:∀i (hi:i<l.length) j,j<12->arr[i*12+j]? =(gF l[i])[j]? :=λi hi j hj=>by
   obtain⟨cs,k1,k2,k3⟩:=q4 i hi;rw[show cs=gF l[i]from Z3.1 k3]at k2;exact k2 j hj
  have hH:HoldsK gF 12 w (I id).1 0 l.toArray:=by
   intro j hj;rw[size_flatK]at hj
   have hj:j<l.length*12:=by simpa using hj
   have hi:j / 12<l.length:=by omega
   have cW:j<arr.size:=by rw[q3];have:=nL 12 b2;omega
   rw[gY];refine⟨?_,yo0 q1 q2.1 (by omega)⟩;rw[rR w _ _ arr e fr q1];have c:=cells (j / 12) hi (j % 12) (by omega);rw[show j / 12*12+j % 12=j by omega]at c;rw[c];have f:=qD7 l.toArray j (by simpa using hj)
   have bS:j< (flatK gF 12 l.toArray).size:=by rw[size_flatK];simpa using hj
   rw[qX bS]at f;rw[BW (flatK gF 12 l.toArray) j bS];show _=some (_root_.id (flatK gF 12 l.toArray)[j]);rw[show(l.toArray[j / 12]! :RT)=l[j / 12] by simp[hi]]at f;exact f.symm
  have jW:=jc2 (I id).1 (I id).2.2 l.toArray w hH lR (by simp;omega);dsimp only;rw[nS (P:=pP) Tryz.func256 (body:=_) rfl (by kernel_rfl)]
  refine Calls.mono jW λex w' ⟨he,d',n,os,hp,hs,hw⟩=>⟨_,he,?_⟩
  have ig:=jc3 hd hp hs
  have ahf:d'.size=l.length:=by have:=hp.1;simpa using this
  -- the world grown
  have gw:(grow (Sort.ahead w n) os).heap.size=w.heap.size+os.size:=by simp[grow,Sort.ahead]
  obtain⟨m1,m2⟩:=aQ.grown (w':=grow (Sort.ahead w n) os) hm rfl rfl rfl (by rw[gw];omega) (λk hk=>heap_grow_old (Sort.ahead w n) os hk)
  have Ai:w'=putRowK gF 12 (grow (Sort.ahead w n) os) (I id).1 0 d':=by
   rw[hw];unfold sortWorldK;exact(putRowK_grow gF 12 (Sort.ahead w n) os (I id).1 0 d' lR).symm
  have BJ:(grow (Sort.ahead w n) os).heap[(I id).1]? =some (.cells arr e fr):=(heap_grow_old (Sort.ahead w n) os lR).trans q1
  have azT:w'.heap[(I id).1]? =some (.cells (putCells _root_.id 0 (flatK gF 12 d') arr) e fr):=by
   rw[Ai];show((grow (Sort.ahead w n) os).heap.modify (I id).1 _)[(I id).1]? =_;rw[aBR,ay rfl,BJ];rfl
  have ya:∀k,k≠(I id).1->w'.heap[k]? =(grow (Sort.ahead w n) os).heap[k]? :=λk hk=>by
   rw[Ai];show((grow (Sort.ahead w n) os).heap.modify (I id).1 _)[k]? =_;rw[aBR,au (Ne.symm hk)]
  have fZ:w'.heap.size=(grow (Sort.ahead w n) os).heap.size:=by
   rw[Ai];show((grow (Sort.ahead w n) os).heap.modify (I id).1 _).size=_;rw[Array.size_modify]
  have ho:w'.os=(grow (Sort.ahead w n) os).os:=by rw[Ai];rfl
  have ht:w'.tape=(grow (Sort.ahead w n) os).tape:=by rw[Ai];rfl
  have hpt:w'.output=(grow (Sort.ahead w n) os).output:=by rw[Ai];rfl
  have Su:((pZ (l.map nl)).map Rc.t).length=l.length:=by rw[mP,(MP _).length_eq,mP]
  obtain⟨g1,g2⟩:=m1.xD (B':=.rows dQ ((pZ (l.map nl)).map Rc.t)) hg qM ec ho ht hpt fZ ya λR e'=>by
   refine⟨Su.trans b1,UM (aib Su) b2,λ_=>⟨_,_,_,azT,⟨λi hi=>q2.1 i (by simpa[putCells]using hi),q2.2⟩,(show(putCells _root_.id 0 (flatK gF 12 d') arr).size=arr.size by simp[putCells]).trans q3,λi hi=>⟨gF ((pZ (l.map nl)).map Rc.t)[i],rfl,λj hj=>?_,Z3.2 rfl⟩⟩⟩;have hi:i<l.length:=Nat.lt_of_lt_of_eq hi Su;have hj:j<12:=hj
   have cW:i*12+j<arr.size:=by rw[q3];have:=nL 12 b2;omega
   have hk:i*12+j< (flatK gF 12 d').size:=by rw[size_flatK,ahf];omega
   show(putCells _root_.id 0 (flatK gF 12 d') arr)[i*12+j]? =_;unfold putCells;rw[Array.getElem?_mapIdx,qX cW];simp only[ah5];rw[ay (by omega),UK];have f:=qD7 d' (i*12+j) (by rw[ahf];omega);rw[show(i*12+j) / 12=i by omega,show(i*12+j) % 12=j by omega,qX hk]at f;rw[BW (flatK gF 12 d') (i*12+j) hk];show some (flatK gF 12 d')[i*12+j] =_;rw[f]
   have:(d'[i]! :RT)=((pZ (l.map nl)).map Rc.t)[i] :=by
    have uz:i<d'.size:=by omega
    rw[BW d' i uz];simp only[<-ig,Array.getElem_toList]
   rw[this]
  exact⟨I,g1,m2.trans g2,[],rfl,rfl⟩
def yQ4:G4.ok pP:=by
 intro args m t ht;simp only[G4]at ht
 split at ht
 .split at ht
  .rename_i id
   split at ht
   .rename_i g first cap
    split at ht
    .rename_i hb
     rw[aH,aH]at hb;have e1:=gQ hb.1
     have e2:first=[] :=by simpa using hb.2.1
     have e3:cap=[] :=by simpa using hb.2.2
     subst e1 e2 e3
     split at ht
     .rename_i B hB
      split at ht
      .rename_i ty l
       split at ht
       .rename_i hty
        subst hty;cases ht;intro h;rw[aH]at h
        exact Mem.aui λm' ec=>jc1 hB (bG h.1) (On.1 h.2) ec
       .cases ht
      .cases ht
     .cases ht
    .cases ht
   .cases ht
  .cases ht
 .cases ht
open Go.Sx
def VX:ax:=.ah (.ar (.ar pA)) (.ar (.ar (.ah .all .all)))
def aa0(f:Fl):o8 (Env.of pP (j9 [z79])) 1000 (x9 pP 191) dQ (x6 48 [1,3,16,17,18]) (v7 pP 191) VX (v6 pP 191 [f.sv]) [] =(.aj (o4 f) (.ag (!eU f) (.ai (.done (.list dQ []))) (.ag (f.dead) (.ai (.done (.list dQ []))) (.ai (.at (x8 pP 191 0) 48 (x7 48 [(1,.ptr 0 0),(3,SV.cm),(16,.list Ty.str f.aC),(17,J (↑f.aC.length:Int)),(18,J 0)]) [some (.cells f.cells)]))))):=by kernel_rfl
def VW:ax:=.ah (.ah (.ln 9 pA) (.ah (.ln 9 (.ah .all .all)) (.ln 9 pA))) .all
def aa1(f:Fl)(l:List RT)(i:Int):o8 (Env.Sn pP (j9 [z67]) (d9 [G4])) 1000 (x9 pP 191) dQ (x6 48 [1,3,16,17,18]) (x8 pP 191 0) VW (x7 48 [(1,.ptr 0 0),(3,.row 1),(16,.list .str f.aC),(17,J f.aC.length),(18,J i)]) [some (.cells f.cells),some (.rows dQ l)] =(.ag (i< (↑f.aC.length:Int)) (.aj (0<=i&&i< (↑f.aC.length:Int)) (.aj (List.length (f.aC.getD i.toNat ([] :List UInt8))<=100000) (.ag (List.length (f.aC.getD i.toNat ([] :List UInt8))<64) (.ai (.at (x8 pP 191 0) 48 (x7 48 [(1,.ptr 0 0),(3,SV.row 1),(16,.list Ty.str f.aC),(17,J (↑f.aC.length:Int)),(18,J (i64.wrap (i+1)))]) [some (.cells f.cells),some (.rows dQ l)])) (.ag (va (f.aC.getD i.toNat ([] :List UInt8))) (.aj (!(↑f.aC.length:Int)==0) (.ag ((ep (f.aC.getD i.toNat ([] :List UInt8))).seq.tmod (↑f.aC.length:Int)==i) (.aj ((l.length+ [(ep (f.aC.getD i.toNat ([] :List UInt8))).t].length)*96<=140737488355328) (.ai (.at (x8 pP 191 0) 48 (x7 48 [(1,.ptr 0 0),(3,SV.row 1),(16,.list Ty.str f.aC),(17,J (↑f.aC.length:Int)),(18,J (i64.wrap (i+1)))]) [some (.cells f.cells),some (.rows dQ (l++[(ep (f.aC.getD i.toNat ([] :List UInt8))).t]))]))) (.ai (.at (x8 pP 191 0) 48 (x7 48 [(1,.ptr 0 0),(3,SV.row 1),(16,.list Ty.str f.aC),(17,J (↑f.aC.length:Int)),(18,J (i64.wrap (i+1)))]) [some (.cells f.cells),some (.rows dQ l)])))) (.ai (.at (x8 pP 191 0) 48 (x7 48 [(1,.ptr 0 0),(3,SV.row 1),(16,.list Ty.str f.aC),(17,J (↑f.aC.length:Int)),(18,J (i64.wrap (i+1)))]) [some (.cells f.cells),some (.rows dQ l)])))))) (.aj (l.length<=1000&&Cx (List.map nl l)) (.ai (.done (.list dQ (List.map Rc.t (pZ (List.map nl l)))))))):=by kernel_rfl
open Go.Sx
def q24:cV pP (Env.of pP (j9 [z79])):=kW (l:=[z79]) ⟨CK,trivial⟩
def q18:cV pP (Env.Sn pP (j9 [z67]) (d9 [G4])):=q38 aL (l:=[z67]) (k:=[G4]) (by intro x hx;rcases qT.1 hx with rfl|hx;exact yw1;cases hx) (by intro x hx;rcases qT.1 hx with rfl|hx;exact yQ4;cases hx)
abbrev Q3(f:Fl)(i:Int):List SV:=x7 48 [(1,.ptr 0 0),(3,.row 1),(16,.list .str f.aC),(17,J f.aC.length),(18,J i)]
abbrev Uw(f:Fl)(l:List Rc):List (Option aR):=[some (.cells f.cells),some (.rows dQ (l.map Rc.t))]
theorem Oc(f:Fl)(hl:f.aC.length<=1000)(hp:∀p∈f.aC,p.length=64)(R:List Rc)(hR:pF R):∀ (k i:Nat) (aN:List Rc),i+k=f.aC.length->aN.length<=i->R=aN++oI f.aC.length i (f.aC.drop i)->
  t9 pP (x9 pP 191) (LR (pZ R)) (x8 pP 191 0) (Q3 f i) (Uw f aN)
 |k,i,aN,hi,hn,hL=>by
  have w1:i64.wrap ((i:Int)+1)=(i:Int)+1:=aG (by omega) (by omega)
  have t0:(i:Int).toNat=i:=by omega
  refine o6 q18 (n:=1000) (hint:=dQ) (keep:=x6 48 [1,3,16,17,18]) (p:=VW) rfl ?_;erw [aa1 f (aN.map Rc.t) i];rw[w1,t0]
  match k,hi with
  |0,hi=>
   refine o7 (λa=>absurd a (by omega)) λ_=>?_
   have z:f.aC.drop i=[] :=AD (by omega);rw[z,show oI f.aC.length i [] =[]from rfl,wA]at hL;subst hL;rw[xk0,mP];exact x0 (by rw[aH];exact⟨bn (by omega),On.2 hR⟩) rfl
  |k+1,hi=>
   have BO:i<f.aC.length:=by omega
   have GJ:(f.aC.getD i ([] :List UInt8)).length=64:=by
    rw[cK,cc BO];exact hp _ (Cb BO)
   rw[uY (d:=([] :List UInt8)) BO,F0]at hL
   have nx:((i:Int)+1)=((i+1:Nat):Int):=by omega
   have skip:nk f.aC.length i (f.aC.getD i ([] :List UInt8))=none->t9 pP (x9 pP 191) (LR (pZ R)) (x8 pP 191 0) (Q3 f ((i:Int)+1)) (Uw f aN):=λe=>by
    rw[e]at hL;rw[nx];exact Oc f hl hp R hR k (i+1) aN (by omega) (by omega) hL
   have nz:(!(((f.aC.length:Nat):Int)==0))=true:=by
    rw[iJ,dM];omega
   refine o7 (λ_=>x0 (by simp;omega) (x0 (bn (by rw[GJ];omega)) (o7 (λc=>absurd c (by rw[GJ];omega)) λ_=>t8 (λb=>x0 nz (iK (λc=>x0 (bn ?_) ?_) λc=>?_)) λb=>?_))) λa=>absurd (by omega) a
   .rw[mP]
    show(aN.length+1)*96<=_;omega
   .have e:nk f.aC.length i (f.aC.getD i ([] :List UInt8))=some (ep (f.aC.getD i ([] :List UInt8))):=xm.2 ⟨b,c,rfl⟩
    rw[e]at hL
    have el:(aN.map Rc.t)++[(ep (f.aC.getD i ([] :List UInt8))).t] =(aN++[ep (f.aC.getD i ([] :List UInt8))]).map Rc.t:=by rw[EO];rfl
    rw[el,nx];refine⟨o5 _ _,?_⟩;refine Oc f hl hp R hR k (i+1) (aN++[ep (f.aC.getD i ([] :List UInt8))]) (by omega) (by rw[eX];show aN.length+1<=_;omega) ?_;rw[hL,Cc];rfl
   .refine⟨o5 _ _,skip ?_⟩
    cases e:nk f.aC.length i (f.aC.getD i ([] :List UInt8))with
    |none=>rfl
    |some r=>exact absurd (xm.1 e).2.1 c
   .refine⟨o5 _ _,skip ?_⟩
    cases e:nk f.aC.length i (f.aC.getD i ([] :List UInt8))with
    |none=>rfl
    |some r=>have:=(xm.1 e).1;rw[this]at b;cases b
def xA1(f:Fl)(h:o4 f=true):SCall pP 191 [f.sv] (LR (dl f)):=by
 have hl:f.aC.length<=1000:=bG h;refine s8 rfl rfl (by kernel_rfl) (o6 q24 (n:=1000) (hint:=dQ) (keep:=x6 48 [1,3,16,17,18]) (p:=VX) (boxes:=[]) rfl ?_);have q:=aa0 f;unfold v6 v7 at q;erw [q];refine x0 h (d8 (λb=>?_) λb=>t8 (λd=>?_) λd=>⟨o5 _ _,?_⟩)
 .have:dl f=[] :=by unfold dl;rw[b];rfl
  rw[this];rfl
 .have:dl f=[] :=by unfold dl;rw[b,d];rfl
  rw[this];rfl
 .have e:dl f=pZ (oI f.aC.length 0 f.aC):=by unfold dl;rw[b,d];rfl
  rw[e];have r:=Oc f hl (GB.1 b).1 (oI f.aC.length 0 f.aC) Qo f.aC.length 0 [] (by omega) (bA _) rfl;exact Kh true [] (iw:=Q3 f 0) (kf:=Uw f []) (MR ⟨rfl,.same _,rfl,.nil rfl,rfl,.same _,rfl,.same _,rfl,.same _,trivial⟩) ⟨by simp,.same _,trivial⟩ r
def Xd:aB:=ru 191 λf=>.aj (o4 f) (.ai (LR (dl f)))
def ys1:Xd.ok pP:=tV λf h=>xA1 f h
open Go.Sx
def xL0(f:Fl)(h:o4 f=true):SCall pP 103 [f.sv] (zT f):=
 aY aL [Xd] ⟨ys1,trivial⟩ 1000 (.ah (.all) (.all))
  (t:=let y1:=(↑(List.map Rc.t (dl f)).length:Int);let y0:=(List.map Rc.t (dl f)).getD (i64.wrap (y1-1)).toNat kz.t;.aj (o4 f) (.ag (y1==0) (lT [.agg [J 0,J 0,J 0,J 0,J 0,J 0,J 0,J 0,J 0,J 0,J 0,J 0],.bool false]) (.aj (0<=i64.wrap (y1-1)&&i64.wrap (y1-1)<y1) (lT [.agg [J y0.1,J y0.2.1,J y0.2.2.1,J y0.2.2.2.1,J y0.2.2.2.2.1.1,J y0.2.2.2.2.1.2.1,J y0.2.2.2.2.1.2.2.1,J y0.2.2.2.2.1.2.2.2,J y0.2.2.2.2.2.1,J y0.2.2.2.2.2.2.1,J y0.2.2.2.2.2.2.2.1,J y0.2.2.2.2.2.2.2.2],.bool true]))))
  (by kernel_rfl) (by
   refine x0 h (iK (λe=>?_) λe=>?_)
   .have e:dl f=[] :=by
     rw[mP]at e;exact pz (by omega)
    rw[q45 e];rfl
   .have hl:f.aC.length<=1000:=bG h
    have len:=Vt f;rw[mP]at e ⊢;have w:i64.wrap (((dl f).length:Int)-1)=((dl f).length:Int)-1:=aG (by omega) (by omega);rw[w];obtain⟨A,x,hA⟩:∃A x,dl f=A++[x] :=⟨(dl f).dropLast,(dl f).getLast (by intro k;rw[k]at e;exact e rfl),(aio _).symm⟩
    have g:((dl f).map Rc.t).getD (((dl f).length:Int)-1).toNat kz.t=x.t:=by
     rw[Pk (by omega),hA]
     have:((((A++[x]).length:Nat):Int)-1).toNat=A.length:=by simp
     rw[this,cK,uN (bA _)];simp
    rw[g,q46 hA]
    exact x0 (by simp;omega) rfl) (by kernel_rfl)
def PW:DJ.ok pP:=tV λf h=>xL0 f h
def xA4(f:Fl)(r:Rc)(h:o4 f=true):SCall pP 202 [f.sv,r.sv] (tj f r):=
 aY aL [z72,z79,DJ,fWr] ⟨Xm,CK,PW,yQ1,trivial⟩ 1000 (.ah (.ln 4 (.ah .all (.ah .all (.ah .all .all)))) (.ln 4 pA))
  (t:=let y0:=xx f (r.seq.tmod (↑f.aC.length:Int)) (enc r);.ag (fB r) (.aj (o4 f) (.aj (o4 f) (.ag (!eU f) (lT [.agg f.cells,J 1]) (.ag (f.dead) (lT [.agg f.cells,J 17]) (.ag (r.seq != i64.wrap ((bW f).seq+1)) (lT [.agg f.cells,J 11]) (.aj (!(↑f.aC.length:Int)==0) (.aj (o4 f) (lT [.agg [.list Ty.str y0.aC,J y0.bU,.bool y0.dead,J y0.keep],J (zx f (r.seq.tmod (↑f.aC.length:Int)) (enc r))])))))))) (.aj (o4 f) (lT [.agg f.cells,J 1])))
  (by kernel_rfl) (by
   have w:i64.wrap ((bW f).seq+1)=qI f+1:=by rw[L0,aG (by have:=zU f;omega) (by have:=zU f;omega)]
   rw[w]
   refine t8 (λa=>x0 h (x0 h (d8 (λb=>(Iy (.inr b)).symm) λb=>t8 (λd=>(Vr a b d).symm) λd=>dI (λs=>(Vp a b d s).symm) λs=>x0 ?_ (x0 h ?_)))) λa=>x0 h (Iy (.inl a)).symm
   .have:=(GB.1 b).2.1
    rw[iJ,dM];omega
   .rw[Vq a b d s];rfl) (by kernel_rfl)
def ys4:Ns.ok pP:=Q9 λf r h=>xA4 f r h
open Go.Sx
def q27:cV pP (Env.cq pP (j9 [DJ,Ns]) (d9 []) (f0 []) (b9 []) (j6 []) (j6 []) (j6 []) (j6 [])):=hB (l:=[DJ,Ns]) (k:=[]) (j:=[]) (i:=[]) [] [] [] [] ⟨PW,ys4,trivial⟩ v8 v8 v8
def XN(f:Fl):i64.wrap ((bW f).seq+1)=qI f+1:=by rw[L0,aG (by have:=zU f;omega) (by have:=zU f;omega)]
def zt8(f:Fl)(r:Rc)(h:o4 f=true)(e:ib f r=0):lW pP 119 [r.sv] (.cells f.cells) (false,.tuple [],.cells (b8 f r).cells):=by
 refine AK (r:=.ret (.tuple []) [some (.cells (b8 f r).cells)]) (by kernel_rfl) (nV q27 (n:=1000) (keep:=x6 37 []) (p:=Qr) (bA _) ?_) rfl rfl rfl rfl rfl;erw [rcX f r];rw[XN];exact x0 h (x0 h (dI (λk=>absurd e k) λ_=>rfl))
def zt9(f:Fl)(r:Rc)(h:o4 f=true)(e:¬ib f r=0):lW pP 119 [r.sv] (.cells f.cells) (true,Q6,.cells (b8 f r).cells):=by
 refine AK (r:=.cE Q6 [some (.cells (b8 f r).cells)]) (by kernel_rfl) (nV q27 (n:=1000) (keep:=x6 37 []) (p:=Qr) (bA _) ?_) rfl rfl rfl rfl rfl;erw [rcX f r];rw[XN];exact x0 h (x0 h (dI (λ_=>rfl) λk=>absurd k e))
def YG:yJ.ok pP:=λargs B t ht=>by
 simp only[yJ]at ht
 split at ht
 .split at ht
  .cases ht
   intro h;exact⟨λe=>zt8 ⟨_,_,_,_⟩ ⟨_,_,_,_,(_,_,_,_),(_,_,_,_)⟩ h (cI.1 e),λe=>zt9 ⟨_,_,_,_⟩ ⟨_,_,_,_,(_,_,_,_),(_,_,_,_)⟩ h (dM.1 e)⟩
  .cases ht
 .cases ht
open Go.Sx
def kM(f:Fw):Rc:=match zP f.lines with
 |true=>⟨1,0,f9 f,0,f.ret,f.ret⟩
 |false=>⟨1,0,f9 f,0,f.pos,eQ f.pos (f.queue.getD 0 aM).1⟩
def tD(f:Fw):Bool:=f4 f&& (!f.aT&&0<f.lines.length)
def nZ(f:Fw):Rc:=match mw f with
 |true=>⟨3,0,f9 f-1,0,f.pos,(f.ret.1,f.ret.2.1,f.ret.2.2.1,f.pos.2.2.2)⟩
 |false=>match f.aT with
  |true=>⟨2,0,f.bL,f.mo.2.1,f.pos,eQ (bI f.pos (fc f.mo)) f.mo.1.1⟩
  |false=>⟨2,0,f9 f-1,0,f.pos,f.pos⟩
def kr(f:Fw)(line:Int):V4:=if line=0/\f.bf=true then f.pos else if f.back=true then(f.ret.1,f.ret.2.1,f.ret.2.2.1,f.pos.2.2.2)else(0,0,0,f.pos.2.2.2)
variable{f:Fw}
def Iu:tD f=true↔f4 f=true/\f.aT=false/\0<f.lines.length:=by simp[tD]
def Va(h:0<f.lines.length)(k:f.lines.getD 0 0=0):kM f=⟨1,0,f9 f,0,f.ret,f.ret⟩:=by
 have e:zP f.lines=true:=Gt.2 ⟨h,k⟩;unfold kM;rw[e]
def Vb(k:¬f.lines.getD 0 0=0):kM f=⟨1,0,f9 f,0,f.pos,eQ f.pos (f.queue.getD 0 aM).1⟩:=by
 have e:zP f.lines=false:=by rw[eB];intro h;exact k (Gt.1 h).2
 unfold kM;rw[e]
def yZ2(h:tD f=true)(k:¬f.lines.getD 0 0=0):f9 f=f.lines.getD 0 0:=by
 obtain⟨h1,h2,h3⟩:=Iu.1 h;have r:=(oh.1 h1).2.2.2.2.2;unfold f9;rw[au (λq=>by rw[h2]at q;cases q.1)]
 cases hl:f.lines with
 |nil=>rw[hl]at h3;cases h3
 |cons n l=>
  rw[hl]at k;have k:¬n=0:=k;have:=r n (by rw[hl];exact mO);unfold oM;rw[ay (by omega)];rfl
def qz0(a:mw f=true):nZ f=⟨3,0,f9 f-1,0,f.pos,(f.ret.1,f.ret.2.1,f.ret.2.2.1,f.pos.2.2.2)⟩:=by unfold nZ;rw[a]
def qy7(a:mw f=false)(m:f.aT=true):nZ f=⟨2,0,f.bL,f.mo.2.1,f.pos,eQ (bI f.pos (fc f.mo)) f.mo.1.1⟩:=by unfold nZ;rw[a,m]
def qy9(a:mw f=false)(m:f.aT=false):nZ f=⟨2,0,f9 f-1,0,f.pos,f.pos⟩:=by unfold nZ;rw[a,m]
def JZ(h:f4 f=true):i64.wrap (f9 f-1)=f9 f-1:=aG (by have:=FB h;omega) (by have:=FB h;omega)
variable{n:Int}
def Vf(a:n=0)(b:f.bf=true):kr f n=f.pos:=ay ⟨a,b⟩
def Iw(a:¬(n=0/\f.bf=true))(b:f.back=true):kr f n=(f.ret.1,f.ret.2.1,f.ret.2.2.1,f.pos.2.2.2):=by unfold kr;rw[au a,ay b]
def Iv(a:¬(n=0/\f.bf=true))(b:f.back=false):kr f n=(0,0,0,f.pos.2.2.2):=by unfold kr;rw[au a,au (by rw[b];exact fS)]
def xB4(f:Fw)(h:tD f=true):SCall pP 120 [f.sv] ((kM f).sv):=
 aY aL [Ru,BZ,Rt,Lh] ⟨YO,FJ,YN,PT,trivial⟩ 1000 (.ah (.all) (.all))
  (t:=let y0:=eQ f.pos (f.queue.getD 0 aM).1;.aj (0< (↑f.lines.length:Int)) (.ag (f.lines.getD 0 0==0) (.aj (f4 f) (.ai (.agg [J 1,J 0,J (f9 f),J 0,J f.ret.1,J f.ret.2.1,J f.ret.2.2.1,J f.ret.2.2.2,J f.ret.1,J f.ret.2.1,J f.ret.2.2.1,J f.ret.2.2.2]))) (.aj (f4 f) (.aj (0< (↑f.queue.length:Int)) (.ai (.agg [J 1,J 0,J (f9 f),J 0,J f.pos.1,J f.pos.2.1,J f.pos.2.2.1,J f.pos.2.2.2,J y0.1,J y0.2.1,J y0.2.2.1,J y0.2.2.2]))))))
  (by kernel_rfl) (by
   obtain⟨sh,nm,ln⟩:=Iu.1 h;have lens:=(oh.1 sh).2.1
   refine x0 (bn (by omega)) (iK (λk=>x0 sh (by rw[Va ln k];rfl)) λk=>x0 sh (x0 (bn (by omega)) (by rw[Vb k];rfl)))) (by kernel_rfl)
def xH3(f:Fw)(h:f4 f=true):SCall pP 124 [f.sv] ((nZ f).sv):=
 aY aL [Ru,BZ,Rt,Lh] ⟨YO,FJ,YN,PT,trivial⟩ 1000 (.ah (.all) (.ah (.all) (.all)))
  (t:=let y0:=eQ (bI f.pos (fc f.mo)) f.mo.1.1;.aj (f4 f) (.aj (D0 f) (.ag (mw f) (rT (rT (.ai (.agg [J 3,J 0,J (i64.wrap (f9 f-1)),J 0,J f.pos.1,J f.pos.2.1,J f.pos.2.2.1,J f.pos.2.2.2,J f.ret.1,J f.ret.2.1,J f.ret.2.2.1,J f.pos.2.2.2])))) (.ag (f.aT) (.ai (.agg [J 2,J 0,J f.bL,J f.mo.2.1,J f.pos.1,J f.pos.2.1,J f.pos.2.2.1,J f.pos.2.2.2,J y0.1,J y0.2.1,J y0.2.2.1,J y0.2.2.2])) (.ai (.agg [J 2,J 0,J (i64.wrap (f9 f-1)),J 0,J f.pos.1,J f.pos.2.1,J f.pos.2.2.1,J f.pos.2.2.2,J f.pos.1,J f.pos.2.1,J f.pos.2.2.1,J f.pos.2.2.2]))))))
  (by kernel_rfl) (by
   have lens:=(oh.1 h).2.1
   exact x0 h (x0 (LW.2 lens) (t8 (λa=>x0 rfl (x0 rfl (by rw[qz0 a,JZ h];rfl))) λa=>t8 (λm=>by rw[qy7 a m];rfl) λm=>by rw[qy9 a m,JZ h];rfl))) (by kernel_rfl)
def xA9(f:Fw)(n:Int):SCall pP 126 [f.sv,J n] (V4.sv (kr f n)):=
 aY aL [] trivial 1000 (.ah (.ar (.ar (.ah .all (.ah .all .all)))) (.ln 3 (.ah .all .all)))
  (t:=let y0:ak SV:=.ag (f.back) (rT (rT (.ai (.agg [J f.ret.1,J f.ret.2.1,J f.ret.2.2.1,J f.pos.2.2.2])))) (rT (rT (.ai (.agg [J 0,J 0,J 0,J f.pos.2.2.2]))));.ag (n==0) (.ag (f.bf) (.ai (.agg [J f.pos.1,J f.pos.2.1,J f.pos.2.2.1,J f.pos.2.2.2])) y0) y0)
  (by kernel_rfl) (by
   exact iK (λa=>t8 (λb=>by rw[Vf a b];rfl) λb=>t8 (λc=>x0 rfl (x0 rfl ((by rw[Iw (λq=>by rw[b]at q;cases q.2) c];rfl)))) λc=>x0 rfl (x0 rfl ((by rw[Iv (λq=>by rw[b]at q;cases q.2) c];rfl)))) λa=>t8 (λc=>x0 rfl (x0 rfl ((by rw[Iw (λq=>a q.1) c];rfl)))) λc=>x0 rfl (x0 rfl ((by rw[Iv (λq=>a q.1) c];rfl)))) (by kernel_rfl)
def z45:aB:=fC 120 λf=>.aj (tD f) (.ai (kM f).sv)
def z91:aB:=fC 124 λf=>.aj (f4 f) (.ai (nZ f).sv)
def z40:aB:=gU 126 λf rest=>match rest with
 |[.int .i64 n] =>some (.ai (V4.sv (kr f n)))
 |_=>none
def yt6:z45.ok pP:=fE λf h=>xB4 f h
def yy5:z91.ok pP:=fE λf h=>xH3 f h
def yt1:z40.ok pP:=iz λf rest t ht=>by
 split at ht<;>cases ht;exact xA9 f _
def xB5(f:Fw)(h:tD f=true):SCall pP 122 [f.sv] ((kM f).sv):=
 aY aL [Lg,xK,xL,Ld,DH] ⟨PP,J9,zo,PM,FN,trivial⟩ 1000 (.ah (.all) (.all))
  (t:=let y0:=eQ f.pos (f.queue.getD 0 aM).1;.aj (0< (↑f.lines.length:Int)) (.ag (f.lines.getD 0 0==0) (.aj (f4 f) (.ai (.agg [J 1,J 0,J (f9 f),J 0,J f.ret.1,J f.ret.2.1,J f.ret.2.2.1,J f.ret.2.2.2,J f.ret.1,J f.ret.2.1,J f.ret.2.2.1,J f.ret.2.2.2]))) (.aj (0< (↑f.lines.length:Int)) (.aj (0< (↑f.queue.length:Int)) (.ai (.agg [J 1,J 0,J (f.lines.getD 0 0),J 0,J f.pos.1,J f.pos.2.1,J f.pos.2.2.1,J f.pos.2.2.2,J y0.1,J y0.2.1,J y0.2.2.1,J y0.2.2.2]))))))
  (by kernel_rfl) (by
   obtain⟨sh,nm,ln⟩:=Iu.1 h;have lens:=(oh.1 sh).2.1
   refine x0 (bn (by omega)) (iK (λk=>x0 sh (by rw[Va ln k];rfl)) λk=>x0 (bn (by omega)) (x0 (bn (by omega)) (by rw[Vb k,<-yZ2 h k];rfl)))) (by kernel_rfl)
def xH4(f:Fw)(h:f4 f=true):SCall pP 125 [f.sv] ((nZ f).sv):=
 aY aL [Lg,xK,xL,Ld,DH] ⟨PP,J9,zo,PM,FN,trivial⟩ 1000 (.ah (.all) (.ah (.all) (.all)))
  (t:=let y0:=eQ (bI f.pos (fc f.mo)) f.mo.1.1;.ag (mw f) (.aj (f4 f) (rT (rT (rT (rT (.ai (.agg [J 3,J 0,J (i64.wrap (f9 f-1)),J 0,J f.pos.1,J f.pos.2.1,J f.pos.2.2.1,J f.pos.2.2.2,J f.ret.1,J f.ret.2.1,J f.ret.2.2.1,J f.pos.2.2.2]))))))) (.aj (f4 f) (.ag (f.aT) (.ai (.agg [J 2,J 0,J f.bL,J f.mo.2.1,J f.pos.1,J f.pos.2.1,J f.pos.2.2.1,J f.pos.2.2.2,J y0.1,J y0.2.1,J y0.2.2.1,J y0.2.2.2])) (.ai (.agg [J 2,J 0,J (i64.wrap (f9 f-1)),J 0,J f.pos.1,J f.pos.2.1,J f.pos.2.2.1,J f.pos.2.2.2,J f.pos.1,J f.pos.2.1,J f.pos.2.2.1,J f.pos.2.2.2])))))
  (by kernel_rfl) (by
   exact t8 (λa=>x0 h (x0 rfl (x0 rfl (x0 rfl (x0 rfl (by rw[qz0 a,JZ h];rfl)))))) λa=>x0 h (t8 (λm=>by rw[qy7 a m];rfl) λm=>by rw[qy9 a m,JZ h];rfl)) (by kernel_rfl)
def xB0(f:Fw)(n:Int):SCall pP 128 [f.sv,J n] (V4.sv (kr f n)):=
 aY aL [] trivial 1000 (.ah (.ar (.ar (.ah .all (.ah .all .all)))) (.ln 3 (.ah .all .all)))
  (t:=let y0:ak SV:=.ag (f.back) (rT (rT (rT (rT (.ai (.agg [J f.ret.1,J f.ret.2.1,J f.ret.2.2.1,J f.pos.2.2.2])))))) (rT (.ai (.agg [J 0,J 0,J 0,J f.pos.2.2.2])));.ag (n==0) (.ag (f.bf) (.ai (.agg [J f.pos.1,J f.pos.2.1,J f.pos.2.2.1,J f.pos.2.2.2])) y0) y0)
  (by kernel_rfl) (by
   exact iK (λa=>t8 (λb=>by rw[Vf a b];rfl) λb=>t8 (λc=>x0 rfl (x0 rfl (x0 rfl (x0 rfl ((by rw[Iw (λq=>by rw[b]at q;cases q.2) c];rfl)))))) λc=>x0 rfl ((by rw[Iv (λq=>by rw[b]at q;cases q.2) c];rfl))) λa=>t8 (λc=>x0 rfl (x0 rfl (x0 rfl (x0 rfl ((by rw[Iw (λq=>a q.1) c];rfl)))))) λc=>x0 rfl ((by rw[Iv (λq=>a q.1) c];rfl))) (by kernel_rfl)
def z46:aB:=fC 122 λf=>.aj (tD f) (.ai (kM f).sv)
def W8:aB:=fC 125 λf=>.aj (f4 f) (.ai (nZ f).sv)
def z41:aB:=gU 128 λf rest=>match rest with
 |[.int .i64 n] =>some (.ai (V4.sv (kr f n)))
 |_=>none
def yt7:z46.ok pP:=fE λf h=>xB5 f h
def yy6:W8.ok pP:=fE λf h=>xH4 f h
def yt2:z41.ok pP:=iz λf rest t ht=>by
 split at ht<;>cases ht;exact xB0 f _
open Go.Sx
def sy(r:Rc):Bool:=u7 r.src&& (u7 r.dst&&u7 (bI r.dst r.src))
def Kt(f:Fw)(r:Rc):Fw:={f with line:=if r.line-1>0 then r.line-1 else 0,pos:=r.src,e:=dY f.ma.e r.src.2.2.2,back:=true,ret:=r.src}
def tR(f:Fw)(r:Rc):Fw:={f with bf:=true,pos:=r.src,loc:=C3 f.ma r.dst,e:=(dh f.ma r.dst).2.2.2,line:=r.line}
def Be(f:Fw)(r:Rc):Fw:={tR f r with ret:=r.dst}
def sF(f:Fw)(r:Rc):Fw:=if r.kind=3 then gA (Be f r) (bI r.dst r.src)else if r.src=r.dst then tR f r else p8 (tR f r) (bI r.dst r.src) 0 r.line
def Gf(r:Rc):Int:=if sy r=true then 0 else 19
def zA(f:Fw)(r:Rc):Fw:=if r.kind=1 then Kt f r else sF f r
def sE(f:Fw)(l:Fl):Bool:=u9 f&& (eF f&& (eU l&&!f.bf))
def iO(f:Fw)(l:Fl):Int:=if sE f l=false then 1 else if l.dead=true then 17 else match jV l with
 |none=>0
 |some r=>Gf r
def ky(f:Fw)(l:Fl):Fw:=match jV l with
 |none=>f
 |some r=>zA f r
def nt(f:Fw)(l:Fl):SV:=if iO f l=0 then .tuple [(ky f l).sv,J 0]else .tuple [.agg (o9 aP),J (iO f l)]
def IA{c:V4}{len:Int}(h:dm f c len=true)(e:m9 f=0):dt f c len=true:=by
 have p:=Iz h;have ql:=rf f c len;rw[uV,e];rw[e]at p;have g:=R7 p (i:=0) (rW _)
 have k:gL (t6 f c len) (ij f.ma (t6 f c len)) 0 0<=0:=by
  rw[qH5 (by omega)];exact Int.le_trans (Int.min_le_left _ _) (Cf _)
 exact⟨(p.Nw 0).1,by omega⟩
variable{g:Fw}
def Kn(v:VF f)(hi:eF f=true)(e1:g.ma=f.ma)(e2:g.bH=f.bH)(e3:g.queue=f.queue)(e4:g.lines=f.lines)(e5:g.aT=f.aT){c:V4}(hn:u7 c=true)(hz:bO c=true):dm g c 0=true/\m9 g=0:=by
 obtain⟨i1,i2,i3⟩:=zM.1 hi;have n:=v.gK
 have en:m9 g=0:=by
  unfold m9;rw[au (show ¬g.aT=true by rw[e5,i1];exact fS),ay (show g.queue.length=0 by rw[e3];exact i2)]
 exact⟨qv.2 ⟨by rw[e1];exact J5 v.ma hn hz,by decide,by rw[e2];exact pJ.2 (by omega),by rw[e3];exact v.sound,by rw[e3,e4];exact v.lens,by rw[e3];omega,by omega,by omega⟩,en⟩
variable{d:V4}
def xq5(h:u7 d=true):u7 (m7 d)=true:=by have:=fO.1 h;exact fO.2 (by unfold m7;dsimp only;omega)
def ZW(h:u7 d=true):u7 (gB d)=true:=by have:=fO.1 h;exact fO.2 (by unfold gB;dsimp only;omega)
def ZR(v:VF f)(hi:eF f=true)(e1:g.ma=f.ma)(e2:g.bH=f.bH)(e3:g.queue=f.queue)(e4:g.lines=f.lines)(e5:g.aT=f.aT)(hn:u7 d=true):
  pK g d=true/\m9 g=0/\m9 (n8 g (m7 d))=0/\gI g d=true:=by
 obtain⟨i1,i2,i3⟩:=zM.1 hi
 have en:m9 g=0:=by
  unfold m9;rw[au (show ¬g.aT=true by rw[e5,i1];exact fS),ay (show g.queue.length=0 by rw[e3];exact i2)]
 have p1:bO (m7 d)=true->dm g (m7 d) 0=true:=λz=>(Kn v hi e1 e2 e3 e4 e5 (xq5 hn) z).1
 have o1:gX g (m7 d)=true:=by
  cases z:bO (m7 d)with
  |false=>exact uU z
  |true=>rw[nP z];exact IA (p1 z) en
 have vX:m9 (n8 g (m7 d))=0:=by
  cases z:bO (m7 d)with
  |false=>rw[jy z];exact en
  |true=>
   rw[ja z,VJ (by rw[<-nP z];exact o1)];exact en
 have p2:bO (gB d)=true->dm (n8 g (m7 d)) (gB d) 0=true:=λy=>by
  cases z:bO (m7 d)with
  |false=>rw[jy z];exact(Kn v hi e1 e2 e3 e4 e5 (ZW hn) y).1
  |true=>
   rw[ja z];exact VD (p1 z) (by rw[<-nP z];exact o1) (by rw[e1];exact J5 v.ma (ZW hn) y) (by decide) (by rw[e3];omega)
 have o2:gX (n8 g (m7 d)) (gB d)=true:=by
  cases y:bO (gB d)with
  |false=>exact uU y
  |true=>rw[nP y];exact IA (p2 y) vX
 exact⟨Km.2 ⟨p1,λ_=>p2⟩,en,vX,by unfold gI;rw[o1,o2];rfl⟩
open Go.Sx
open Go.Sx
open Go.Sx
open Go.Sx
section
variable {f:Fw}
structure Rec (r:Rc) (real:V4):Prop where
 near:sy r=true
 kd:1<=r.kind/\r.kind<=3
 ln:0<=r.line/\r.line<=1099511627776
 real:¬r.kind=1->r.src=real
 lR:r.kind=2->¬r.src=r.dst->1<=r.line
end
open Go.Sx
noncomputable def IS:Env:=Env.cq pP (j9 [z45,z91]) (d9 []) (f0 [bF.toP yJ]) (b9 [yJ]) (j6 []) (j6 []) (j6 []) (j6 [])
def Sf:cV pP IS:=hB (l:=[z45,z91]) (k:=[]) (j:=[bF.toP yJ]) (i:=[yJ]) [] [] [] [] ⟨yt6,yy5,trivial⟩ v8 (gx.all (p:=kq.ok pP) (l:=[bF.toP yJ]) ⟨bF.toP_ok YG,trivial⟩) (gx.all (p:=bF.ok pP) (l:=[yJ]) ⟨YG,trivial⟩)
noncomputable def P5:kq:=No IS 1000 118
noncomputable def P6:kq:=No IS 1000 123
noncomputable def P7:kq:=No IS 1000 127
noncomputable def V6:Env:=Env.cq pP (j9 []) (d9 []) (f0 []) (b9 []) (j6 []) (j6 []) (j6 []) (j6 [1])
noncomputable def V5:Env:=Env.cq pP (j9 []) (d9 []) (f0 [P5,P6,P7]) (b9 []) (j6 []) (j6 []) (j6 []) (j6 [])
noncomputable def V2:Env:=Env.cq pP (j9 []) (d9 []) (f0 []) (b9 []) (j6 []) (j6 []) (j6 []) (j6 [0])
def q19:cV pP V6:=hB (l:=[]) (k:=[]) (j:=[]) (i:=[]) [] [] [] [1] trivial v8 v8 v8
def q20:cV pP V5:=hB (l:=[]) (k:=[]) (j:=[P5,P6,P7]) (i:=[]) [] [] [] [] trivial v8 (gx.all (p:=kq.ok pP) (l:=[P5,P6,P7]) ⟨R3 Sf 1000 _,R3 Sf 1000 _,R3 Sf 1000 _,trivial⟩) v8
def q21:cV pP V2:=hB (l:=[]) (k:=[]) (j:=[]) (i:=[]) [] [] [] [0] trivial v8 v8 v8
noncomputable def BD:iY:=Wn V6 V5 V2 1000 117
def PG:BD.ok pP:=zQ8 q19 q20 q21 1000 _
open Go.Sx
def Kk(f:Fw):SV:=.tuple [(kT f).sv,V4.sv (jg f)]
def Kj{p:V4}(a:kT f=g)(b:jg f=p):SV.tuple [.agg g.cells,.agg p.cells] =Kk f:=by unfold Kk;rw[a,b];rfl
def xW8(f:Fw)(h:u9 f=true):SCall pP 83 [f.sv] (Kk f):=
 ic (hB (l:=[OT,qm9,xK,z75]) (k:=[]) (j:=[]) (i:=[]) nN nN nN nN (⟨Xs,yN3,J9,Xk,trivial⟩) v8 v8 v8) 1000 (.ah (.all) (.ah (.all) (.ah (.all) (.all))))
  (t:=.ag (f.bt>0) (lT [.agg (Fw.cells {f with bt:=(i64.wrap (f.bt-1))}),.agg [J 0,J 0,J 0,J 0]]) (.ag (!(gb f).aT) (lT [.agg (Fw.cells (gb f)),.agg [J 0,J 0,J 0,J 0]]) (.ag (kO (gM (gb f).mo (gb f).ma.aU)) (lT [.agg (Fw.cells { (gb f)with pos:=(eQ (gb f).pos (eP (gb f).mo (gb f).ma.aU)),mo:=(((0,0,0,0),0,0,0,0),0,0),aT:=false,bL:=0}),.agg [J (eP (gb f).mo (gb f).ma.aU).1,J (eP (gb f).mo (gb f).ma.aU).2.1,J (eP (gb f).mo (gb f).ma.aU).2.2.1,J (eP (gb f).mo (gb f).ma.aU).2.2.2]]) (lT [.agg (Fw.cells { (gb f)with pos:=(eQ (gb f).pos (eP (gb f).mo (gb f).ma.aU)),mo:=(gM (gb f).mo (gb f).ma.aU)}),.agg [J (eP (gb f).mo (gb f).ma.aU).1,J (eP (gb f).mo (gb f).ma.aU).2.1,J (eP (gb f).mo (gb f).ma.aU).2.2.1,J (eP (gb f).mo (gb f).ma.aU).2.2.2]]))))
  (by kernel_rfl) (by
   have v:=d7 h;have n:=v.gK;have vb:=d7 (NO h);have wa:eQ (s7 f).pos (eP (s7 f).mo (s7 f).ma.aU)=f5 (s7 f).pos (eP (s7 f).mo (s7 f).ma.aU):=vP (iq vb.pos) (jn3 _ _);rw[NP h,wa]
   refine o7 (λd=>?_) λd=>d8 (λm=>?_) λm=>t8 (λe=>?_) λe=>?_
   .rw[show i64.wrap (f.bt-1)=f.bt-1 from aG (by omega) (by omega)]
    exact Kj (ay d) (ay d)
   .exact Kj (by unfold kT;rw[au d,m,au fS]) (by unfold jg;rw[au d,m,au fS])
   .exact Kj (by unfold kT;rw[au d,ay m];exact SZ e) (by unfold jg;rw[au d,ay m])
   .exact Kj (by unfold kT;rw[au d,ay m];exact MI e) (by unfold jg;rw[au d,ay m])) (by kernel_rfl) (by rfl)
def qk3:aB:=fC 83 λf=>.aj (u9 f) (.ai (Kk f))
def yK3:qk3.ok pP:=fE (λf h=>xW8 f h)
section
variable {f g:Fw} {r s:Int}
def jF5{x:Fw}(v:u9 x=true):Bx x=true:=by
 have u:=d7 v;exact jF3.2 ⟨⟨u.c0,u.g0⟩,u.c1,u.g1⟩
def jq9(v:u9 f=true)(h:g=jR f r s)(l:rA g=true):SV.tuple [.agg (iW {ek (ji g)with mode:=3}).cells,V4.sv z4,.agg [J 0,J 0]] =oR f r s:=by
 subst h
 have e:iA f r s=iW {ek (ji (jR f r s))with mode:=3}:=by unfold iA tM;rw[ay l]
 have m:(iA f r s).mode=3:=by rw[e];rfl
 unfold oR;rw[GZ v,GY v,Mv v,ay m,ay m,ay m,e];rfl
def jr0(v:u9 f=true)(h:g=jR f r s)(l:rA g=false)(m:(iW (ji g)).mode=3):SV.tuple [.agg (iW (ji g)).cells,V4.sv z4,.agg [J 0,J 0]] =oR f r s:=by
 subst h
 have e:iA f r s=iW (ji (jR f r s)):=by unfold iA tM;rw[l,au fS]
 have m:(iA f r s).mode=3:=by rw[e];exact m
 unfold oR;rw[GZ v,GY v,Mv v,ay m,ay m,ay m,e];rfl
def jr1(v:u9 f=true)(h:g=jR f r s)(l:rA g=false)(m:¬(iW (ji g)).mode=3):SV.tuple [.agg (kT (iW (ji g))).cells,V4.sv (jg (iW (ji g))),.agg [J (AT g),J (AS g)]] =oR f r s:=by
 subst h
 have e:iA f r s=iW (ji (jR f r s)):=by unfold iA tM;rw[l,au fS]
 have m:¬(iA f r s).mode=3:=by rw[e];exact m
 unfold oR;rw[GZ v,GY v,Mv v,au m,au m,au m,e];rfl
def jr2(v:u9 f=true):(if i64.wrap (f.aU+1)<1099511627776 then i64.wrap (f.aU+1)else 1099511627776)=(if f.aU+1<1099511627776 then f.aU+1 else 1099511627776):=by
 have n:=(d7 v).gK;rw[aG (x:=f.aU+1) (by omega) (by omega)]
end
def x23(f:Fw)(r s:Int):SCall pP 28 [f.sv,.agg [J r,J s]] (oR f r s):=
 ic (hB (l:=[Bi,qa4,Rx,qo9,qk3]) (k:=[]) (j:=[]) (i:=[]) nN nN nN nN (⟨CU,yz9,YT,yP3,yK3,trivial⟩) v8 v8 v8) 1000 (.ah (.all) (.ah pA (.ah (.all) (.all))))
  (t:=let y0:={f with aU:=(if i64.wrap (f.aU+1)<1099511627776 then i64.wrap (f.aU+1)else 1099511627776),r0:=r,r1:=s};let y1:=iW (ji y0);.ag (!u9 f) (lT [.agg (Fw.cells f),.agg [J 0,J 0,J 0,J 0],.agg [J 0,J 0]]) (.ag (rA y0) (.aj (f4 (ji y0)) (.aj (Bx ({ (ek (ji y0))with mode:=3})) (lT [.agg (Fw.cells (iW ({ (ek (ji y0))with mode:=3}))),.agg [J 0,J 0,J 0,J 0],.agg [J 0,J 0]]))) (.aj (Bx (ji y0)) (.ag (y1.mode==3) (lT [.agg (Fw.cells y1),.agg [J 0,J 0,J 0,J 0],.agg [J 0,J 0]]) (.aj (u9 y1) (lT [.agg (Fw.cells (kT y1)),.agg [J (jg y1).1,J (jg y1).2.1,J (jg y1).2.2.1,J (jg y1).2.2.2],.agg [J (AT y0),J (AS y0)]]))))))
  (by kernel_rfl) (by
   refine d8 (λv=>js3 v) λv=>?_
   have h:({f with aU:=(if i64.wrap (f.aU+1)<1099511627776 then i64.wrap (f.aU+1)else 1099511627776),r0:=r,r1:=s}:Fw)=jR f r s:=by unfold jR;rw[jr2 v]
   have hv:=RN (Qq (r:=r) (s:=s) v);have hh:=Ly (r:=r) (s:=s) v
   refine t8 (λl=>?_) λl=>?_
   .refine x0 (by rw[h];exact(d7 hv).shape) (x0 (by rw[h];exact jF5 (Sc hv)) (jq9 v h l))
   .refine x0 (by rw[h];exact jF5 hv) (iK (λm=>jr0 v h l m) λm=>x0 ?_ (jr1 v h l m))
    rw[h]at l ⊢
    have e:iA f r s=iW (ji (jR f r s)):=by unfold iA tM;rw[l,au fS]
    rw[<-e];exact hh) (by kernel_rfl) (by rfl)
def qn1:aB:=gU 28 λf rest=>match rest with
 |[.agg [.int .i64 r,.int .i64 s]] =>some (.ai (oR f r s))
 |_=>none
def yN5:qn1.ok pP:=iz λf rest t ht=>by
 split at ht<;>cases ht;exact x23 f _ _
open Go.Sx
def dy(f:Fw)(l:Fl):Fl:=match u9 f&&f.bf with
 |true=>b8 l (nZ f)
 |false=>l
def uG(f:Fw)(l:Fl):Bool:=!oz f||ib l (kM f)==0
def vH(f:Fw)(l:Fl):Fl:=match oz f with
 |true=>b8 l (kM f)
 |false=>l
def sQ(f:Fw)(l:Fl)(r s:Int):Fw:=match uG f l with
 |true=>mI f r s
 |false=>f
def GH(f:Fw)(l:Fl)(r s:Int):V4:=match uG f l with
 |true=>vM f r s
 |false=>z4
def D2(f:Fw)(l:Fl)(r s:Int):Int×Int:=match uG f l with
 |true=>lK f r s
 |false=>(0,0)
def sP(f:Fw)(l:Fl)(r s:Int):SV:=.tuple [(sQ f l r s).sv,(vH f l).sv,V4.sv (GH f l r s),.agg [J (D2 f l r s).1,J (D2 f l r s).2]]
def mD(f:Fw)(n:Int):Rc:=⟨1,0,f.line+1,0,kr f n,kr f n⟩
def zO(f:Fw)(n:Int)(c:Gc.C):Rc:=⟨3,0,(jc f n c).line,0,(jc f n c).pos,kr f n⟩
def qp(f:Fw)(l:Fl)(n:Int)(c:Gc.C):Int:=if eZ f n c=0 then(if c.code=28 then(if ib l (mD f n)=0/\ib (b8 l (mD f n)) (zO f n c)=0 then 0 else 17)else 0)else eZ f n c
def rS(f:Fw)(l:Fl)(n:Int)(c:Gc.C):Fl:=if eZ f n c=0/\c.code=28 then(if ib l (mD f n)=0 then b8 (b8 l (mD f n)) (zO f n c)else b8 l (mD f n))else l
def th(f:Fw)(l:Fl)(n:Int)(c:Gc.C):Fw:=if qp f l n c=0 then jc f n c else f
def uJ(f:Fw)(l:Fl)(n:Int)(c:Gc.C):Bool:=eZ f n c=0&& (c.code=28&&ib l (mD f n)=0)
def qQ(f:Fw)(l:Fl)(n:Int)(c:Gc.C):SV:=.tuple [(th f l n c).sv,(rS f l n c).sv,.bool (uJ f l n c),J (qp f l n c)]
variable{l:Fl}{r:Rc}
def Br(h:o4 l=true):o4 (b8 l r)=true:=by
 have h:=bG h;refine bn ?_;unfold b8 ko xx
 repeat' split
 all_goals(first|exact h|(show(List.set _ _ _).length<=1000;rw[Ig];exact h))
def qz1(v:u9 f=true)(k:f.bf=true):dy f l=b8 l (nZ f):=by unfold dy;rw[v,k];rfl
def qy8(v:u9 f=false):dy f l=l:=by unfold dy;rw[v];rfl
def qy6(k:f.bf=false):dy f l=l:=by unfold dy;rw[k,wD]
def zw2:oz f=true↔u9 f=true/\mY f=true:=by unfold oz;rw[aH]
def Vc(b:oz f=true):tD f=true:=by
 obtain⟨v,c⟩:=zw2.1 b;obtain⟨c1,c2,_,_⟩:=CG.1 c;exact Iu.2 ⟨(d7 v).shape,c1,by have:=(d7 v).lens;omega⟩
variable{s:Int}
def xe6{r:Int}(v:u9 f=false):SV.tuple [.agg f.cells,.agg l.cells,.agg [.int .i64 0,.int .i64 0,.int .i64 0,.int .i64 0],.agg [.int .i64 0,.int .i64 0]] =sP f l r s:=by
 have b:oz f=false:=by unfold oz;rw[v];rfl
 have g:uG f l=true:=by unfold uG;rw[b];rfl
 unfold sP sQ vH GH D2;rw[g,b];unfold mI vM lK;rw[v];rfl
def xf0{r:Int}(b:oz f=true)(e:(ib l (kM f)==0)=true):SV.tuple [.agg (mI f r s).cells,.agg (b8 l (kM f)).cells,V4.sv (vM f r s),.agg [J (lK f r s).1,J (lK f r s).2]] =sP f l r s:=by
 have g:uG f l=true:=by unfold uG;rw[e,aiu]
 unfold sP sQ vH GH D2;rw[g,b];rfl
def xe9{r:Int}(b:oz f=true)(e:(ib l (kM f)==0)=false):SV.tuple [.agg f.cells,.agg (b8 l (kM f)).cells,.agg [.int .i64 0,.int .i64 0,.int .i64 0,.int .i64 0],.agg [.int .i64 0,.int .i64 0]] =sP f l r s:=by
 have g:uG f l=false:=by unfold uG;rw[e,b];rfl
 unfold sP sQ vH GH D2;rw[g,b];rfl
def xe7{r:Int}(b:oz f=false):SV.tuple [.agg (mI f r s).cells,.agg l.cells,V4.sv (vM f r s),.agg [J (lK f r s).1,J (lK f r s).2]] =sP f l r s:=by
 have g:uG f l=true:=by unfold uG;rw[b];rfl
 unfold sP sQ vH GH D2;rw[g,b];rfl
variable{c:Gc.C}
def Vj(e:¬eZ f n c=0):SV.tuple [.agg f.cells,.agg l.cells,.bool false,.int .i64 (eZ f n c)] =qQ f l n c:=by
 have a1:qp f l n c=eZ f n c:=au e;have a2:rS f l n c=l:=au (λk=>e k.1);have a3:th f l n c=f:=au (by rw[a1];exact e)
 have a4:uJ f l n c=false:=by unfold uJ;rw[iX e];rfl
 unfold qQ;rw[a1,a2,a3,a4];rfl
def Vi(e:eZ f n c=0)(k:¬c.code=28):SV.tuple [.agg (jc f n c).cells,.agg l.cells,.bool false,.int .i64 0] =qQ f l n c:=by
 have a1:qp f l n c=0:=by unfold qp;rw[ay e,au k]
 have a2:rS f l n c=l:=au (λq=>k q.2);have a3:th f l n c=jc f n c:=ay a1
 have a4:uJ f l n c=false:=by unfold uJ;rw[iX k,Il,wD]
 unfold qQ;rw[a1,a2,a3,a4];rfl
def Vm(e:eZ f n c=0)(k:c.code=28)(a:(ib l (mD f n)==0)=false):SV.tuple [.agg f.cells,.agg (b8 l (mD f n)).cells,.bool false,.int .i64 17] =qQ f l n c:=by
 have a:=dM.1 a
 have a1:qp f l n c=17:=by unfold qp;rw[ay e,ay k,au (λq=>a q.1)]
 have a2:rS f l n c=b8 l (mD f n):=by unfold rS;rw[ay ⟨e,k⟩,au a]
 have a3:th f l n c=f:=au (by rw[a1];decide)
 have a4:uJ f l n c=false:=by unfold uJ;rw[iX a,wD,wD]
 unfold qQ;rw[a1,a2,a3,a4];rfl
def Vl(e:eZ f n c=0)(k:c.code=28)(a:(ib l (mD f n)==0)=true)(b:(ib (b8 l (mD f n)) (zO f n c)==0)=false):SV.tuple [.agg f.cells,.agg (b8 (b8 l (mD f n)) (zO f n c)).cells,.bool true,.int .i64 17] =qQ f l n c:=by
 have a:=cI.1 a;have b:=dM.1 b
 have a1:qp f l n c=17:=by unfold qp;rw[ay e,ay k,au (λq=>b q.2)]
 have a2:rS f l n c=b8 (b8 l (mD f n)) (zO f n c):=by unfold rS;rw[ay ⟨e,k⟩,ay a]
 have a3:th f l n c=f:=au (by rw[a1];decide)
 have a4:uJ f l n c=true:=by unfold uJ;rw[bn a,bn e,bn k];rfl
 unfold qQ;rw[a1,a2,a3,a4];rfl
def Vk(e:eZ f n c=0)(k:c.code=28)(a:(ib l (mD f n)==0)=true)(b:(ib (b8 l (mD f n)) (zO f n c)==0)=true):SV.tuple [.agg (jc f n c).cells,.agg (b8 (b8 l (mD f n)) (zO f n c)).cells,.bool true,.int .i64 0] =qQ f l n c:=by
 have a:=cI.1 a;have b:=cI.1 b
 have a1:qp f l n c=0:=by unfold qp;rw[ay e,ay k,ay ⟨a,b⟩]
 have a2:rS f l n c=b8 (b8 l (mD f n)) (zO f n c):=by unfold rS;rw[ay ⟨e,k⟩,ay a]
 have a3:th f l n c=jc f n c:=ay a1
 have a4:uJ f l n c=true:=by unfold uJ;rw[bn a,bn e,bn k];rfl
 unfold qQ;rw[a1,a2,a3,a4];rfl
def qQ3(e:eZ f n c=0):Rc.mk 1 0 (i64.wrap (f.line+1)) 0 (kr f n) (kr f n)=mD f n:=by
 have k:=(d7 (Ob e).1).gK.2.2.2.2.2.2.2.2.1;unfold mD;rw[aG (by omega) (by omega)]
def xQ6(f:Fw)(l:Fl)(h:o4 l=true):SCall pP 46 [f.sv,l.sv] ((dy f l).sv):=
 ic (hB (l:=[z82,pQ]) (k:=[BD]) (j:=[]) (i:=[]) nN nN nN nN (⟨OZ,zl,trivial⟩) (gx.all (p:=iY.ok pP) (l:=[BD]) ⟨PG,trivial⟩) v8 v8) 1000 (.ah (.ar (.ar (.ah (.ah (.ah (.ln 3 pA) .all) (.ln 3 pA)) .all))) (.ar (.ar pA)))
  (t:=.aj (o4 l) (.ag (u9 f) (.ag (f.bf) (.aj (f4 f) (.aj (o4 l) (.ag (ib l (nZ f)==0) (.aj (f4 f) (.aj (o4 l) (.ag (ib l (nZ f)==0) (.ai (.agg (Fl.cells (b8 l (nZ f))))) (.aA 177)))) (.ai (.agg (Fl.cells (b8 l (nZ f)))))))) (.ai (.agg (Fl.cells l)))) (.ai (.agg (Fl.cells l)))))
  (by kernel_rfl) (by
   refine x0 h (t8 (λv=>t8 (λk=>?_) λk=>by rw[qy6 k];rfl) λv=>by rw[qy8 v];rfl);have s:=(d7 v).shape;rw[qz1 v k]
   exact x0 s (x0 h (t8 (λe=>x0 s (x0 h (t8 (λ_=>rfl) λq=>by rw[e]at q;cases q))) λ_=>rfl))) (by kernel_rfl) (by kernel_rfl)
def xQ7(f:Fw)(l:Fl)(h:o4 l=true):SCall pP 47 [f.sv,l.sv] ((dy f l).sv):=
 aY aL [Bi,Le,W8] ⟨CU,PN,yy6,trivial⟩ 1000 (.ah (.ln 3 pA) (.ln 3 (.ah .all .all)))
  (t:=.ag (!u9 f)
 (.ai (SV.agg (Fl.cells l)))
 (.ag (!f.bf)
  (.ai (SV.agg (Fl.cells l)))
  (.aj (f4 f) (.aj (o4 l) (.ai (SV.agg (Fl.cells (b8 l (nZ f)))))))))
   (by kernel_rfl) (by
    refine d8 (λv=>by rw[qy8 v];rfl) λv=>d8 (λk=>by rw[qy6 k];rfl) λk=>?_
    rw[qz1 v k]
    exact x0 (d7 v).shape (x0 h rfl)) (by kernel_rfl)
def xQ8(f:Fw)(l:Fl)(r s:Int)(h:o4 l=true)(k:eu f=true):SCall pP 43 [f.sv,l.sv,.agg [J r,J s]] (sP f l r s):=
 ic (hB (l:=[z82,pQ,z55,Xc,qn0]) (k:=[BD]) (j:=[]) (i:=[]) nN nN nN nN (⟨OZ,zl,O3,yt3,yN4,trivial⟩) (gx.all (p:=iY.ok pP) (l:=[BD]) ⟨PG,trivial⟩) v8 v8) 1000 (.ah .all (.ah (.ar (.ah (.ah (.ln 6 pA) .all) (.ln 6 pA))) (.ln 3 pA)))
  (t:=let y0:=vM f r s;.aj (o4 l) (.ag (!u9 f) (.aj (eu f) (lT [.agg (Fw.cells f),.agg (Fl.cells l),.agg [J 0,J 0,J 0,J 0],.agg [J 0,J 0]])) (.ag (oz f) (.aj (tD f) (.aj (o4 l) (.ag (ib l (kM f)==0) (.aj (tD f) (.aj (o4 l) (.ag (ib l (kM f)==0) (lT [.agg (Fw.cells (mI f r s)),.agg (Fl.cells (b8 l (kM f))),.agg [J y0.1,J y0.2.1,J y0.2.2.1,J y0.2.2.2],.agg [J (lK f r s).1,J (lK f r s).2]]) (.aA 177)))) (.aj (eu f) (lT [.agg (Fw.cells f),.agg (Fl.cells (b8 l (kM f))),.agg [J 0,J 0,J 0,J 0],.agg [J 0,J 0]]))))) (lT [.agg (Fw.cells (mI f r s)),.agg (Fl.cells l),.agg [J y0.1,J y0.2.1,J y0.2.2.1,J y0.2.2.2],.agg [J (lK f r s).1,J (lK f r s).2]]))))
  (by kernel_rfl) (by
   refine x0 h (d8 (λv=>x0 k (xe6 v)) λv=>t8 (λb=>?_) λb=>xe7 b);have p:=Vc b
   exact x0 p (x0 h (t8 (λe=>x0 p (x0 h (t8 (λ_=>xf0 b e) λq=>by rw[e]at q;cases q))) λe=>x0 k (xe9 b e)))) (by kernel_rfl) (by kernel_rfl)
def xQ9(f:Fw)(l:Fl)(r s:Int)(h:o4 l=true):SCall pP 44 [f.sv,l.sv,.agg [J r,J s]] (sP f l r s):=
 aY aL [Bi,OT,qn1,Le,z46] ⟨CU,Xs,yN5,PN,yt7,trivial⟩ 1000 (.ah (.all) (.ah (.ah (.all) (.all)) (.all)))
  (t:=let y0:=vM f r s;.ag (!u9 f) (lT [.agg (Fw.cells f),.agg (Fl.cells l),.agg [J 0,J 0,J 0,J 0],.agg [J 0,J 0]]) (.ag (oz f) (.aj (tD f) (.aj (o4 l) (.ag (!ib l (kM f)==0) (lT [.agg (Fw.cells f),.agg (Fl.cells (b8 l (kM f))),.agg [J 0,J 0,J 0,J 0],.agg [J 0,J 0]]) (lT [.agg (Fw.cells (mI f r s)),.agg (Fl.cells (b8 l (kM f))),.agg [J y0.1,J y0.2.1,J y0.2.2.1,J y0.2.2.2],.agg [J (lK f r s).1,J (lK f r s).2]])))) (lT [.agg (Fw.cells (mI f r s)),.agg (Fl.cells l),.agg [J y0.1,J y0.2.1,J y0.2.2.1,J y0.2.2.2],.agg [J (lK f r s).1,J (lK f r s).2]])))
  (by kernel_rfl) (by
   refine d8 (λv=>xe6 v) λv=>t8 (λb=>?_) λb=>xe7 b
   have p:=Vc b
   exact x0 p (x0 h (d8 (λe=>xe9 b e) λe=>xf0 b e))) (by kernel_rfl)
def xQ4(f:Fw)(l:Fl)(n:Int)(c:Gc.C)(h:o4 l=true)(k:eu f=true):SCall pP 48 [f.sv,l.sv,J n,c.sv] (qQ f l n c):=
 ic (hB (l:=[z82,z55,Xe,z40]) (k:=[BD]) (j:=[]) (i:=[]) nN nN nN nN (⟨OZ,O3,yr7,yt1,trivial⟩) (gx.all (p:=iY.ok pP) (l:=[BD]) ⟨PG,trivial⟩) v8 v8) 1000 (.ah (.ar (.ah .all (.ah (.ah (.ln 4 pA) (.ln 4 pA)) (.ln 4 pA)))) (.ah .all (.ah .all (.ah (.ah (.ln 4 pA) (.ln 4 pA)) (.ln 4 pA)))))
  (t:=let y0:=Rc.mk 1 0 (i64.wrap (f.line+1)) 0 (kr f n) (kr f n);let y1:=Rc.mk 3 0 (jc f n c).line 0 (jc f n c).pos (kr f n);let y2:ak SV:=.aj (eu f) (lT [.agg (Fw.cells f),.agg (Fl.cells (b8 l y0)),.bool false,J 17]);let y3:=Rc.mk 3 0 0 0 (0,0,aP.pos.2.2) (kr f n);.ag (eZ f n c=0) (.ag (c.code != 28) (.aj (o4 l) (lT [.agg (Fw.cells (jc f n c)),.agg (Fl.cells l),.bool false,J 0])) (.aj (o4 l) (.aj (o4 l) (.ag (ib l y0==0) (.aj (o4 (b8 l y0)) (.ag (ib (b8 l y0) y1==0) (lT [.agg (Fw.cells (jc f n c)),.agg (Fl.cells (b8 (b8 l y0) y1)),.bool true,J 0]) (.aj (eu f) (lT [.agg (Fw.cells f),.agg (Fl.cells (b8 (b8 l y0) y1)),.bool true,J 17])))) y2)))) (.ag (eZ f n c != 0) (.aj (eu f) (.aj (o4 l) (lT [.agg (Fw.cells f),.agg (Fl.cells l),.bool false,J (eZ f n c)]))) (.ag (c.code != 28) (.aj (o4 l) (lT [.agg (Fw.cells aP),.agg (Fl.cells l),.bool false,J 0])) (.aj (o4 l) (.aj (o4 l) (.ag (ib l y0==0) (.aj (o4 (b8 l y0)) (.ag (ib (b8 l y0) y3==0) (lT [.agg (Fw.cells aP),.agg (Fl.cells (b8 (b8 l y0) y3)),.bool true,J 0]) (.aj (eu f) (lT [.agg (Fw.cells f),.agg (Fl.cells (b8 (b8 l y0) y3)),.bool true,J 17])))) y2))))))
  (by kernel_rfl) (by
   refine o7 (λe=>dI (λa=>x0 h (Vi e a)) λa=>?_) λe=>dI (λ_=>x0 k (x0 h (Vj e))) λq=>absurd q e
   rw[qQ3 e]
   exact x0 h (x0 h (t8 (λx=>x0 (Br h) (t8 (λy=>Vk e a x y) λy=>x0 k (Vl e a x y))) λx=>x0 k (Vm e a x)))) (by kernel_rfl) (by kernel_rfl)
def xQ5(f:Fw)(l:Fl)(n:Int)(c:Gc.C)(h:o4 l=true)(o:dN c.has=true):SCall pP 49 [f.sv,l.sv,J n,c.sv] (qQ f l n c):=
 aY aL [z31,Le,z41] ⟨yr8,PN,yt2,trivial⟩ 1000 (.ah (.ar (.ah (.all) (.ah (.all) (.ah (.all) (.all))))) (.ah (.all) (.ah (.all) (.ah (.all) (.ah (.all) (.all))))))
  (t:=let y0:=Rc.mk 1 0 (i64.wrap (f.line+1)) 0 (kr f n) (kr f n);let y1:=Rc.mk 3 0 (jc f n c).line 0 (jc f n c).pos (kr f n);let y2:=Rc.mk 3 0 0 0 (0,0,aP.pos.2.2) (kr f n);let y3:ak SV:=lT [.agg (Fw.cells f),.agg (Fl.cells (b8 l y0)),.bool false,J 17];.aj (dN c.has) (.ag (eZ f n c=0) (.ag (c.code != 28) (lT [.agg (Fw.cells (jc f n c)),.agg (Fl.cells l),.bool false,J 0]) (.aj (o4 l) (.ag (!ib l y0==0) y3 (.aj (o4 (b8 l y0)) (.ag (!ib (b8 l y0) y1==0) (lT [.agg (Fw.cells f),.agg (Fl.cells (b8 (b8 l y0) y1)),.bool true,J 17]) (lT [.agg (Fw.cells (jc f n c)),.agg (Fl.cells (b8 (b8 l y0) y1)),.bool true,J 0])))))) (.ag (eZ f n c != 0) (lT [.agg (Fw.cells f),.agg (Fl.cells l),.bool false,J (eZ f n c)]) (.ag (c.code != 28) (lT [.agg (Fw.cells aP),.agg (Fl.cells l),.bool false,J 0]) (.aj (o4 l) (.ag (!ib l y0==0) y3 (.aj (o4 (b8 l y0)) (.ag (!ib (b8 l y0) y2==0) (lT [.agg (Fw.cells f),.agg (Fl.cells (b8 (b8 l y0) y2)),.bool true,J 17]) (lT [.agg (Fw.cells aP),.agg (Fl.cells (b8 (b8 l y0) y2)),.bool true,J 0])))))))))
  (by kernel_rfl) (by
   refine x0 o (o7 (λe=>dI (λa=>Vi e a) λa=>?_) λe=>dI (λ_=>Vj e) λq=>absurd q e);rw[qQ3 e]
   exact x0 h (d8 (λx=>Vm e a x) λx=>x0 (Br h) (d8 (λy=>Vl e a x y) λy=>Vk e a x y))) (by kernel_rfl)
open Go.Sx
open Go.Sx
def ng(f:Fw)(c:V4):Bk:=(c,ku f.ma c,0,i64.wrap (dL f.ma c 0 f.bH*dL f.ma c 0 f.bH),0)
def Y7:ax:=.ah pA (.all)
def pd0(f:Fw)(c:V4)(line:Int):o8 (Env.cq pP (j9 [xH,z28,xN]) (d9 [tX.qn]) (f0 []) (b9 []) (j6 []) (j6 []) (j6 []) (j6 [])) 1000 (x9 pP 195) .unit (x6 85 [2,3,6,9,10,11]) (v7 pP 195) Y7 (v6 pP 195 [f.sv,V4.sv c,J line]) [] =(.aj (dN f.bH) (.ag (f.queue.isEmpty) (.aj ((0+ [ng f c].length)*64<=140737488355328) (.aj (0<=(↑[ng f c].length:Int)&& (↑[ng f c].length:Int)==(↑[ng f c].length:Int)&&8*(↑[ng f c].length:Int)<=140737488355328&&(↑[ng f c].length:Int)<=(9223372036854775807:Int)) (.ai (.at (x8 pP 195 0) 85 (x7 85 [(2,J line),(3,.ptr 0 0),(6,.ptr 1 0),(9,SV.row 2),(10,SV.row 3),(11,J 1)]) [some (.cells (Fw.cells f)),some (.cells (o9 aP)),some (.rows w9 [ng f c]),some (.rows (Ty.int i64) (List.replicate (↑[ng f c].length:Int).toNat (0:Int)))])))) (.aj ((0+f.queue.length)*64<=140737488355328) (.aj ((f.queue.length+ [ng f c].length)*64<=140737488355328) (.aj (0<=(↑(f.queue++[ng f c]).length:Int)&& (↑(f.queue++[ng f c]).length:Int)==(↑(f.queue++[ng f c]).length:Int)&&8*(↑(f.queue++[ng f c]).length:Int)<=140737488355328&&(↑(f.queue++[ng f c]).length:Int)<=(9223372036854775807:Int)) (.ai (.at (x8 pP 195 0) 85 (x7 85 [(2,J line),(3,.ptr 0 0),(6,.ptr 1 0),(9,SV.row 2),(10,SV.row 3),(11,J 1)]) [some (.cells (Fw.cells f)),some (.cells (o9 aP)),some (.rows w9 (f.queue++[ng f c])),some (.rows (Ty.int i64) (List.replicate (↑(f.queue++[ng f c]).length:Int).toNat (0:Int)))]))))))):=by kernel_rfl
def Y5:ax:=.ah (.all) (.ah (.ah (.ar (.ah pA (.all))) pA) pA)
def pd1(f:Fw)(line:Int)(q:List Bk)(s:List Int)(i:Int):o8 (Env.cq pP (j9 [xH,z28,xN]) (d9 [tX.qn]) (f0 []) (b9 []) (j6 []) (j6 []) (j6 []) (j6 [])) 1000 (x9 pP 195) .unit (x6 85 [2,3,6,9,10,11]) (x8 pP 195 0) Y5 (x7 85 [(2,J line),(3,.ptr 0 0),(6,.ptr 1 0),(9,.row 2),(10,.row 3),(11,J i)]) [some (.cells f.cells),some (.cells (o9 aP)),some (.rows w9 q),some (.rows (.int .i64) s)] =(.ag (i< (↑q.length:Int)) (.aj (0<=i64.wrap (i-1)&&i64.wrap (i-1)< (↑q.length:Int)) (.aj ((i64.wrap (i-1)).toNat<q.length) (.aj (0<=i&&i< (↑q.length:Int)) (.aj (i.toNat<q.length) (.aj (0<=i&&i< (↑s.length:Int)) (.aj (i.toNat<s.length) (.ai (.at (x8 pP 195 0) 85 (x7 85 [(2,J line),(3,.ptr 0 0),(6,.ptr 1 0),(9,SV.row 2),(10,SV.row 3),(11,J (i64.wrap (i+1)))]) [some (.cells (Fw.cells f)),some (.cells (o9 aP)),some (.rows w9 q),some (.rows (Ty.int i64) (s.set i.toNat (i64.wrap (kD f.ma (q.getD (i64.wrap (i-1)).toNat aM).1 (q.getD i.toNat aM).1*kD f.ma (q.getD (i64.wrap (i-1)).toNat aM).1 (q.getD i.toNat aM).1))))])))))))) (.aj (kP q s 0) (.ag (0<=fp q 0) (.ag (gL q s 0 0=0) (.ag (f.lines.isEmpty) (.aj ((0+ [line].length)*8<=140737488355328) (.ai (.done (.tuple [.agg (Fw.cells {f with queue:=(jo q (gL q s 0)),lines:=[line]}),J 0])))) (.aj ((0+f.lines.length)*8<=140737488355328) (.aj ((f.lines.length+ [line].length)*8<=140737488355328) (.ai (.done (.tuple [.agg (Fw.cells {f with queue:=(jo q (gL q s 0)),lines:=(f.lines++[line])}),J 0])))))) (.ai (.done (.tuple [.agg (o9 aP),J 2])))) (.ai (.done (.tuple [.agg (o9 aP),J 2])))))):=by kernel_rfl
open Go.Sx
def Ke(f:Fw)(c:V4)(line:Int):SV:=.tuple [(p8 f c 0 line).sv,J 0]
def kPA:cV pP (Env.cq pP (j9 [xH,z28,xN]) (d9 [tX.qn]) (f0 []) (b9 []) (j6 []) (j6 []) (j6 []) (j6 [])):=
 hB (l:=[xH,z28,xN]) (k:=[tX.qn]) (j:=[]) (i:=[]) [] [] [] [] ⟨YA,Xz,YU,trivial⟩ wrA v8 v8
theorem Y6{c:V4}(line:Int)(h:dm f c 0=true)(en:m9 f=0):∀ (k i:Nat) (s:List Int),i+k=f.queue.length+1->1<=i->s.length=f.queue.length+1->(∀t,t<i->s.getD t 0=pH f.ma (t6 f c 0) t)->
  t9 pP (x9 pP 195) (Ke f c line) (x8 pP 195 0) (x7 85 [(2,J line),(3,.ptr 0 0),(6,.ptr 1 0),(9,.row 2),(10,.row 3),(11,J i)]) [some (.cells f.cells),some (.cells (o9 aP)),some (.rows w9 (t6 f c 0)),some (.rows (.int .i64) s)]
 |k,i,s,hi,h1,hs,hc=>by
  have p:=qv.1 h;have pl:=N5 h;have ok:=uV.1 (IA h en);rw[en]at pl ok;have ql:=rf f c 0;refine o6 kPA (n:=1000) (hint:=.unit) (keep:=x6 85 [2,3,6,9,10,11]) (p:=Y5) rfl ?_;erw [pd1 f line (t6 f c 0) s i]
  have t0:(i:Int).toNat=i:=by omega
  have wm:i64.wrap ((i:Int)-1)=((i-1:Nat):Int):=by rw[aG (by omega) (by omega)];omega
  have tm:((i-1:Nat):Int).toNat=i-1:=by omega
  have w1:i64.wrap ((i:Int)+1)=((i+1:Nat):Int):=by rw[aG (by omega) (by omega)];omega
  have jr:=L3 f.ma ((t6 f c 0).getD (i-1) aM).1 ((t6 f c 0).getD i aM).1
  have an:∀{a b:Bool},a=true->b=true->(a&&b)=true:=λha hb=>by rw[ha,hb];rfl
  match k,hi with
  |k+1,hi=>
   have ih:=Y6 line h en k (i+1) (s.set i (pH f.ma (t6 f c 0) i)) (by omega) (by omega) (by simpa using hs) (λt ht=>by
    rw[xw (by omega)]
    split;.rename_i e;rw[e]
    .exact hc t (by omega))
   rw[OE f.ma (t6 f c 0) h1]at ih;rw[wm,tm,t0,C5 jr,w1]
   exact o7 (λ_=>x0 (an (bn (by omega)) (bn (by omega))) (x0 (bn (by omega)) (x0 (an (bn (by omega)) (bn (by omega))) (x0 (bn (by omega)) (x0 (an (bn (by omega)) (bn (by omega))) (x0 (bn (by omega)) ⟨o5 _ _,ih⟩)))))) λa=>absurd (by omega) a
  |0,hi=>
   have es:s=ij f.ma (t6 f c 0):=WR (by omega) λt ht=>hc t (by omega)
   subst es
   have fin:SV.tuple [SV.agg (Fw.cells {f with queue:=jo (t6 f c 0) (gL (t6 f c 0) (ij f.ma (t6 f c 0)) 0),lines:=f.lines++[line]}),SV.int i64 0] =Ke f c line:=by
    unfold Ke p8;rw[en];rfl
   refine o7 (λa=>absurd a (by omega)) λ_=>x0 pl (o7 (λ_=>o7 (λ_=>t8 (λe=>x0 rfl ?_) λe=>x0 (bn (by omega)) (x0 (bn (by simp;omega)) fin)) λa=>absurd ok.2 a) λa=>absurd ok.1 a)
   have e0:f.lines=[] :=by simpa using e
   rw[e0]at fin;exact fin
def xR2(f:Fw)(c:V4)(line:Int)(h:dm f c 0=true)(en:m9 f=0):SCall pP 195 [f.sv,V4.sv c,J line] (Ke f c line):=by
 have p:=qv.1 h;have ql:=rf f c 0;have sr:=MO p.1 (l:=0) (f:=f.bH) (pJ.1 p.2.1).2 (pJ.1 p.2.2.1).2;have w:=C5 (v:=dL f.ma c 0 f.bH) (by omega)
 have nw:ng f c=A2 f.ma c 0 f.bH:=by unfold ng A2;rw[w]
 refine s8 rfl rfl (by kernel_rfl) (o6 kPA (n:=1000) (hint:=.unit) (keep:=x6 85 [2,3,6,9,10,11]) (p:=Y7) (boxes:=[]) rfl ?_);have q:=pd0 f c line;unfold v6 v7 at q;erw [q];rw[nw]
 have an:∀{a b:Bool},a=true->b=true->(a&&b)=true:=λha hb=>by rw[ha,hb];rfl
 have lp:=Y6 line h en f.queue.length 1 (List.replicate (t6 f c 0).length 0) (by omega) (by omega) (by simp[ql]) (λt ht=>by
  have:t=0:=by omega
  subst this
  rw[ql];rfl)
 refine x0 p.2.2.1 (t8 (λe=>?_) λe=>?_)
 .have e0:f.queue=[] :=by simpa using e
  have aq:t6 f c 0=[A2 f.ma c 0 f.bH] :=by unfold t6;rw[e0];rfl
  rw[aq]at lp;exact x0 rfl (x0 rfl ⟨o5 _ _,lp⟩)
 .have aq:f.queue++[A2 f.ma c 0 f.bH] =t6 f c 0:=rfl
  rw[aq]
  have tn:((t6 f c 0).length:Int).toNat=(t6 f c 0).length:=by omega
  rw[tn];exact x0 (bn (by omega)) (x0 (bn (by simp;omega)) (x0 (an (an (an (bn (by omega)) (HZ _)) (bn (by omega))) (bn (by omega))) ⟨o5 _ _,lp⟩))
open Go.Sx
def Gr(f:Fw)(p:V4):Bool:=pK f (bI p f.pos)&& (m9 f=0&& (m9 (n8 f (m7 (bI p f.pos)))=0&&gI f (bI p f.pos)))
def qT8{p:V4}:Gr f p=true↔pK f (bI p f.pos)=true/\m9 f=0/\m9 (n8 f (m7 (bI p f.pos)))=0/\gI f (bI p f.pos)=true:=by simp only[Gr,aH,aV]
def GG(f:Fw)(r:Rc):Bool:=f.ma.ok&& (u7 r.src&&az r.line 0 1099511627776)
def xq(f:Fw)(r:Rc):Bool:=u9 f&& (eF f&&sy r)
def A9(f:Fw)(c:V4):Bool:=dm f c 0&&m9 f=0
def zp{c:V4}:A9 f c=true↔dm f c 0=true/\m9 f=0:=by simp only[A9,aH,aV]
def Rv:aB:=gU 195 λf rest=>match rest with
 |[.agg [.int .i64 a,.int .i64 b,.int .i64 c,.int .i64 d],.int .i64 line] =>some (.aj (A9 f (a,b,c,d)) (lT [(p8 f (a,b,c,d) 0 line).sv,J 0]))
 |_=>none
def YP:Rv.ok pP:=iz λf rest t ht=>by
 split at ht<;>cases ht;exact λh=>xR2 f (_,_,_,_) _ (zp.1 h).1 (zp.1 h).2
def q84:GG f r=true↔f.ma.ok=true/\u7 r.src=true/\0<=r.line/\r.line<=1099511627776:=by simp only[GG,aH,v5]
def Kr:xq f r=true↔u9 f=true/\eF f=true/\sy r=true:=by simp only[xq,aH]
def JF:sy r=true↔u7 r.src=true/\u7 r.dst=true/\u7 (bI r.dst r.src)=true:=by simp only[sy,aH]
def jy7{a b:V4}(h:(a.1==b.1&& (a.2.1==b.2.1&& (a.2.2.1==b.2.2.1&& (a.2.2.2==b.2.2.2&&true))))=true):a=b:=by
 simp only[aH,cI]at h;obtain⟨a1,a2,a3,a4⟩:=a;obtain⟨b1,b2,b3,b4⟩:=b;simp only[tt];exact⟨h.1,h.2.1,h.2.2.1,h.2.2.2.1⟩
def S8{a b:V4}(ha:u7 a=true)(hb:u7 b=true)(ne:¬a=b):bO (bI b a)=true:=by
 rw[uj (iq hb) (iq ha),O6];unfold iC;intro h;refine ne ?_;obtain⟨a1,a2,a3,a4⟩:=a;obtain⟨b1,b2,b3,b4⟩:=b;dsimp only at h;simp only[tt];omega
def Bb(b:sE f l=false):SV.tuple [SV.agg (o9 aP),SV.int i64 1] =nt f l:=by
 have e:iO f l=1:=ay b;unfold nt;rw[e];rfl
def ZA(b:sE f l=true)(d:l.dead=true):SV.tuple [SV.agg (o9 aP),SV.int i64 17] =nt f l:=by
 have e:iO f l=17:=by unfold iO;rw[b,d];rfl
 unfold nt;rw[e];rfl
def Zy(b:sE f l=true)(d:l.dead=false)(o:(jV l).isSome=false):SV.tuple [SV.agg f.cells,SV.int i64 0] =nt f l:=by
 have n:jV l=none:=by simpa using o
 have e:iO f l=0:=by unfold iO;rw[b,d,n];rfl
 have g:ky f l=f:=by unfold ky;rw[n]
 unfold nt;rw[e,g];rfl
def LZ(o:(jV l).isSome=true):jV l=some (bW l):=by
 unfold bW
 cases q:jV l with
 |none=>rw[q]at o;cases o
 |some r=>rfl
def CZ(b:sE f l=true)(d:l.dead=false)(o:(jV l).isSome=true)(n:sy (bW l)=false):SV.tuple [SV.agg (o9 aP),SV.int i64 19] =nt f l:=by
 have e:iO f l=19:=by unfold iO;rw[b,d,LZ o];show Gf (bW l)=19;unfold Gf;rw[n];rfl
 unfold nt;rw[e];rfl
def P9(b:sE f l=true)(d:l.dead=false)(o:(jV l).isSome=true)(n:sy (bW l)=true)(h:zA f (bW l)=g):SV.tuple [SV.agg g.cells,SV.int i64 0] =nt f l:=by
 have e:iO f l=0:=by unfold iO;rw[b,d,LZ o];show Gf (bW l)=0;unfold Gf;rw[n];rfl
 have q:ky f l=g:=by unfold ky;rw[LZ o];exact h
 unfold nt;rw[e,q];rfl
def q47(o:(jV l).isSome=true):fB (bW l)=true:=NZ (aik (LZ o))
def Ba(h:u9 f=false\/qx f=false\/eU l=false\/f.bf=true):sE f l=false:=by
 unfold qx at h;unfold sE;rcases h with h|h|h|h
 .rw[h];rfl
 .cases v:u9 f
  .rfl
  .rw[v,tA]at h;rw[h];rfl
 .rw[h,Il,wD,wD]
 .rw[h,qt,wD,wD,wD]
def RK(h:qx f=true):u9 f=true/\eF f=true:=by
 unfold qx at h;exact(aH _ _).mp h
def Zz(i:qx f=true)(b:eU l=true)(h:f.bf=false):sE f l=true:=by
 obtain⟨v,i⟩:=RK i;unfold sE;rw[v,i,b,h];rfl
def CO(h:u7 r.src=false\/u7 r.dst=false\/u7 (bI r.dst r.src)=false):sy r=false:=by
 unfold sy
 rcases h with h|h|h<;>rw[h]<;>simp
def xJ7(f:Fw)(p:V4)(h:Gr f p=true):SCall pP 194 [f.sv,V4.sv p] (.tuple [(gA f (bI p f.pos)).sv,J 0]):=
 ic (hB (l:=[BZ,Rv]) (k:=[]) (j:=[]) (i:=[]) nN nN nN nN (⟨FJ,YP,trivial⟩) v8 v8 v8) 1000 (.ah (.ln 4 (.ah (.ln 5 pA) (.ln 5 (.ah .all .all)))) (.ln 4 (.ah (.ln 5 pA) (.ln 5 (.ah .all .all)))))
  (t:=let y0:=bI p f.pos;let y3:=p8 f (0,0,y0.2.2.1,0) 0 0;let y4:=(y0.1,y0.2.1,0,0);let y1:ak SV:=rT (rT (.aj (A9 y3 y4) (lT [.agg (Fw.cells (p8 y3 y4 0 0)),J 0])));let y2:ak SV:=rT (rT (.aj (A9 f y4) (lT [.agg (Fw.cells (p8 f y4 0 0)),J 0])));rT (.ag (y0.2.2.1 != 0) (rT (.aj (A9 f (0,0,y0.2.2.1,0)) (rT (.ag (y0.1 != 0) y1 (rT (.ag (y0.2.1 != 0) y1 (lT [.agg (Fw.cells y3),J 0]))))))) (rT (.ag (y0.1 != 0) y2 (rT (.ag (y0.2.1 != 0) y2 (lT [.agg (Fw.cells f),J 0])))))))
  (by kernel_rfl) (by
   obtain⟨p0,en,vX,ok⟩:=qT8.1 h;obtain⟨p1,p2⟩:=Km.1 p0;unfold gI at ok;obtain⟨o1,_⟩:=(aH _ _).mp ok;generalize bI p f.pos=d at p1 p2 vX o1 ⊢;have p2:=p2 o1
   have fin:∀g:Fw,gA f d=g->SV.tuple [SV.agg g.cells,SV.int i64 0] =SV.tuple [(gA f d).sv,J 0] :=λg e=>by rw[e];rfl
   refine x0 rfl (dI (λa=>?_) λa=>?_)
   .have z:=L8.2 a
    rw[ja z]at p2 vX;refine x0 rfl (x0 (zp.2 ⟨p1 z,en⟩) (x0 rfl (dI (λb=>?_) λb=>x0 rfl (dI (λc=>?_) λc=>?_))))
    .have y:=sU.2 (.inl b)
     exact x0 rfl (x0 rfl (x0 (zp.2 ⟨p2 y,vX⟩) (fin _ (by unfold gA;rw[ja z,ja y];rfl))))
    .have y:=sU.2 (.inr c)
     exact x0 rfl (x0 rfl (x0 (zp.2 ⟨p2 y,vX⟩) (fin _ (by unfold gA;rw[ja z,ja y];rfl))))
    .exact fin _ (by unfold gA;rw[ja z,jy (eB.2 λy=>by have:=sU.1 y;omega)];rfl)
   .have z:bO (m7 d)=false:=eB.2 λy=>L8.1 y a
    rw[jy z]at p2 vX;refine x0 rfl (dI (λb=>?_) λb=>x0 rfl (dI (λc=>?_) λc=>?_))
    .have y:=sU.2 (.inl b)
     exact x0 rfl (x0 rfl (x0 (zp.2 ⟨p2 y,vX⟩) (fin _ (by unfold gA;rw[jy z,ja y];rfl))))
    .have y:=sU.2 (.inr c)
     exact x0 rfl (x0 rfl (x0 (zp.2 ⟨p2 y,vX⟩) (fin _ (by unfold gA;rw[jy z,ja y];rfl))))
    .exact fin _ (by unfold gA;rw[jy z,jy (eB.2 λy=>by have:=sU.1 y;omega)])) (by kernel_rfl) (by kernel_rfl)
def qa6:aB:=gU 194 λf rest=>match rest with
 |[.agg [.int .i64 a,.int .i64 b,.int .i64 c,.int .i64 d]] =>some (.aj (Gr f (a,b,c,d)) (lT [(gA f (bI (a,b,c,d) f.pos)).sv,J 0]))
 |_=>none
def yA1:qa6.ok pP:=iz λf rest t ht=>by
 split at ht<;>cases ht;exact λh=>xJ7 f (_,_,_,_) h
def xM5(f:Fw)(r:Rc)(h:GG f r=true):SCall pP 107 [f.sv,r.sv] (.tuple [(Kt f r).sv,J 0]):=
 ic (hB (l:=[xF]) (k:=[]) (j:=[]) (i:=[]) nN nN nN nN (⟨PI,trivial⟩) v8 v8 v8) 1000 (.ah pA pA)
  (t:=rT (rT (.ag (e7 f.ma r.src.2.2.2) (lT [.agg (Fw.cells {f with pos:=r.src,e:=(dY (cA f.ma 3) r.src.2.2.2),back:=true,ret:=r.src,line:=(if i64.wrap (r.line-1)>0 then i64.wrap (r.line-1)else 0)}),J 0]) (lT [.agg (o9 aP),J 1]))))
  (by kernel_rfl) (by
   obtain⟨h1,h2,h3⟩:=q84.1 h;have n:=fO.1 h2;have u:e7 f.ma r.src.2.2.2=true:=fH.2 ⟨h1,by omega⟩;have w:i64.wrap (r.line-1)=r.line-1:=aG (by omega) (by omega);rw[w]
   exact x0 rfl (x0 rfl (t8 (λ_=>rfl) λq=>by rw[u]at q;cases q))) (by kernel_rfl) (by kernel_rfl)
def qd2:aB:=gU 107 λf rest=>match rest with
 |[.agg [.int .i64 r0,.int .i64 r1,.int .i64 r2,.int .i64 r3,.int .i64 p0,.int .i64 p1,.int .i64 p2,.int .i64 p3,.int .i64 q0,.int .i64 q1,.int .i64 q2,.int .i64 q3]] =>some (.aj (GG f ⟨r0,r1,r2,r3,(p0,p1,p2,p3),(q0,q1,q2,q3)⟩) (lT [(Kt f ⟨r0,r1,r2,r3,(p0,p1,p2,p3),(q0,q1,q2,q3)⟩).sv,J 0]))
 |_=>none
def yC3:qd2.ok pP:=iz λf rest t ht=>by
 split at ht<;>cases ht;exact λh=>xM5 f ⟨_,_,_,_,(_,_,_,_),(_,_,_,_)⟩ h
def xV4(f:Fw)(r:Rc)(h:xq f r=true):SCall pP 108 [f.sv,r.sv] (.tuple [(sF f r).sv,J 0]):=
 ic (hB (l:=[zG,BZ,qa6,Rv]) (k:=[]) (j:=[]) (i:=[]) nN nN nN nN (⟨YK,FJ,yA1,YP,trivial⟩) v8 v8 v8) 1000 (.ar (.ah (.all) (.ah (.all) (.all))))
  (t:=let y0:=dh f.ma r.dst;let y1:={f with bf:=true,pos:=r.src,loc:=(y0.1,y0.2.1,y0.2.2.1),e:=y0.2.2.2,ret:=r.dst,line:=r.line};let y2:={f with bf:=true,pos:=r.src,loc:=(y0.1,y0.2.1,y0.2.2.1),e:=y0.2.2.2,line:=r.line};.aj (f.ma.ok&&u7 r.dst) (.ag (r.kind==3) (.aj (Gr y1 r.dst) (lT [.agg (Fw.cells (gA y1 (bI r.dst r.src))),J 0])) (.ag (!(r.src.1==r.dst.1&& (r.src.2.1==r.dst.2.1&& (r.src.2.2.1==r.dst.2.2.1&& (r.src.2.2.2==r.dst.2.2.2&&true))))) (.aj (A9 y2 (bI r.dst r.src)) (lT [.agg (Fw.cells (p8 y2 (bI r.dst r.src) 0 r.line)),J 0])) (lT [.agg (Fw.cells {f with bf:=true,pos:=r.src,loc:=(y0.1,y0.2.1,y0.2.2.1),e:=y0.2.2.2,line:=r.line}),J 0]))))
  (by kernel_rfl) (by
   obtain⟨v,i,n⟩:=Kr.1 h;have hv:=d7 v;obtain⟨n1,n2,n3⟩:=JF.1 n;refine x0 (by rw[hv.ma,n2];rfl) (iK (λk=>?_) λk=>d8 (λe=>?_) λe=>?_)
   .obtain⟨p,e1,e2,o⟩:=ZR (g:=Be f r) hv i rfl rfl rfl rfl rfl n3
    exact x0 (qT8.2 ⟨p,e1,e2,o⟩) (by unfold sF;rw[ay k];rfl)
   .have ne:¬r.src=r.dst:=λq=>by rw[q]at e;simp at e
    have z:bO (bI r.dst r.src)=true:=S8 n1 n2 ne;obtain⟨p,e1⟩:=Kn (g:=tR f r) hv i rfl rfl rfl rfl rfl n3 z;exact x0 (zp.2 ⟨p,e1⟩) (by unfold sF;rw[au k,au ne];rfl)
   .have eq:r.src=r.dst:=jy7 e
    show SV.tuple [(tR f r).sv,J 0] =_
    unfold sF;rw[au k,ay eq]) (by kernel_rfl) (by kernel_rfl)
def qj7:aB:=gU 108 λf rest=>match rest with
 |[.agg [.int .i64 r0,.int .i64 r1,.int .i64 r2,.int .i64 r3,.int .i64 p0,.int .i64 p1,.int .i64 p2,.int .i64 p3,.int .i64 q0,.int .i64 q1,.int .i64 q2,.int .i64 q3]] =>some (.aj (xq f ⟨r0,r1,r2,r3,(p0,p1,p2,p3),(q0,q1,q2,q3)⟩) (lT [(sF f ⟨r0,r1,r2,r3,(p0,p1,p2,p3),(q0,q1,q2,q3)⟩).sv,J 0]))
 |_=>none
def yJ5:qj7.ok pP:=iz λf rest t ht=>by
 split at ht<;>cases ht;exact λh=>xV4 f ⟨_,_,_,_,(_,_,_,_),(_,_,_,_)⟩ h
def xV5(f:Fw)(r:Rc)(h:xq f r=true):SCall pP 113 [f.sv,r.sv] ((tR f r).sv):=
 ic (hB (l:=[Rn]) (k:=[]) (j:=[]) (i:=[]) nN nN nN nN (⟨YJ,trivial⟩) v8 v8 v8) 1000 (.all)
  (t:=.aj (f.ma.ok&&u7 r.dst) (.ai (SV.agg (Fw.cells {f with bf:=true,pos:=r.src,loc:=((dh f.ma r.dst).fst,(dh f.ma r.dst).snd.fst,(dh f.ma r.dst).snd.snd.fst),e:=(dh f.ma r.dst).snd.snd.snd,line:=r.line}))))
  (by kernel_rfl) (by
   obtain⟨v,i,n⟩:=Kr.1 h
   exact x0 (by rw[(d7 v).ma,(JF.1 n).2.1];rfl) rfl) (by kernel_rfl) (by kernel_rfl)
def qj8:aB:=gU 113 λf rest=>match rest with
 |[.agg [.int .i64 r0,.int .i64 r1,.int .i64 r2,.int .i64 r3,.int .i64 p0,.int .i64 p1,.int .i64 p2,.int .i64 p3,.int .i64 q0,.int .i64 q1,.int .i64 q2,.int .i64 q3]] =>some (.aj (xq f ⟨r0,r1,r2,r3,(p0,p1,p2,p3),(q0,q1,q2,q3)⟩) (.ai (tR f ⟨r0,r1,r2,r3,(p0,p1,p2,p3),(q0,q1,q2,q3)⟩).sv))
 |_=>none
def yJ6:qj8.ok pP:=iz λf rest t ht=>by
 split at ht<;>cases ht;exact λh=>xV5 f ⟨_,_,_,_,(_,_,_,_),(_,_,_,_)⟩ h
def xU3(f:Fw)(l:Fl)(h:o4 l=true)(k:eu f=true):SCall pP 41 [f.sv,l.sv] (nt f l):=
 ic (hB (l:=[pQ,qa9,z79,DJ,qg5,BZ,z55,qd2,qj7]) (k:=[]) (j:=[]) (i:=[]) nN nN nN nN (⟨zl,yA4,CK,PW,yG2,FJ,O3,yC3,yJ5,trivial⟩) v8 v8 v8) 1000 (.ah (.ln 10 pA) (.ln 3 (.ah (.ln 6 pA) (.ln 3 (.ah (.ar (.ar pA)) (.ar (.ar (.ah .all (.ah .all (.ah .all (.ah (.ln 12 pA) (.ln 4 (.ah (.ln 7 pA) (.ln 7 (.ah .all (.ah .all .all))))))))))))))))
  (t:=let y0:ak SV:=lT [.agg (o9 aP),J 1];let y1:ak SV:=lT [.agg (o9 aP),J 19];.ag (!u9 f) y0 (.ag (!qx f) y0 (.aj (o4 l) (.ag (!eU l) y0 (.ag (f.bf) y0 (.ag (l.dead) (lT [.agg (o9 aP),J 17]) (.aj (o4 l) (.ag (!(jV l).isSome) (.aj (eu f) (lT [.agg (Fw.cells f),J 0])) (.ag (!u7 (bW l).src) y1 (.ag (!u7 (bW l).dst) y1 (.ag (!u7 (bI (bW l).dst (bW l).src)) y1 (.ag ((bW l).kind==1) (.aj (eu f) (.aj (GG f (bW l)) (lT [.agg (Fw.cells (Kt f (bW l))),J 0]))) (.aj (eu f) (.aj (xq f (bW l)) (lT [.agg (Fw.cells (sF f (bW l))),J 0])))))))))))))))
  (by kernel_rfl) (by
   refine d8 (λv=>Bb (Ba (.inl v))) λv=>d8 (λi=>Bb (Ba (.inr (.inl i)))) λi=>x0 h (d8 (λb=>Bb (Ba (.inr (.inr (.inl b))))) λb=>t8 (λhh=>Bb (Ba (.inr (.inr (.inr hh))))) λhh=>?_)
   have B:=Zz i b hh;obtain⟨_,i2⟩:=RK i
   refine t8 (λd=>ZA B d) λd=>x0 h (d8 (λo=>x0 k (Zy B d o)) λo=>d8 (λn=>CZ B d o (CO (.inl n))) λn1=>d8 (λn=>CZ B d o (CO (.inr (.inl n)))) λn2=>d8 (λn=>CZ B d o (CO (.inr (.inr n)))) λn3=>?_)
   have N:sy (bW l)=true:=JF.2 ⟨n1,n2,n3⟩;have rb:=zt.1 (q47 o)
   exact iK (λq=>x0 k (x0 (q84.2 ⟨(d7 v).ma,n1,rb.2.2.1⟩) (P9 B d o N (ay q)))) λq=>x0 k (x0 (Kr.2 ⟨v,i2,N⟩) (P9 B d o N (au q)))) (by kernel_rfl) (by unfold nt;split<;>rfl)
def xU4(f:Fw)(l:Fl)(h:o4 l=true):SCall pP 42 [f.sv,l.sv] (nt f l):=
 ic (hB (l:=[qb0,z80,Lj,vB,xL,K7,qj8,Jp,Rl]) (k:=[]) (j:=[]) (i:=[]) nN nN nN nN (⟨yA5,CJ,PV,FM,zo,PH,yJ6,O5,YF,trivial⟩) v8 v8 v8) 1000 (.ah (.ln 6 pA) (.ar (.ar (.ah (.ln 3 pA) (.ln 3 (.ah .all (.ah .all (.ah .all (.ah (.ln 8 pA) (.ln 4 (.ah (.ln 3 pA) (.ln 3 (.ah .all (.ah (.ah .all .all) (.ah (.ah .all (.ah .all .all)) (.ah .all .all))))))))))))))))
  (t:=let y0:=bI (bW l).dst (bW l).src;let y1:=tR f (bW l);let y2:=if i64.wrap ((bW l).line-1)>0 then i64.wrap ((bW l).line-1)else 0;let y3:ak SV:=lT [.agg (o9 aP),J 19];let y4:ak SV:=lT [.agg (o9 aP),J 1];let y5:={y1 with ret:=(bW l).dst};.ag (!qx f) y4 (.ag (f.bf) y4 (.aj (o4 l) (.ag (!eU l) y4 (.ag (l.dead) (lT [.agg (o9 aP),J 17]) (.aj (o4 l) (.ag (!(jV l).isSome) (lT [.agg (Fw.cells f),J 0]) (.ag (!u7 (bW l).src) y3 (.ag (!u7 (bW l).dst) y3 (.ag (!u7 y0) y3 (.ag ((bW l).kind==1) (rT (rT (.ag (e7 f.ma (bW l).src.2.2.2) (lT [.agg (Fw.cells {f with pos:=(bW l).src,e:=(dY (cA f.ma 3) (bW l).src.2.2.2),back:=true,ret:=(bW l).src,line:=y2}),J 0]) (lT [.agg (Fw.cells {f with pos:=(bW l).src,e:=0,back:=true,ret:=(bW l).src,line:=y2}),J 0])))) (.ag ((bW l).kind==2) (.aj (xq f (bW l)) (.ag (y0.1==0&& (y0.2.1==0&& (y0.2.2.1==0&& (y0.2.2.2==0&&true)))) (lT [.agg (Fw.cells y1),J 0]) (.aj (dm y1 y0 0) (.ag (dt y1 y0 0) (lT [.agg (Fw.cells (p8 y1 y0 0 (bW l).line)),J 0]) (lT [.agg (o9 aP),J 2]))))) (.aj (xq f (bW l)) (.aj (pK y5 (bI (bW l).dst y1.pos)) (.ag (gI y5 (bI (bW l).dst y1.pos)) (lT [.agg (Fw.cells (gA y5 (bI (bW l).dst y1.pos))),J 0]) (lT [.agg (o9 aP),J 2]))))))))))))))))
  (by kernel_rfl) (by
   refine d8 (λi=>Bb (Ba (.inr (.inl i)))) λi=>t8 (λhh=>Bb (Ba (.inr (.inr (.inr hh))))) λhh=>x0 h (d8 (λb=>Bb (Ba (.inr (.inr (.inl b))))) λb=>?_)
   have B:=Zz i b hh;obtain⟨v,i2⟩:=RK i
   refine t8 (λd=>ZA B d) λd=>x0 h (d8 (λo=>Zy B d o) λo=>d8 (λn=>CZ B d o (CO (.inl n))) λn1=>d8 (λn=>CZ B d o (CO (.inr (.inl n)))) λn2=>d8 (λn=>CZ B d o (CO (.inr (.inr n)))) λn3=>?_)
   have N:sy (bW l)=true:=JF.2 ⟨n1,n2,n3⟩;have rb:=zt.1 (q47 o);have hv:=d7 v;have P:=Kr.2 ⟨v,i2,N⟩
   have Z:∀{g:Fw},zA f (bW l)=g->SV.tuple [SV.agg g.cells,SV.int i64 0] =nt f l:=λh=>P9 B d o N h
   generalize bW l=r at n1 n2 n3 N rb P Z ⊢
   refine iK (λq=>?_) λq=>iK (λq2=>x0 P (t8 (λe=>?_) λe=>?_)) λq2=>x0 P ?_
   .have n:=fO.1 n1
    have u:e7 f.ma r.src.2.2.2=true:=fH.2 ⟨hv.ma,by omega⟩;have w:i64.wrap (r.line-1)=r.line-1:=aG (by omega) (by omega);rw[w];exact x0 rfl (x0 rfl (t8 (λ_=>Z (ay q)) λt=>by rw[u]at t;cases t))
   .refine Z ?_
    have eq:r.src=r.dst:=by
     refine U0 λne=>?_
     have z:=O6.1 (S8 n1 n2 ne);simp only[aH,cI]at e;exact z ⟨e.1,e.2.1,e.2.2.1,e.2.2.2.1⟩
    unfold zA sF;rw[au q,au (by omega),ay eq]
   .have ne:¬r.src=r.dst:=λeq=>by
     rw[eq,uj (iq n2) (iq n2)]at e;simp[iC]at e
    obtain⟨p,e1⟩:=Kn (g:=tR f r) hv i2 rfl rfl rfl rfl rfl n3 (S8 n1 n2 ne);refine x0 p (t8 (λ_=>Z ?_) λt=>by rw[IA p e1]at t;cases t);unfold zA sF;rw[au q,au (by omega),au ne]
   .obtain⟨p,e1,e2,ok⟩:=ZR (g:=Be f r) hv i2 rfl rfl rfl rfl rfl n3
    refine x0 p (t8 (λ_=>Z ?_) λt=>by rw[show gI {tR f r with ret:=r.dst} (bI r.dst (tR f r).pos)=true from ok]at t;cases t);unfold zA sF
    rw[au q,ay (by omega)];rfl) (by kernel_rfl) (by unfold nt;split<;>rfl)
open Go.Sx
def DE:aB:=gU 48 λf rest=>match rest with
 |[.agg [.list .str p,.int .i64 a,.bool d,.int .i64 k],.int .i64 n,.agg [.int .i64 c0,.int .i64 c1,.int .i64 c2,.int .i64 c3,.int .i64 c4,.int .i64 c5,.int .i64 c6,.int .i64 c7]] =>some (.aj (o4 ⟨p,a,d,k⟩) (.aj (eu f) (.ai (qQ f ⟨p,a,d,k⟩ n ⟨c0,c1,c2,c3,c4,c5,c6,c7⟩))))
 |_=>none
def DD:aB:=gU 49 λf rest=>match rest with
 |[.agg [.list .str p,.int .i64 a,.bool d,.int .i64 k],.int .i64 n,.agg [.int .i64 c0,.int .i64 c1,.int .i64 c2,.int .i64 c3,.int .i64 c4,.int .i64 c5,.int .i64 c6,.int .i64 c7]] =>some (.aj (o4 ⟨p,a,d,k⟩) (.aj (dN c1) (.ai (qQ f ⟨p,a,d,k⟩ n ⟨c0,c1,c2,c3,c4,c5,c6,c7⟩))))
 |_=>none
def DA:aB:=gU 43 λf rest=>match rest with
 |[.agg [.list .str p,.int .i64 a,.bool d,.int .i64 k],.agg [.int .i64 r,.int .i64 s]] =>some (.aj (o4 ⟨p,a,d,k⟩) (.aj (eu f) (.ai (sP f ⟨p,a,d,k⟩ r s))))
 |_=>none
def Dz:aB:=gU 44 λf rest=>match rest with
 |[.agg [.list .str p,.int .i64 a,.bool d,.int .i64 k],.agg [.int .i64 r,.int .i64 s]] =>some (.aj (o4 ⟨p,a,d,k⟩) (.ai (sP f ⟨p,a,d,k⟩ r s)))
 |_=>none
def DC:aB:=gU 46 λf rest=>match rest with
 |[.agg [.list .str p,.int .i64 a,.bool d,.int .i64 k]] =>some (.aj (o4 ⟨p,a,d,k⟩) (.ai (dy f ⟨p,a,d,k⟩).sv))
 |_=>none
def DB:aB:=gU 47 λf rest=>match rest with
 |[.agg [.list .str p,.int .i64 a,.bool d,.int .i64 k]] =>some (.aj (o4 ⟨p,a,d,k⟩) (.ai (dy f ⟨p,a,d,k⟩).sv))
 |_=>none
def Bm:aB:=gU 41 λf rest=>match rest with
 |[.agg [.list .str p,.int .i64 a,.bool d,.int .i64 k]] =>some (.aj (o4 ⟨p,a,d,k⟩) (.aj (eu f) (.ag (iO f ⟨p,a,d,k⟩=0) (lT [(ky f ⟨p,a,d,k⟩).sv,J 0]) (lT [aP.sv,J (iO f ⟨p,a,d,k⟩)]))))
 |_=>none
def Dy:aB:=gU 42 λf rest=>match rest with
 |[.agg [.list .str p,.int .i64 a,.bool d,.int .i64 k]] =>some (.aj (o4 ⟨p,a,d,k⟩) (.ag (iO f ⟨p,a,d,k⟩=0) (lT [(ky f ⟨p,a,d,k⟩).sv,J 0]) (lT [aP.sv,J (iO f ⟨p,a,d,k⟩)])))
 |_=>none
def Bh:aB:=⟨40,λargs=>match args with
 |[] =>some (.ai (.bool true))
 |_=>none⟩
def zc:aB:=⟨51,λargs=>match args with
 |[.int .i64 n] =>match n==6 with
  |true=>some (lT [(BY 6).sv,J 0])
  |false=>match n==4 with
   |true=>some (lT [(BY 4).sv,J 0])
   |false=>none
 |_=>none⟩
open Go.Sx
def G2{x:Fw}:eu x=true↔x.queue.length<=1000/\x.lines.length<=1000:=by
 unfold eu De Dd;rw[aH,aV,aV]
def LS:o4 l=true↔l.aC.length<=1000:=by unfold o4;rw[aV]
section
variable {f:Fw} {l:Fl} {r s n:Int} {c:Gc.C}
def jo3(k:eu f=true):eu (mI f r s)=true:=by
 cases v:u9 f with
 |true=>exact MS (jo4 v)
 |false=>
  have e:mI f r s=f:=by unfold mI;rw[v];rfl
  rw[e];exact k
def xe8(k:eu f=true):eu (sQ f l r s)=true:=by
 unfold sQ;split;.exact jo3 k
 .exact k
def VH{g:Fw}{d:V4}{len m:Int}:(p8 g d len m).queue.length=g.queue.length+1/\(p8 g d len m).lines.length=g.lines.length+1:=⟨uW,by show(g.lines++[m]).length=_;simp⟩
def Ix{g:Fw}{d:V4}:(n8 g d).queue.length<=g.queue.length+1/\(n8 g d).lines.length<=g.lines.length+1:=by
 unfold n8
 split;.have:=VH (g:=g) (d:=d) (len:=0) (m:=0);omega
 .omega
def zT0:(cN f n c).queue.length<=f.queue.length+2/\(cN f n c).lines.length<=f.lines.length+2:=by
 have z:(0:Nat)<=f.queue.length+2/\(0:Nat)<=f.lines.length+2:=⟨rW _,rW _⟩
 have e:f.queue.length<=f.queue.length+2/\f.lines.length<=f.lines.length+2:=by omega
 have ff:(b7 f c).queue=f.queue/\(b7 f c).lines=f.lines:=by unfold b7;split<;>exact⟨rfl,rfl⟩
 have mv:(ni f n c).queue.length<=f.queue.length+2/\(ni f n c).lines.length<=f.lines.length+2:=by
  have a:=VH (g:=b7 f c) (d:=mb f c) (len:=jm (b7 f c) (t7 f c) (r9 f c)) (m:=n);rw[ff.1,ff.2]at a;unfold ni xA
  split
  .show(b7 f c).queue.length<=_/\(b7 f c).lines.length<=_
   rw[ff.1,ff.2];exact e
  .show(p8 (b7 f c) (mb f c) (jm (b7 f c) (t7 f c) (r9 f c)) n).queue.length<=_/\(p8 (b7 f c) (mb f c) (jm (b7 f c) (t7 f c) (r9 f c)) n).lines.length<=_
   omega
 have hm:(nv f n).queue.length<=f.queue.length+2/\(nv f n).lines.length<=f.lines.length+2:=by
  have a:=Ix (g:=dX f n) (d:=gj f n);have b:=Ix (g:=n8 (dX f n) (gj f n)) (d:=kB f n);have q1:(dX f n).queue.length=f.queue.length:=rfl;have q2:(dX f n).lines.length=f.lines.length:=rfl;unfold nv
  split;.exact e
  .show(n8 (n8 (dX f n) (gj f n)) (kB f n)).queue.length<=_/\(n8 (n8 (dX f n) (gj f n)) (kB f n)).lines.length<=_
   omega
 unfold cN
 by_cases k0:c.code=1112
 .rw[ay k0];exact z
 rw[au k0]
 by_cases k1:c.code=1999
 .rw[ay k1];exact e
 rw[au k1]
 by_cases k2:c.code=1025
 .rw[ay k2];exact e
 rw[au k2]
 by_cases k3:c.code=1024
 .rw[ay k3];exact e
 rw[au k3]
 by_cases k4:c.code=0\/c.code=1
 .rw[ay k4];exact mv
 rw[au k4]
 by_cases k5:c.code=4
 .rw[ay k5];exact e
 rw[au k5]
 by_cases k6:c.code=28
 .rw[ay k6];exact hm
 rw[au k6]
 by_cases k7:c.code=1104
 .rw[ay k7];exact e
 rw[au k7]
 by_cases k8:c.code=1109
 .rw[ay k8];exact e
 rw[au k8]
 by_cases k9:c.code=1140
 .rw[ay k9];exact e
 rw[au k9]
 by_cases Mf:c.code=1190
 .rw[ay Mf];exact e
 rw[au Mf];exact e
def zh4(h:eZ f n c=0):eu (jc f n c)=true:=by
 have v:u9 f=true:=by
  cases v:u9 f with
  |true=>rfl
  |false=>unfold eZ at h;rw[ay (.inl v)]at h;omega
 have hv:=d7 v;have d:=zT0 (f:=f) (n:=n) (c:=c);have l:=hv.len;have k:=hv.lens
 have t:∀g:Fw,g.queue.length<=f.queue.length+2/\g.lines.length<=f.lines.length+2->eu (mH (pW g n))=true:=λg hg=>by
  have s:(mH (pW g n)).queue=g.queue/\(mH (pW g n)).lines=g.lines:=by unfold pW;split<;>exact⟨rfl,rfl⟩
  refine G2.2 ?_;rw[s.1,s.2];omega
 unfold jc
 split;.exact G2.2 (by show(cN f n c).queue.length<=1000/\(cN f n c).lines.length<=1000;omega)
 .exact t _ d
def zs2(k:eu f=true):eu (th f l n c)=true:=by
 unfold th;split
 .rename_i e
  have e0:eZ f n c=0:=by
   by_cases q:eZ f n c=0
   .exact q
   .unfold qp at e;rw[au q]at e;exact absurd e q
  exact zh4 e0
 .exact k
def xe5(h:o4 l=true):o4 (vH f l)=true:=by
 unfold vH;split;.exact Br h
 .exact h
def zr9(h:o4 l=true):o4 (rS f l n c)=true:=by
 unfold rS;split
 .split
  .exact Br (Br h)
  .exact Br h
 .exact h
def qy5(h:o4 l=true):o4 (dy f l)=true:=by
 unfold dy;split;.exact Br h
 .exact h
def qD1{k:Int}(h:o4 l=true):o4 (dP l n k)=true:=by
 have h:=LS.1 h;unfold dP
 repeat' split
 all_goals exact LS.2 h
def qD3(h:o4 l=true):o4 (eG l)=true:=by
 have h:=LS.1 h;unfold eG
 split
 all_goals exact LS.2 h
def Zx(e:iO f l=0)(k:eu f=true):eu (ky f l)=true:=by
 have k0:=G2.1 k;unfold iO at e
 split at e;.omega
 .rename_i b
  have b:sE f l=true:=by simpa using b
  unfold sE at b;obtain⟨v,b⟩:=(aH _ _).mp b;obtain⟨i,_⟩:=(aH _ _).mp b;obtain⟨i1,i2,i3⟩:=zM.1 i
  have l0:f.lines.length=0:=by rw[(d7 v).lens,i2]
  unfold ky
  split;.exact k
  .rename_i r _
   unfold zA
   split;.exact k
   .unfold sF
    split
    .refine G2.2 ?_
     have a:=Ix (g:=Be f r) (d:=m7 (bI r.dst r.src));have b:=Ix (g:=n8 (Be f r) (m7 (bI r.dst r.src))) (d:=gB (bI r.dst r.src));have q1:(Be f r).queue.length=0:=i2;have q2:(Be f r).lines.length=0:=l0;unfold gA;omega
    .split
     .exact k
     .refine G2.2 ⟨?_,?_⟩
      .rw[uW];show f.queue.length+1<=1000;omega
      .show(f.lines++[r.line]).length<=1000
       rw[eX];simp;omega
end
open Go.Sx
def yF4:DE.ok pP:=iz λf rest t ht=>by
 split at ht<;>cases ht;exact λh k=>xQ4 f ⟨_,_,_,_⟩ _ ⟨_,_,_,_,_,_,_,_⟩ h k
def yF5:DD.ok pP:=iz λf rest t ht=>by
 split at ht<;>cases ht;exact λh o=>xQ5 f ⟨_,_,_,_⟩ _ ⟨_,_,_,_,_,_,_,_⟩ h o
def yG3:DA.ok pP:=iz λf rest t ht=>by
 split at ht<;>cases ht;exact λh k=>xQ8 f ⟨_,_,_,_⟩ _ _ h k
def yG4:Dz.ok pP:=iz λf rest t ht=>by
 split at ht<;>cases ht;exact λh=>xQ9 f ⟨_,_,_,_⟩ _ _ h
def yF7:DC.ok pP:=iz λf rest t ht=>by
 split at ht<;>cases ht;exact λh=>xQ6 f ⟨_,_,_,_⟩ h
def yF8:DB.ok pP:=iz λf rest t ht=>by
 split at ht<;>cases ht;exact λh=>xQ7 f ⟨_,_,_,_⟩ h
def ZB{g:FuncId}{args:List SV}(h:SCall pP g args (nt f l)):(ak.ag (iO f l=0) (lT [(ky f l).sv,J 0]) (lT [aP.sv,J (iO f l)])).bw (SCall pP g args):=by
 refine⟨λe=>?_,λe=>?_⟩
 .have e:=bG e
  unfold nt at h;rw[ay e]at h;exact h
 .have e:=cO e
  unfold nt at h;rw[au e]at h;exact C4 h (JB (CN _ rfl rfl))
def YI:Bm.ok pP:=iz λf rest t ht=>by
 split at ht<;>cases ht;exact λh k=>ZB (xU3 f ⟨_,_,_,_⟩ h k)
def yI6:Dy.ok pP:=iz λf rest t ht=>by
 split at ht<;>cases ht;exact λh=>ZB (xU4 f ⟨_,_,_,_⟩ h)
def xG6:SCall pP 51 [J 6] (.tuple [(BY 6).sv,J 0]):=by
 refine s8 rfl rfl (by kernel_rfl) (o6 Ed (n:=1000) (hint:=.str) (keep:=x6 25 []) (p:=qE1) (boxes:=[]) rfl ?_);have q:=fn6 ();unfold v6 v7 at q;erw [q]
 repeat' first
  |refine x0 rfl ?_
  |rfl
def xG5:SCall pP 51 [J 4] (.tuple [(BY 4).sv,J 0]):=by
 refine s8 rfl rfl (by kernel_rfl) (o6 Ed (n:=1000) (hint:=.str) (keep:=x6 25 []) (p:=qE0) (boxes:=[]) rfl ?_);have q:=fn4 ();unfold v6 v7 at q;erw [q]
 repeat' first
  |refine x0 rfl ?_
  |rfl
def Xi:zc.ok pP:=λargs t ht=>by
 simp only[zc]at ht
 split at ht
 .split at ht
  .rename_i h
   have h:=cI.1 h;subst h;cases ht;exact xG6
  .split at ht
   .rename_i h
    have h:=cI.1 h;subst h;cases ht;exact xG5
   .cases ht
 .cases ht
open Go.Sx
def x54 :SCall pP 40 [] (.bool true):=
 aY aL [Bn,zc,z37,Bm] ⟨YR,Xi,Xx,YI,trivial⟩ 40000 (.kK)
  (t:=rT (rT (rT (rT (rT (rT (rT (.ai (SV.bool true)))))))))
  (by kernel_rfl) (by trivial) (by kernel_rfl)
def yP9:Bh.ok pP:=λargs t ht=>by
 simp only[Bh]at ht
 split at ht<;>cases ht;exact x54
open Go.Sx
open Go.Sx
def XP{m:Ma}{c d:Co}{g h:Gu}{bc:Int}(k:vj m c d g h bc=true):u9 (jA m c d g h bc)=true:=by
 obtain⟨k1,k2,k3,k4,k5,k6,k7,k8⟩:=Pc.1 k;refine kY (xg.2 ⟨k1,k2,k3,k4,k5⟩) (by show 1<=(1:Int)/\(1:Int)<=3;omega) (oE.2 ?_) ?_ (Qu rfl rfl rfl rfl (show u7 z4=true by decide) (show u7 z4=true by decide)) (.inr ⟨rfl,rfl⟩)
 .show((-16777216:Int)<=0/\(0:Int)<=16777216)/\((-16777216:Int)<=0/\(0:Int)<=16777216)/\((-16777216:Int)<=0/\(0:Int)<=16777216)/\((-16777216:Int)<=0/\(0:Int)<=16777216)/\((0:Int)<=0/\(0:Int)<=1048576)/\((0:Int)<=0/\(0:Int)<=1048576)/\((0:Int)<=0/\(0:Int)<=3)/\((0:Int)<=0/\(0:Int)<=255)/\((0:Int)<=0/\(0:Int)<=1099511627776)/\((0:Int)<=0/\(0:Int)<=1099511627776)/\((0:Int)<=0/\(0:Int)<=1099511627776)/\0<=bc/\bc<=400000
  omega
 .rw[zg rfl];exact SY rfl rfl
open Go.Sx
def sD(m:Ma)(c d:Co)(g h:Gu)(bc:Int):List SV:=m.cells++(c.cells++(d.cells++(g.cells++(h.cells++[J bc]))))
def Bt(n:Nat)(a b:List Nat):List Item->List Bool:=λitems=>match Nat.ble items.length 5 with
 |true=>x6 n a items
 |false=>x6 n b items
open Go.Sx
def Aw(x:nO):List SV:=GL x.1.1 x.1.2.1 (Bu x.1) x.1.2.2.2.1 x.1.2.2.2.2.1 x.1.2.2.2.2.2
def xg0:ax:=.ah (.ln 4 (.ah .all .all)) (.ln 4 pA)
def qu0(m:Ma)(c d:Co)(g h:Gu)(bc:Int)(l:List nO):o8 (Env.cq pP (j9 [Bn,zc,z76,Bh,DE,DD,DA,Dz,DC,DB,CI,z85,z87,CH,Bm,Dy,Dw,Bj,DI]) (d9 []) (f0 []) (b9 []) (j6 []) (j6 []) (j6 []) (j6 [])) 1000 (x9 pP 14) .unit (Bt 220 [1,2,5,7,9,10,11] [1,2,5,7,9,10,11,12,27]) (v7 pP 14) xg0 (v6 pP 14 [.agg (m.cells++(c.cells++(d.cells++(g.cells++(h.cells++[J bc]))))),LE l]) [] =(.ag (vj m c d g h bc) (.aj (LY l) (.ag (!xS l 20) (.ai (.done (.bool true))) (.ai (.at (x8 pP 14 0) 220 (x7 220 [(1,LE l),(2,.ptr 0 0),(5,.ptr 1 0),(7,.ptr 2 0),(9,.ptr 3 0),(10,.ptr 4 0),(11,J 0)]) [some (.cells (sD m c d g h bc)),some (.cells (Fw.cells (jA m c d g h bc))),some (.cells (Fl.cells (BY 6))),some (.cells (Fw.cells (jA m c d g h bc))),some (.cells (Fl.cells (BY 6)))])))) (.ai (.done (.bool true)))):=by kernel_rfl
def Qv:ax:=let z0:ax:=.ah (.ln 4 pA) (.ln 4 pA);.ah (.ah (.ah (.ah (.ah (.ln 5 pA) z0) (.ah z0 z0)) (.ln 7 pA)) (.ah (.ah .all .all) .all)) .all
def qu1(m:Ma)(c d:Co)(g h:Gu)(bc:Int)(f:Fw)(x:Fl)(l:List nO)(i:Int):o8 (Env.cq pP (j9 [Bn,zc,z76,Bh,DE,DD,DA,Dz,DC,DB,CI,z85,z87,CH,Bm,Dy,Dw,Bj,DI]) (d9 []) (f0 []) (b9 []) (j6 []) (j6 []) (j6 []) (j6 [])) 1000 (x9 pP 14) .unit (Bt 220 [1,2,5,7,9,10,11] [1,2,5,7,9,10,11,12,27]) (x8 pP 14 0) Qv (x7 220 [(1,LE l),(2,.ptr 0 0),(5,.ptr 1 0),(7,.ptr 2 0),(9,.ptr 3 0),(10,.ptr 4 0),(11,J i)]) [some (.cells (m.cells++(c.cells++(d.cells++(g.cells++(h.cells++[J bc])))))),some (.cells f.cells),some (.cells x.cells),some (.cells f.cells),some (.cells x.cells)] =(.ag (i< (↑l.length:Int)) (.aj (0<=i&&i< (↑l.length:Int)) (.aj (0<=i&&i< (↑l.length:Int)) (.ag ((l.getD i.toNat bo).2.1>=0) (.aj (0<=i&&i< (↑l.length:Int)) (.aj (0<=i&&i< (↑l.length:Int)) (.aj (o4 x) (.aj (o4 (dP x (l.getD i.toNat bo).2.1 (l.getD i.toNat bo).2.2)) (.aj (o4 (dy f (dP x (l.getD i.toNat bo).2.1 (l.getD i.toNat bo).2.2))) (.aj (0<=i&&i< (↑l.length:Int)) (.aj (0<=i&&i< (↑l.length:Int)) (.aj (o4 x) (.aj (o4 (dP x (l.getD i.toNat bo).2.1 (l.getD i.toNat bo).2.2)) (.aj (o4 (dy f (dP x (l.getD i.toNat bo).2.1 (l.getD i.toNat bo).2.2))) (.ag (vj m c d g h bc) (.aj (o4 (eG (dy f (dP x (l.getD i.toNat bo).2.1 (l.getD i.toNat bo).2.2)))) (.aj (eu (jA m c d g h bc)) (.ag (iO (jA m c d g h bc) (eG (dy f (dP x (l.getD i.toNat bo).2.1 (l.getD i.toNat bo).2.2)))=0) (.aj (o4 (eG (dy f (dP x (l.getD i.toNat bo).2.1 (l.getD i.toNat bo).2.2)))) (.ag (iO (jA m c d g h bc) (eG (dy f (dP x (l.getD i.toNat bo).2.1 (l.getD i.toNat bo).2.2)))=0) (.aj (tF (ky (jA m c d g h bc) (eG (dy f (dP x (l.getD i.toNat bo).2.1 (l.getD i.toNat bo).2.2)))) (ky (jA m c d g h bc) (eG (dy f (dP x (l.getD i.toNat bo).2.1 (l.getD i.toNat bo).2.2))))) (.aj (eu (ky (jA m c d g h bc) (eG (dy f (dP x (l.getD i.toNat bo).2.1 (l.getD i.toNat bo).2.2))))) (.ai (.at (x8 pP 14 1) 220 (x7 220 [(1,LE l),(2,.ptr 0 0),(5,.ptr 1 0),(7,.ptr 2 0),(9,.ptr 3 0),(10,.ptr 4 0),(11,J i),(12,.ptr 5 0),(27,J 0)]) [some (.cells (sD m c d g h bc)),some (.cells (Fw.cells (ky (jA m c d g h bc) (eG (dy f (dP x (l.getD i.toNat bo).2.1 (l.getD i.toNat bo).2.2)))))),some (.cells (Fl.cells (eG (dy f (dP x (l.getD i.toNat bo).2.1 (l.getD i.toNat bo).2.2))))),some (.cells (Fw.cells (ky (jA m c d g h bc) (eG (dy f (dP x (l.getD i.toNat bo).2.1 (l.getD i.toNat bo).2.2)))))),some (.cells (Fl.cells (eG (dy f (dP x (l.getD i.toNat bo).2.1 (l.getD i.toNat bo).2.2))))),some (.cells (Aw (l.getD i.toNat bo)))])))) (.ag (0 != iO (jA m c d g h bc) (eG (dy f (dP x (l.getD i.toNat bo).2.1 (l.getD i.toNat bo).2.2)))) (.ai (.done (.bool false))) (.aj (tF (ky (jA m c d g h bc) (eG (dy f (dP x (l.getD i.toNat bo).2.1 (l.getD i.toNat bo).2.2)))) aP) (.aj (eu (ky (jA m c d g h bc) (eG (dy f (dP x (l.getD i.toNat bo).2.1 (l.getD i.toNat bo).2.2))))) (.ai (.at (x8 pP 14 1) 220 (x7 220 [(1,LE l),(2,.ptr 0 0),(5,.ptr 1 0),(7,.ptr 2 0),(9,.ptr 3 0),(10,.ptr 4 0),(11,J i),(12,.ptr 5 0),(27,J 0)]) [some (.cells (sD m c d g h bc)),some (.cells (Fw.cells (ky (jA m c d g h bc) (eG (dy f (dP x (l.getD i.toNat bo).2.1 (l.getD i.toNat bo).2.2)))))),some (.cells (Fl.cells (eG (dy f (dP x (l.getD i.toNat bo).2.1 (l.getD i.toNat bo).2.2))))),some (.cells (Fw.cells aP)),some (.cells (Fl.cells (eG (dy f (dP x (l.getD i.toNat bo).2.1 (l.getD i.toNat bo).2.2))))),some (.cells (Aw (l.getD i.toNat bo)))]))))))) (.aj (o4 (eG (dy f (dP x (l.getD i.toNat bo).2.1 (l.getD i.toNat bo).2.2)))) (.ag (iO (jA m c d g h bc) (eG (dy f (dP x (l.getD i.toNat bo).2.1 (l.getD i.toNat bo).2.2)))=0) (.ag (iO (jA m c d g h bc) (eG (dy f (dP x (l.getD i.toNat bo).2.1 (l.getD i.toNat bo).2.2))) != 0) (.ai (.done (.bool false))) (.aj (tF aP (ky (jA m c d g h bc) (eG (dy f (dP x (l.getD i.toNat bo).2.1 (l.getD i.toNat bo).2.2))))) (rT (.ai (.at (x8 pP 14 1) 220 (x7 220 [(1,LE l),(2,.ptr 0 0),(5,.ptr 1 0),(7,.ptr 2 0),(9,.ptr 3 0),(10,.ptr 4 0),(11,J i),(12,.ptr 5 0),(27,J 0)]) [some (.cells (sD m c d g h bc)),some (.cells (Fw.cells aP)),some (.cells (Fl.cells (eG (dy f (dP x (l.getD i.toNat bo).2.1 (l.getD i.toNat bo).2.2))))),some (.cells (Fw.cells (ky (jA m c d g h bc) (eG (dy f (dP x (l.getD i.toNat bo).2.1 (l.getD i.toNat bo).2.2)))))),some (.cells (Fl.cells (eG (dy f (dP x (l.getD i.toNat bo).2.1 (l.getD i.toNat bo).2.2))))),some (.cells (Aw (l.getD i.toNat bo)))]))))) (.ag (iO (jA m c d g h bc) (eG (dy f (dP x (l.getD i.toNat bo).2.1 (l.getD i.toNat bo).2.2))) != iO (jA m c d g h bc) (eG (dy f (dP x (l.getD i.toNat bo).2.1 (l.getD i.toNat bo).2.2)))) (.ai (.done (.bool false))) (.aj (tF aP aP) (rT (.ai (.at (x8 pP 14 1) 220 (x7 220 [(1,LE l),(2,.ptr 0 0),(5,.ptr 1 0),(7,.ptr 2 0),(9,.ptr 3 0),(10,.ptr 4 0),(11,J i),(12,.ptr 5 0),(27,J 0)]) [some (.cells (sD m c d g h bc)),some (.cells (Fw.cells aP)),some (.cells (Fl.cells (eG (dy f (dP x (l.getD i.toNat bo).2.1 (l.getD i.toNat bo).2.2))))),some (.cells (Fw.cells aP)),some (.cells (Fl.cells (eG (dy f (dP x (l.getD i.toNat bo).2.1 (l.getD i.toNat bo).2.2))))),some (.cells (Aw (l.getD i.toNat bo)))])))))))))) (.aj (o4 (eG (dy f (dP x (l.getD i.toNat bo).2.1 (l.getD i.toNat bo).2.2)))) (rT (.aj (o4 (eG (dy f (dP x (l.getD i.toNat bo).2.1 (l.getD i.toNat bo).2.2)))) (.aj (tF aP aP) (rT (.ai (.at (x8 pP 14 1) 220 (x7 220 [(1,LE l),(2,.ptr 0 0),(5,.ptr 1 0),(7,.ptr 2 0),(9,.ptr 3 0),(10,.ptr 4 0),(11,J i),(12,.ptr 5 0),(27,J 0)]) [some (.cells (sD m c d g h bc)),some (.cells (Fw.cells aP)),some (.cells (Fl.cells (eG (dy f (dP x (l.getD i.toNat bo).2.1 (l.getD i.toNat bo).2.2))))),some (.cells (Fw.cells aP)),some (.cells (Fl.cells (eG (dy f (dP x (l.getD i.toNat bo).2.1 (l.getD i.toNat bo).2.2))))),some (.cells (Aw (l.getD i.toNat bo)))])))))))))))))))))) (.ag ((l.getD i.toNat bo).1.1==0) (.aj (az f.line 0 1099511627776) (.aj (o4 x) (.aj (eu f) (.aj (az f.line 0 1099511627776) (.aj (o4 x) (.aj (dN (l.getD i.toNat bo).1.2.2.1.2.1) (.ag (qp f x (zS f (l.getD i.toNat bo).1.2.1) (Bu (l.getD i.toNat bo).1) != qp f x (zS f (l.getD i.toNat bo).1.2.1) (Bu (l.getD i.toNat bo).1)) (.ai (.done (.bool false))) (.ai (.at (x8 pP 14 1) 220 (x7 220 [(1,LE l),(2,.ptr 0 0),(5,.ptr 1 0),(7,.ptr 2 0),(9,.ptr 3 0),(10,.ptr 4 0),(11,J i),(12,.ptr 5 0),(27,J 0)]) [some (.cells (sD m c d g h bc)),some (.cells (Fw.cells (th f x (zS f (l.getD i.toNat bo).1.2.1) (Bu (l.getD i.toNat bo).1)))),some (.cells (Fl.cells (rS f x (zS f (l.getD i.toNat bo).1.2.1) (Bu (l.getD i.toNat bo).1)))),some (.cells (Fw.cells (th f x (zS f (l.getD i.toNat bo).1.2.1) (Bu (l.getD i.toNat bo).1)))),some (.cells (Fl.cells (rS f x (zS f (l.getD i.toNat bo).1.2.1) (Bu (l.getD i.toNat bo).1)))),some (.cells (Aw (l.getD i.toNat bo)))]))))))))) (.ai (.at (x8 pP 14 1) 220 (x7 220 [(1,LE l),(2,.ptr 0 0),(5,.ptr 1 0),(7,.ptr 2 0),(9,.ptr 3 0),(10,.ptr 4 0),(11,J i),(12,.ptr 5 0),(27,J 0)]) [some (.cells (sD m c d g h bc)),some (.cells (Fw.cells f)),some (.cells (Fl.cells x)),some (.cells (Fw.cells f)),some (.cells (Fl.cells x)),some (.cells (Aw (l.getD i.toNat bo)))])))))) (.ai (.done (.bool true)))):=by kernel_rfl
def xg4:ax:=.ah (.ln 3 (.ah (.ln 6 (.ah .all (.ln 5 pA))) (.ln 12 pA))) (.ln 16 pA)
def qu2(m:Ma)(c d:Co)(g h:Gu)(bc:Int)(f:Fw)(x:Fl)(l:List nO)(i:Int)(kd:Int)(nb:Bool)(co:Gc.C)(n r s k:Int):o8 (Env.cq pP (j9 [Bn,zc,z76,Bh,DE,DD,DA,Dz,DC,DB,CI,z85,z87,CH,Bm,Dy,Dw,Bj,DI]) (d9 []) (f0 []) (b9 []) (j6 []) (j6 []) (j6 []) (j6 [])) 1000 (x9 pP 14) .unit (Bt 220 [1,2,5,7,9,10,11] [1,2,5,7,9,10,11,12,27]) (x8 pP 14 1) xg4 (x7 220 [(1,LE l),(2,.ptr 0 0),(5,.ptr 1 0),(7,.ptr 2 0),(9,.ptr 3 0),(10,.ptr 4 0),(11,J i),(12,.ptr 5 0),(27,J k)]) [some (.cells (m.cells++(c.cells++(d.cells++(g.cells++(h.cells++[J bc])))))),some (.cells f.cells),some (.cells x.cells),some (.cells f.cells),some (.cells x.cells),some (.cells (GL kd nb co n r s))] =(.ag (k<n) (.ag (kd != 0) (.aj (0<=i&&i< (↑l.length:Int)) (.ag ((l.getD i.toNat bo).2.1<0) (.aj (o4 x) (.aj (eu f) (.aj (o4 x) (.ai (.at (x8 pP 14 1) 220 (x7 220 [(1,LE l),(2,.ptr 0 0),(5,.ptr 1 0),(7,.ptr 2 0),(9,.ptr 3 0),(10,.ptr 4 0),(11,J i),(12,.ptr 5 0),(27,J (i64.wrap (k+1)))]) [some (.cells (sD m c d g h bc)),some (.cells (Fw.cells (sQ f x r s))),some (.cells (Fl.cells (vH f x))),some (.cells (Fw.cells (sQ f x r s))),some (.cells (Fl.cells (vH f x))),some (.cells (GL kd nb co n r s))]))))) (.aj (tF f f) (.aj (eu f) (.aj (Ct x x) (.aj (o4 x) (.ai (.at (x8 pP 14 0) 220 (x7 220 [(1,LE l),(2,.ptr 0 0),(5,.ptr 1 0),(7,.ptr 2 0),(9,.ptr 3 0),(10,.ptr 4 0),(11,J (i64.wrap (i+1)))]) [some (.cells (sD m c d g h bc)),some (.cells (Fw.cells f)),some (.cells (Fl.cells x)),some (.cells (Fw.cells f)),some (.cells (Fl.cells x))])))))))) (.aj (tF f f) (.aj (eu f) (.aj (Ct x x) (.aj (o4 x) (.ai (.at (x8 pP 14 0) 220 (x7 220 [(1,LE l),(2,.ptr 0 0),(5,.ptr 1 0),(7,.ptr 2 0),(9,.ptr 3 0),(10,.ptr 4 0),(11,J (i64.wrap (i+1)))]) [some (.cells (sD m c d g h bc)),some (.cells (Fw.cells f)),some (.cells (Fl.cells x)),some (.cells (Fw.cells f)),some (.cells (Fl.cells x))]))))))) (.aj (tF f f) (.aj (eu f) (.aj (Ct x x) (.aj (o4 x) (.ai (.at (x8 pP 14 0) 220 (x7 220 [(1,LE l),(2,.ptr 0 0),(5,.ptr 1 0),(7,.ptr 2 0),(9,.ptr 3 0),(10,.ptr 4 0),(11,J (i64.wrap (i+1)))]) [some (.cells (sD m c d g h bc)),some (.cells (Fw.cells f)),some (.cells (Fl.cells x)),some (.cells (Fw.cells f)),some (.cells (Fl.cells x))]))))))):=by kernel_rfl
open Go.Sx
def Md:cV pP (Env.cq pP (j9 [Bn,zc,z76,Bh,DE,DD,DA,Dz,DC,DB,CI,z85,z87,CH,Bm,Dy,Dw,Bj,DI]) (d9 []) (f0 []) (b9 []) (j6 []) (j6 []) (j6 []) (j6 [])):=
 hB (l:=[Bn,zc,z76,Bh,DE,DD,DA,Dz,DC,DB,CI,z85,z87,CH,Bm,Dy,Dw,Bj,DI]) (k:=[]) (j:=[]) (i:=[]) [] [] [] [] ⟨YR,Xi,yx0,yP9,yF4,yF5,yG3,yG4,yF7,yF8,yx8,yx9,yy1,yy2,YI,yI6,yK6,yK7,yC1,trivial⟩ v8 v8 v8
structure rZ (f:Fw):Prop where
 sh:eu f=true
 ln:az f.line 0 1099511627776=true
def LP(v:u9 f=true):rZ f:=⟨MS v,v5.2 (by have:=(d7 v).gK;omega)⟩
def qE5:rZ aP:=⟨rfl,rfl⟩
section
variable {f:Fw} {x:Fl} {r s n:Int} {co:Gc.C}
def pwk(k:rZ f):rZ (sQ f x r s):=by
 refine⟨xe8 k.sh,?_⟩;unfold sQ;split
 .cases v:u9 f with
  |true=>exact(LP (jo4 v)).ln
  |false=>
   have e:mI f r s=f:=by unfold mI;rw[v];rfl
   rw[e];exact k.ln
 .exact k.ln
def axk(k:rZ f):rZ (th f x n co):=by
 refine⟨zs2 k.sh,?_⟩;unfold th;split
 .rename_i e
  have e0:eZ f n co=0:=by
   by_cases q:eZ f n co=0
   .exact q
   .unfold qp at e;rw[au q]at e;exact absurd e q
  exact(LP (zh9 e0)).ln
 .exact k.ln
def Vh{g:Fw}{c:V4}:(n8 g c).line=g.line:=by unfold n8;split<;>rfl
def rvk(e:iO f x=0)(k:rZ f):rZ (ky f x):=by
 refine⟨Zx e k.sh,?_⟩;unfold ky
 split;.exact k.ln
 .rename_i r hr
  have rb:=(zt.1 (NZ (aik hr))).2.2.1;refine v5.2 ?_;unfold zA
  split
  .show 0<=(if r.line-1>0 then r.line-1 else 0)/\(if r.line-1>0 then r.line-1 else 0)<=1099511627776
   split<;>omega
  .unfold sF
   split;.unfold gA;rw[Vh,Vh];exact rb
   .split
    .exact rb
    .exact rb
end
section
variable {m:Ma} {c d:Co} {g h:Gu} {bc:Int} {l:List nO}
abbrev Q1(m:Ma)(c d:Co)(g h:Gu)(bc:Int)(l:List nO)(f:Fw)(x:Fl)(i:Int):Prop:=t9 pP (x9 pP 14) (.bool true) (x8 pP 14 0) (x7 220 [(1,LE l),(2,.ptr 0 0),(5,.ptr 1 0),(7,.ptr 2 0),(9,.ptr 3 0),(10,.ptr 4 0),(11,J i)]) [some (.cells (m.cells++(c.cells++(d.cells++(g.cells++(h.cells++[J bc])))))),some (.cells f.cells),some (.cells x.cells),some (.cells f.cells),some (.cells x.cells)]
theorem xg3{i kd:Int}{nb:Bool}{co:Gc.C}{n r s:Int}(hi:0<=i/\i<l.length)(hn:n<=9223372036854775807)(nx:∀ (f:Fw) (x:Fl),rZ f->o4 x=true->Q1 m c d g h bc l f x (i64.wrap (i+1))):∀ (j k:Nat) (f:Fw) (x:Fl),rZ f->o4 x=true->(j=0/\n<=k)\/k+j=n.toNat->t9 pP (x9 pP 14) (.bool true) (x8 pP 14 1) (x7 220 [(1,LE l),(2,.ptr 0 0),(5,.ptr 1 0),(7,.ptr 2 0),(9,.ptr 3 0),(10,.ptr 4 0),(11,J i),(12,.ptr 5 0),(27,J k)]) [some (.cells (m.cells++(c.cells++(d.cells++(g.cells++(h.cells++[J bc])))))),some (.cells f.cells),some (.cells x.cells),some (.cells f.cells),some (.cells x.cells),some (.cells (GL kd nb co n r s))]
 |j,k,f,x,v,fx,hk=>by
  refine o6 Md (n:=1000) (hint:=.unit) (keep:=Bt 220 [1,2,5,7,9,10,11] [1,2,5,7,9,10,11,12,27]) (p:=xg4) rfl ?_;erw [qu2 m c d g h bc f x l i kd nb co n r s k]
  have bd:(0<=i&&i< (l.length:Int))=true:=by rw[bn hi.1,bn hi.2];rfl
  have go:=nx f x v fx
  match j,hk with
  |0,hk=>exact o7 (λa=>absurd a (by omega)) λ_=>x0 (E8 _) (x0 v.sh (x0 (Og _) (x0 fx ⟨o5 _ _,go⟩)))
  |j+1,hk=>
   have w1:i64.wrap ((k:Int)+1)=((k+1:Nat):Int):=by rw[aG (by omega) (by omega)];omega
   have ih:=xg3 (kd:=kd) (nb:=nb) (co:=co) (r:=r) (s:=s) hi hn nx j (k+1) (sQ f x r s) (vH f x) (pwk v) (xe5 fx) (by omega);rw[w1]
   exact o7 (λa=>dI (λ_=>x0 bd (o7 (λ_=>x0 fx (x0 v.sh (x0 fx ⟨o5 _ _,ih⟩))) λ_=>x0 (E8 _) (x0 v.sh (x0 (Og _) (x0 fx ⟨o5 _ _,go⟩))))) λ_=>x0 (E8 _) (x0 v.sh (x0 (Og _) (x0 fx ⟨o5 _ _,go⟩)))) λa=>absurd (show(k:Int)<n by omega) a
def qB2{mx:Int}(hs:xS l mx=true){i:Nat}(hi:i<l.length):(l.getD i bo).1.2.2.2.1<=40:=(LU.1 hs).1 i hi
theorem xg1(k0:vj m c d g h bc=true)(hs:xS l 20=true)(hf:∀y∈l,GU.fits y):∀ (k i:Nat) (f:Fw) (x:Fl),rZ f->o4 x=true->i+k=l.length->Q1 m c d g h bc l f x i
 |0,i,f,x,v,fx,hi=>by
  refine o6 Md (n:=1000) (hint:=.unit) (keep:=Bt 220 [1,2,5,7,9,10,11] [1,2,5,7,9,10,11,12,27]) (p:=Qv) rfl ?_;erw [qu1 m c d g h bc f x l i]
  exact o7 (λa=>absurd a (by omega)) λ_=>rfl
 |k+1,i,f,x,v,fx,hi=>by
  refine o6 Md (n:=1000) (hint:=.unit) (keep:=Bt 220 [1,2,5,7,9,10,11] [1,2,5,7,9,10,11,12,27]) (p:=Qv) rfl ?_;erw [qu1 m c d g h bc f x l i];have ln:=(LU.1 hs).2
  have t0:(i:Int).toNat=i:=by omega
  have w1:i64.wrap ((i:Int)+1)=((i+1:Nat):Int):=by rw[aG (by omega) (by omega)];omega
  have n40:(l.getD i bo).1.2.2.2.1<=40:=qB2 hs (by omega)
  have ff:GU.fits (l.getD i bo):=hf _ (by
   rw[cK,cc (by omega)];exact Cb _)
  have hh:dN (l.getD i bo).1.2.2.1.2.1=true:=pJ.2 (jG7 ff.1.2.2.1.2.1)
  have nx:∀ (f:Fw) (x:Fl),rZ f->o4 x=true->Q1 m c d g h bc l f x (i64.wrap ((i:Int)+1)):=λf x v fx=>by rw[w1];exact xg1 k0 hs hf k (i+1) f x v fx (by omega)
  have bd:(0<=(i:Int)&&(i:Int)< (l.length:Int))=true:=by rw[bn (by omega),bn (by omega)];rfl
  have go:∀ (f:Fw) (x:Fl),rZ f->o4 x=true->t9 pP (x9 pP 14) (.bool true) (x8 pP 14 1) (x7 220 [(1,LE l),(2,.ptr 0 0),(5,.ptr 1 0),(7,.ptr 2 0),(9,.ptr 3 0),(10,.ptr 4 0),(11,J i),(12,.ptr 5 0),(27,J (0:Nat))]) [some (.cells (m.cells++(c.cells++(d.cells++(g.cells++(h.cells++[J bc])))))),some (.cells f.cells),some (.cells x.cells),some (.cells f.cells),some (.cells x.cells),some (.cells (Aw (l.getD i bo)))] :=λf x v fx=>
   xg3 (i:=i) (by omega) (by omega) nx (l.getD i bo).1.2.2.2.1.toNat 0 f x v fx (by omega)
  have vn:=XP k0;rw[t0];generalize l.getD i bo=ev at ff hh go n40 ⊢;have f1:=qD1 (n:=ev.2.1) (k:=ev.2.2) fx;have f2:=qy5 (f:=f) f1;have f3:=qD3 f2
  refine o7 (λa=>x0 bd (x0 bd (o7 (λ_=>?_) λ_=>iK (λ_=>?_) λ_=>⟨o5 _ _,go f x v fx⟩))) λa=>absurd (by omega) a
  .refine x0 bd (x0 bd (x0 fx (x0 f1 (x0 f2 (x0 bd (x0 bd (x0 fx (x0 f1 (x0 f2 (XS k0 (x0 f3 (x0 (MS vn) (o7 (λe=>?_) λe=>?_)))))))))))))
   .exact x0 f3 (o7 (λ_=>x0 (E8 _) (x0 (Zx e (MS vn)) ⟨o5 _ _,go _ _ (rvk e (LP vn)) f3⟩)) λq=>absurd e q)
   .exact x0 f3 (o7 (λq=>absurd q e) λ_=>dI (λq=>absurd rfl q) λ_=>x0 (E8 _) (x0 rfl ⟨o5 _ _,go aP _ qE5 f3⟩))
  .exact x0 v.ln (x0 fx (x0 v.sh (x0 v.ln (x0 fx (x0 hh (dI (λq=>absurd rfl q) λ_=>⟨o5 _ _,go _ _ (axk v) (zr9 fx)⟩))))))
def s_lawPRuns(m:Ma)(c d:Co)(g h:Gu)(bc:Int)(l:List nO)(hl:l.length<=maxLen)(hf:∀x∈l,GU.fits x):SCall pP 14 [.agg (m.cells++(c.cells++(d.cells++(g.cells++(h.cells++[J bc]))))),LE l] (.bool true):=by
 refine s8 rfl rfl (by kernel_rfl) (o6 Md (n:=1000) (hint:=.unit) (keep:=Bt 220 [1,2,5,7,9,10,11] [1,2,5,7,9,10,11,12,27]) (p:=xg0) (boxes:=[]) rfl ?_);have q:=qu0 m c d g h bc l;unfold v6 v7 at q;erw [q]
 exact t8 (λk=>x0 (q61.2 hl) (d8 (λ_=>rfl) λs=>⟨o5 _ _,xg1 k s hf l.length 0 _ (BY 6) (LP (XP k)) rfl (by omega)⟩)) λ_=>rfl
end
end Go.Proofs.YtnkaepnblikcdaaGreat
