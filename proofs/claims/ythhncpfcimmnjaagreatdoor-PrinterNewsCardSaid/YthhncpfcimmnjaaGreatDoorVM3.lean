/-
  Evaluator, closed run of the example, contracts, law.
-/
import Derived.Test.YthhncpfcimmnjaaGreatDoorVM2
import Derived.ProofKit
set_option maxRecDepth 100000
set_option linter.unusedVariables false
set_option linter.unusedSimpArgs false
open Go.IntKind (i64 u64)
namespace Go.Sx
open Go.RowKit
theorem RO.congr{w0:World}{R0:RSet}{ρ:Rho}{w:World}{m m2:Mem}(hg:∀id,m2.get id=m.get id):RO w0 R0 ρ w m2=RO w0 R0 ρ w m:=by
 funext b;unfold RO;simp only[hg]
theorem MRel.congr{w0:World}{R0:RSet}{ρ:Rho}{w:World}{m m2:Mem}(hg:∀id,m2.get id=m.get id)(hn:m2.next=m.next)(h:MRel w0 R0 ρ w m):MRel w0 R0 ρ w m2:=by
 refine⟨h.below,fun id B hB=>?_,fun id B hB=>h.lo id B (by rw[←hg];exact hB),fun id B hB=>h.hi id B (by rw[←hg];exact hB),fun id id' B B' hB hB'=>h.inj id id' B B' (by rw[←hg];exact hB) (by rw[←hg];exact hB'),fun id B hB=>?_,h.hid.1,fun id B hB=>h.hid.2 id B (by rw[←hg];exact hB)⟩
 ·rw[hn];exact h.lt id B (by rw[←hg];exact hB)
 ·rw[RO.congr hg,hn];exact h.box id B (by rw[←hg];exact hB)
theorem OpOut.congr{w0:World}{R0:RSet}{ρ:Rho}{w:World}{m m2 m' m2':Mem}{v:SV}{u:Value}{w':World}(hg:∀id,m2.get id=m.get id)(hn:m2.next=m.next)(hg':∀id,m2'.get id=m'.get id)(hn':m2'.next=m'.next)(h:OpOut w0 R0 ρ w m v m' u w'):OpOut w0 R0 ρ w m2 v m2' u w':=by
 obtain⟨ρ',g1,g2,g3⟩:=h
 refine⟨ρ',g1.congr hg' hn',?_,?_⟩
 ·unfold MExt
  rw[RO.congr hg,RO.congr hg',hn,hn'];exact g2
 ·rw[RO.congr hg',hn'];exact g3
theorem SemOp.congr{P:Program}{m m2 m' m2':Mem}{v:SV}{o:Oper}{ev:Operand→SV}(hg:∀id,m2.get id=m.get id)(hn:m2.next=m.next)(hg':∀id,m2'.get id=m'.get id)(hn':m2'.next=m'.next)(h:SemOp P m v m' o ev):SemOp P m2 v m2' o ev:=by
 intro w0 R0 ρ w eb hm hev
 have h1:=h w0 R0 ρ w eb (hm.congr (fun id=>(hg id).symm) hn.symm) (fun x hx=>by rw[←RO.congr hg,←hn];exact hev x hx)
 exact OpPost.mono (fun u w' hu=>hu.congr hg hn hg' hn') h1
theorem setT_any{β γ α:Type}{L:α→Prop}:∀ (d:Nat) (t:Tb β) (i:Nat) (v:Option β) (k:Tb β→Tree α),(setT d t i v k).holds L→∀ (t2:Tb γ) (v2:Option γ),∃t2',∀ (δ:Type) (k2:Tb γ→Tree δ),setT d t2 i v2 k2=k2 t2'
 |0,_,_,_,_,h=>h.elim
 |d+1,t,0,v,k,h=>fun t2 v2=>by
  cases t2 with
  |e=>exact⟨_,fun _ _=>rfl⟩
  |n l u r=>exact⟨_,fun _ _=>rfl⟩
 |d+1,t,j+1,v,k,h=>fun t2 v2=>by
  have down:∃ (t':Tb β) (α':Type) (L':α'→Prop) (k':Tb β→Tree α'),(setT d t' (j / 2) v k').holds L':=by
   cases t with
   |e=>
    rw[setT_e]at h
    by_cases hj:j % 2=0
    ·rw[Tb.pick_even hj]at h;exact⟨_,_,_,_,h⟩
    ·rw[Tb.pick_odd hj]at h;exact⟨_,_,_,_,h⟩
   |n l u r=>
    rw[setT_n]at h
    by_cases hj:j % 2=0
    ·rw[Tb.pick_even hj]at h;exact⟨_,_,_,_,h⟩
    ·rw[Tb.pick_odd hj]at h;exact⟨_,_,_,_,h⟩
  obtain⟨t',α',L',k',h'⟩:=down
  cases t2 with
  |e=>
   obtain⟨t3,h3⟩:=setT_any d t' (j / 2) v k' h' (.e:Tb γ) v2
   by_cases hj:j % 2=0
   ·exact⟨_,fun δ k2=>by
     rw[setT_e]
     rw[Tb.pick_even hj,h3]⟩
   ·exact⟨_,fun δ k2=>by
     rw[setT_e]
     rw[Tb.pick_odd hj,h3]⟩
  |n l u r=>
   by_cases hj:j % 2=0
   ·obtain⟨t3,h3⟩:=setT_any d t' (j / 2) v k' h' l v2
    exact⟨_,fun δ k2=>by
     rw[setT_n]
     rw[Tb.pick_even hj,h3]⟩
   ·obtain⟨t3,h3⟩:=setT_any d t' (j / 2) v k' h' r v2
    exact⟨_,fun δ k2=>by
     rw[setT_n]
     rw[Tb.pick_odd hj,h3]⟩
theorem setT_run{β:Type}{d:Nat}{t t':Tb β}{i:Nat}{v:Option β}(h:∀ (δ:Type) (k2:Tb β→Tree δ),setT d t i v k2=k2 t'):TbSet t i v t':=by
 obtain⟨t2,g1,g2⟩:=holds_setT (L:=fun x=>x=t') d t i v .leaf (by rw[h];exact rfl)
 obtain rfl:t2=t':=g2
 exact g1
theorem Mem.set_any{α:Type}{L:α→Prop}{m:Mem}{id:Nat}{b:Option Box}{k:Mem→Tree α}(h:(m.set id b k).holds L)(m2:Mem)(b2:Option Box):∃m2',MSet m2 id b2 m2'∧∀ (δ:Type) (k2:Mem→Tree δ),m2.set id b2 k2=k2 m2':=by
 obtain⟨t',ht⟩:=setT_any 40 m.tb id b (fun tb=>k ⟨m.next,tb⟩) h m2.tb b2
 exact⟨⟨m2.next,t'⟩,⟨setT_run ht,rfl⟩,fun δ k2=>ht δ _⟩
theorem Mem.push_any{α:Type}{L:α→Prop}{m:Mem}{B:Box}{k:Mem→Nat→Tree α}(h:(m.push B k).holds L)(m2:Mem)(B2:Box)(hn:m2.next=m.next):∃m2',MPush m2 B2 m2'∧∀ (δ:Type) (k2:Mem→Nat→Tree δ),m2.push B2 k2=k2 m2' m2.next:=by
 unfold Mem.push at h
 rw[frcN_eq]at h
 obtain⟨t',ht⟩:=setT_any 40 m.tb m.next (some B) (fun tb=>k ⟨m.next+1,tb⟩ m.next) h m2.tb (some B2)
 rw[←hn]at ht
 refine⟨⟨m2.next+1,t'⟩,⟨setT_run ht,rfl⟩,fun δ k2=>?_⟩
 unfold Mem.push
 rw[frcN_eq]
 exact ht δ _
theorem overK_flat{α:Type}{L:α→Prop}:∀ (cs:List SV) (off:Nat) (vs:List SV) (k:List SV→Tree α),(overK cs off vs k).holds L→∃r,(k r).holds L∧∀ (δ:Type) (k2:List SV→Tree δ),overK cs off vs k2=k2 r
 |[],off,[],k,h=>⟨[],h,fun _ _=>rfl⟩
 |[],off,_::_,k,h=>h.elim
 |c::cs,off,[],k,h=>⟨_,h,fun _ _=>rfl⟩
 |c::cs,0,v::vs,k,h=>by
  change (frc v fun v=>overK cs 0 vs fun ys=>k (v::ys)).holds L at h
  rw[frc_eq]at h
  obtain⟨r,h1,h2⟩:=overK_flat cs 0 vs _ h
  refine⟨_,h1,fun δ k2=>?_⟩
  change (frc v fun v=>overK cs 0 vs fun ys=>k2 (v::ys))=_
  rw[frc_eq,h2]
 |c::cs,off+1,v::vs,k,h=>by
  change (overK cs off (v::vs) fun ys=>k (c::ys)).holds L at h
  obtain⟨r,h1,h2⟩:=overK_flat cs off (v::vs) _ h
  exact⟨_,h1,fun δ k2=>by
   change (overK cs off (v::vs) fun ys=>k2 (c::ys))=_
   rw[h2]⟩
theorem only_holds{α:Type}{L:α→Prop}{m:Mem}:∀ (ids:List Nat) (mF:Mem) (k:Mem→Tree α),(m.only ids mF k).holds L→∃mF',(k mF').holds L∧mF'.next=mF.next∧∀id,mF'.get id=if id∈ids∧(m.get id).isSome=true then m.get id else mF.get id
 |[],mF,k,h=>⟨mF,h,rfl,fun id=>by simp⟩
 |i::ids,mF,k,h=>by
  change ((match m.get i with
   |some B=>mF.set i (some B) fun mF=>m.only ids mF k
   |none=>m.only ids mF k:Tree α)).holds L at h
  cases hi:m.get i with
  |none=>
   rw[hi]at h
   obtain⟨mF',h1,h2,h3⟩:=only_holds ids mF k h
   refine⟨mF',h1,h2,fun id=>?_⟩
   rw[h3 id]
   by_cases e:id=i
   ·subst e;rw[hi];simp
   ·simp[e]
  |some B=>
   rw[hi]at h
   obtain⟨m1,g1,g2⟩:=Mem.set_holds h
   obtain⟨mF',h1,h2,h3⟩:=only_holds ids m1 k g2
   refine⟨mF',h1,h2.trans g1.2,fun id=>?_⟩
   rw[h3 id,g1.1 id]
   by_cases e:id=i
   ·subst e;rw[hi];simp
   ·simp[e]
theorem only_get{α:Type}{L:α→Prop}{m:Mem}{ids:List Nat}{k:Mem→Tree α}(h:(m.only ids ⟨m.next,.e⟩ k).holds L):∃mF,(k mF).holds L∧mF.next=m.next∧(∀id∈ids,mF.get id=m.get id)∧∀id,id∉ids→mF.get id=none:=by
 obtain⟨mF,h1,h2,h3⟩:=only_holds ids _ k h
 refine⟨mF,h1,h2,fun id hid=>?_,fun id hid=>?_⟩
 ·rw[h3 id]
  cases hx:m.get id with
  |none=>simp;exact emptyMem_get' _ id
  |some B=>simp[hid]
 ·rw[h3 id,if_neg (fun c=>hid c.1)];exact emptyMem_get' _ id
where emptyMem_get' (n k:Nat):(⟨n,.e⟩:Mem).get k=none:=rfl
theorem patch_holds{α:Type}{L:α→Prop}{mF:Mem}:∀ (ids:List Nat) (m:Mem) (k:Mem→Tree α),(Mem.patch mF ids m k).holds L→∃m',(k m').holds L∧m'.next=m.next∧∀id,m'.get id=if id∈ids then mF.get id else m.get id
 |[],m,k,h=>⟨m,h,rfl,fun id=>by simp⟩
 |i::ids,m,k,h=>by
  change (m.set i (mF.get i) fun m=>Mem.patch mF ids m k).holds L at h
  obtain⟨m1,g1,g2⟩:=Mem.set_holds h
  obtain⟨m',h1,h2,h3⟩:=patch_holds ids m1 k g2
  refine⟨m',h1,h2.trans g1.2,fun id=>?_⟩
  rw[h3 id,g1.1 id]
  by_cases e:id=i
  ·subst e;simp
  ·simp[e]
section
variable {P:Program} {E:Env} {α:Type} {L:α→Prop}
theorem noCall_ok{Q:Bool}:CallOK P Q (fun _ _ _ _ _=>.fail 0:CallK α):=fun f args p m κ L h=>h.elim
theorem semOp_of_run(hE:EOK P E){call:CallK (SV×Mem)}(hcall:CallOK P false call){ev:Operand→SV}{o:Oper}{p:Plan}{m m':Mem}{v:SV}
  (h:(execOp E call ev o.op p m fun v _ m=>.leaf (v,m)).holds fun y=>y.1=v∧(∀id,y.2.get id=m'.get id)∧y.2.next=m'.next):SemOp P m v m' o ev:=by
 obtain⟨v1,p1,m1,h1,_,h2,_⟩:=execOp_sound hE hcall h
 obtain⟨rfl,h3,h4⟩:=h1
 exact h2.congr (fun _=>rfl) rfl (fun id=>(h3 id).symm) h4.symm
theorem opStore_at{t:TypeId}{a v:SV}{p:Plan}{m:Mem}{κ:Kont α}(h:(opStore E t a v p m κ).holds L):
  ∃m',(κ .undef p m').holds L∧∀ (m2 m2':Mem) (p2:Plan),(∀id∈idsV a [],m2.get id=m.get id)→(∀id,m2'.get id=if id∈idsV a []then m'.get id else m2.get id)→m2'.next=m2.next→
   (opStore E t a v p2 m2 fun v _ m=>.leaf (v,m)).holds fun y=>y.1=.undef∧(∀id,y.2.get id=m2'.get id)∧y.2.next=m2'.next:=by
 unfold opStore at h
 cases hr:E.row t with
 |none=>rw[hr]at h;exact h.elim
 |some r=>
  rw[hr]at h
  dsimp only at h
  split at h
  ·exact h.elim
  ·rename_i hs
   cases a<;>try exact h.elim
   case ptr id off=>
    dsimp only at h
    cases hg:m.get id with
    |none=>rw[hg]at h;exact h.elim
    |some B=>
     rw[hg]at h
     cases B<;>try exact h.elim
     case cells cs=>
      dsimp only at h
      obtain⟨cs',h1,h2⟩:=overK_flat _ _ _ _ h
      obtain⟨m',h3,h4⟩:=Mem.set_holds h1
      refine⟨m',h4,fun m2 m2' p2 ha hp hn=>?_⟩
      have ha:=ha id (by simp[idsV,addId,idx])
      obtain⟨m3,h5,h6⟩:=Mem.set_any h1 m2 (some (.cells cs'))
      unfold opStore
      rw[hr]
      dsimp only
      rw[hs]
      dsimp only
      rw[ha,hg]
      dsimp only
      rw[h2,h6]
      refine⟨rfl,fun id'=>?_,h5.2.trans hn.symm⟩
      rw[h5.1 id',hp id',h3.1 id']
      by_cases e:id'=id
      ·subst e;simp[idsV,addId,idx]
      ·simp[idsV,addId,idx,e]
     case obj u cs=>
      dsimp only at h
      obtain⟨cs',h1,h2⟩:=overK_flat _ _ _ _ h
      obtain⟨m',h3,h4⟩:=Mem.set_holds h1
      refine⟨m',h4,fun m2 m2' p2 ha hp hn=>?_⟩
      have ha:=ha id (by simp[idsV,addId,idx])
      obtain⟨m3,h5,h6⟩:=Mem.set_any h1 m2 (some (.obj u cs'))
      unfold opStore
      rw[hr]
      dsimp only
      rw[hs]
      dsimp only
      rw[ha,hg]
      dsimp only
      rw[h2,h6]
      refine⟨rfl,fun id'=>?_,h5.2.trans hn.symm⟩
      rw[h5.1 id',hp id',h3.1 id']
      by_cases e:id'=id
      ·subst e;simp[idsV,addId,idx]
      ·simp[idsV,addId,idx,e]
   case vptr id off=>
    dsimp only at h
    cases hg:m.get id with
    |none=>rw[hg]at h;exact h.elim
    |some B=>
     rw[hg]at h
     cases B<;>try exact h.elim
     case vec cs=>
      dsimp only at h
      obtain⟨cs',h1,h2⟩:=overK_flat _ _ _ _ h
      obtain⟨m',h3,h4⟩:=Mem.set_holds h1
      refine⟨m',h4,fun m2 m2' p2 ha hp hn=>?_⟩
      have ha:=ha id (by simp[idsV,addId,idx])
      obtain⟨m3,h5,h6⟩:=Mem.set_any h1 m2 (some (.vec cs'))
      unfold opStore
      rw[hr]
      dsimp only
      rw[hs]
      dsimp only
      rw[ha,hg]
      dsimp only
      rw[h2,h6]
      refine⟨rfl,fun id'=>?_,h5.2.trans hn.symm⟩
      rw[h5.1 id',hp id',h3.1 id']
      by_cases e:id'=id
      ·subst e;simp[idsV,addId,idx]
      ·simp[idsV,addId,idx,e]
   case rptr id sz i off=>
    dsimp only at h
    cases hg:m.get id with
    |none=>rw[hg]at h;exact h.elim
    |some B=>
     rw[hg]at h
     cases B<;>try exact h.elim
     case rows u l=>
      dsimp only at h
      split at h
      ·rename_i hsz
       obtain⟨hi0,h⟩:=h
       obtain⟨cs',h1,h2⟩:=overK_flat _ _ _ _ h
       split at h1
       ·rename_i x hx
        obtain⟨m',h3,h4⟩:=Mem.set_holds h1
        refine⟨m',h4,fun m2 m2' p2 ha hp hn=>?_⟩
        have ha:=ha id (by simp[idsV,addId,idx])
        obtain⟨m3,h5,h6⟩:=Mem.set_any h1 m2 (some (.rows u (l.set i x)))
        unfold opStore
        rw[hr]
        dsimp only
        rw[hs]
        dsimp only
        rw[ha,hg]
        dsimp only
        rw[hsz]
        dsimp only
        refine⟨hi0,?_⟩
        rw[h2,hx]
        dsimp only
        rw[h6]
        refine⟨rfl,fun id'=>?_,h5.2.trans hn.symm⟩
        rw[h5.1 id',hp id',h3.1 id']
        by_cases e:id'=id
        ·subst e;simp[idsV,addId,idx]
        ·simp[idsV,addId,idx,e]
       ·exact h1.elim
      ·exact h.elim
theorem elemsOf_agree{u:Ty}{m m2:Mem}{x:SV}(h:∀id,ment id x=true→m2.get id=m.get id):elemsOf u m2 x=elemsOf u m x:=by
 cases x<;>try rfl
 case row id=>
  have:=h id (by simp[ment])
  simp only[elemsOf,this]
 case arr id off n=>
  have:=h id (by simp[ment])
  simp only[elemsOf,this]
theorem mem_range1{id n k:Nat}:id∈List.range' n k↔n≤id∧id<n+k:=by simp[List.mem_range'_1]
theorem opAppend_at{t:TypeId}{s x:SV}{p:Plan}{m:Mem}{κ:Kont α}(h:(opAppend E t s x p m κ).holds L):
  ∃v p' m',(κ v p' m').holds L∧m.next≤m'.next∧∀ (F:List Nat) (m2 m2':Mem),(∀id,ment id s=true∨ment id x=true→id∈F)→(∀id∈F,m2.get id=m.get id)→m2.next=m.next→
   (∀id,m2'.get id=if id∈F++List.range' m.next (m'.next-m.next)then m'.get id else m2.get id)→m2'.next=m'.next→
   (opAppend E t s x .auto m2 fun v _ m=>.leaf (v,m)).holds fun y=>y.1=v∧(∀id,y.2.get id=m2'.get id)∧y.2.next=m2'.next:=by
 unfold opAppend at h
 split at h
 ·rename_i e sz by_ ze ty0 eg he hrow
  split at h
  ·rename_i de size bytes ze' u eg' he' hre
   split at h
   ·rename_i hs
    split at h
    ·rename_i xs hxs
     split at h
     · -- nil
       obtain⟨hb,h⟩:=h
       obtain⟨m',h1,h2⟩:=Mem.push_holds h
       refine⟨_,p,m',h2,by rw[h1.2];omega,fun F m2 m2' hF ha hn hp hn'=>?_⟩
       obtain⟨m3,h5,h6⟩:=Mem.push_any h m2 (.rows u xs) hn
       unfold opAppend
       rw[hrow];dsimp only
       rw[hre];dsimp only
       rw[hs];dsimp only
       rw[elemsOf_agree (fun id hid=>ha id (hF id (.inr hid))),hxs];dsimp only
       refine⟨hb,?_⟩
       rw[h6]
       refine⟨by rw[hn],fun id=>?_,by rw[h5.2,hn,hn',h1.2]⟩
       rw[h5.1 id,hp id,h1.1 id,hn]
       simp only[List.mem_append,mem_range1,h1.2]
       by_cases e1:id=m.next
       ·subst e1;simp
       ·rw[if_neg e1,if_neg e1]
        by_cases e2:id∈F
        ·rw[if_pos (.inl e2)];exact ha id e2
        ·rw[if_neg (fun c=>c.elim e2 fun c=>by omega)]
     · -- a row
       rename_i id
       split at h
       ·rename_i v l hg
        split at h
        ·rename_i hv
         obtain⟨hb,h⟩:=h
         obtain⟨m1,h1,h2⟩:=Mem.set_holds h
         obtain⟨m',h3,h4⟩:=Mem.push_holds h2
         refine⟨_,p,m',h4,by rw[h3.2,h1.2];omega,fun F m2 m2' hF ha hn hp hn'=>?_⟩
         have hid:id∈F:=hF id (.inl (by simp[ment]))
         obtain⟨m4,h5,h6⟩:=Mem.set_any h m2 none
         obtain⟨m5,h7,h8⟩:=Mem.push_any h2 m4 (.rows u ((hv▸l:List u.T)++xs)) (by rw[h5.2,h1.2,hn])
         unfold opAppend
         rw[hrow];dsimp only
         rw[hre];dsimp only
         rw[hs];dsimp only
         rw[elemsOf_agree (fun id hid=>ha id (hF id (.inr hid))),hxs];dsimp only
         rw[ha id hid,hg];dsimp only
         rw[dif_pos hv]
         refine⟨hb,?_⟩
         rw[h6,h8]
         refine⟨by rw[h5.2,h1.2,hn],fun j=>?_,by rw[h7.2,h5.2,hn,hn',h3.2,h1.2]⟩
         rw[h7.1 j,hp j,h3.1 j,h5.2,h1.2,hn]
         simp only[List.mem_append,mem_range1,h3.2,h1.2]
         by_cases e1:j=m.next
         ·subst e1;simp
         ·rw[if_neg e1,if_neg e1,h5.1 j,h1.1 j]
          by_cases e3:j=id
          ·subst e3;rw[if_pos rfl,if_pos rfl];simp[hid]
          ·rw[if_neg e3,if_neg e3]
           by_cases e2:j∈F
           ·rw[if_pos (.inl e2)];exact ha j e2
           ·rw[if_neg (fun c=>c.elim e2 fun c=>by omega)]
        ·exact h.elim
       ·exact h.elim
     · -- an array's slice
       rename_i id off n
       split at h
       ·rename_i l hl
        obtain⟨p',h⟩:=dec_holds h
        cases hxe:xs.isEmpty with
        |true=>
         rw[hxe]at h
         refine⟨_,p',m,h,Nat.le_refl _,fun F m2 m2' hF ha hn hp hn'=>?_⟩
         unfold opAppend
         rw[hrow];dsimp only
         rw[hre];dsimp only
         rw[hs];dsimp only
         rw[elemsOf_agree (fun id hid=>ha id (hF id (.inr hid))),hxs];dsimp only
         rw[elemsOf_agree (fun id hid=>ha id (hF id (.inl hid))),hl];dsimp only
         rw[hxe]
         refine⟨rfl,fun j=>?_,by rw[hn,hn']⟩
         rw[hp j]
         by_cases e2:j∈F
         ·rw[if_pos (List.mem_append_left _ e2)];exact ha j e2
         ·rw[if_neg (by simp[e2])]
        |false=>
         rw[hxe]at h
         obtain⟨hb,h⟩:=h
         obtain⟨m',h1,h2⟩:=Mem.push_holds h
         refine⟨_,p',m',h2,by rw[h1.2];omega,fun F m2 m2' hF ha hn hp hn'=>?_⟩
         obtain⟨m3,h5,h6⟩:=Mem.push_any h m2 (.rows u (l++xs)) hn
         unfold opAppend
         rw[hrow];dsimp only
         rw[hre];dsimp only
         rw[hs];dsimp only
         rw[elemsOf_agree (fun id hid=>ha id (hF id (.inr hid))),hxs];dsimp only
         rw[elemsOf_agree (fun id hid=>ha id (hF id (.inl hid))),hl];dsimp only
         rw[hxe]
         refine⟨hb,?_⟩
         rw[h6]
         refine⟨by rw[hn],fun id=>?_,by rw[h5.2,hn,hn',h1.2]⟩
         rw[h5.1 id,hp id,h1.1 id,hn]
         simp only[List.mem_append,mem_range1,h1.2]
         by_cases e1:id=m.next
         ·subst e1;simp
         ·rw[if_neg e1,if_neg e1]
          by_cases e2:id∈F
          ·rw[if_pos (.inl e2)];exact ha id e2
          ·rw[if_neg (fun c=>c.elim e2 fun c=>by omega)]
       ·exact h.elim
     ·exact h.elim
    ·exact h.elim
   ·exact h.elim
  ·exact h.elim
 ·exact h.elim
theorem adopt1_at{v:SV}{mc m:Mem}{k:SV→Mem→Mem→Tree α}(h:(adopt1 v mc m k).holds L):∃v' mc' m',(k v' mc' m').holds L∧m.next≤m'.next∧(∀id,¬(m.next≤id∧id<m'.next)→m'.get id=m.get id)∧
  ∀m2:Mem,m2.next=m.next→∃m2',m2'.next=m'.next∧(∀id,m2'.get id=if m.next≤id∧id<m'.next then m'.get id else m2.get id)∧∀ (δ:Type) (k2:SV→Mem→Mem→Tree δ),adopt1 v mc m2 k2=k2 v' mc' m2':=by
 have plain:∀v:SV,(∀ (m:Mem) (δ:Type) (k:SV→Mem→Mem→Tree δ),adopt1 v mc m k=k v mc m)→(k v mc m).holds L→∃v' mc' m',(k v' mc' m').holds L∧m.next≤m'.next∧(∀id,¬(m.next≤id∧id<m'.next)→m'.get id=m.get id)∧
   ∀m2:Mem,m2.next=m.next→∃m2',m2'.next=m'.next∧(∀id,m2'.get id=if m.next≤id∧id<m'.next then m'.get id else m2.get id)∧∀ (δ:Type) (k2:SV→Mem→Mem→Tree δ),adopt1 v mc m2 k2=k2 v' mc' m2':=
  fun v he h=>⟨v,mc,m,h,Nat.le_refl _,fun _ _=>rfl,fun m2 hn=>⟨m2,hn,fun id=>by rw[if_neg (by omega)],fun δ k2=>he m2 δ k2⟩⟩
 cases v with
 |row id=>
  dsimp only[adopt1]at h
  split at h
  ·rename_i t l hg
   obtain⟨mc',_,h6⟩:=Mem.set_any h mc none
   rw[h6]at h
   obtain⟨m',h3,h4⟩:=Mem.push_any h m (.rows t l) rfl
   rw[h4]at h
   refine⟨_,mc',m',h,by rw[h3.2];omega,fun j hj=>by rw[h3.1 j,if_neg (by rw[h3.2]at hj;omega)],fun m2 hn=>?_⟩
   have h0:(m.push (.rows t l) fun m id=>k (.row id) mc' m).holds L:=by rw[h4];exact h
   obtain⟨m3,h7,h8⟩:=Mem.push_any h0 m2 (.rows t l) hn
   refine⟨m3,by rw[h7.2,h3.2,hn],fun j=>?_,fun δ k2=>?_⟩
   ·rw[h7.1 j,h3.1 j,h3.2,hn]
    by_cases e1:j=m.next
    ·subst e1;simp
    ·rw[if_neg e1,if_neg e1,if_neg (by omega)]
   ·simp only[adopt1,hg]
    rw[h6,h8,hn]
  ·exact h.elim
 |undef=>exact plain _ (fun _ _ _=>rfl) h
 |top=>exact h.elim
 |int a b=>exact plain _ (fun _ _ _=>rfl) h
 |bool a=>exact plain _ (fun _ _ _=>rfl) h
 |str a=>exact plain _ (fun _ _ _=>rfl) h
 |nilS=>exact plain _ (fun _ _ _=>rfl) h
 |list a b=>exact plain _ (fun _ _ _=>rfl) h
 |arr a b c=>exact h.elim
 |ptr a b=>exact h.elim
 |nilP=>exact plain _ (fun _ _ _=>rfl) h
 |eptr a b c d=>exact plain _ (fun _ _ _=>rfl) h
 |rptr a b c d=>exact h.elim
 |agg cs=>
  dsimp only[adopt1]at h
  split at h
  ·rename_i hd;exact plain _ (fun _ _ _=>by dsimp only[adopt1];rw[hd]) h
  ·exact h.elim
 |tuple cs=>
  dsimp only[adopt1]at h
  split at h
  ·rename_i hd;exact plain _ (fun _ _ _=>by dsimp only[adopt1];rw[hd]) h
  ·exact h.elim
 |fn f a c=>
  dsimp only[adopt1]at h
  split at h
  ·rename_i hd;exact plain _ (fun _ _ _=>by dsimp only[adopt1];rw[hd]) h
  ·exact h.elim
 |raw u=>exact plain _ (fun _ _ _=>rfl) h
 |vsl=>exact h.elim
 |vptr=>exact h.elim
 |mp=>exact h.elim
theorem adoptL_at:∀ (vs:List SV) (mc m:Mem) (k:List SV→Mem→Mem→Tree α),(adoptL vs mc m k).holds L→∃vs' mc' m',(k vs' mc' m').holds L∧m.next≤m'.next∧(∀id,¬(m.next≤id∧id<m'.next)→m'.get id=m.get id)∧
  ∀m2:Mem,m2.next=m.next→∃m2',m2'.next=m'.next∧(∀id,m2'.get id=if m.next≤id∧id<m'.next then m'.get id else m2.get id)∧∀ (δ:Type) (k2:List SV→Mem→Mem→Tree δ),adoptL vs mc m2 k2=k2 vs' mc' m2'
 |[],mc,m,k,h=>⟨[],mc,m,h,Nat.le_refl _,fun _ _=>rfl,fun m2 hn=>⟨m2,hn,fun id=>by rw[if_neg (by omega)],fun δ k2=>rfl⟩⟩
 |v::vs,mc,m,k,h=>by
  change (adopt1 v mc m fun v mc m=>adoptL vs mc m fun vs mc m=>k (v::vs) mc m).holds L at h
  obtain⟨v',mc1,m1,h1,l1,g1,a1⟩:=adopt1_at h
  obtain⟨vs',mc',m',h2,l2,g2,a2⟩:=adoptL_at vs mc1 m1 _ h1
  refine⟨v'::vs',mc',m',h2,Nat.le_trans l1 l2,fun id hid=>by rw[g2 id (by omega),g1 id (by omega)],fun m2 hn=>?_⟩
  obtain⟨m3,n3,e3,k3⟩:=a1 m2 hn
  obtain⟨m4,n4,e4,k4⟩:=a2 m3 n3
  refine⟨m4,n4,fun id=>?_,fun δ k2=>?_⟩
  ·rw[e4 id,e3 id]
   by_cases c2:m1.next≤id∧id<m'.next
   ·rw[if_pos c2,if_pos (by omega)]
   ·rw[if_neg c2]
    by_cases c1:m.next≤id∧id<m1.next
    ·rw[if_pos c1,if_pos (by omega),g2 id c2]
    ·rw[if_neg c1,if_neg (by omega)]
  ·change (adopt1 v mc m2 fun v mc m=>adoptL vs mc m fun vs mc m=>k2 (v::vs) mc m)=_
   rw[k3,k4]
theorem adopt_at{v:SV}{mc m:Mem}{k:SV→Mem→Tree α}(h:(adopt v mc m k).holds L):∃v' m',(k v' m').holds L∧m.next≤m'.next∧(∀id,¬(m.next≤id∧id<m'.next)→m'.get id=m.get id)∧
  ∀m2:Mem,m2.next=m.next→∃m2',m2'.next=m'.next∧(∀id,m2'.get id=if m.next≤id∧id<m'.next then m'.get id else m2.get id)∧∀ (δ:Type) (k2:SV→Mem→Tree δ),adopt v mc m2 k2=k2 v' m2':=by
 have one:∀v:SV,(∀ (m:Mem) (δ:Type) (k:SV→Mem→Tree δ),adopt v mc m k=adopt1 v mc m fun v _ m=>k v m)→(adopt1 v mc m fun v _ m=>k v m).holds L→∃v' m',(k v' m').holds L∧m.next≤m'.next∧(∀id,¬(m.next≤id∧id<m'.next)→m'.get id=m.get id)∧
   ∀m2:Mem,m2.next=m.next→∃m2',m2'.next=m'.next∧(∀id,m2'.get id=if m.next≤id∧id<m'.next then m'.get id else m2.get id)∧∀ (δ:Type) (k2:SV→Mem→Tree δ),adopt v mc m2 k2=k2 v' m2':=by
  intro v he h
  obtain⟨v',mc',m',h1,l1,g1,a1⟩:=adopt1_at h
  refine⟨v',m',h1,l1,g1,fun m2 hn=>?_⟩
  obtain⟨m3,n3,e3,k3⟩:=a1 m2 hn
  exact⟨m3,n3,e3,fun δ k2=>by rw[he,k3]⟩
 cases v with
 |tuple vs=>
  obtain⟨v',mc',m',h1,l1,g1,a1⟩:=adoptL_at vs mc m _ h
  refine⟨_,m',h1,l1,g1,fun m2 hn=>?_⟩
  obtain⟨m3,n3,e3,k3⟩:=a1 m2 hn
  exact⟨m3,n3,e3,fun δ k2=>k3 _ _⟩
 |agg vs=>
  obtain⟨v',mc',m',h1,l1,g1,a1⟩:=adoptL_at vs mc m _ h
  refine⟨_,m',h1,l1,g1,fun m2 hn=>?_⟩
  obtain⟨m3,n3,e3,k3⟩:=a1 m2 hn
  exact⟨m3,n3,e3,fun δ k2=>k3 _ _⟩
 |_=>exact one _ (fun _ _ _=>rfl) h
end
section
variable {P:Program} {E:Env} {α:Type} {L:α→Prop}
def CallGOK(P:Program)(call:CallK α):Prop:=
 ∀f args p m (κ:Kont α) (L:α→Prop),(call f args p m κ).holds L→∃v p' m',(κ v p' m').holds L∧m.next≤m'.next∧∀ (F:List Nat) (m2 m2':Mem),(∀id,mentL id args=true→id∈F)→(∀id∈F,m2.get id=m.get id)→m2.next=m.next→
  (∀id,m2'.get id=if id∈F++List.range' m.next (m'.next-m.next)then m'.get id else m2.get id)→m2'.next=m'.next→SemCall P m2 v m2' f args
theorem mentL_mem{id:Nat}:∀{l:List SV} {x:SV},x∈l→ment id x=true→mentL id l=true
 |y::l,x,h,hm=>by
  show(ment id y||mentL id l)=true
  rcases List.mem_cons.1 h with rfl|h
  ·rw[hm];rfl
  ·rw[mentL_mem h hm];simp
theorem idx_mem:∀{l:List Nat} {k j:Nat},idx l k=some j→k∈l
 |x::l,k,j,h=>by
  unfold idx at h
  split at h
  ·rename_i hx
   rw[Nat.eq_of_beq_eq_true hx];exact List.mem_cons_self
  ·split at h
   ·rename_i j' hj
    exact List.mem_cons_of_mem _ (idx_mem hj)
   ·cases h
theorem addId_mem{id:Nat}{l:List Nat}:id∈addId id l∧∀k∈l,k∈addId id l:=by
 unfold addId
 split
 ·rename_i j hj;exact⟨idx_mem hj,fun k hk=>hk⟩
 ·exact⟨by simp,fun k hk=>by simp[hk]⟩
mutual
theorem idsV_mem{k:Nat}:∀ (x:SV) (l:List Nat),(ment k x=true→k∈idsV x l)∧∀j∈l,j∈idsV x l
 |.undef,l=>⟨fun h=>(by cases h),fun j hj=>hj⟩
 |.top,l=>⟨fun h=>(by cases h),fun j hj=>hj⟩
 |.int _ _,l=>⟨fun h=>(by cases h),fun j hj=>hj⟩
 |.bool _,l=>⟨fun h=>(by cases h),fun j hj=>hj⟩
 |.str _,l=>⟨fun h=>(by cases h),fun j hj=>hj⟩
 |.nilS,l=>⟨fun h=>(by cases h),fun j hj=>hj⟩
 |.list _ _,l=>⟨fun h=>(by cases h),fun j hj=>hj⟩
 |.row id,l=>⟨fun h=>by rw[←Nat.eq_of_beq_eq_true (show Nat.beq id k=true from h)];exact addId_mem.1,addId_mem.2⟩
 |.arr id _ _,l=>⟨fun h=>by rw[←Nat.eq_of_beq_eq_true (show Nat.beq id k=true from h)];exact addId_mem.1,addId_mem.2⟩
 |.ptr id _,l=>⟨fun h=>by rw[←Nat.eq_of_beq_eq_true (show Nat.beq id k=true from h)];exact addId_mem.1,addId_mem.2⟩
 |.nilP,l=>⟨fun h=>(by cases h),fun j hj=>hj⟩
 |.eptr _ _ _ _,l=>⟨fun h=>(by cases h),fun j hj=>hj⟩
 |.rptr id _ _ _,l=>⟨fun h=>by rw[←Nat.eq_of_beq_eq_true (show Nat.beq id k=true from h)];exact addId_mem.1,addId_mem.2⟩
 |.agg cs,l=>idsL_mem cs l
 |.tuple cs,l=>idsL_mem cs l
 |.fn _ a b,l=>by
  obtain⟨a1,a2⟩:=idsL_mem (k:=k) a l
  obtain⟨b1,b2⟩:=idsL_mem (k:=k) b (idsL a l)
  refine⟨fun h=>?_,fun j hj=>b2 j (a2 j hj)⟩
  have h:(mentL k a||mentL k b)=true:=h
  rcases Bool.or_eq_true _ _▸h with h|h
  ·exact b2 k (a1 h)
  ·exact b1 h
 |.raw _,l=>⟨fun h=>(by cases h),fun j hj=>hj⟩
 |.vsl id _ _ _ _ _,l=>⟨fun h=>by rw[←Nat.eq_of_beq_eq_true (show Nat.beq id k=true from h)];exact addId_mem.1,addId_mem.2⟩
 |.vptr id _,l=>⟨fun h=>by rw[←Nat.eq_of_beq_eq_true (show Nat.beq id k=true from h)];exact addId_mem.1,addId_mem.2⟩
 |.mp id,l=>⟨fun h=>by rw[←Nat.eq_of_beq_eq_true (show Nat.beq id k=true from h)];exact addId_mem.1,addId_mem.2⟩
theorem idsL_mem{k:Nat}:∀ (xs:List SV) (l:List Nat),(mentL k xs=true→k∈idsL xs l)∧∀j∈l,j∈idsL xs l
 |[],l=>⟨fun h=>(by cases h),fun j hj=>hj⟩
 |x::xs,l=>by
  obtain⟨a1,a2⟩:=idsV_mem (k:=k) x l
  obtain⟨b1,b2⟩:=idsL_mem (k:=k) xs (idsV x l)
  refine⟨fun h=>?_,fun j hj=>b2 j (a2 j hj)⟩
  have h:(ment k x||mentL k xs)=true:=h
  rcases Bool.or_eq_true _ _▸h with h|h
  ·exact b2 k (a1 h)
  ·exact b1 h
end
theorem reader_at(hE:EOK P E){call:CallK α}(hcall:CallOK P true call){ev:Operand→SV}{o:Oper}{p:Plan}{m:Mem}{κ:Kont α}(hk:(pureOp o.op||(shapeOp o.op||isLoad o.op))=true)(h:(execOp E call ev o.op p m κ).holds L):
  ∃v p' m',(κ v p' m').holds L∧∀m2,(∀id B,m.get id=some B→m2.get id=some B)→SemOp P m2 v m2 o ev:=by
 obtain⟨v,p',m',h1,_,_,hx⟩:=execOp_sound hE hcall h
 refine⟨v,p',m',h1,fun m2 hm2=>?_⟩
 rcases Bool.or_eq_true _ _▸hk with hk|hk
 ·exact hx.pure hk m2
 ·rcases Bool.or_eq_true _ _▸hk with hk|hk
  ·exact hx.shape hk m2 (Up.shape hm2)
  ·refine hx.up rfl ?_ m2 hm2
   generalize o.op=op at hk
   cases op<;>first|rfl|cases hk
theorem store_at(hE:EOK P E){call:CallK α}{ev:Operand→SV}{o:Oper}{p:Plan}{m:Mem}{κ:Kont α}(hk:isStore o.op=true)(h:(execOp E call ev o.op p m κ).holds L):
  ∃m',(κ .undef p m').holds L∧∀ (m2 m2':Mem),(∀id∈footOf ev o.op,m2.get id=m.get id)→(∀id,m2'.get id=if id∈footOf ev o.op then m'.get id else m2.get id)→m2'.next=m2.next→SemOp P m2 .undef m2' o ev:=by
 obtain⟨dst,op,ty,pos,after,guard⟩:=o
 cases op<;>try cases hk
 rename_i t a x
 obtain⟨m',h1,h2⟩:=opStore_at (E:=E) (α:=α) (L:=L) (κ:=κ) h
 exact⟨m',h1,fun m2 m2' ha hp hn=>semOp_of_run hE (call:=fun _ _ _ _ _=>.fail 0) noCall_ok (p:=p) (h2 m2 m2' p ha hp hn)⟩
open Classical in
/-- A call that is known to hand on this. -/
noncomputable def onlyCall(f:FuncId)(args:List SV)(m m':Mem)(v:SV):CallK (SV×Mem):=fun f' args' p m1 κ=>if f'=f∧args'=args∧m1=m then κ v p m' else .fail 0
theorem onlyCall_ok{f:FuncId}{args:List SV}{m m':Mem}{v:SV}(h:SemCall P m v m' f args):CallOK P false (onlyCall f args m m' v):=by
 intro f' args' p m1 κ L hh
 unfold onlyCall at hh
 split at hh
 ·rename_i hc
  obtain⟨rfl,rfl,rfl⟩:=hc
  exact⟨v,p,m',hh,fun hq=>(by cases hq),h⟩
 ·exact hh.elim
theorem slice_at(hE:EOK P E)(hhp:E.hp=true){call:CallK α}{ev:Operand→SV}{o:Oper}{p:Plan}{m:Mem}{κ:Kont α}(hk:isSl E ev o.op=true)(h:(execOp E call ev o.op p m κ).holds L):
  ∃v p' m',(κ v p' m').holds L∧∀m2,SemOp P m2 v m2 o ev:=by
 obtain⟨dst,op,ty,pos,after,guard⟩:=o
 cases op<;>try cases hk
 rename_i t x lo hi mx
 have h:(match E.hp with
  |false=>opSlice E t (ev x) (lo.map ev) (hi.map ev) (mx.map ev) p m κ
  |true=>opSliceH E t (ev x) (lo.map ev) (hi.map ev) (mx.map ev) p m κ:Tree α).holds L:=h
 rw[hhp]at h
 have h:(opSliceH E t (ev x) (lo.map ev) (hi.map ev) (mx.map ev) p m κ).holds L:=h
 suffices key:∃v,(κ v p m).holds L∧∀m2:Mem,(opSliceH E t (ev x) (lo.map ev) (hi.map ev) (mx.map ev) .auto m2 fun v _ m=>Tree.leaf (v,m)).holds fun y=>y=(v,m2) by
  obtain⟨v,h1,h2⟩:=key
  refine⟨v,p,m,h1,fun m2=>semOp_of_run hE (call:=fun _ _ _ _ _=>.fail 0) noCall_ok (p:=.auto) ?_⟩
  show(match E.hp with
   |false=>opSlice E t (ev x) (lo.map ev) (hi.map ev) (mx.map ev) .auto m2 fun v _ m=>Tree.leaf (v,m)
   |true=>opSliceH E t (ev x) (lo.map ev) (hi.map ev) (mx.map ev) .auto m2 fun v _ m=>Tree.leaf (v,m):Tree (SV×Mem)).holds _
  rw[hhp]
  have h2:=h2 m2
  generalize (opSliceH E t (ev x) (lo.map ev) (hi.map ev) (mx.map ev) .auto m2 fun v _ m=>Tree.leaf (v,m):Tree (SV×Mem))=T at h2
  show T.holds _
  clear h
  induction T with
  |leaf a=>have h2:a=(v,m2):=h2;subst h2;exact⟨rfl,fun _=>rfl,rfl⟩
  |node b t f iht ihf=>exact⟨fun hb=>iht (h2.1 hb),fun hb=>ihf (h2.2 hb)⟩
  |req b t iht=>exact⟨h2.1,iht h2.2⟩
  |fail n=>exact h2
 have hk:(match E.row t with
  |some {desc:=.slice e, ..}=>match E.row e with
   |some _=>match ev x with
    |.vsl _ _ _ _ _ _=>true
    |.nilS=>true
    |_=>false
   |none=>false
  |_=>false)=true:=hk
 unfold opSliceH at h ⊢
 split at hk
 ·rename_i e sz by_ ze ty0 eg he hrow
  rw[hrow]at h ⊢
  dsimp only at h ⊢
  split at hk
  ·rename_i re hre
   rw[hre]at h ⊢
   dsimp only at h ⊢
   split at hk
   ·rename_i id off n lb z ex hx
    rw[hx]at h ⊢
    dsimp only at h ⊢
    split at h<;>try exact h.elim
    rename_i hz
    split at h<;>try exact h.elim
    rename_i b1 l b2 hh b3 c e1 e2 e3
    split at h<;>try exact h.elim
    rename_i hm
    obtain⟨hq,h⟩:=h
    rw[frcN_eq,frcN_eq,frcN_eq]at h
    refine⟨_,h,fun m2=>⟨hq,?_⟩⟩
    rw[frcN_eq,frcN_eq,frcN_eq]
    rfl
   ·rename_i hx
    rw[hx]at h ⊢
    dsimp only at h ⊢
    split at h<;>try exact h.elim
    rename_i b1 l b2 hh b3 c e1 e2 e3
    split at h<;>try exact h.elim
    rename_i hm
    obtain⟨hq,h⟩:=h
    exact⟨_,h,fun m2=>⟨hq,rfl⟩⟩
   ·cases hk
  ·cases hk
 ·cases hk
theorem maker_at(hE:EOK P E)(hhp:E.hp=false){call:CallK α}(hcall:CallGOK P call){fr:Fr}{o:Oper}{p:Plan}{m:Mem}{κ:Kont α}(hk:isG E o.op=true)(h:(execOp E call (evalIn fr) o.op p m κ).holds L):
  ∃v p' m',(κ v p' m').holds L∧m.next≤m'.next∧∀ (m2 m2':Mem),(∀id∈footOf (evalIn fr) o.op,m2.get id=m.get id)→m2.next=m.next→(∀id,m2'.get id=if id∈footOf (evalIn fr) o.op++List.range' m.next (m'.next-m.next)then m'.get id else m2.get id)→m2'.next=m'.next→SemOp P m2 v m2' o (evalIn fr):=by
 obtain⟨dst,op,ty,pos,after,guard⟩:=o
 cases op<;>try cases hk
 · -- a slice without elements
   rename_i t n parts
   have hn0:n=0∧parts.toList=[] :=by
    cases n with
    |zero=>cases hp:parts.toList with
     |nil=>exact⟨rfl,rfl⟩
     |cons x l=>simp[isG,hp]at hk
    |succ n=>simp[isG]at hk
   obtain⟨rfl,hp0⟩:=hn0
   ·clear hk
    have hpe:parts.toList.map (fun x=>(x.1,evalIn fr x.2))=[] :=by rw[hp0];rfl
    have h:(opBuildSlice E t 0 (parts.toList.map fun x=>(x.1,evalIn fr x.2)) p m κ).holds L:=h
    rw[hpe]at h
    have h0:=h
    unfold opBuildSlice at h
    split at h
    ·rename_i e sz by_ ze ty0 eg he hrow
     split at h
     ·rename_i re hre
      split at h
      ·rename_i hs
       rw[hhp]at h
       have h:(m.push (.cells []) fun m id=>κ (.arr id 0 0) p m).holds L:=h
       obtain⟨m',h1,h2⟩:=Mem.push_holds h
       refine⟨_,p,m',h2,by rw[h1.2];omega,fun m2 m2' ha hn hp hn'=>?_⟩
       refine semOp_of_run hE (call:=fun _ _ _ _ _=>.fail 0) noCall_ok (p:=.auto) ?_
       obtain⟨m3,h5,h6⟩:=Mem.push_any h m2 (.cells []) hn
       dsimp only[execOp]
       rw[hpe]
       unfold opBuildSlice
       rw[hrow];dsimp only
       rw[hre];dsimp only
       rw[hs];dsimp only
       rw[hhp]
       show((m2.push (.cells []) fun m id=>Tree.leaf (SV.arr id 0 0,m):Tree (SV×Mem))).holds _
       rw[h6]
       refine⟨by rw[hn],fun id=>?_,by rw[h5.2,hn,hn',h1.2]⟩
       rw[h5.1 id,hp id,h1.1 id,hn]
       simp only[List.mem_append,mem_range1,h1.2]
       by_cases e1:id=m.next
       ·subst e1;simp
       ·rw[if_neg e1,if_neg e1]
        by_cases e2:id∈footOf (evalIn fr) (.buildSlice t 0 parts)
        ·rw[if_pos (.inl e2)];exact ha id e2
        ·rw[if_neg (fun c=>c.elim e2 fun c=>by omega)]
      ·exact h.elim
     ·exact h.elim
    ·exact h.elim
 rename_i c
 obtain⟨callee,args,argTypes⟩:=c
 dsimp only at hk h ⊢
 have hops:∀x∈args.toList,∀id,ment id (evalIn fr x)=true→id∈footOf (evalIn fr) (.call ⟨callee,args,argTypes⟩):=by
  intro x hx id hid
  refine(idsL_mem (k:=id) _ []).1 (mentL_mem (List.mem_map.2 ⟨x,?_,rfl⟩) hid)
  cases callee<;>simp[Op.operands,Call.operands]<;>simp_all
 cases callee with
 |builtin b=>
  cases b<;>try cases hk
  -- append
  have h:(opBuiltin E .append argTypes.toList (args.toList.map (evalIn fr)) p m κ).holds L:=h
  have shape:∃t t1 a b,argTypes.toList=[t,t1] ∧args.toList=[a,b] :=by
   rcases hl:args.toList with _|⟨a,_|⟨b,_|⟨c,l⟩⟩⟩<;>rcases hts:argTypes.toList with _|⟨t,_|⟨t1,_|⟨t2,l'⟩⟩⟩<;>rw[hl,hts]at h<;>first
    |exact h.elim
    |exact⟨t,t1,a,b,rfl,rfl⟩
  obtain⟨t,t1,a,b,hts,hab⟩:=shape
  have hvs:args.toList.map (evalIn fr)=[evalIn fr a,evalIn fr b] :=by rw[hab];rfl
  rw[hts,hvs]at h
  have run:∀ (h:(opAppend E t (evalIn fr a) (evalIn fr b) p m κ).holds L),(∀ (β:Type) (κ2:Kont β) (m2:Mem),(opBuiltin E .append argTypes.toList (args.toList.map (evalIn fr)) .auto m2 κ2)=opAppend E t (evalIn fr a) (evalIn fr b) .auto m2 κ2)→∃v p' m',(κ v p' m').holds L∧m.next≤m'.next∧∀ (m2 m2':Mem),(∀id∈footOf (evalIn fr) (.call ⟨.builtin .append,args,argTypes⟩),m2.get id=m.get id)→m2.next=m.next→(∀id,m2'.get id=if id∈footOf (evalIn fr) (.call ⟨.builtin .append,args,argTypes⟩)++List.range' m.next (m'.next-m.next)then m'.get id else m2.get id)→m2'.next=m'.next→SemOp P m2 v m2' ⟨dst,.call ⟨.builtin .append,args,argTypes⟩,ty,pos,after,guard⟩ (evalIn fr):=by
   intro h he
   obtain⟨v,p',m',h1,h2,h3⟩:=opAppend_at h
   refine⟨v,p',m',h1,h2,fun m2 m2' ha hn hp hn'=>?_⟩
   refine semOp_of_run hE (call:=fun _ _ _ _ _=>.fail 0) noCall_ok (p:=.auto) ?_
   dsimp only[execOp,opCall]
   rw[he]
   exact h3 _ m2 m2' (fun id hid=>hid.elim (hops a (by rw[hab];simp) id) (hops b (by rw[hab];simp) id)) ha hn hp hn'
  have h:((match E.row t1 with
   |some {desc:=.slice _, ..}=>(match E.hp with
    |false=>opAppend E t (evalIn fr a) (evalIn fr b) p m κ
    |true=>opAppendH E t (evalIn fr a) (evalIn fr b) p m κ)
   |some {desc:=.string, ..}=>(match E.hp with
    |false=>opAppend E t (evalIn fr a) (evalIn fr b) p m κ
    |true=>opAppendH E t (evalIn fr a) (evalIn fr b) p m κ)
   |_=>.fail 89:Tree α)).holds L:=h
  rw[hhp]at h
  split at h
  ·rename_i e sz by_ ze ty0 eg he hrow
   refine run h fun β κ2 m2=>?_
   rw[hts,hvs]
   show(match E.row t1 with
    |some {desc:=.slice _, ..}=>(match E.hp with
     |false=>opAppend E t (evalIn fr a) (evalIn fr b) .auto m2 κ2
     |true=>opAppendH E t (evalIn fr a) (evalIn fr b) .auto m2 κ2)
    |some {desc:=.string, ..}=>(match E.hp with
     |false=>opAppend E t (evalIn fr a) (evalIn fr b) .auto m2 κ2
     |true=>opAppendH E t (evalIn fr a) (evalIn fr b) .auto m2 κ2)
    |_=>.fail 89:Tree β)=_
   rw[hhp,hrow]
  ·rename_i sz by_ ze ty0 eg he hrow
   refine run h fun β κ2 m2=>?_
   rw[hts,hvs]
   show(match E.row t1 with
    |some {desc:=.slice _, ..}=>(match E.hp with
     |false=>opAppend E t (evalIn fr a) (evalIn fr b) .auto m2 κ2
     |true=>opAppendH E t (evalIn fr a) (evalIn fr b) .auto m2 κ2)
    |some {desc:=.string, ..}=>(match E.hp with
     |false=>opAppend E t (evalIn fr a) (evalIn fr b) .auto m2 κ2
     |true=>opAppendH E t (evalIn fr a) (evalIn fr b) .auto m2 κ2)
    |_=>.fail 89:Tree β)=_
   rw[hhp,hrow]
  ·exact h.elim
 |value f=>
  cases f<;>try cases hk
  rename_i k
  dsimp only[execOp,opCall,evalIn]at h
  simp only[List.nil_append,List.append_nil]at h
  obtain⟨v,p',m',h1,h2,h3⟩:=hcall _ _ _ _ _ _ h
  refine⟨v,p',m',h1,h2,fun m2 m2' ha hn hp hn'=>?_⟩
  have hsem:=h3 _ m2 m2' (fun id hid=>?_) ha hn hp hn'
  ·refine semOp_of_run hE (onlyCall_ok hsem) (p:=.auto) ?_
   dsimp only[execOp,opCall,evalIn]
   simp only[List.nil_append,List.append_nil]
   unfold onlyCall
   rw[if_pos ⟨rfl,rfl,rfl⟩]
   exact⟨rfl,fun _=>rfl,rfl⟩
  · -- an argument mentions it
    have:∃x∈args.toList.map (evalIn fr),ment id x=true:=by
     revert hid
     generalize args.toList.map (evalIn fr)=l
     induction l with
     |nil=>intro h;cases h
     |cons y l ih=>
      intro h
      have h:(ment id y||mentL id l)=true:=h
      rcases Bool.or_eq_true _ _▸h with h|h
      ·exact⟨y,List.mem_cons_self,h⟩
      ·obtain⟨x,h1,h2⟩:=ih h
       exact⟨x,List.mem_cons_of_mem _ h1,h2⟩
    obtain⟨x,hx,hm⟩:=this
    obtain⟨a,ha',rfl⟩:=List.mem_map.1 hx
    exact hops a ha' id hm
 |invoke a b=>cases hk
end
mutual
theorem sameSV_eq:∀ (x y:SV),sameSV x y=true→x=y
 |.undef,y,h=>by cases y<;>simp only[sameSV]at h<;>first|rfl|cases h
 |.top,y,h=>by cases y<;>simp only[sameSV]at h<;>first|rfl|cases h
 |.int k a,y,h=>by
  cases y<;>simp only[sameSV]at h<;>try(cases h;done)
  simp only[Bool.and_eq_true,decide_eq_true_eq,beq_iff_eq]at h
  rw[h.1,h.2]
 |.bool a,y,h=>by
  cases y<;>simp only[sameSV]at h<;>try(cases h;done)
  rw[beq_iff_eq.1 h]
 |.str a,y,h=>by
  cases y<;>simp only[sameSV]at h<;>try(cases h;done)
  rw[beq_iff_eq.1 h]
 |.nilS,y,h=>by cases y<;>simp only[sameSV]at h<;>first|rfl|cases h
 |.list _ _,y,h=>by cases y<;>simp only[sameSV]at h<;>cases h
 |.row _,y,h=>by cases y<;>simp only[sameSV]at h<;>cases h
 |.arr a b c,y,h=>by
  cases y<;>simp only[sameSV]at h<;>try(cases h;done)
  simp only[Bool.and_eq_true]at h
  rw[Nat.eq_of_beq_eq_true h.1,Nat.eq_of_beq_eq_true h.2.1,Nat.eq_of_beq_eq_true h.2.2]
 |.ptr a b,y,h=>by
  cases y<;>simp only[sameSV]at h<;>try(cases h;done)
  simp only[Bool.and_eq_true]at h
  rw[Nat.eq_of_beq_eq_true h.1,Nat.eq_of_beq_eq_true h.2]
 |.nilP,y,h=>by cases y<;>simp only[sameSV]at h<;>first|rfl|cases h
 |.eptr _ _ _ _,y,h=>by cases y<;>simp only[sameSV]at h<;>cases h
 |.rptr _ _ _ _,y,h=>by cases y<;>simp only[sameSV]at h<;>cases h
 |.agg xs,y,h=>by
  cases y<;>simp only[sameSV]at h<;>try(cases h;done)
  rw[sameSVL_eq xs _ h]
 |.tuple xs,y,h=>by
  cases y<;>simp only[sameSV]at h<;>try(cases h;done)
  rw[sameSVL_eq xs _ h]
 |.fn f a c,y,h=>by
  cases y<;>simp only[sameSV]at h<;>try(cases h;done)
  simp only[Bool.and_eq_true]at h
  rw[Nat.eq_of_beq_eq_true h.1,sameSVL_eq a _ h.2.1,sameSVL_eq c _ h.2.2]
 |.raw _,y,h=>by cases y<;>simp only[sameSV]at h<;>cases h
 |.vsl a b c d e f,y,h=>by
  cases y<;>simp only[sameSV]at h<;>try(cases h;done)
  simp only[Bool.and_eq_true,beq_iff_eq]at h
  obtain⟨h1,h2,h3,h4,h5,h6⟩:=h
  rw[Nat.eq_of_beq_eq_true h1,Nat.eq_of_beq_eq_true h2,Nat.eq_of_beq_eq_true h3,Nat.eq_of_beq_eq_true h4,Nat.eq_of_beq_eq_true h5,h6]
 |.vptr a b,y,h=>by
  cases y<;>simp only[sameSV]at h<;>try(cases h;done)
  simp only[Bool.and_eq_true]at h
  rw[Nat.eq_of_beq_eq_true h.1,Nat.eq_of_beq_eq_true h.2]
 |.mp a,y,h=>by
  cases y<;>simp only[sameSV]at h<;>try(cases h;done)
  rw[Nat.eq_of_beq_eq_true h]
theorem sameSVL_eq:∀ (xs ys:List SV),sameSVL xs ys=true→xs=ys
 |[],[],_=>rfl
 |[],_::_,h=>by cases h
 |_::_,[],h=>by cases h
 |x::xs,y::ys,h=>by
  simp only[sameSVL]at h
  split at h
  ·rename_i h1
   rw[sameSV_eq x y h1,sameSVL_eq xs ys h]
  ·cases h
end
theorem sameEs_eq:∀ (xs ys:List (SV×SV×Nat)),sameEs xs ys=true→xs=ys
 |[],[],_=>rfl
 |[],_::_,h=>by cases h
 |_::_,[],h=>by cases h
 |(a,b,c)::xs,(a',b',c')::ys,h=>by
  simp only[sameEs,Bool.and_eq_true]at h
  obtain⟨h1,h2,h3,h4⟩:=h
  rw[sameSV_eq _ _ h1,sameSV_eq _ _ h2,Nat.eq_of_beq_eq_true h3,sameEs_eq _ _ h4]
theorem sameBox_eq{a b:Option Box}(h:sameBox a b=true):a=b:=by
 unfold sameBox at h
 split at h
 ·rw[sameSVL_eq _ _ h]
 ·simp only[Bool.and_eq_true]at h
  rw[Nat.eq_of_beq_eq_true h.1,sameSVL_eq _ _ h.2]
 ·rw[sameSVL_eq _ _ h]
 ·simp only[Bool.and_eq_true]at h
  rw[Nat.eq_of_beq_eq_true h.1,sameEs_eq _ _ h.2]
 ·cases h
section
variable {P:Program}
theorem frame_core{w0:World}{R0:RSet}{ρ:Rho}{w:World}{mF m2:Mem}(hm:MRel w0 R0 ρ w m2)(h1:∀id B,mF.get id=some B→m2.get id=some B)(hn:m2.next=mF.next):
  ∃R0':RSet,MRel w0 R0' ρ w mF∧RO w0 R0' ρ w mF=RO w0 R0 ρ w m2∧
   ∀{mF' m2':Mem} {ρ':Rho} {w':World},(∀id B,m2'.get id=some B→(mF'.get id=some B∧(id<mF.next→(mF.get id).isSome=true))∨(mF.get id=none∧m2.get id=some B))→m2'.next=mF'.next→
    MRel w0 R0' ρ' w' mF'→MExt w0 R0' ρ w mF ρ' w' mF'→MRel w0 R0 ρ' w' m2'∧MExt w0 R0 ρ w m2 ρ' w' m2'∧∀b,RO w0 R0' ρ' w' mF' b→RO w0 R0 ρ' w' m2' b:=by
 let X:Nat→Prop:=fun b=>∃id B,m2.get id=some B∧mF.get id=none∧solid (ρ id) B∧(ρ id).1=b
 let R0':RSet:=⟨fun b=>R0 b∨X b,fun b=>w.heap[b]?⟩
 have hX:∀b,X b→w0.heap.size≤b∧b<w.heap.size∧¬R0 b:=fun b ⟨id,B,g1,g2,g3,g4⟩=>by
  subst g4
  exact⟨hm.lo id B g1 g3,hm.hi id B g1 g3,hm.hid.2 id B g1 g3⟩
 have hsz:=hm.size_le
 have hro:RO w0 R0' ρ w mF=RO w0 R0 ρ w m2:=by
  funext b
  apply propext
  constructor
  ·rintro (⟨g1,g2⟩|⟨g1,g2,g3,g4⟩)
   ·rcases g1 with g1|g1
    ·exact .inl ⟨g1,g2⟩
    ·have:=(hX b g1).1;omega
   ·refine .inr ⟨g1,g2,fun id B hid hs he=>?_,fun hr=>g4 (.inl hr)⟩
    cases hF:mF.get id with
    |none=>exact g4 (.inr ⟨id,B,hid,hF,hs,he⟩)
    |some B'=>
     have:=h1 id B' hF
     rw[hid]at this;injection this with this;subst this
     exact g3 id B hF hs he
  ·rintro (⟨g1,g2⟩|⟨g1,g2,g3,g4⟩)
   ·exact .inl ⟨.inl g1,g2⟩
   ·refine .inr ⟨g1,g2,fun id B hid hs=>g3 id B (h1 id B hid) hs,fun hr=>?_⟩
    rcases hr with hr|⟨id,B,k1,k2,k3,k4⟩
    ·exact g4 hr
    ·exact g3 id B k1 k3 k4
 have hmF:MRel w0 R0' ρ w mF:=by
  refine⟨hm.below,fun id B hid=>by rw[←hn];exact hm.lt id B (h1 id B hid),fun id B hid=>hm.lo id B (h1 id B hid),fun id B hid=>hm.hi id B (h1 id B hid),fun id id' B B' hid hid'=>hm.inj id id' B B' (h1 id B hid) (h1 id' B' hid'),fun id B hid=>?_,fun b hb=>⟨?_,rfl⟩,fun id B hid hs hr=>?_⟩
  ·rw[hro,←hn];exact hm.box id B (h1 id B hid)
  ·rcases hb with hb|hb
   ·exact(hm.hid.1 b hb).1
   ·exact(hX b hb).2.1
  ·rcases hr with hr|⟨id',B',k1,k2,k3,k4⟩
   ·exact hm.hid.2 id B (h1 id B hid) hs hr
   ·have:=hm.inj id' id B' B k1 (h1 id B hid) k3 hs k4
    subst this
    rw[k2]at hid;cases hid
 refine⟨R0',hmF,hro,fun {mF' m2' ρ' w'} h2 hn' hmr hext=>?_⟩
 -- what stays of the hidden boxes
 have hidden:∀id B,mF.get id=none→m2.get id=some B→solid (ρ' id) B→ρ' id=ρ id∧R0' (ρ' id).1∧(ρ' id).1<w'.heap.size∧w'.heap[(ρ' id).1]? =w.heap[(ρ' id).1]? :=by
  intro id B k1 k2 k3
  have hlt:id<mF.next:=by rw[←hn];exact hm.lt id B k2
  have he:=hext.same id hlt
  rw[he]at k3 ⊢
  have hr:R0' (ρ id).1:=.inr ⟨id,B,k2,k1,k3,rfl⟩
  obtain⟨q1,q2⟩:=hmr.hid.1 _ hr
  exact⟨rfl,hr,q1,q2⟩
 have hsub:∀b,RO w0 R0' ρ' w' mF' b→RO w0 R0 ρ' w' m2' b:=by
  rintro b (⟨g1,g2⟩|⟨g1,g2,g3,g4⟩)
  ·rcases g1 with g1|g1
   ·exact .inl ⟨g1,g2⟩
   ·have:=(hX b g1).1;omega
  ·refine .inr ⟨g1,g2,fun id B hid hs he=>?_,fun hr=>g4 (.inl hr)⟩
   rcases h2 id B hid with⟨k1,_⟩|⟨k1,k2⟩
   ·exact g3 id B k1 hs he
   ·obtain⟨_,q2,_⟩:=hidden id B k1 k2 hs
    rw[he]at q2;exact g4 q2
 have hE1:Ext (RO w0 R0' ρ' w' mF') ρ' mF'.next w' (RO w0 R0 ρ' w' m2') ρ' m2'.next w':=⟨by rw[hn'];exact Nat.le_refl _,fun _ _=>rfl,fun b hb=>⟨hsub b hb,rfl⟩⟩
 have hext2:MExt w0 R0 ρ w m2 ρ' w' m2':=by
  have:Ext (RO w0 R0 ρ w m2) ρ m2.next w (RO w0 R0' ρ' w' mF') ρ' mF'.next w':=by rw[←hro,hn];exact hext
  exact this.trans hE1
 refine⟨⟨hmr.below,fun id B hid=>?_,fun id B hid hs=>?_,fun id B hid hs=>?_,fun id id' B B' hid hid' hs hs' he=>?_,fun id B hid=>?_,fun b hb=>?_,fun id B hid hs=>?_⟩,hext2,hsub⟩
 ·rw[hn']
  rcases h2 id B hid with⟨k1,_⟩|⟨k1,k2⟩
  ·exact hmr.lt id B k1
  ·have:=hm.lt id B k2
   have:=hext.le
   omega
 ·rcases h2 id B hid with⟨k1,_⟩|⟨k1,k2⟩
  ·exact hmr.lo id B k1 hs
  ·obtain⟨q1,_⟩:=hidden id B k1 k2 hs
   rw[q1]at hs ⊢;exact hm.lo id B k2 hs
 ·rcases h2 id B hid with⟨k1,_⟩|⟨k1,k2⟩
  ·exact hmr.hi id B k1 hs
  ·exact(hidden id B k1 k2 hs).2.2.1
 ·rcases h2 id B hid with⟨k1,_⟩|⟨k1,k2⟩<;>rcases h2 id' B' hid' with⟨k1',_⟩|⟨k1',k2'⟩
  ·exact hmr.inj id id' B B' k1 k1' hs hs' he
  ·have q:=(hidden id' B' k1' k2' hs').2.1
   rw[←he]at q
   exact absurd q (hmr.hid.2 id B k1 hs)
  ·have q:=(hidden id B k1 k2 hs).2.1
   rw[he]at q
   exact absurd q (hmr.hid.2 id' B' k1' hs')
  ·obtain⟨q1,_⟩:=hidden id B k1 k2 hs
   obtain⟨q1',_⟩:=hidden id' B' k1' k2' hs'
   rw[q1]at hs he;rw[q1']at hs' he
   exact hm.inj id id' B B' k2 k2' hs hs' he
 ·rcases h2 id B hid with⟨k1,_⟩|⟨k1,k2⟩
  ·exact BoxRel.mono hE1 B (fun _=>rfl) (hmr.box id B k1)
  ·have hlt:id<mF.next:=by rw[←hn];exact hm.lt id B k2
   have hb:=hm.box id B k2
   rw[hext.same id hlt]
   refine BoxRel.mono hext2 B (fun hs=>?_) hb
   have:=(hidden id B k1 k2 (by rw[hext.same id hlt];exact hs)).2.2.2
   rwa [hext.same id hlt]at this
 ·obtain⟨q1,q2⟩:=hmr.hid.1 b (.inl hb)
  exact⟨q1,q2.trans (hm.hid.1 b hb).2⟩
 ·rcases h2 id B hid with⟨k1,_⟩|⟨k1,k2⟩
  ·exact fun hr=>hmr.hid.2 id B k1 hs (.inl hr)
  ·obtain⟨q1,_⟩:=hidden id B k1 k2 hs
   rw[q1]at hs ⊢;exact hm.hid.2 id B k2 hs
theorem SemOp.frame{mF mF' m2 m2':Mem}{v:SV}{o:Oper}{ev:Operand→SV}(hF:SemOp P mF v mF' o ev)(h1:∀id B,mF.get id=some B→m2.get id=some B)(hn:m2.next=mF.next)
  (h2:∀id B,m2'.get id=some B→(mF'.get id=some B∧(id<mF.next→(mF.get id).isSome=true))∨(mF.get id=none∧m2.get id=some B)) (hn':m2'.next=mF'.next):SemOp P m2 v m2' o ev:=by
 intro w0 R0 ρ w eb hm hev
 obtain⟨R0',k1,k2,k3⟩:=frame_core hm h1 hn
 refine OpPost.mono ?_ (hF w0 R0' ρ w eb k1 fun x hx=>?_)
 ·rintro u w' ⟨ρ',g1,g2,g3⟩
  obtain⟨q1,q2,q3⟩:=k3 h2 hn' g1 g2
  exact⟨ρ',q1,q2,Rep.mono ⟨by rw[hn'];exact Nat.le_refl _,fun _ _=>rfl,fun b hb=>⟨q3 b hb,rfl⟩⟩ _ _ g3⟩
 ·have:=hev x hx
  rw[k2,←hn];exact this
theorem SemCall.frame{mF mF' m2 m2':Mem}{v:SV}{f:FuncId}{args:List SV}(hF:SemCall P mF v mF' f args)(h1:∀id B,mF.get id=some B→m2.get id=some B)(hn:m2.next=mF.next)
  (h2:∀id B,m2'.get id=some B→(mF'.get id=some B∧(id<mF.next→(mF.get id).isSome=true))∨(mF.get id=none∧m2.get id=some B)) (hn':m2'.next=mF'.next):SemCall P m2 v m2' f args:=by
 intro w0 R0 ρ w vs hm hvs
 obtain⟨R0',k1,k2,k3⟩:=frame_core hm h1 hn
 refine OpPost.mono ?_ (hF w0 R0' ρ w vs k1 (by rw[k2,←hn];exact hvs))
 rintro u w' ⟨ρ',g1,g2,g3⟩
 obtain⟨q1,q2,q3⟩:=k3 h2 hn' g1 g2
 exact⟨ρ',q1,q2,Rep.mono ⟨by rw[hn'];exact Nat.le_refl _,fun _ _=>rfl,fun b hb=>⟨q3 b hb,rfl⟩⟩ _ _ g3⟩
end
mutual
/-- All names lie below. -/
def SV.under(k:Nat):SV→Bool
 |.row id=>Nat.blt id k
 |.arr id _ _=>Nat.blt id k
 |.ptr id _=>Nat.blt id k
 |.rptr id _ _ _=>Nat.blt id k
 |.vsl id _ _ _ _ _=>Nat.blt id k
 |.vptr id _=>Nat.blt id k
 |.mp id=>Nat.blt id k
 |.agg cs=>underL k cs
 |.tuple cs=>underL k cs
 |.fn _ a b=>underL k a&&underL k b
 |_=>true
def underL(k:Nat):List SV→Bool
 |[] =>true
 |x::xs=>x.under k&&underL k xs
end
mutual
theorem Rep.lower{R R':Nat→Prop}{ρ:Rho}{n k:Nat}{w:World}(hR:∀b,R b→R' b):∀ (x:SV) (v:Value),x.under k=true→Rep R ρ n w x v→Rep R' ρ k w x v
 |.undef,_,_,h=>h
 |.top,_,_,h=>trivial
 |.int _ _,_,_,h=>h
 |.bool _,_,_,h=>h
 |.str _,_,_,h=>h
 |.nilS,_,_,h=>h
 |.list t l,v,_,h=>RepD.mono (fun b hb=>⟨hR b hb,rfl⟩) (.list t) l [v] h
 |.row id,_,u,h=>⟨by simpa[SV.under]using u,h.2⟩
 |.arr id _ _,_,u,h=>⟨by simpa[SV.under]using u,h.2⟩
 |.ptr id _,_,u,h=>⟨by simpa[SV.under]using u,h.2⟩
 |.nilP,_,_,h=>h
 |.eptr t l i off,v,_,h=>by
  obtain⟨b,o,h1,h2,h3⟩:=h
  exact⟨b,o,h1,h2,h3.mono fun b hb=>⟨hR b hb,rfl⟩⟩
 |.rptr id _ _ _,_,u,h=>⟨by simpa[SV.under]using u,h.2⟩
 |.agg cs,v,u,h=>by
  obtain⟨vs,h1,h2⟩:=h
  exact⟨vs,h1,RepL.lower hR cs vs u h2⟩
 |.tuple cs,v,u,h=>by
  obtain⟨vs,h1,h2⟩:=h
  exact⟨vs,h1,RepL.lower hR cs vs u h2⟩
 |.fn f first cap,v,u,h=>by
  obtain⟨vs,us,h1,h2,h3⟩:=h
  have u':underL k first=true∧underL k cap=true:=by simpa[SV.under]using u
  exact⟨vs,us,h1,RepL.lower hR first vs u'.1 h2,RepL.lower hR cap us u'.2 h3⟩
 |.raw _,_,_,h=>h
 |.vsl id _ _ _ _ _,_,u,h=>⟨by simpa[SV.under]using u,h.2⟩
 |.vptr id _,_,u,h=>⟨by simpa[SV.under]using u,h.2⟩
 |.mp id,_,u,h=>⟨by simpa[SV.under]using u,h.2⟩
theorem RepL.lower{R R':Nat→Prop}{ρ:Rho}{n k:Nat}{w:World}(hR:∀b,R b→R' b):∀ (xs:List SV) (vs:List Value),underL k xs=true→RepL R ρ n w xs vs→RepL R' ρ k w xs vs
 |[],_,_,h=>h
 |x::xs,vs,u,h=>by
  obtain⟨v,us,h1,h2,h3⟩:=h
  have u':x.under k=true∧underL k xs=true:=by simpa[underL]using u
  exact⟨v,us,h1,Rep.lower hR x v u'.1 h2,RepL.lower hR xs us u'.2 h3⟩
end
theorem blt_of{id n:Nat}(h:∀k,n≤k→Nat.beq id k=false):Nat.blt id n=true:=by
 rcases Nat.lt_or_ge id n with h1|h1
 ·simpa using h1
 ·have:=h id h1
  simp at this
mutual
theorem under_of{n:Nat}:∀ (x:SV),(∀k,n≤k→ment k x=false)→x.under n=true
 |.undef,_=>rfl
 |.top,_=>rfl
 |.int _ _,_=>rfl
 |.bool _,_=>rfl
 |.str _,_=>rfl
 |.nilS,_=>rfl
 |.list _ _,_=>rfl
 |.row id,h=>blt_of h
 |.arr id _ _,h=>blt_of h
 |.ptr id _,h=>blt_of h
 |.nilP,_=>rfl
 |.eptr _ _ _ _,_=>rfl
 |.rptr id _ _ _,h=>blt_of h
 |.agg cs,h=>underL_of cs h
 |.tuple cs,h=>underL_of cs h
 |.fn _ a b,h=>by
  have h1:∀k,n≤k→mentL k a=false∧mentL k b=false:=fun k hk=>by
   have:(mentL k a||mentL k b)=false:=h k hk
   rwa [Bool.or_eq_false_iff]at this
  show(underL n a&&underL n b)=true
  rw[underL_of a fun k hk=>(h1 k hk).1,underL_of b fun k hk=>(h1 k hk).2];rfl
 |.raw _,_=>rfl
 |.vsl id _ _ _ _ _,h=>blt_of h
 |.vptr id _,h=>blt_of h
 |.mp id,h=>blt_of h
theorem underL_of{n:Nat}:∀ (xs:List SV),(∀k,n≤k→mentL k xs=false)→underL n xs=true
 |[],_=>rfl
 |x::xs,h=>by
  have h1:∀k,n≤k→ment k x=false∧mentL k xs=false:=fun k hk=>by
   have:(ment k x||mentL k xs)=false:=h k hk
   rwa [Bool.or_eq_false_iff]at this
  show(x.under n&&underL n xs)=true
  rw[under_of x fun k hk=>(h1 k hk).1,underL_of xs fun k hk=>(h1 k hk).2];rfl
end
theorem RepM.lower{R R':Nat→Prop}{ρ:Rho}{n k:Nat}{w:World}(hR:∀b,R b→R' b):∀ (xs:List (SV×SV×Nat)) (es:List MapEntry),(∀j,k≤j→(xs.any fun e=>ment j e.1||ment j e.2.1)=false)→RepM R ρ n w xs es→RepM R' ρ k w xs es
 |[],_,_,h=>h
 |x::xs,_,hm,h=>by
  obtain⟨u,us,h1,h2,h3,h4,h5⟩:=h
  have h0:∀j,k≤j→(ment j x.1=false∧ment j x.2.1=false)∧(xs.any fun e=>ment j e.1||ment j e.2.1)=false:=fun j hj=>by
   have:=hm j hj
   rwa [List.any_cons,Bool.or_eq_false_iff,Bool.or_eq_false_iff]at this
  exact⟨u,us,h1,Rep.lower hR _ _ (under_of _ fun j hj=>(h0 j hj).1.1) h2,Rep.lower hR _ _ (under_of _ fun j hj=>(h0 j hj).1.2) h3,h4,RepM.lower hR xs us (fun j hj=>(h0 j hj).2) h5⟩
theorem BoxRel.lowerM{R R':Nat→Prop}{ρ:Rho}{n k:Nat}{w:World}{r:Nat×Nat×Nat}(hR:∀b,R b→R' b):∀ (B:Box),(∀j,k≤j→mentB j (some B)=false)→BoxRel R ρ n w r B→BoxRel R' ρ k w r B
 |.cells cs,u,h=>by
  obtain⟨arr,e,fr,h1,h2,h3⟩:=h
  exact⟨arr,e,fr,h1,h2,RepL.lower hR _ _ (underL_of cs u) h3⟩
 |.rows t l,_,h=>by
  obtain⟨h1,h2,h3⟩:=h
  refine⟨h1,h2,fun h0=>?_⟩
  obtain⟨arr,e,fr,k1,k2,k3,k4⟩:=h3 h0
  refine⟨arr,e,fr,k1,k2,k3,fun i hi=>?_⟩
  obtain⟨cs,c1,c2,c3⟩:=k4 i hi
  exact⟨cs,c1,c2,RepD.mono (fun b hb=>⟨hR b hb,rfl⟩) _ _ _ c3⟩
 |.iter s pos,_,h=>h
 |.obj t cs,u,h=>by
  obtain⟨arr,h1,h3⟩:=h
  exact⟨arr,h1,RepL.lower hR _ _ (underL_of cs u) h3⟩
 |.vec cs,u,h=>by
  obtain⟨arr,e,fr,h1,h2,h3,h4,h5⟩:=h
  exact⟨arr,e,fr,h1,h2,h3,h4,RepL.lower hR _ _ (underL_of cs u) h5⟩
 |.map es c,u,h=>by
  obtain⟨arr,h1,h2⟩:=h
  exact⟨arr,h1,RepM.lower hR es _ u h2⟩
 |.miter none since seen last,_,h=>⟨h.1,fun id e=>by cases e⟩
 |.miter (some i) since seen last,u,h=>by
  refine⟨h.1,fun id e=>?_⟩
  injection e with e;subst e
  simpa using blt_of (id:=i) (n:=k) u
theorem RepM.bound{R:Nat→Prop}{ρ:Rho}{n:Nat}{w:World}{k:Nat}:∀ (xs:List (SV×SV×Nat)) (es:List MapEntry),RepM R ρ n w xs es→(xs.any fun e=>ment k e.1||ment k e.2.1)=true→k<n
 |[],_,_,h=>by cases h
 |x::xs,_,hr,h=>by
  obtain⟨u,us,_,h2,h3,_,h5⟩:=hr
  rw[List.any_cons,Bool.or_eq_true,Bool.or_eq_true]at h
  rcases h with(h|h)|h
  ·exact Rep.bound _ _ h2 h
  ·exact Rep.bound _ _ h3 h
  ·exact RepM.bound xs us h5 h
theorem BoxRel.bound{R:Nat→Prop}{ρ:Rho}{n:Nat}{w:World}{r:Nat×Nat×Nat}{k:Nat}:∀ (B:Box),BoxRel R ρ n w r B→mentB k (some B)=true→k<n
 |.cells cs,h,hk=>by
  obtain⟨arr,e,fr,_,_,h3⟩:=h
  exact RepL.bound cs _ h3 hk
 |.obj t cs,h,hk=>by
  obtain⟨arr,_,h3⟩:=h
  exact RepL.bound cs _ h3 hk
 |.vec cs,h,hk=>by
  obtain⟨arr,e,fr,_,_,_,_,h3⟩:=h
  exact RepL.bound cs _ h3 hk
 |.map es c,h,hk=>by
  obtain⟨arr,_,h3⟩:=h
  exact RepM.bound es _ h3 hk
 |.miter none _ _ _,_,hk=>by cases hk
 |.miter (some i) _ _ _,h,hk=>by
  have:=h.2 i rfl
  rw[←Nat.eq_of_beq_eq_true (show Nat.beq i k=true from hk)];exact this
 |.rows _ _,_,hk=>by cases hk
 |.iter _ _,_,hk=>by cases hk
theorem MRel.shrink{w0:World}{R0:RSet}{ρ:Rho}{w:World}{m m':Mem}(h:MRel w0 R0 ρ w m')(hm:∀id B,m.get id=some B→m'.get id=some B)(hb:∀id B,m.get id=some B→id<m.next∧∀k,m.next≤k→mentB k (some B)=false):
  MRel w0 R0 ρ w m∧∀b,RO w0 R0 ρ w m' b→RO w0 R0 ρ w m b:=by
 have hro:∀b,RO w0 R0 ρ w m' b→RO w0 R0 ρ w m b:=fun b hb=>by
  rcases hb with hb|⟨k1,k2,k3,k4⟩
  ·exact .inl hb
  ·exact .inr ⟨k1,k2,fun id B hB hs'=>k3 id B (hm _ _ hB) hs',k4⟩
 exact⟨⟨h.below,fun id B hB=>(hb id B hB).1,fun id B hB=>h.lo id B (hm _ _ hB),fun id B hB=>h.hi id B (hm _ _ hB),fun id id' B B' hB hB'=>h.inj id id' B B' (hm _ _ hB) (hm _ _ hB'),fun id B hB=>BoxRel.lowerM hro B (hb id B hB).2 (h.box id B (hm _ _ hB)),h.hid.1,fun id B hB=>h.hid.2 id B (hm _ _ hB)⟩,hro⟩
theorem MRel.bumpN{w0:World}{R0:RSet}{ρ:Rho}{w:World}{m m2:Mem}(h:MRel w0 R0 ρ w m)(hg:∀id,m2.get id=m.get id)(hn:m.next≤m2.next):MRel w0 R0 ρ w m2∧MExt w0 R0 ρ w m ρ w m2:=by
 have e:MExt w0 R0 ρ w m ρ w m2:=⟨hn,fun _ _=>rfl,fun b hb=>⟨by rw[RO.congr hg];exact hb,rfl⟩⟩
 refine⟨⟨h.below,fun id B hB=>?_,fun id B hB=>h.lo id B (by rw[←hg];exact hB),fun id B hB=>h.hi id B (by rw[←hg];exact hB),fun id id' B B' hB hB'=>h.inj id id' B B' (by rw[←hg];exact hB) (by rw[←hg];exact hB'),fun id B hB=>?_,h.hid.1,fun id B hB=>h.hid.2 id B (by rw[←hg];exact hB)⟩,e⟩
 ·have:=h.lt id B (by rw[←hg];exact hB);omega
 ·exact BoxRel.mono e B (fun _=>rfl) (h.box id B (by rw[←hg];exact hB))
theorem MRel.rho{w0:World}{R0:RSet}{ρ ρ2:Rho}{w:World}{m:Mem}(h:MRel w0 R0 ρ w m)(hr:∀id,id<m.next→ρ2 id=ρ id):MRel w0 R0 ρ2 w m∧MExt w0 R0 ρ w m ρ2 w m∧∀b,RO w0 R0 ρ2 w m b→RO w0 R0 ρ w m b:=by
 have hro:∀b,RO w0 R0 ρ w m b↔RO w0 R0 ρ2 w m b:=fun b=>by
  unfold RO
  constructor
  ·rintro (h1|⟨h1,h2,h3,h4⟩)
   ·exact .inl h1
   ·exact .inr ⟨h1,h2,fun id B hB hs=>by rw[hr id (h.lt id B hB)]at hs ⊢;exact h3 id B hB hs,h4⟩
  ·rintro (h1|⟨h1,h2,h3,h4⟩)
   ·exact .inl h1
   ·exact .inr ⟨h1,h2,fun id B hB hs=>by have:=h3 id B hB (by rw[hr id (h.lt id B hB)];exact hs);rwa [hr id (h.lt id B hB)]at this,h4⟩
 have e:MExt w0 R0 ρ w m ρ2 w m:=⟨Nat.le_refl _,hr,fun b hb=>⟨(hro b).1 hb,rfl⟩⟩
 refine⟨⟨h.below,h.lt,fun id B hB hs=>?_,fun id B hB hs=>?_,fun id id' B B' hB hB' hs hs' he=>?_,fun id B hB=>?_,h.hid.1,fun id B hB hs=>?_⟩,e,fun b=>(hro b).2⟩
 ·rw[hr id (h.lt id B hB)]at hs ⊢;exact h.lo id B hB hs
 ·rw[hr id (h.lt id B hB)]at hs ⊢;exact h.hi id B hB hs
 ·rw[hr id (h.lt id B hB)]at hs he;rw[hr id' (h.lt id' B' hB')]at hs' he;exact h.inj id id' B B' hB hB' hs hs' he
 ·rw[hr id (h.lt id B hB)];exact BoxRel.mono e B (fun _=>rfl) (h.box id B hB)
 ·rw[hr id (h.lt id B hB)]at hs ⊢;exact h.hid.2 id B hB hs
section
variable {P:Program}
def Tb.mapI{β:Type}:Tb β→(Nat→Option β)→Tb β
 |.e,_=>.e
 |.n l v r,f=>.n (l.mapI fun k=>f (2*k+1)) (match v with|some _=>f 0|none=>none) (r.mapI fun k=>f (2*k+2))
theorem Tb.get_mapI{β:Type}:∀ (t:Tb β) (f:Nat→Option β) (i:Nat),(t.mapI f).get i=if(t.get i).isSome=true then f i else none
 |.e,f,i=>by simp[Tb.mapI,Tb.get]
 |.n l v r,f,i=>by
  unfold Tb.mapI
  cases i with
  |zero=>
   show(match v with|some _=>f 0|none=>none)=if(v.isSome)=true then f 0 else none
   cases v<;>rfl
  |succ j=>
   rw[Tb.get_n_succ,Tb.get_n_succ]
   by_cases hj:j % 2=0
   ·rw[Tb.pick_even hj,Tb.pick_even hj,Tb.get_mapI l]
    rw[show 2*(j / 2)+1=j+1 by omega]
   ·rw[Tb.pick_odd hj,Tb.pick_odd hj,Tb.get_mapI r]
    rw[show 2*(j / 2)+2=j+1 by omega]
structure Light (mF:Mem) (v:SV) (mF':Mem) (o:Oper) (ev:Operand→SV):Prop where
 ops:∀x∈o.op.operands,(ev x).under mF.next=true
 box:∀id B,mF.get id=some B→id<mF.next∧∀k,mF.next≤k→mentB k (some B)=false
 val:∀k,ment k v=true→(mF.get k).isSome=true
 box':∀id,(mF.get id).isSome=true→∀B,mF'.get id=some B→∀k,mentB k (some B)=true→(mF.get k).isSome=true
 le:mF.next≤mF'.next
theorem light_core{mF mF' m2 m2':Mem}{v:SV}(hbox:∀id B,mF.get id=some B→id<mF.next∧∀k,mF.next≤k→mentB k (some B)=false)(hval:∀k,ment k v=true→(mF.get k).isSome=true)(hbox':∀id,(mF.get id).isSome=true→∀B,mF'.get id=some B→∀k,mentB k (some B)=true→(mF.get k).isSome=true)
  (h1:∀id B,mF.get id=some B→m2.get id=some B) (h2:∀id B,m2'.get id=some B→((mF.get id).isSome=true∧mF'.get id=some B)∨(mF.get id=none∧m2.get id=some B)) (hn':m2'.next=m2.next)
  {w0:World} {R0:RSet} {ρ:Rho} {w:World} (hm:MRel w0 R0 ρ w m2):
  ∃R0':RSet,MRel w0 R0' ρ w mF∧(∀b,RO w0 R0 ρ w m2 b→RO w0 R0' ρ w mF b)∧∀u w',OpOut w0 R0' ρ w mF v mF' u w'→OpOut w0 R0 ρ w m2 v m2' u w':=by
 have hsome:∀k,(mF.get k).isSome=true→k<mF.next∧k<m2.next:=fun k hk=>by
  cases hB:mF.get k with
  |none=>rw[hB]at hk;cases hk
  |some B=>exact⟨(hbox k B hB).1,hm.lt k B (h1 k B hB)⟩
 -- one number of names for all
 obtain⟨N,hN1,hN2⟩:∃N,m2.next≤N∧mF.next≤N:=⟨max m2.next mF.next,Nat.le_max_left _ _,Nat.le_max_right _ _⟩
 obtain⟨b1,b2⟩:=hm.bumpN (m2:=⟨N,m2.tb⟩) (fun _=>rfl) hN1
 obtain⟨R0',k1,k2,k3⟩:=frame_core (mF:=⟨N,mF.tb⟩) b1 h1 rfl
 obtain⟨s1,s2⟩:=k1.shrink (m:=mF) (fun id B hB=>hB) hbox
 have roF:∀b,RO w0 R0 ρ w m2 b→RO w0 R0' ρ w mF b:=fun b hb=>s2 b (by rw[k2];exact(b2.keep b hb).1)
 refine⟨R0',s1,roF,?_⟩
 rintro u w' ⟨ρ',g1,g2,g3⟩
 -- what is kept of the boxes
 let ms:Mem:=⟨mF.next,mF.tb.mapI fun id=>mF'.get id⟩
 have hms:∀id,ms.get id=if(mF.get id).isSome=true then mF'.get id else none:=fun id=>Tb.get_mapI _ _ _
 have kept:∀id B,ms.get id=some B→(mF.get id).isSome=true∧mF'.get id=some B:=fun id B hB=>by
  rw[hms id]at hB
  split at hB
  ·rename_i hs;exact⟨hs,hB⟩
  ·cases hB
 obtain⟨q1,q2⟩:=g1.shrink (m:=ms) (fun id B hB=>(kept id B hB).2) (fun id B hB=>by
  obtain⟨x1,x2⟩:=kept id B hB
  refine⟨(hsome id x1).1,fun k hk=>?_⟩
  cases hmk:mentB k (some B)with
  |false=>rfl
  |true=>
   have:=(hsome k (hbox' id x1 B x2 k hmk)).1
   have hk:mF.next≤k:=hk
   omega)
 obtain⟨r1,r2,r3⟩:=q1.rho (ρ2:=ρ) (fun id hid=>(g2.same id hid).symm)
 obtain⟨c1,c2⟩:=r1.bumpN (m2:=⟨N,ms.tb⟩) (fun _=>rfl) hN2
 have ext:MExt w0 R0' ρ w ⟨N,mF.tb⟩ ρ w' ⟨N,ms.tb⟩:=⟨Nat.le_refl _,fun _ _=>rfl,fun b hb=>by
  obtain⟨y1,y2⟩:=g2.keep b (s2 b hb)
  exact⟨(c2.keep b (r2.keep b (q2 b y1)).1).1,y2⟩⟩
 obtain⟨d1,d2,d3⟩:=k3 (mF':=⟨N,ms.tb⟩) (m2':=⟨N,m2'.tb⟩) (fun id B hB=>by
  rcases h2 id B hB with⟨x1,x2⟩|x
  ·refine .inl ⟨?_,fun _=>x1⟩
   show ms.get id=some B
   rw[hms id,if_pos x1];exact x2
  ·exact .inr x) rfl c1 ext
 obtain⟨e1,e2⟩:=d1.shrink (m:=m2') (fun id B hB=>hB) (fun id B hB=>by
  rw[hn']
  rcases h2 id B hB with⟨x1,x2⟩|⟨x1,x2⟩
  ·refine⟨(hsome id x1).2,fun k hk=>?_⟩
   cases hmk:mentB k (some B)with
   |false=>rfl
   |true=>
    have:=(hsome k (hbox' id x1 B x2 k hmk)).2
    omega
  ·refine⟨hm.lt id B x2,fun k hk=>?_⟩
   cases hmk:mentB k (some B)with
   |false=>rfl
   |true=>
    have:=BoxRel.bound B (hm.box id B x2) hmk
    omega)
 refine⟨ρ,e1,⟨by rw[hn'];exact Nat.le_refl _,fun _ _=>rfl,fun b hb=>?_⟩,?_⟩
 ·obtain⟨y1,y2⟩:=d2.keep b (b2.keep b hb).1
  exact⟨e2 b y1,y2⟩
 ·have u1:v.under mF.next=true:=under_of v fun k hk=>by
   cases hmk:ment k v with
   |false=>rfl
   |true=>
    have:=(hsome k (hval k hmk)).1
    omega
  have u2:v.under m2'.next=true:=under_of v fun k hk=>by
   cases hmk:ment k v with
   |false=>rfl
   |true=>
    have:=(hsome k (hval k hmk)).2
    rw[hn']at hk
    omega
  have v1:Rep (RO w0 R0' ρ' w' ms) ρ' ms.next w' v u:=Rep.lower q2 _ _ u1 g3
  have v2:=Rep.mono r2 _ _ v1
  exact Rep.lower (fun b hb=>e2 b (d3 b (c2.keep b hb).1)) _ _ u2 v2
theorem SemOp.light{mF mF' m2 m2':Mem}{v:SV}{o:Oper}{ev:Operand→SV}(hF:SemOp P mF v mF' o ev)(hl:Light mF v mF' o ev)(h1:∀id B,mF.get id=some B→m2.get id=some B)
  (h2:∀id B,m2'.get id=some B→((mF.get id).isSome=true∧mF'.get id=some B)∨(mF.get id=none∧m2.get id=some B)) (hn':m2'.next=m2.next):SemOp P m2 v m2' o ev:=by
 intro w0 R0 ρ w eb hm hev
 obtain⟨R0',s1,roF,hk⟩:=light_core hl.box hl.val hl.box' h1 h2 hn' hm
 exact OpPost.mono (fun u w' h=>hk u w' h) (hF w0 R0' ρ w eb s1 fun x hx=>Rep.lower roF _ _ (hl.ops x hx) (hev x hx))
theorem SemCall.light{mF mF' m2 m2':Mem}{v:SV}{f:FuncId}{args:List SV}(hF:SemCall P mF v mF' f args)(hargs:underL mF.next args=true)
  (hbox:∀id B,mF.get id=some B→id<mF.next∧∀k,mF.next≤k→mentB k (some B)=false) (hval:∀k,ment k v=true→(mF.get k).isSome=true) (hbox':∀id,(mF.get id).isSome=true→∀B,mF'.get id=some B→∀k,mentB k (some B)=true→(mF.get k).isSome=true)
  (h1:∀id B,mF.get id=some B→m2.get id=some B) (h2:∀id B,m2'.get id=some B→((mF.get id).isSome=true∧mF'.get id=some B)∨(mF.get id=none∧m2.get id=some B)) (hn':m2'.next=m2.next):SemCall P m2 v m2' f args:=by
 intro w0 R0 ρ w vs hm hvs
 obtain⟨R0',s1,roF,hk⟩:=light_core hbox hval hbox' h1 h2 hn' hm
 exact OpPost.mono (fun u w' h=>hk u w' h) (hF w0 R0' ρ w vs s1 (RepL.lower roF _ _ hargs hvs))
theorem foldE_mem:∀ (es:List (SV×SV×Nat)) (l:List Nat),(∀j∈l,j∈es.foldl (fun l e=>idsV e.2.1 (idsV e.1 l)) l)∧∀k,(es.any fun e=>ment k e.1||ment k e.2.1)=true→k∈es.foldl (fun l e=>idsV e.2.1 (idsV e.1 l)) l
 |[],l=>⟨fun j hj=>hj,fun k h=>by cases h⟩
 |e::es,l=>by
  obtain⟨h1,h2⟩:=foldE_mem es (idsV e.2.1 (idsV e.1 l))
  refine⟨fun j hj=>h1 j ((idsV_mem (k:=j) e.2.1 _).2 j ((idsV_mem (k:=j) e.1 l).2 j hj)),fun k hk=>?_⟩
  rw[List.any_cons,Bool.or_eq_true,Bool.or_eq_true]at hk
  rcases hk with(hk|hk)|hk
  ·exact h1 k ((idsV_mem (k:=k) e.2.1 _).2 k ((idsV_mem (k:=k) e.1 l).1 hk))
  ·exact h1 k ((idsV_mem (k:=k) e.2.1 _).1 hk)
  ·exact h2 k hk
theorem idsB_mem{k:Nat}:∀ (b:Option Box),mentB k b=true→k∈idsB b []
 |some (.cells cs),h=>(idsL_mem (k:=k) cs []).1 h
 |some (.obj _ cs),h=>(idsL_mem (k:=k) cs []).1 h
 |some (.vec cs),h=>(idsL_mem (k:=k) cs []).1 h
 |some (.map es _),h=>(foldE_mem es []).2 k h
 |some (.miter (some i) _ _ _),h=>by
  have:i=k:=Nat.eq_of_beq_eq_true h
  subst this
  unfold idsB
  exact addId_mem.1
 |some (.miter none _ _ _),h=>by cases h
 |some (.rows _ _),h=>by cases h
 |some (.iter _ _),h=>by cases h
 |none,h=>by cases h
theorem isIn_spec{m:Mem}:∀{l:List Nat},isIn m l=true→∀k∈l,(m.get k).isSome=true
 |[],_,k,hk=>by simp at hk
 |x::l,h,k,hk=>by
  have e:isIn m (x::l)=match m.get x with
   |some _=>isIn m l
   |none=>false:=rfl
  rw[e]at h
  split at h
  ·rename_i B hB
   rcases List.mem_cons.1 hk with rfl|hk
   ·rw[hB];rfl
   ·exact isIn_spec h k hk
  ·cases h
theorem belowN_all{j:Nat}:∀{l:List Nat},belowN j l=true→∀k∈l,k<j
 |[],_,k,hk=>by simp at hk
 |x::l,h,k,hk=>by
  have e:belowN j (x::l)=match Nat.blt x j with
   |true=>belowN j l
   |false=>false:=rfl
  rw[e]at h
  split at h
  ·rename_i hx
   rcases List.mem_cons.1 hk with rfl|hk
   ·simpa using hx
   ·exact belowN_all h k hk
  ·cases h
theorem lightF_spec{n:Nat}{mF mF':Mem}:∀{F:List Nat},lightF n mF mF' F=true→∀id∈F,id<n∧belowN n (idsB (mF.get id) [])=true∧isIn mF (idsB (mF'.get id) [])=true
 |[],_,id,hid=>by simp at hid
 |x::F,h,id,hid=>by
  have e:lightF n mF mF' (x::F)=match Nat.blt x n with
   |true=>match belowN n (idsB (mF.get x) [])with
    |true=>match isIn mF (idsB (mF'.get x) [])with
     |true=>lightF n mF mF' F
     |false=>false
    |false=>false
   |false=>false:=rfl
  rw[e]at h
  split at h
  ·rename_i h1
   split at h
   ·rename_i h2
    split at h
    ·rename_i h3
     rcases List.mem_cons.1 hid with rfl|hid
     ·exact⟨by simpa using h1,h2,h3⟩
     ·exact lightF_spec h id hid
    ·cases h
   ·cases h
  ·cases h
theorem light_of{mF mF':Mem}{F:List Nat}{v:SV}{o:Oper}{ev:Operand→SV}{n:Nat}(hn:mF.next=n)(h:lightB n mF mF' F v (idsL (o.op.operands.toList.map ev) [])=true)(hF:∀id B,mF.get id=some B→id∈F)(hle:mF.next≤mF'.next):Light mF v mF' o ev:=by
 subst hn
 unfold lightB at h
 split at h
 ·rename_i h1
  split at h
  ·rename_i h2
   have h3:=lightF_spec h
   refine⟨fun x hx=>under_of _ fun k hk=>?_,fun id B hB=>?_,fun k hk=>isIn_spec h1 k ((idsV_mem (k:=k) v []).1 hk),fun id hs B hB k hk=>?_,hle⟩
   ·cases hmk:ment k (ev x)with
    |false=>rfl
    |true=>
     have hml:mentL k (o.op.operands.toList.map ev)=true:=mentL_mem (List.mem_map.2 ⟨x,by simpa using hx,rfl⟩) hmk
     have:=belowN_all h2 k ((idsL_mem (k:=k) _ []).1 hml)
     omega
   ·obtain⟨g1,g2,g3⟩:=h3 id (hF id B hB)
    refine⟨g1,fun k hk=>?_⟩
    cases hmk:mentB k (some B)with
    |false=>rfl
    |true=>
     rw[hB]at g2
     have:=belowN_all g2 k (idsB_mem _ hmk)
     omega
   ·cases hB0:mF.get id with
    |none=>rw[hB0]at hs;cases hs
    |some B0=>
     obtain⟨g1,g2,g3⟩:=h3 id (hF id B0 hB0)
     rw[hB]at g3
     exact isIn_spec g3 k (idsB_mem _ hk)
  ·cases h
 ·cases h
end
theorem tbSet_ex'{β:Type}:∀ (i:Nat) (t:Tb β) (v:Option β),∃t',TbSet t i v t':=by
 intro i
 induction i using Nat.strongRecOn with
 |ind i ih=>
  intro t v
  obtain⟨l,x,r,hg⟩:∃l x r,∀k,t.get k=(Tb.n l x r).get k:=by
   cases t with
   |n l x r=>exact⟨l,x,r,fun _=>rfl⟩
   |e=>
    refine⟨.e,none,.e,fun k=>?_⟩
    cases k with
    |zero=>rfl
    |succ j=>
     rw[Tb.get_n_succ]
     by_cases h:j % 2=0
     ·rw[Tb.pick_even h];rfl
     ·rw[Tb.pick_odd h];rfl
  cases i with
  |zero=>
   refine⟨.n l v r,fun k=>?_⟩
   cases k with
   |zero=>rfl
   |succ j=>rw[if_neg (by omega),hg];rfl
  |succ i=>
   by_cases hi:i % 2=0
   ·obtain⟨l',hl⟩:=ih (i / 2) (by omega) l v
    refine⟨.n l' x r,fun k=>?_⟩
    cases k with
    |zero=>rw[if_neg (by omega),hg];rfl
    |succ j=>
     rw[hg,Tb.get_n_succ,Tb.get_n_succ]
     by_cases h:j % 2=0
     ·rw[Tb.pick_even h,Tb.pick_even h,hl]
      by_cases e:j=i
      ·subst e;simp
      ·rw[if_neg (by omega),if_neg (by omega)]
     ·rw[Tb.pick_odd h,Tb.pick_odd h,if_neg (by omega)]
   ·obtain⟨r',hr⟩:=ih (i / 2) (by omega) r v
    refine⟨.n l x r',fun k=>?_⟩
    cases k with
    |zero=>rw[if_neg (by omega),hg];rfl
    |succ j=>
     rw[hg,Tb.get_n_succ,Tb.get_n_succ]
     by_cases h:j % 2=0
     ·rw[Tb.pick_even h,Tb.pick_even h,if_neg (by omega)]
     ·rw[Tb.pick_odd h,Tb.pick_odd h,hr]
      by_cases e:j=i
      ·subst e;simp
      ·rw[if_neg (by omega),if_neg (by omega)]
section
variable {P:Program} {E:Env} {α:Type} {L:α→Prop}
theorem hasN_iff{l:List Nat}{k:Nat}:hasN l k=true↔k∈l:=by
 simp only[hasN,List.any_eq_true]
 exact⟨fun⟨x,h1,h2⟩=>by rw[←Nat.eq_of_beq_eq_true h2];exact h1,fun h=>⟨k,h,by simp⟩⟩
theorem meet_iff{l k:List Nat}:meet l k=true↔∃x,x∈l∧x∈k:=by
 simp only[meet,List.any_eq_true]
 exact⟨fun⟨x,h1,h2⟩=>⟨x,h1,hasN_iff.1 h2⟩,fun⟨x,h1,h2⟩=>⟨x,h1,hasN_iff.2 h2⟩⟩
structure StepT (P:Program) (all:List Oper) (refs:List (Nat×Nat)) (i:Nat) (o:Oper) (fr:Fr) (m:Mem) (v:SV) (m1:Mem) (s:Rec):Prop where
 keep:∀id,id∉s.wt→m1.get id=m.get id
 le:m.next≤m1.next
 same:s.g=false→m1.next=m.next
 step:(gval all fr.get o=some false∧v=.undef∧s.wt=[] ∧s.g=false)∨
  (gval all fr.get o=some true∧∀m2 m2':Mem,(∀id,id∈s.rd∨id∈s.wt→m2.get id=m.get id)→(s.g=true→m2.next=m.next)→(∀id,m2'.get id=if id∈s.wt then m1.get id else m2.get id)→(m2'.next=if s.g=true then m1.next else m2.next)→SemOp P m2 v m2' o (evalIn fr))∨
  (∃t k r,o.op=.alloc t∧o.guard=none∧idOf refs i=some k∧RowOK P t r∧v=.ptr k 0∧s.wt=[k] ∧s.g=false∧m1.get k=some (.cells r.zero))
inductive ChainT (P:Program) (E:Env) (all:List Oper) (refs:List (Nat×Nat)):Nat→List Oper→List AccR→Fr→Mem→Fr→Mem→Prop where
 |nil (i:Nat) (acc:List AccR) (fr:Fr) (m:Mem):ChainT P E all refs i [] acc fr m fr m
 |cons {i:Nat} {o:Oper} {rest:List Oper} {acc:List AccR} {fr fr1 fr' fra:Fr} {m m1 m':Mem} {v:SV} {s:Rec} (hs:s.i=i) (hst:StepT P all refs i o fr m v m1 s) (hf:FSet fr o.dst v fr1) (hfa:∀t,fra.get t=fr.get t)
   (hacc:okAcc E all o acc s m1=true) (href:okRefs all refs o i v s.wt (s.wt.map m1.get)=true) (k:ChainT P E all refs (i+1) rest (⟨s,fra,o.op,v⟩::acc) fr1 m1 fr' m'):ChainT P E all refs i (o::rest) acc fr m fr' m'
theorem finT_holds{refs:List (Nat×Nat)}{all:List Oper}{o:Oper}{acc:List AccR}{ih:OpsT α}{v:SV}{p:Plan}{fr:Fr}{mN:Mem}{s:Rec}(h:(finT E refs all o acc ih v p fr mN s).holds L):
  ∃fr1,(ih (⟨s,fr,o.op,v⟩::acc) p fr1 mN).holds L∧FSet fr o.dst v fr1∧okAcc E all o acc s mN=true∧okRefs all refs o s.i v s.wt (s.wt.map mN.get)=true:=by
 unfold finT at h
 split at h
 ·rename_i hc
  rw[Bool.and_eq_true]at hc
  obtain⟨fr1,h1,h2⟩:=putK_holds h
  exact⟨fr1,h2,h1,hc.2,hc.1⟩
 ·exact h.elim
theorem runT_holds(hE:EOK P E){call callQ callG:CallK α}(hcall:CallOK P false call)(hcallQ:CallOK P true callQ)(hcallG:CallGOK P callG){refs:List (Nat×Nat)}{all:List Oper}{i:Nat}{o:Oper}{ih:OpsT α}{acc:List AccR}{p:Plan}{fr:Fr}{m:Mem}
  (hg:gval all fr.get o=some true) (h:(runT E call callQ callG refs all i o ih acc p fr m).holds L):
  ∃p' fr1 m1 v s,(ih (⟨s,fr,o.op,v⟩::acc) p' fr1 m1).holds L∧s.i=i∧StepT P all refs i o fr m v m1 s∧FSet fr o.dst v fr1∧okAcc E all o acc s m1=true∧okRefs all refs o i v s.wt (s.wt.map m1.get)=true:=by
 unfold runT at h
 split at h
 · -- a new variable
   split at h<;>try exact h.elim
   rename_i t hop
   split at h<;>try exact h.elim
   rename_i k hk
   split at h<;>try exact h.elim
   rename_i r hr
   have hgd:o.guard=none∧E.row t=some r:=by
    split at hr
    ·rename_i hgd;exact⟨hgd,hr⟩
    ·cases hr
   rw[frcL_eq]at h
   obtain⟨mN,h1,h2⟩:=Mem.set_holds h
   obtain⟨fr1,g1,g2,g3,g4⟩:=finT_holds h2
   refine⟨p,fr1,mN,_,_,g1,rfl,⟨fun id hid=>?_,by rw[h1.2];exact Nat.le_refl _,fun _=>h1.2,.inr (.inr ⟨t,k,r,hop,hgd.1,hk,hE.row _ _ hgd.2,rfl,rfl,rfl,by rw[h1.1 k,if_pos rfl]⟩)⟩,g2,g3,g4⟩
   rw[h1.1 id,if_neg (fun e=>hid (by rw[e];exact List.mem_cons_self))]
 ·split at h
  ·rename_i hk
   obtain⟨mF,h1,hn,ha,hb⟩:=only_get h
   obtain⟨v,p',mx,h2,h3⟩:=reader_at hE hcallQ hk h1
   obtain⟨fr1,g1,g2,g3,g4⟩:=finT_holds h2
   refine⟨p',fr1,m,v,_,g1,rfl,⟨fun _ _=>rfl,Nat.le_refl _,fun _=>rfl,.inr (.inl ⟨hg,fun m2 m2' e1 _ e3 e4=>?_⟩)⟩,g2,g3,g4⟩
   refine(h3 m2 fun id B hB=>?_).congr (fun _=>rfl) rfl (fun id=>by simpa using e3 id) (by simpa using e4)
   by_cases hid:id∈footR (evalIn fr) o.op
   ·rw[e1 id (.inl hid),←ha id hid];exact hB
   ·rw[hb id hid]at hB;cases hB
  ·split at h
   ·rename_i hk
    obtain⟨mF,h1,hn,ha,hb⟩:=only_get h
    obtain⟨mF',h2,h3⟩:=store_at hE hk h1
    obtain⟨mN,h4,h5,h6⟩:=patch_holds _ _ _ h2
    obtain⟨fr1,g1,g2,g3,g4⟩:=finT_holds h4
    refine⟨p,fr1,mN,_,_,g1,rfl,⟨fun id hid=>by rw[h6 id,if_neg hid],by rw[h5];exact Nat.le_refl _,fun _=>h5,.inr (.inl ⟨hg,fun m2 m2' e1 _ e3 e4=>?_⟩)⟩,g2,g3,g4⟩
    refine h3 m2 m2' (fun id hid=>by rw[e1 id (.inr hid),ha id hid]) (fun id=>?_) (by simpa using e4)
    rw[e3 id]
    by_cases hid:id∈footOf (evalIn fr) o.op
    ·have hid':id∈(Rec.mk i [] (footOf (evalIn fr) o.op) false).wt:=hid
     rw[if_pos hid',if_pos hid,h6 id,if_pos hid]
    ·have hid':id∉ (Rec.mk i [] (footOf (evalIn fr) o.op) false).wt:=hid
     rw[if_neg hid',if_neg hid]
   ·split at h
    · -- heap mode
      rename_i hhp
      split at h
      ·rename_i hk
       obtain⟨v,p',mx,h2,h3⟩:=slice_at hE hhp hk h
       obtain⟨fr1,g1,g2,g3,g4⟩:=finT_holds h2
       refine⟨p',fr1,m,v,_,g1,rfl,⟨fun _ _=>rfl,Nat.le_refl _,fun _=>rfl,.inr (.inl ⟨hg,fun m2 m2' e1 _ e3 e4=>?_⟩)⟩,g2,g3,g4⟩
       exact(h3 m2).congr (fun _=>rfl) rfl (fun id=>by simpa using e3 id) (by simpa using e4)
      ·split at h
       ·rename_i hd
        have hd:=(Bool.and_eq_true _ _▸hd).2
        obtain⟨v,p',mc,h1,_,h3,_⟩:=execOp_sound hE hcall h
        split at h1
        ·rename_i hv
         rw[frc_eq]at h1
         obtain⟨fr1,g1,g2,g3,g4⟩:=finT_holds h1
         refine⟨p',fr1,m,_,_,g1,rfl,⟨fun _ _=>rfl,Nat.le_refl _,fun _=>rfl,.inr (.inl ⟨hg,fun m2 m2' e1 _ e3 e4=>?_⟩)⟩,g2,g3,g4⟩
         exact(semOp_free hd hv h3 m2).congr (fun _=>rfl) rfl (fun id=>by simpa using e3 id) (by simpa using e4)
        ·exact h1.elim
       ·unfold runH at h
        obtain⟨mF,h1,hn,ha,hb⟩:=only_get h
        obtain⟨v,p',mF',h2,_,h3,_⟩:=execOp_sound hE hcall h1
        split at h2
        ·rename_i hle
         have hle:=Nat.le_of_ble_eq_true hle
         split at h2
         ·rename_i hlb
          obtain⟨mN,h4,h5,h6⟩:=patch_holds _ _ _ h2
          obtain⟨fr1,g1,g2,g3,g4⟩:=finT_holds h4
          generalize hFd:reachN m 100000 (footOf (evalIn fr) o.op) 0=F at *
          generalize hWd:turnedL mF mF' F=W at *
          have h5:mN.next=m.next:=h5
          have h6:∀id,mN.get id=if id∈W then mF'.get id else m.get id:=h6
          have hin:∀id B,mF.get id=some B→id∈F:=fun id B hB=>by
           by_cases hf:id∈F
           ·exact hf
           ·rw[hb id hf]at hB;cases hB
          have hl:=light_of (o:=o) (ev:=evalIn fr) hn hlb hin hle
          refine⟨p',fr1,mN,v,_,g1,rfl,⟨fun id hid=>?_,by rw[h5];exact Nat.le_refl _,fun _=>h5,.inr (.inl ⟨hg,fun m2 m2' e1 _ e3 e4=>?_⟩)⟩,g2,g3,g4⟩
          ·have hid:id∉W:=hid
           rw[h6 id,if_neg hid]
          ·have e1:∀id,id∈F∨id∈W→m2.get id=m.get id:=e1
           have e3:∀id,m2'.get id=if id∈W then mN.get id else m2.get id:=e3
           have e4:m2'.next=m2.next:=by simpa using e4
           refine h3.light hl (fun id B hB=>?_) (fun id B hB=>?_) e4
           ·have hf:=hin id B hB
            rw[e1 id (.inl hf),←ha id hf];exact hB
           ·rw[e3 id]at hB
            by_cases hw:id∈W
            ·rw[if_pos hw,h6 id,if_pos hw]at hB
             rw[←hWd]at hw
             have hc:=(List.mem_filter.1 hw).2
             cases hmf:mF.get id with
             |none=>rw[hmf]at hc;cases hc
             |some B'=>exact .inl ⟨rfl,hB⟩
            ·rw[if_neg hw]at hB
             by_cases hf:id∈F
             ·have hmf:mF.get id=some B:=by rw[ha id hf,←e1 id (.inl hf)];exact hB
              have hnt:¬id∈turnedL mF mF' F:=fun hc=>hw (by rw[←hWd];exact hc)
              have hs:sameBox (mF'.get id) (some B)=true:=by
               cases hs:sameBox (mF'.get id) (some B)with
               |true=>rfl
               |false=>exact absurd (List.mem_filter.2 ⟨hf,by rw[hmf];dsimp only;rw[hs];rfl⟩) hnt
              exact .inl ⟨by rw[hmf];rfl,sameBox_eq hs⟩
             ·exact .inr ⟨hb id hf,hB⟩
         ·obtain⟨mN,h4,h5,h6⟩:=patch_holds _ _ _ h2
          obtain⟨fr1,g1,g2,g3,g4⟩:=finT_holds h4
          generalize hFd:reachN m 100000 (footOf (evalIn fr) o.op) 0=F at *
          generalize hWd:turnedL mF mF' F++List.range' m.next (mF'.next-m.next)=W at *
          have h5:mN.next=mF'.next:=h5
          have h6:∀id,mN.get id=if id∈W then mF'.get id else m.get id:=h6
          refine⟨p',fr1,mN,v,_,g1,rfl,⟨fun id hid=>?_,by rw[h5,←hn];exact hle,(by intro hc;cases hc),.inr (.inl ⟨hg,fun m2 m2' e1 e2 e3 e4=>?_⟩)⟩,g2,g3,g4⟩
          ·have hid:id∉W:=hid
           rw[h6 id,if_neg hid]
          ·have e1:∀id,id∈F∨id∈W→m2.get id=m.get id:=e1
           have e3:∀id,m2'.get id=if id∈W then mN.get id else m2.get id:=e3
           have e4:m2'.next=mN.next:=by simpa using e4
           have hin:∀id B,mF.get id=some B→id∈F:=fun id B hB=>by
            by_cases hf:id∈F
            ·exact hf
            ·rw[hb id hf]at hB;cases hB
           refine h3.frame (fun id B hB=>?_) (by rw[e2 rfl,hn]) (fun id B hB=>?_) (by rw[e4,h5])
           ·have hf:=hin id B hB
            rw[e1 id (.inl hf),←ha id hf];exact hB
           ·rw[e3 id]at hB
            by_cases hw:id∈W
            ·rw[if_pos hw,h6 id,if_pos hw]at hB
             refine .inl ⟨hB,fun hlt=>?_⟩
             rw[←hWd]at hw
             rcases List.mem_append.1 hw with hw|hw
             ·have hc:=(List.mem_filter.1 hw).2
              cases hmf:mF.get id with
              |none=>rw[hmf]at hc;cases hc
              |some B'=>rfl
             ·have:=(List.mem_range'_1.1 hw).1;omega
            ·rw[if_neg hw]at hB
             by_cases hf:id∈F
             ·have hmf:mF.get id=some B:=by rw[ha id hf,←e1 id (.inl hf)];exact hB
              have hnt:¬id∈turnedL mF mF' F:=fun hc=>hw (by rw[←hWd];exact List.mem_append_left _ hc)
              have hs:sameBox (mF'.get id) (some B)=true:=by
               cases hs:sameBox (mF'.get id) (some B)with
               |true=>rfl
               |false=>exact absurd (List.mem_filter.2 ⟨hf,by rw[hmf];dsimp only;rw[hs];rfl⟩) hnt
              exact .inl ⟨sameBox_eq hs,fun _=>by rw[hmf];rfl⟩
             ·exact .inr ⟨hb id hf,hB⟩
        ·exact h2.elim
    ·rename_i hhp
     split at h
     ·rename_i hk
      obtain⟨mF,h1,hn,ha,hb⟩:=only_get h
      obtain⟨v,p',mF',h2,hle,h3⟩:=maker_at hE hhp hcallG hk h1
      obtain⟨mN,h4,h5,h6⟩:=patch_holds _ _ _ h2
      obtain⟨fr1,g1,g2,g3,g4⟩:=finT_holds h4
      have h5:mN.next=mF'.next:=h5
      have h6:∀id,mN.get id=if id∈footOf (evalIn fr) o.op++List.range' m.next (mF'.next-m.next)then mF'.get id else m.get id:=h6
      refine⟨p',fr1,mN,v,_,g1,rfl,⟨fun id hid=>?_,by rw[h5,←hn];exact hle,(by intro hc;cases hc),.inr (.inl ⟨hg,fun m2 m2' e1 e2 e3 e4=>?_⟩)⟩,g2,g3,g4⟩
      ·have hid':id∉footOf (evalIn fr) o.op++List.range' m.next (mF'.next-m.next):=hid
       rw[h6 id,if_neg hid']
      ·have e1:∀id,id∈([] :List Nat)∨id∈footOf (evalIn fr) o.op++List.range' m.next (mF'.next-m.next)→m2.get id=m.get id:=e1
       have e3:∀id,m2'.get id=if id∈footOf (evalIn fr) o.op++List.range' m.next (mF'.next-m.next)then mN.get id else m2.get id:=e3
       have e4:m2'.next=mN.next:=by simpa using e4
       refine h3 m2 m2' (fun id hid=>by rw[e1 id (.inr (List.mem_append_left _ hid)),ha id hid]) (by rw[e2 rfl,hn]) (fun id=>?_) (by rw[e4,h5])
       rw[e3 id,hn]
       by_cases hid:id∈footOf (evalIn fr) o.op++List.range' m.next (mF'.next-m.next)
       ·rw[if_pos hid,if_pos hid,h6 id,if_pos hid]
       ·rw[if_neg hid,if_neg hid]
     ·split at h
      ·rename_i hd
       obtain⟨v,p',mc,h1,_,h3,_⟩:=execOp_sound hE hcall h
       split at h1
       ·rename_i hv
        rw[frc_eq]at h1
        obtain⟨fr1,g1,g2,g3,g4⟩:=finT_holds h1
        refine⟨p',fr1,m,_,_,g1,rfl,⟨fun _ _=>rfl,Nat.le_refl _,fun _=>rfl,.inr (.inl ⟨hg,fun m2 m2' e1 _ e3 e4=>?_⟩)⟩,g2,g3,g4⟩
        exact(semOp_free hd hv h3 m2).congr (fun _=>rfl) rfl (fun id=>by simpa using e3 id) (by simpa using e4)
       ·exact h1.elim
      ·exact h.elim
theorem oneOpT_holds(hE:EOK P E){call callQ callG:CallK α}(hcall:CallOK P false call)(hcallQ:CallOK P true callQ)(hcallG:CallGOK P callG){refs:List (Nat×Nat)}{all:List Oper}{i:Nat}{o:Oper}{ih:OpsT α}{acc:List AccR}{p:Plan}{fr:Fr}{m:Mem}
  (h:(oneOpT E call callQ callG refs all i o ih acc p fr m).holds L):
  ∃p' fr1 m1 v s fra,(ih (⟨s,fra,o.op,v⟩::acc) p' fr1 m1).holds L∧s.i=i∧StepT P all refs i o fr m v m1 s∧FSet fr o.dst v fr1∧(∀t,fra.get t=fr.get t)∧okAcc E all o acc s m1=true∧okRefs all refs o i v s.wt (s.wt.map m1.get)=true:=by
 have run:∀ (p:Plan) (fr2:Fr),(∀t,fr2.get t=fr.get t)→fr2.size=fr.size→gval all fr.get o=some true→(runT E call callQ callG refs all i o ih acc p fr2 m).holds L→
   ∃p' fr1 m1 v s fra,(ih (⟨s,fra,o.op,v⟩::acc) p' fr1 m1).holds L∧s.i=i∧StepT P all refs i o fr m v m1 s∧FSet fr o.dst v fr1∧(∀t,fra.get t=fr.get t)∧okAcc E all o acc s m1=true∧okRefs all refs o i v s.wt (s.wt.map m1.get)=true:=by
  intro p fr2 hg hs hgv h
  have hgf:fr2.get=fr.get:=funext hg
  have he:evalIn fr2=evalIn fr:=funext fun x=>by cases x<;>simp[evalIn,hg]
  obtain⟨p',fr1,m1,v,s,h1,h2,⟨k1,k2,k3,k4⟩,h4,h5,h6⟩:=runT_holds hE hcall hcallQ hcallG (by rw[hgf];exact hgv) h
  rw[he,hgf]at k4
  exact⟨p',fr1,m1,v,s,fr2,h1,h2,⟨k1,k2,k3,k4⟩,⟨h4.1.trans hs,fun t ht=>by rw[←hs];exact h4.2.1 t ht,fun t=>by rw[h4.2.2 t,hg t]⟩,hg,h5,h6⟩
 have skip:∀ (p:Plan) (fr2:Fr),(∀t,fr2.get t=fr.get t)→fr2.size=fr.size→gval all fr.get o=some false→(putK fr2 o.dst .undef fun fr=>ih (⟨⟨i,[],[],false⟩,fr2,o.op,.undef⟩::acc) p fr m).holds L→
   ∃p' fr1 m1 v s fra,(ih (⟨s,fra,o.op,v⟩::acc) p' fr1 m1).holds L∧s.i=i∧StepT P all refs i o fr m v m1 s∧FSet fr o.dst v fr1∧(∀t,fra.get t=fr.get t)∧okAcc E all o acc s m1=true∧okRefs all refs o i v s.wt (s.wt.map m1.get)=true:=by
  intro p fr2 hg hs hgv h
  obtain⟨fr1,h4,h5⟩:=putK_holds h
  refine⟨p,fr1,m,.undef,⟨i,[],[],false⟩,fr2,h5,rfl,⟨fun _ _=>rfl,Nat.le_refl _,fun _=>rfl,.inl ⟨hgv,rfl,rfl,rfl⟩⟩,⟨h4.1.trans hs,fun t ht=>by rw[←hs];exact h4.2.1 t ht,fun t=>by rw[h4.2.2 t,hg t]⟩,hg,?_,?_⟩
  ·unfold okAcc
   rw[List.all_eq_true]
   intro r _
   simp[Rec.conf,meet,hasN]
  ·unfold okRefs
   rw[List.all_eq_true]
   intro ck _
   simp[ment,hasN]
 unfold oneOpT at h
 cases hg:o.guard with
 |none=>
  rw[hg]at h
  exact run p fr (fun _=>rfl) rfl (by simp[gval,hg]) h
 |some jw=>
  rw[hg]at h
  dsimp only at h
  rw[nth_eq]at h
  split at h
  ·rename_i oj hoj
   split at h
   ·rename_i d hd
    have hb:(all[jw.1]?).bind (·.dst)=some d:=by rw[hoj];exact hd
    split at h
    ·rename_i b hfr
     obtain⟨p',h⟩:=dec_holds h
     obtain⟨fr2,h1,h2⟩:=Fr.set_holds h
     have hget:∀t,fr2.get t=fr.get t:=fun t=>by
      rw[h1.2.2 t]
      by_cases ht:some d=some t
      ·injection ht with ht;subst ht;rw[if_pos rfl,hfr]
      ·rw[if_neg ht]
     split at h2
     ·rename_i hbw
      exact run p' fr2 hget h1.1 (by simp only[gval,hg,hb,hfr];rw[hbw]) h2
     ·rename_i hbw
      exact skip p' fr2 hget h1.1 (by simp only[gval,hg,hb,hfr];rw[hbw]) h2
    ·rename_i hfr
     exact skip p fr (fun _=>rfl) rfl (by simp only[gval,hg,hb,hfr]) h
    ·exact h.elim
   ·exact h.elim
  ·exact h.elim
theorem execOpsT_chain(hE:EOK P E){call callQ callG:CallK α}(hcall:CallOK P false call)(hcallQ:CallOK P true callQ)(hcallG:CallGOK P callG){refs:List (Nat×Nat)}{all:List Oper}{k:OpsK α}:∀ (ops:List Oper) (i:Nat) (acc:List AccR) (p:Plan) (fr:Fr) (m:Mem),
  (execOpsT E call callQ callG refs all ops k i acc p fr m).holds L→∃p' fr' m',(k p' fr' m').holds L∧ChainT P E all refs i ops acc fr m fr' m'
 |[],i,acc,p,fr,m,h=>⟨p,fr,m,h,.nil i acc fr m⟩
 |o::rest,i,acc,p,fr,m,h=>by
  change (oneOpT E call callQ callG refs all i o (execOpsT E call callQ callG refs all rest k (i+1)) acc p fr m).holds L at h
  obtain⟨p1,fr1,m1,v,s,fra,h1,h2,h3,h4,hfa,h5,h6⟩:=oneOpT_holds hE hcall hcallQ hcallG h
  obtain⟨p',fr',m',h7,h8⟩:=execOpsT_chain hE hcall hcallQ hcallG rest (i+1) (⟨s,fra,o.op,v⟩::acc) p1 fr1 m1 h1
  exact⟨p',fr',m',h7,.cons h2 h3 h4 hfa h5 h6 h8⟩
structure Soft (P:Program) (oi:Oper) (fri:Fr) (vi:SV) (ms:Nat→Mem) (rs:Nat→Rec) (i j:Nat):Prop where
 wt:(rs i).wt=[]
 g:(rs i).g=false
 only:∀k,i<k→k<j→meet (rs k).wt (rs i).rd=false
 sem:∀m2:Mem,(∀id,id∈(rs i).rd→m2.get id=(ms (j+1)).get id)→SemOp P m2 vi m2 oi (evalIn fri)
structure WalkT (P:Program) (all:List Oper) (refs:List (Nat×Nat)) (m m':Mem) (fr fr':Fr) (frs:Nat→Fr) (vals:Nat→SV) (ms:Nat→Mem) (rs:Nat→Rec):Prop where
 first:frs 0=fr
 last:frs all.length=fr'
 mfirst:ms 0=m
 mlast:ms all.length=m'
 step:∀i o,all[i]? =some o→StepT P all refs i o (frs i) (ms i) (vals i) (ms (i+1)) (rs i)
 next:∀i o,all[i]? =some o→FSet (frs i) o.dst (vals i) (frs (i+1))
 conf:∀i j oi o,all[i]? =some oi→all[j]? =some o→i<j→(rs i).conf (rs j)=true→boundTo all 3 o i=true∨Soft P oi (frs i) (vals i) ms rs i j
 refs:∀i o,all[i]? =some o→okRefs all refs o i (vals i) (rs i).wt ((rs i).wt.map (ms (i+1)).get)=true
noncomputable def accN(ops:List Oper)(frs:Nat→Fr)(vals:Nat→SV)(rs:Nat→Rec):Nat→List AccR
 |0=>[]
 |n+1=>match ops[n]? with
  |some o=>⟨rs n,frs n,o.op,vals n⟩::accN ops frs vals rs n
  |none=>accN ops frs vals rs n
theorem accN_cons(o:Oper)(rest:List Oper)(frs:Nat→Fr)(vals:Nat→SV)(rs:Nat→Rec):∀n,accN (o::rest) frs vals rs (n+1)=accN rest (fun i=>frs (i+1)) (fun i=>vals (i+1)) (fun i=>rs (i+1)) n++[⟨rs 0,frs 0,o.op,vals 0⟩]
 |0=>rfl
 |n+1=>by
  have ih:=accN_cons o rest frs vals rs n
  have e1:accN (o::rest) frs vals rs (n+1+1)=match rest[n]? with
   |some o'=>⟨rs (n+1),frs (n+1),o'.op,vals (n+1)⟩::accN (o::rest) frs vals rs (n+1)
   |none=>accN (o::rest) frs vals rs (n+1):=by
   conv=>lhs;unfold accN
   rw[List.getElem?_cons_succ]
  have e2:accN rest (fun i=>frs (i+1)) (fun i=>vals (i+1)) (fun i=>rs (i+1)) (n+1)=match rest[n]? with
   |some o'=>⟨rs (n+1),frs (n+1),o'.op,vals (n+1)⟩::accN rest (fun i=>frs (i+1)) (fun i=>vals (i+1)) (fun i=>rs (i+1)) n
   |none=>accN rest (fun i=>frs (i+1)) (fun i=>vals (i+1)) (fun i=>rs (i+1)) n:=by
   conv=>lhs;unfold accN
  rw[e1,e2,ih]
  cases rest[n]? <;>rfl
theorem accN_mem{ops:List Oper}{frs:Nat→Fr}{vals:Nat→SV}{rs:Nat→Rec}{i:Nat}{o:Oper}(ho:ops[i]? =some o):∀n,i<n→(⟨rs i,frs i,o.op,vals i⟩:AccR)∈accN ops frs vals rs n
 |0,h=>by omega
 |n+1,h=>by
  unfold accN
  rcases Nat.lt_or_ge i n with h1|h1
  ·have:=accN_mem (frs:=frs) (vals:=vals) (rs:=rs) ho n h1
   cases ops[n]? with
   |none=>exact this
   |some o'=>exact List.mem_cons_of_mem _ this
  ·have:i=n:=by omega
   subst this
   rw[ho]
   exact List.mem_cons_self
theorem ChainT.index{all:List Oper}{refs:List (Nat×Nat)}:∀{i:Nat} {ops:List Oper} {acc:List AccR} {fr fr':Fr} {m m':Mem},ChainT P E all refs i ops acc fr m fr' m'→∃ (frs:Nat→Fr) (vals:Nat→SV) (ms:Nat→Mem) (rs:Nat→Rec) (fas:Nat→Fr),frs 0=fr∧frs ops.length=fr'∧ms 0=m∧ms ops.length=m'∧
  (∀j o,ops[j]? =some o→StepT P all refs (i+j) o (frs j) (ms j) (vals j) (ms (j+1)) (rs j))∧(∀j o,ops[j]? =some o→FSet (frs j) o.dst (vals j) (frs (j+1)))∧
  (∀j o,ops[j]? =some o→(rs j).i=i+j)∧(∀j o,ops[j]? =some o→∀t,(fas j).get t=(frs j).get t)∧(∀j o,ops[j]? =some o→okAcc E all o (accN ops fas vals rs j++acc) (rs j) (ms (j+1))=true)∧
  (∀j o,ops[j]? =some o→okRefs all refs o (i+j) (vals j) (rs j).wt ((rs j).wt.map (ms (j+1)).get)=true):=by
 intro i ops acc fr fr' m m' h
 induction h with
 |nil i acc fr m=>exact⟨fun _=>fr,fun _=>.undef,fun _=>m,fun _=>⟨0,[],[],false⟩,fun _=>fr,rfl,rfl,rfl,rfl,fun j o h=>by simp at h,fun j o h=>by simp at h,fun j o h=>by simp at h,fun j o h=>by simp at h,fun j o h=>by simp at h,fun j o h=>by simp at h⟩
 |@cons i o rest acc fr fr1 fr' fra m m1 m' v s hs hst hf hfa hacc href k ih=>
  obtain⟨frs,vals,ms,rs,fas,h1,h2,h1m,h2m,h3,h4,h5,h6,h7,h8⟩:=ih
  refine⟨fun i=>Nat.casesOn i fr frs,fun i=>Nat.casesOn i v vals,fun i=>Nat.casesOn i m ms,fun i=>Nat.casesOn i s rs,fun i=>Nat.casesOn i fra fas,rfl,h2,rfl,h2m,fun j o' hj=>?_,fun j o' hj=>?_,fun j o' hj=>?_,fun j o' hj=>?_,fun j o' hj=>?_,fun j o' hj=>?_⟩
  ·cases j with
   |zero=>simp at hj;subst hj;dsimp only;rw[h1m];exact hst
   |succ j=>have:=h3 j o' (by simpa using hj);rwa [show i+(j+1)=i+1+j by omega]
  ·cases j with
   |zero=>simp at hj;subst hj;dsimp only;rw[h1];exact hf
   |succ j=>exact h4 j o' (by simpa using hj)
  ·cases j with
   |zero=>exact hs
   |succ j=>have:=h5 j o' (by simpa using hj);dsimp only;omega
  ·cases j with
   |zero=>exact hfa
   |succ j=>exact h6 j o' (by simpa using hj)
  ·cases j with
   |zero=>simp at hj;subst hj;dsimp only;rw[h1m];exact hacc
   |succ j=>
    rw[accN_cons]
    have:=h7 j o' (by simpa using hj)
    rw[List.append_assoc]
    exact this
  ·cases j with
   |zero=>simp at hj;subst hj;dsimp only;rw[h1m];exact href
   |succ j=>have:=h8 j o' (by simpa using hj);rwa [show i+(j+1)=i+1+j by omega]
theorem isV_eq{v:SV}{T:Tree SV}(h:isV v T=true):T.holds fun u=>u=v:=by
 cases T with
 |leaf u=>exact sameSV_eq _ _ h
 |node _ _ _=>cases h
 |req _ _=>cases h
 |fail _=>cases h
theorem soft_of(hE:EOK P E){all:List Oper}{frs fas:Nat→Fr}{vals:Nat→SV}{ms:Nat→Mem}{rs:Nat→Rec}{i j:Nat}{oi:Oper}(hoi:all[i]? =some oi)(hj:j≤all.length)(hi:∀k o,all[k]? =some o→(rs k).i=k)(hfa:∀t,(fas i).get t=(frs i).get t)
  (h:softB E (accN all fas vals rs j) ⟨rs i,fas i,oi.op,vals i⟩ (ms (j+1))=true):Soft P oi (frs i) (vals i) ms rs i j:=by
 unfold softB at h
 dsimp only at h
 split at h
 ·cases h
 ·rename_i hw
  split at h
  ·cases h
  ·rename_i hg
   split at h
   ·rename_i hk
    split at h
    ·rename_i hall
     refine⟨hw,hg,fun k h1 h2=>?_,fun m2 hm2=>?_⟩
     ·obtain⟨ok,hok⟩:∃o,all[k]? =some o:=⟨_,List.getElem?_eq_getElem (by omega)⟩
      have:=List.all_eq_true.1 hall _ (accN_mem (frs:=fas) (vals:=vals) (rs:=rs) hok j h2)
      dsimp only at this
      rw[hi k ok hok,hi i oi hoi]at this
      have hn:Nat.ble k i=false:=by
       rw[←Bool.not_eq_true];intro hb
       have:=Nat.le_of_ble_eq_true hb;omega
      rw[hn]at this
      simpa using this
     ·have h:=isV_eq h
      obtain⟨mF,h1,hn,ha,hb⟩:=only_get h
      have he:evalIn (fas i)=evalIn (frs i):=funext fun x=>by cases x<;>simp[evalIn,hfa]
      rw[he]at h1
      obtain⟨v,p',m',h3,h4⟩:=reader_at (o:=oi) hE noCall_ok hk h1
      have h3:v=vals i:=h3
      subst h3
      refine h4 m2 fun id B hB=>?_
      by_cases hid:id∈(rs i).rd
      ·rw[hm2 id hid,←ha id hid];exact hB
      ·rw[hb id hid]at hB;cases hB
    ·cases h
   ·cases h
theorem ChainT.toWalk(hE:EOK P E){all:List Oper}{refs:List (Nat×Nat)}{m m':Mem}{fr fr':Fr}(h:ChainT P E all refs 0 all [] fr m fr' m'):∃frs vals ms rs,WalkT P all refs m m' fr fr' frs vals ms rs:=by
 obtain⟨frs,vals,ms,rs,fas,h1,h2,h3,h4,h5,h6,h7,h8,h9,h10⟩:=h.index
 refine⟨frs,vals,ms,rs,h1,h2,h3,h4,fun i o ho=>?_,h6,fun i j oi o hoi ho hij hc=>?_,fun i o ho=>?_⟩
 ·have:=h5 i o ho;rwa [Nat.zero_add]at this
 ·have ha:=h9 j o ho
  rw[List.append_nil]at ha
  have ha:=List.all_eq_true.1 ha _ (accN_mem (frs:=fas) (vals:=vals) (rs:=rs) hoi j hij)
  dsimp only at ha
  have hri:=h7 i oi hoi
  rw[Nat.zero_add]at hri
  rw[hc,hri]at ha
  simp only[Bool.not_true,Bool.false_or,Bool.or_eq_true]at ha
  rcases ha with ha|ha
  ·exact .inl ha
  ·refine .inr (soft_of hE hoi ?_ (fun k o' hk=>by have:=h7 k o' hk;omega) (h8 i oi hoi) ha)
   have:=(List.getElem?_eq_some_iff.1 ho).1
   omega
 ·have:=h10 i o ho;rwa [Nat.zero_add]at this
noncomputable def getS(ms:Nat→Mem)(rs:Nat→Rec)(S:Nat→Bool):Nat→Nat→Option Box
 |0,id=>(ms 0).get id
 |n+1,id=>if S n=true∧id∈(rs n).wt then(ms (n+1)).get id else getS ms rs S n id
noncomputable def nextS(ms:Nat→Mem)(rs:Nat→Rec)(S:Nat→Bool):Nat→Nat
 |0=>(ms 0).next
 |n+1=>if S n=true∧(rs n).g=true then(ms (n+1)).next else nextS ms rs S n
theorem override_ex(f:Nat→Option Box):∀ (l:List Nat) (t:Tb Box),∃t':Tb Box,∀id,t'.get id=if id∈l then f id else t.get id
 |[],t=>⟨t,fun id=>by simp⟩
 |i::l,t=>by
  obtain⟨t1,h1⟩:=tbSet_ex' i t (f i)
  obtain⟨t2,h2⟩:=override_ex f l t1
  refine⟨t2,fun id=>?_⟩
  rw[h2 id,h1 id]
  by_cases e:id=i
  ·subst e;simp
  ·simp[e]
theorem getS_ex(ms:Nat→Mem)(rs:Nat→Rec)(S:Nat→Bool):∀n,∃t:Tb Box,∀id,t.get id=getS ms rs S n id
 |0=>⟨(ms 0).tb,fun id=>rfl⟩
 |n+1=>by
  obtain⟨t,h⟩:=getS_ex ms rs S n
  by_cases hS:S n=true
  ·obtain⟨t',h'⟩:=override_ex (fun id=>(ms (n+1)).get id) (rs n).wt t
   refine⟨t',fun id=>?_⟩
   rw[h' id,h id]
   simp only[getS,hS,true_and]
  ·exact⟨t,fun id=>by rw[h id];simp only[getS];rw[if_neg (fun c=>hS c.1)]⟩
open Classical in
noncomputable def mkM(g:Nat→Option Box)(n:Nat):Mem:=if h:∃t:Tb Box,∀id,t.get id=g id then⟨n,Classical.choose h⟩else⟨n,.e⟩
theorem mkM_next(g:Nat→Option Box)(n:Nat):(mkM g n).next=n:=by unfold mkM;split<;>rfl
theorem mkM_get{g:Nat→Option Box}(n:Nat)(h:∃t:Tb Box,∀id,t.get id=g id)(id:Nat):(mkM g n).get id=g id:=by
 unfold mkM
 rw[dif_pos h]
 exact Classical.choose_spec h id
noncomputable def memS(all:List Oper)(ms:Nat→Mem)(rs:Nat→Rec)(S:Nat→Bool):Mem:=mkM (getS ms rs S all.length) (nextS ms rs S all.length)
theorem memS_get(all:List Oper)(ms:Nat→Mem)(rs:Nat→Rec)(S:Nat→Bool)(id:Nat):(memS all ms rs S).get id=getS ms rs S all.length id:=mkM_get _ (getS_ex ms rs S _) id
theorem memS_next(all:List Oper)(ms:Nat→Mem)(rs:Nat→Rec)(S:Nat→Bool):(memS all ms rs S).next=nextS ms rs S all.length:=mkM_next _ _
section
variable {ms:Nat→Mem} {rs:Nat→Rec} {S S':Nat→Bool}
theorem getS_congr{id:Nat}:∀n,(∀j,j<n→id∈(rs j).wt→S j=S' j)→getS ms rs S n id=getS ms rs S' n id
 |0,_=>rfl
 |n+1,h=>by
  simp only[getS]
  rw[getS_congr n fun j hj=>h j (by omega)]
  by_cases hw:id∈(rs n).wt
  ·rw[h n (by omega) hw]
  ·rw[if_neg (fun c=>hw c.2),if_neg (fun c=>hw c.2)]
theorem nextS_congr:∀n,(∀j,j<n→(rs j).g=true→S j=S' j)→nextS ms rs S n=nextS ms rs S' n
 |0,_=>rfl
 |n+1,h=>by
  simp only[nextS]
  rw[nextS_congr n fun j hj=>h j (by omega)]
  by_cases hw:(rs n).g=true
  ·rw[h n (by omega) hw]
  ·rw[if_neg (fun c=>hw c.2),if_neg (fun c=>hw c.2)]
theorem getS_past{id i:Nat}:∀n,i≤n→(∀j,i≤j→j<n→id∈(rs j).wt→S j=false)→getS ms rs S n id=getS ms rs S i id
 |0,h,_=>by rw[Nat.le_zero.1 h]
 |n+1,h,hS=>by
  rcases Nat.lt_or_ge n i with h1|h1
  ·rw[show i=n+1 by omega]
  ·simp only[getS]
   rw[if_neg (fun c=>by have:=hS n h1 (by omega) c.2;rw[c.1]at this;cases this),getS_past n h1 fun j a b=>hS j a (by omega)]
theorem nextS_past{i:Nat}:∀n,i≤n→(∀j,i≤j→j<n→(rs j).g=true→S j=false)→nextS ms rs S n=nextS ms rs S i
 |0,h,_=>by rw[Nat.le_zero.1 h]
 |n+1,h,hS=>by
  rcases Nat.lt_or_ge n i with h1|h1
  ·rw[show i=n+1 by omega]
  ·simp only[nextS]
   rw[if_neg (fun c=>by have:=hS n h1 (by omega) c.2;rw[c.1]at this;cases this),nextS_past n h1 fun j a b=>hS j a (by omega)]
theorem getS_all{id:Nat}:∀n,(∀j,j<n→id∉ (rs j).wt→(ms (j+1)).get id=(ms j).get id)→(∀j,j<n→id∈(rs j).wt→S j=true)→getS ms rs S n id=(ms n).get id
 |0,_,_=>rfl
 |n+1,hk,hS=>by
  simp only[getS]
  by_cases hw:id∈(rs n).wt
  ·rw[if_pos ⟨hS n (by omega) hw,hw⟩]
  ·rw[if_neg (fun c=>hw c.2),hk n (by omega) hw,getS_all n (fun j hj=>hk j (by omega)) fun j hj=>hS j (by omega)]
theorem nextS_all:∀n,(∀j,j<n→(rs j).g=false→(ms (j+1)).next=(ms j).next)→(∀j,j<n→(rs j).g=true→S j=true)→nextS ms rs S n=(ms n).next
 |0,_,_=>rfl
 |n+1,hk,hS=>by
  simp only[nextS]
  by_cases hw:(rs n).g=true
  ·rw[if_pos ⟨hS n (by omega) hw,hw⟩]
  ·rw[if_neg (fun c=>hw c.2),hk n (by omega) (by simpa using hw),nextS_all n (fun j hj=>hk j (by omega)) fun j hj=>hS j (by omega)]
theorem nextS_ge:∀n,(∀j,j<n→(ms j).next≤(ms (j+1)).next)→(ms 0).next≤nextS ms rs S n
 |0,_=>Nat.le_refl _
 |n+1,h=>by
  simp only[nextS]
  split
  ·have:∀k,k≤n+1→(ms 0).next≤(ms k).next:=by
    intro k
    induction k with
    |zero=>intro _;exact Nat.le_refl _
    |succ k ih=>intro hk;exact Nat.le_trans (ih (by omega)) (h k (by omega))
   exact this _ (Nat.le_refl _)
  ·exact nextS_ge n fun j hj=>h j (by omega)
theorem getS_cases{id:Nat}:∀n,(∃j,j<n∧S j=true∧id∈(rs j).wt∧getS ms rs S n id=(ms (j+1)).get id)∨getS ms rs S n id=(ms 0).get id
 |0=>.inr rfl
 |n+1=>by
  simp only[getS]
  split
  ·rename_i hc;exact .inl ⟨n,by omega,hc.1,hc.2,rfl⟩
  ·rcases getS_cases (id:=id) n with⟨j,h1,h2⟩|h
   ·exact .inl ⟨j,by omega,h2⟩
   ·exact .inr h
end
theorem traceT_step{all:List Oper}{refs:List (Nat×Nat)}{m m':Mem}{fr fr':Fr}{frs:Nat→Fr}{vals:Nat→SV}{ms:Nat→Mem}{rs:Nat→Rec}(hw:WalkT P all refs m m' fr fr' frs vals ms rs)(n0:Nat)
  (hrefs:∀c k,idOf refs c=some k→(c,k)∈refs∧n0≤k∧k<m.next) (hm0:∀id B,m.get id=some B→id<n0∧∀k,n0≤k→mentB k (some B)=false) (hfr:∀t k,n0≤k→ment k (fr.get t)=false)
  (S:Nat→Bool) (i:Nat) (o:Oper) (hoi:all[i]? =some o) (hSi:S i=false) (hcl:∀ (j:Nat) (oj:Oper),all[j]? =some oj→S j=true→∀e∈oj.after,Region.binds .any e=true→S e.on=true) (hready:∀e∈o.after,Region.binds .any e=true→S e.on=true):
  StepOK P all o (frs i) (memS all ms rs S) (vals i) (memS all ms rs fun k=>if k=i then true else S k)∨AllocAt P o n0 (vals i) (cur all fr vals S all.length) (memS all ms rs S) (memS all ms rs fun k=>if k=i then true else S k):=by
 have hil:i<all.length:=(List.getElem?_eq_some_iff.1 hoi).1
 have get:∀j,j<all.length→all[j]? =some (all.getD j o):=fun j hj=>by
  rw[List.getD_eq_getElem?_getD,List.getElem?_eq_getElem hj];rfl
 have ahead:∀j,j<i→((rs j).wt≠[] ∨(rs j).g=true)→(rs j).conf (rs i)=true→S j=true:=fun j hj hwr hc=>by
  rcases hw.conf j i _ o (get j (by omega)) hoi hj hc with hb|hs
  ·exact bound_in hcl 3 o j hready hb
  ·rcases hwr with h|h
   ·exact absurd hs.wt h
   ·rw[hs.g]at h;cases h
 have behind:∀j,i<j→j<all.length→(rs i).conf (rs j)=true→¬Soft P o (frs i) (vals i) ms rs i j→S j=false:=fun j hj hjl hc hns=>by
  rcases Bool.eq_false_or_eq_true (S j)with h|h
  ·rcases hw.conf i j o _ hoi (get j hjl) hj hc with hb|hs
   ·have:=bound_in hcl 3 _ i (fun e he hb=>hcl j _ (get j hjl) h e he hb) hb
    rw[hSi]at this;cases this
   ·exact absurd hs hns
  ·exact h
 have nsw:∀{id j},id∈(rs i).wt→¬Soft P o (frs i) (vals i) ms rs i j:=fun {id j} hid hs=>by rw[hs.wt]at hid;cases hid
 have nsg:∀{j},(rs i).g=true→¬Soft P o (frs i) (vals i) ms rs i j:=fun {j} hg hs=>by rw[hs.g]at hg;cases hg
 have keep:∀id j,j<all.length→id∉ (rs j).wt→(ms (j+1)).get id=(ms j).get id:=fun id j hj hid=>(hw.step j _ (get j hj)).keep id hid
 have same:∀j,j<all.length→(rs j).g=false→(ms (j+1)).next=(ms j).next:=fun j hj=>(hw.step j _ (get j hj)).same
 have conf1:∀id j k,id∈(rs j).wt→(id∈(rs k).rd∨id∈(rs k).wt)→(rs j).conf (rs k)=true:=fun id j k h1 h2=>by
  unfold Rec.conf
  rcases h2 with h2|h2
  ·rw[meet_iff.2 ⟨id,h1,h2⟩];rfl
  ·rw[meet_iff.2 ⟨id,h1,h2⟩];simp
 have conf2:∀id j k,(id∈(rs j).rd∨id∈(rs j).wt)→id∈(rs k).wt→(rs j).conf (rs k)=true:=fun id j k h1 h2=>by
  unfold Rec.conf
  rcases h1 with h1|h1
  ·rw[meet_iff.2 ⟨id,h1,h2⟩];simp
  ·rw[show meet (rs j).wt (rs k).wt=true from meet_iff.2 ⟨id,h1,h2⟩];simp
 have conf3:∀j k,(rs j).g=true→(rs k).g=true→(rs j).conf (rs k)=true:=fun j k h1 h2=>by unfold Rec.conf;rw[h1,h2];simp
 -- what the operation looks at is as in the text
 have memw:∀{id:Nat} {l:List Nat},id∈l→l≠[] :=fun {id l} h e=>by rw[e]at h;cases h
 have now:(∀j,j<all.length→S j=true→i<j→(rs i).conf (rs j)=true→¬Soft P o (frs i) (vals i) ms rs i j)→∀id,id∈(rs i).rd∨id∈(rs i).wt→getS ms rs S all.length id=(ms i).get id:=by
  intro hnone id hid
  rw[getS_past (i:=i) _ (by omega) (fun j h1 h2 h3=>?_),getS_all i (fun j hj=>keep id j (by omega)) (fun j hj h3=>ahead j hj (.inl (memw h3)) (conf1 id j i h3 hid))]
  rcases Nat.lt_or_ge i j with h4|h4
  ·rcases Bool.eq_false_or_eq_true (S j)with h|h
   ·have:=behind j h4 h2 (conf2 id i j hid h3) (hnone j h2 h h4 (conf2 id i j hid h3))
    rw[h]at this;cases this
   ·exact h
  ·rw[show j=i by omega];exact hSi
 -- behind an operation that does not matter to it
 have soft:∀j,i<j→j<all.length→S j=true→Soft P o (frs i) (vals i) ms rs i j→(rs i).conf (rs j)=true→∀id,id∈(rs i).rd→getS ms rs S all.length id=(ms (j+1)).get id:=by
  intro j hij hjl hSj hs hcj id hid
  rw[getS_past (i:=j+1) _ (by omega) (fun k h1 h2 h3=>?_),getS_all (j+1) (fun k hk=>keep id k (by omega)) (fun k hk h3=>?_)]
  ·rcases Nat.lt_or_ge k i with h4|h4
   ·exact ahead k h4 (.inl (memw h3)) (conf1 id k i h3 (.inl hid))
   ·by_cases e:k=j
    ·subst e;exact hSj
    ·by_cases e:k=i
     ·subst e;rw[hs.wt]at h3;cases h3
     ·have:=hs.only k (by omega) (by omega)
      rw[meet_iff.2 ⟨id,h3,hid⟩]at this;cases this
  ·refine behind k (by omega) h2 (conf2 id i k (.inl hid) h3) fun hs2=>?_
   rcases Bool.eq_false_or_eq_true (meet (rs j).wt (rs i).rd)with h|h
   ·have:=hs2.only j hij (by omega)
    rw[h]at this;cases this
   · -- it writes nothing that is read: then they are apart
     unfold Rec.conf at hcj
     rw[hs.wt,hs.g]at hcj
     simp only[meet,List.any_nil,Bool.false_or,Bool.false_and,Bool.or_false]at hcj
     have hcj:meet (rs i).rd (rs j).wt=true:=hcj
     obtain⟨x,h5,h6⟩:=meet_iff.1 hcj
     rw[meet_iff.2 ⟨x,h6,h5⟩]at h;cases h
 have nown:(rs i).g=true→nextS ms rs S all.length=(ms i).next:=by
  intro hg
  rw[nextS_past (i:=i) _ (by omega) (fun j h1 h2 h3=>?_),nextS_all i (fun j hj=>same j (by omega)) (fun j hj h3=>ahead j hj (.inr h3) (conf3 j i h3 hg))]
  rcases Nat.lt_or_ge i j with h4|h4
  ·exact behind j h4 h2 (conf3 i j hg h3) (nsg hg)
  ·rw[show j=i by omega];exact hSi
 -- and what it leaves
 have then_:∀id,getS ms rs (fun k=>if k=i then true else S k) all.length id=if id∈(rs i).wt then(ms (i+1)).get id else getS ms rs S all.length id:=by
  intro id
  by_cases hid:id∈(rs i).wt
  ·rw[if_pos hid,getS_past (i:=i+1) _ (by omega) (fun j h1 h2 h3=>?_)]
   ·simp only[getS]
    rw[if_pos ⟨by simp,hid⟩]
   ·rw[if_neg (by omega)];exact behind j (by omega) h2 (conf2 id i j (.inr hid) h3) (nsw hid)
  ·rw[if_neg hid]
   refine getS_congr _ fun j hj h3=>?_
   by_cases e:j=i
   ·subst e;exact absurd h3 hid
   ·rw[if_neg e]
 have nthen:nextS ms rs (fun k=>if k=i then true else S k) all.length=if(rs i).g=true then(ms (i+1)).next else nextS ms rs S all.length:=by
  by_cases hg:(rs i).g=true
  ·rw[if_pos hg,nextS_past (i:=i+1) _ (by omega) (fun j h1 h2 h3=>?_)]
   ·simp only[nextS]
    rw[if_pos ⟨by simp,hg⟩]
   ·rw[if_neg (by omega)];exact behind j (by omega) h2 (conf3 i j hg h3) (nsg hg)
  ·rw[if_neg hg]
   refine nextS_congr _ fun j hj h3=>?_
   by_cases e:j=i
   ·subst e;exact absurd h3 hg
   ·rw[if_neg e]
 rcases(hw.step i o hoi).step with⟨h1,h2,h3,h4⟩|⟨h1,h2⟩|⟨t,k,r,h1,h2,h3,h4,h5,h6,h7,h8⟩
 ·refine .inl (.inr ⟨h1,h2,?_⟩)
  have e1:getS ms rs (fun k=>if k=i then true else S k) all.length=getS ms rs S all.length:=funext fun id=>by rw[then_ id,h3,if_neg (by simp)]
  have e2:nextS ms rs (fun k=>if k=i then true else S k) all.length=nextS ms rs S all.length:=by rw[nthen,h4,if_neg (by simp)]
  unfold memS
  rw[e1,e2]
 ·by_cases hsf:∃j,j<all.length∧S j=true∧i<j∧(rs i).conf (rs j)=true∧Soft P o (frs i) (vals i) ms rs i j
  ·obtain⟨j,hjl,hSj,hij,hcj,hs⟩:=hsf
   refine .inl (.inl ⟨h1,?_⟩)
   refine(hs.sem (memS all ms rs S) fun id hid=>by rw[memS_get];exact soft j hij hjl hSj hs hcj id hid).congr (fun _=>rfl) rfl (fun id=>?_) ?_
   ·rw[memS_get,memS_get,then_ id,hs.wt,if_neg (by simp)]
   ·rw[memS_next,memS_next,nthen,hs.g,if_neg (by simp)]
  refine .inl (.inl ⟨h1,h2 _ _ (fun id hid=>?_) (fun hg=>?_) (fun id=>?_) ?_⟩)
  ·rw[memS_get];exact now (fun j hjl hSj hij hcj hs=>hsf ⟨j,hjl,hSj,hij,hcj,hs⟩) id hid
  ·rw[memS_next];exact nown hg
  ·rw[memS_get,memS_get];exact then_ id
  ·rw[memS_next,memS_next];exact nthen
 ·obtain⟨hk1,hk2,hk3⟩:=hrefs i k h3
  -- whoever mentions the new box waits for it
  have waits:∀j,j<all.length→S j=true→(ment k (vals j)=true∨k∈(rs j).wt∨∃id∈(rs j).wt,mentB k ((ms (j+1)).get id)=true)→False:=by
   intro j hj hSj hc
   have hr:=hw.refs j _ (get j hj)
   unfold okRefs at hr
   rw[List.all_eq_true]at hr
   have hr:=hr (i,k) hk1
   have hc':(ment k (vals j)||(hasN (rs j).wt k||((rs j).wt.map (ms (j+1)).get).any (mentB k)))=true:=by
    rcases hc with hc|hc|⟨id,hc,hd⟩
    ·rw[hc];rfl
    ·rw[hasN_iff.2 hc];simp
    ·have:((rs j).wt.map (ms (j+1)).get).any (mentB k)=true:=List.any_eq_true.2 ⟨_,List.mem_map.2 ⟨id,hc,rfl⟩,hd⟩
     rw[this];simp
   rw[hc']at hr
   simp only[Bool.not_true,Bool.false_or,Bool.or_eq_true]at hr
   rcases hr with hr|hr
   ·have:=Nat.eq_of_beq_eq_true hr
    subst this
    rw[hSi]at hSj;cases hSj
   ·have:=bound_in hcl 3 _ i (fun e he hb=>hcl j _ (get j hj) hSj e he hb) hr
    rw[hSi]at this;cases this
  have hms0:ms 0=m:=hw.mfirst
  refine .inr ⟨t,k,r,h1,h2,h4,h5,hk2,?_,?_,fun id=>?_,?_,fun t'=>?_,fun id B hB=>?_⟩
  ·rw[memS_next]
   refine Nat.lt_of_lt_of_le hk3 ?_
   rw[←hms0]
   exact nextS_ge _ fun j hj=>(hw.step j _ (get j hj)).le
  ·rw[memS_get]
   rcases getS_cases (ms:=ms) (rs:=rs) (S:=S) (id:=k) all.length with⟨j,hj,hSj,hwj,_⟩|h
   ·exact(waits j hj hSj (.inr (.inl hwj))).elim
   ·rw[h,hms0]
    cases hx:m.get k with
    |none=>rfl
    |some B=>have:=(hm0 k B hx).1;omega
  ·rw[memS_get,memS_get,then_ id,h6]
   by_cases e:id=k
   ·subst e;rw[if_pos (by simp),if_pos rfl,h8]
   ·rw[if_neg (by simp[e]),if_neg e]
  ·rw[memS_next,memS_next,nthen,h7,if_neg (by simp)]
  ·have:∀n,n≤all.length→ment k (cur all fr vals S n t')=false:=by
    intro n
    induction n with
    |zero=>intro _;exact hfr t' k hk2
    |succ n ih=>
     intro hn
     simp only[cur]
     split
     ·rename_i hc
      rcases Bool.eq_false_or_eq_true (ment k (vals n))with h|h
      ·exact(waits n (by omega) hc.1 (.inl h)).elim
      ·exact h
     ·exact ih (by omega)
   exact this _ (Nat.le_refl _)
  ·rw[memS_get]at hB
   rcases getS_cases (ms:=ms) (rs:=rs) (S:=S) (id:=id) all.length with⟨j,hj,hSj,hwj,he⟩|h
   ·rcases Bool.eq_false_or_eq_true (mentB k (some B))with h|h
    ·exact(waits j hj hSj (.inr (.inr ⟨id,hwj,by rw[←he,hB];exact h⟩))).elim
    ·exact h
   ·rw[h,hms0]at hB
    exact(hm0 id B hB).2 k hk2
end
section
variable {P:Program} {E:Env} {α:Type}
inductive ChainL (P:Program) (all:List Oper):List Oper→Fr→Mem→Fr→Mem→Prop where
 |last {o:Oper} {fr fr1:Fr} {m m1:Mem} {v:SV} (h:StepOK P all o fr m v m1) (hf:FSet fr o.dst v fr1):ChainL P all [o] fr m fr1 m1
 |cons {o o2:Oper} {rest:List Oper} {fr fr1 fr':Fr} {m m':Mem} {v:SV} (h:StepOK P all o fr m v m) (hf:FSet fr o.dst v fr1) (k:ChainL P all (o2::rest) fr1 m fr' m'):ChainL P all (o::o2::rest) fr m fr' m'
theorem execOpsL_chain(hE:EOK P E){callQ call:CallK α}(hcallQ:CallOK P true callQ)(hcall:CallOK P false call){all:List Oper}{k:OpsK α}{L:α→Prop}:∀ (ops:List Oper) (p:Plan) (fr:Fr) (m:Mem),ops≠[] →(execOpsL E callQ call all ops k p fr m).holds L→
  ∃p' fr' m',(k p' fr' m').holds L∧ChainL P all ops fr m fr' m'
 |[],p,fr,m,hn,_=>absurd rfl hn
 |[o],p,fr,m,_,h=>by
  change (oneOp E (fun _=>true) call all o k p fr m).holds L at h
  obtain⟨p1,v,fr1,m1,h1,h2,h3,_⟩:=oneOp_holds hE hcall h
  exact⟨p1,fr1,m1,h1,.last h2 h3⟩
 |o::o2::rest,p,fr,m,_,h=>by
  change (oneOp E (quiet E) callQ all o (execOpsL E callQ call all (o2::rest) k) p fr m).holds L at h
  have hq:quiet E o.op=true∨gval all fr.get o=some false:=by
   unfold oneOp at h
   cases hg:o.guard with
   |none=>
    rw[hg]at h
    dsimp only at h
    split at h
    ·rename_i hq;exact .inl hq
    ·exact h.elim
   |some jw=>
    cases hq:quiet E o.op with
    |true=>exact .inl rfl
    |false=>
     right
     rw[hg]at h
     dsimp only at h
     rw[nth_eq]at h
     split at h
     ·rename_i oj hoj
      split at h
      ·rename_i d hd
       have hb:(all[jw.1]?).bind (·.dst)=some d:=by rw[hoj];exact hd
       split at h
       ·rename_i b hfr
        obtain⟨p',h⟩:=dec_holds h
        obtain⟨fr2,h1,h2⟩:=Fr.set_holds h
        split at h2
        ·rw[hq]at h2;exact h2.elim
        ·rename_i hbw
         simp only[gval,hg,hb,hfr];rw[hbw]
       ·rename_i hfr
        simp only[gval,hg,hb,hfr]
       ·exact h.elim
      ·exact h.elim
     ·exact h.elim
  obtain⟨p1,v,fr1,m1,h1,h2,h3,h4⟩:=oneOp_holds hE hcallQ h
  have hm:m1=m:=by
   rcases hq with hq|hq
   ·exact h4.quiet rfl hq
   ·rcases h2 with⟨hg,_⟩|⟨_,_,hm⟩
    ·rw[hq]at hg;cases hg
    ·exact hm
  subst hm
  obtain⟨p',fr',m',h5,h6⟩:=execOpsL_chain hE hcallQ hcall (o2::rest) p1 fr1 m1 (by simp) h1
  exact⟨p',fr',m',h5,.cons h2 h3 h6⟩
theorem ChainL.index{all:List Oper}:∀{ops:List Oper} {fr fr':Fr} {m m':Mem},ChainL P all ops fr m fr' m'→∃ (frs:Nat→Fr) (vals:Nat→SV),frs 0=fr∧frs ops.length=fr'∧
  (∀i o,ops[i]? =some o→FSet (frs i) o.dst (vals i) (frs (i+1)))∧(∀i o,ops[i]? =some o→i+1<ops.length→StepOK P all o (frs i) m (vals i) m)∧∀i o,ops[i]? =some o→i+1=ops.length→StepOK P all o (frs i) m (vals i) m':=by
 intro ops fr fr' m m' h
 induction h with
 |@last o fr fr1 m m1 v hst hf=>
  refine⟨fun i=>Nat.casesOn i fr fun _=>fr1,fun _=>v,rfl,rfl,fun i o' hi=>?_,fun i o' hi hl=>?_,fun i o' hi hl=>?_⟩
  ·cases i with
   |zero=>simp at hi;subst hi;exact hf
   |succ i=>simp at hi
  ·simp at hl
  ·cases i with
   |zero=>simp at hi;subst hi;exact hst
   |succ i=>simp at hi
 |@cons o o2 rest fr fr1 fr' m m' v hst hf k ih=>
  obtain⟨frs,vals,h1,h2,h3,h4,h5⟩:=ih
  refine⟨fun i=>Nat.casesOn i fr frs,fun i=>Nat.casesOn i v vals,rfl,h2,fun i o' hi=>?_,fun i o' hi hl=>?_,fun i o' hi hl=>?_⟩
  ·cases i with
   |zero=>simp at hi;subst hi;dsimp only;rw[h1];exact hf
   |succ i=>exact h3 i o' (by simpa using hi)
  ·cases i with
   |zero=>simp at hi;subst hi;exact hst
   |succ i=>exact h4 i o' (by simpa using hi) (by simp at hl ⊢;omega)
  ·cases i with
   |zero=>simp at hl
   |succ i=>exact h5 i o' (by simpa using hi) (by simp at hl ⊢;omega)
theorem lastB_all{all:List Oper}(h:lastB all=true){S:Nat→Bool}(hcl:∀ (j:Nat) (oj:Oper),all[j]? =some oj→S j=true→∀e∈oj.after,Region.binds .any e=true→S e.on=true)(hl:S (all.length-1)=true):∀i,i<all.length→S i=true:=by
 have:∀d i,i+1+d=all.length→S i=true:=by
  intro d
  induction d using Nat.strongRecOn with
  |_ d ih=>
   intro i hi
   by_cases h0:i+1=all.length
   ·rw[show i=all.length-1 by omega];exact hl
   ·simp only[lastB,List.all_eq_true]at h
    have hoi:all[i]? =some all[i] :=List.getElem?_eq_getElem (by omega)
    have h1:=h (all[i],i) (List.mem_zipIdx_iff_getElem?.2 hoi)
    have hb:Nat.beq (i+1) all.length=false:=by
     rw[←Bool.not_eq_true,Nat.beq_eq];exact h0
    simp only[hb,Bool.false_or,List.any_eq_true,Bool.and_eq_true]at h1
    obtain⟨⟨oj,j⟩,hj,h2,e,he,h3,h4⟩:=h1
    have hj:=List.mem_zipIdx_iff_getElem?.1 hj
    have hlt:i<j:=by rw[Nat.blt_eq]at h2;exact h2
    have hjl:=(List.getElem?_eq_some_iff.1 hj).1
    have:=hcl j oj hj (ih (all.length-(j+1)) (by omega) j (by omega)) e (by simpa using he) h3
    rwa [Nat.eq_of_beq_eq_true h4]at this
 exact fun i hi=>this (all.length-(i+1)) i (by omega)
theorem last_step{all:List Oper}{m m':Mem}{frs:Nat→Fr}{vals:Nat→SV}(hlb:lastB all=true)
  (h4:∀i o,all[i]? =some o→i+1<all.length→StepOK P all o (frs i) m (vals i) m) (h5:∀i o,all[i]? =some o→i+1=all.length→StepOK P all o (frs i) m (vals i) m')
  (S:Nat→Bool) (i:Nat) (o:Oper) (hoi:all[i]? =some o) (hSi:S i=false) (hcl:∀ (j:Nat) (oj:Oper),all[j]? =some oj→S j=true→∀e∈oj.after,Region.binds .any e=true→S e.on=true):
  StepOK P all o (frs i) (if S (all.length-1)=true then m' else m) (vals i) (if(if all.length-1=i then true else S (all.length-1))=true then m' else m):=by
 have hil:=(List.getElem?_eq_some_iff.1 hoi).1
 have hS:S (all.length-1)=false:=by
  rcases Bool.eq_false_or_eq_true (S (all.length-1))with h|h
  ·rw[lastB_all hlb hcl h i hil]at hSi;cases hSi
  ·exact h
 rw[hS]
 by_cases hl:i+1=all.length
 ·rw[if_neg (by simp),if_pos (by rw[if_pos (by omega)])]
  exact h5 i o hoi hl
 ·rw[if_neg (by simp),if_neg (by rw[if_neg (by omega)];simp)]
  exact h4 i o hoi (by omega)
theorem hasN_cons{x k:Nat}{l:List Nat}:hasN (x::l) k=(Nat.beq x k||hasN l k):=rfl
theorem waitsOf_spec{c:Nat}:∀ (l:List Oper) (i:Nat) (acc:List Nat),
  (∀k,hasN acc k=true→hasN (waitsOf c l i acc) k=true)∧(∀k,hasN (waitsOf c l i acc) k=true→hasN acc k=true∨i≤k)∧
  (∀j o,l[j]? =some o→i+j=c→hasN (waitsOf c l i acc) (i+j)=true)∧
  (∀j o,l[j]? =some o→hasN (waitsOf c l i acc) (i+j)=true→hasN acc (i+j)=true∨i+j=c∨∃e∈o.after,Region.binds .any e=true∧hasN (waitsOf c l i acc) e.on=true)∧
  (∀j o,l[j]? =some o→(∃e∈o.after,Region.binds .any e=true∧hasN (waitsOf c l i acc) e.on=true∧e.on<i+j)→hasN (waitsOf c l i acc) (i+j)=true)
 |[],i,acc=>⟨fun _ h=>h,fun _ h=>.inl h,fun j o h=>by simp at h,fun j o h=>by simp at h,fun j o h=>by simp at h⟩
 |o::l,i,acc=>by
  have e:waitsOf c (o::l) i acc=(match Nat.beq i c||o.after.toList.any (fun e=>Region.binds .any e&&hasN acc e.on)with
   |true=>waitsOf c l (i+1) (i::acc)
   |false=>waitsOf c l (i+1) acc):=rfl
  cases hb:Nat.beq i c||o.after.toList.any (fun e=>Region.binds .any e&&hasN acc e.on)with
  |true=>
   rw[hb]at e
   dsimp only at e
   rw[e]
   obtain⟨q1,q2,q3,q4,q5⟩:=waitsOf_spec l (i+1) (i::acc)
   have hi:hasN (waitsOf c l (i+1) (i::acc)) i=true:=q1 i (by rw[hasN_cons];simp)
   refine⟨fun k hk=>q1 k (by rw[hasN_cons,hk];simp),fun k hk=>?_,fun j o' hj hc=>?_,fun j o' hj hk=>?_,fun j o' hj hk=>?_⟩
   ·rcases q2 k hk with h|h
    ·rw[hasN_cons,Bool.or_eq_true]at h
     rcases h with h|h
     ·exact .inr (Nat.le_of_eq (Nat.eq_of_beq_eq_true h))
     ·exact .inl h
    ·exact .inr (by omega)
   ·cases j with
    |zero=>exact hi
    |succ j=>rw[show i+(j+1)=i+1+j by omega]at hc ⊢;exact q3 j o' (by simpa using hj) hc
   ·cases j with
    |zero=>
     simp at hj;subst hj
     rw[Bool.or_eq_true]at hb
     rcases hb with hb|hb
     ·exact .inr (.inl (Nat.eq_of_beq_eq_true hb))
     ·simp only[List.any_eq_true,Bool.and_eq_true]at hb
      obtain⟨e',he,h1,h2⟩:=hb
      exact .inr (.inr ⟨e',by simpa using he,h1,q1 _ (by rw[hasN_cons,h2];simp)⟩)
    |succ j=>
     rw[show i+(j+1)=i+1+j by omega]at hk ⊢
     rcases q4 j o' (by simpa using hj) hk with h|h|h
     ·rw[hasN_cons,Bool.or_eq_true]at h
      rcases h with h|h
      ·have:=Nat.eq_of_beq_eq_true h;omega
      ·exact .inl h
     ·exact .inr (.inl h)
     ·exact .inr (.inr h)
   ·cases j with
    |zero=>exact hi
    |succ j=>
     rw[show i+(j+1)=i+1+j by omega]at hk ⊢
     exact q5 j o' (by simpa using hj) hk
  |false=>
   rw[hb]at e
   dsimp only at e
   rw[e]
   obtain⟨q1,q2,q3,q4,q5⟩:=waitsOf_spec l (i+1) acc
   rw[Bool.or_eq_false_iff]at hb
   refine⟨q1,fun k hk=>?_,fun j o' hj hc=>?_,fun j o' hj hk=>?_,fun j o' hj hk=>?_⟩
   ·rcases q2 k hk with h|h
    ·exact .inl h
    ·exact .inr (by omega)
   ·cases j with
    |zero=>have:=hb.1;rw[show i=c by omega]at this;simp at this
    |succ j=>rw[show i+(j+1)=i+1+j by omega]at hc ⊢;exact q3 j o' (by simpa using hj) hc
   ·cases j with
    |zero=>
     rcases q2 _ hk with h|h
     ·exact .inl h
     ·omega
    |succ j=>
     rw[show i+(j+1)=i+1+j by omega]at hk ⊢
     exact q4 j o' (by simpa using hj) hk
   ·cases j with
    |zero=>
     simp at hj;subst hj
     obtain⟨e',he,h1,h2,h3⟩:=hk
     have h4:hasN acc e'.on=true:=by
      rcases q2 _ h2 with h|h
      ·exact h
      ·omega
     have:=hb.2
     rw[←Bool.not_eq_true,List.any_eq_true]at this
     exact absurd ⟨e',by simpa using he,by rw[h1,h4];rfl⟩ this
    |succ j=>
     rw[show i+(j+1)=i+1+j by omega]at hk ⊢
     exact q5 j o' (by simpa using hj) hk
structure WalkD (all:List Oper) (D:Nat→Bool) (fr:Fr) (frs:Nat→Fr) (vals:Nat→SV):Prop where
 first:frs 0=fr
 next:∀i o,all[i]? =some o→(D i=true→FSet (frs i) o.dst (vals i) (frs (i+1)))∧(D i=false→frs (i+1)=frs i)
theorem cur_walkD{all:List Oper}{D:Nat→Bool}{fr:Fr}{frs:Nat→Fr}{vals:Nat→SV}(hw:WalkD all D fr frs vals):∀ (i:Nat),i≤all.length→∀t,(frs i).get t=cur all fr vals D i t
 |0,_,t=>by rw[hw.first];rfl
 |i+1,hi,t=>by
  have hlt:i<all.length:=hi
  have ho:all[i]? =some all[i] :=List.getElem?_eq_getElem hlt
  have h:=hw.next i _ ho
  simp only[cur,ho,Option.bind_some]
  rcases Bool.eq_false_or_eq_true (D i)with hD|hD
  ·rw[(h.1 hD).2.2 t,cur_walkD hw i (by omega) t]
   simp only[hD,true_and]
  ·rw[h.2 hD,cur_walkD hw i (by omega) t]
   simp[hD]
theorem WalkD.size{all:List Oper}{D:Nat→Bool}{fr:Fr}{frs:Nat→Fr}{vals:Nat→SV}(hw:WalkD all D fr frs vals):∀ (i:Nat),i≤all.length→(frs i).size=fr.size
 |0,_=>by rw[hw.first]
 |i+1,hi=>by
  have ho:all[i]? =some all[i] :=List.getElem?_eq_getElem hi
  have h:=hw.next i _ ho
  rcases Bool.eq_false_or_eq_true (D i)with hD|hD
  ·rw[(h.1 hD).1];exact WalkD.size hw i (by omega)
  ·rw[h.2 hD];exact WalkD.size hw i (by omega)
theorem cur_free{all:List Oper}{fr:Fr}{vals:Nat→SV}{S:Nat→Bool}{t:Nat}(ht:∀ (j:Nat) (oj:Oper),all[j]? =some oj→oj.dst≠some t):∀n,cur all fr vals S n t=fr.get t
 |0=>rfl
 |n+1=>by
  simp only[cur]
  rw[if_neg,cur_free ht n]
  rintro ⟨_,h⟩
  cases ho:all[n]? with
  |none=>rw[ho]at h;simp at h
  |some o=>rw[ho]at h;exact ht n o ho (by simpa using h)
theorem any_pan{ds:List Deferred}{w0:World}{R0:RSet}{all:List Oper}{fr:Fr}{frs:Nat→Fr}{vals:Nat→SV}{D:Nat→Bool}{m m':Mem}{v:SV}{c:Nat}{oc:Oper}(hw:WalkD all D fr frs vals)(hi:Indep all)
  (hstep:∀i o,all[i]? =some o→D i=true→StepOK P all o (frs i) m (vals i) m) (hc:all[c]? =some oc) (hcg:oc.guard=none) (hDc:D c=false) (hpan:SemPan P m v m' oc (evalIn (frs all.length)))
  (hdef:∀i o,all[i]? =some o→D i=false→i≠c→∃e∈o.after,Region.binds .any e=true∧D e.on=false) (hDcl:∀j oj,all[j]? =some oj→D j=true→∀e∈oj.after,Region.binds .any e=true→D e.on=true)
  {Q:Exit→Act→World→Prop} {ρ0:Rho} {wa:World}
  (hQ:∀ρ' w' a u,MRel w0 R0 ρ' w' m'→fr.size=a.tmps.size→a.defers=ds→(∀t,(∀ (j:Nat) (oj:Oper),all[j]? =some oj→oj.dst≠some t)→Rep (RO w0 R0 ρ' w' m') ρ' m'.next w' (fr.get t) (a.tmps.getD t Go.undef))→MExt w0 R0 ρ0 wa m ρ' w' m'→Rep (RO w0 R0 ρ' w' m') ρ' m'.next w' v u→Q (.panic [{v:=u,recovered:=false}]) a w'):
  ∀ (fuel:Nat) (listed:Array Bool) (ρ:Rho) (w:World) (a:Act),listed.size=all.length→unlisted listed all.length=fuel→
  (∀j oj,all[j]? =some oj→listed.getD j true=true→∀e∈oj.after,Region.binds .any e=true→listed.getD e.on false=true)→(∀k,k<all.length→listed.getD k true=true→D k=true)→
  MRel w0 R0 ρ w m→fr.size=a.tmps.size→a.defers=ds→(∀t,Rep (RO w0 R0 ρ w m) ρ m.next w (cur all fr vals (fun i=>listed.getD i true) all.length t) (a.tmps.getD t Go.undef))→MExt w0 R0 ρ0 wa m ρ w m→
  wpAny P .any all.toArray Q fuel listed a w:=by
 have hcl0:=(List.getElem?_eq_some_iff.1 hc).1
 have none_ready:∀ (listed:Array Bool),listed.size=all.length→Region.ready .any all.toArray listed=[] →∀i,i<all.length→listed.getD i true=true:=by
  intro listed hsz hr i
  induction i using Nat.strongRecOn with
  |_ i ih=>
   intro hil
   rcases Bool.eq_false_or_eq_true (listed.getD i true)with h|h
   ·exact h
   ·have:i∈Region.ready .any all.toArray listed:=by
     rw[mem_ready]
     refine⟨h,all[i],by simp[hil],fun e he hb=>?_⟩
     have hlt:=hi.back i _ (List.getElem?_eq_getElem hil) e he hb
     have h1:=ih e.on hlt (by omega)
     rw[Array.getD_eq_getD_getElem?,Array.getElem?_eq_getElem (by omega)]at h1 ⊢
     simpa using h1
    rw[hr]at this
    cases this
 have never:∀ (listed:Array Bool),(∀k,k<all.length→listed.getD k true=true→D k=true)→(∀i,i<all.length→listed.getD i true=true)→False:=by
  intro listed h1 h2
  have:=h1 c hcl0 (h2 c hcl0)
  rw[hDc]at this;cases this
 intro fuel
 induction fuel with
 |zero=>
  intro listed ρ w a hsz hun hcl hD hm hs hd hrep hps
  exact(never listed hD (unlisted_zero _ hun)).elim
 |succ fuel ih=>
  intro listed ρ w a hsz hun hcl hD hm hs hd hrep hps
  refine⟨fun hr=>(never listed hD (none_ready listed hsz hr)).elim,fun i hir=>?_⟩
  obtain⟨hl,o,ho,hdeps⟩:=mem_ready.1 hir
  have hoi:all[i]? =some o:=by simpa using ho
  have hil:i<all.length:=(List.getElem?_eq_some_iff.1 hoi).1
  have before:∀j oj,all[j]? =some oj→j<i→oj.apart all.toArray o=false→listed.getD j true=true:=by
   intro j oj hj hji hap
   rcases hi.pair j i oj o hji hj hoi with⟨e,he,hb,heq⟩|h
   ·have:=hdeps e he hb
    rw[heq,Array.getD_eq_getD_getElem?]at this
    have hjl:j<listed.size:=by rw[hsz];exact(List.getElem?_eq_some_iff.1 hj).1
    rw[Array.getElem?_eq_getElem hjl]at this
    rw[Array.getD_eq_getD_getElem?,Array.getElem?_eq_getElem hjl]
    simpa using this
   ·rw[hap]at h;cases h
  have behind:∀j oj,all[j]? =some oj→i<j→o.apart all.toArray oj=false→listed.getD j true=false:=by
   intro j oj hj hij hap
   rcases hi.pair i j o oj hij hoi hj with⟨e,he,hb,heq⟩|h
   ·rcases Bool.eq_false_or_eq_true (listed.getD j true)with hc|hc
    ·have:=hcl j oj hj hc e he hb
     rw[heq,Array.getD_eq_getD_getElem?]at this
     rw[Array.getD_eq_getD_getElem?]at hl
     rw[Array.getElem?_eq_getElem (by omega)]at this hl
     simp at this hl;rw[this]at hl;cases hl
    ·exact hc
   ·rw[hap]at h;cases h
  have up:∀k,listed.getD k false=true→listed.getD k true=true:=fun k hk=>by
   rw[Array.getD_eq_getD_getElem?]at hk ⊢
   cases hx:listed[k]? with
   |none=>rfl
   |some b=>rw[hx]at hk;simpa using hk
  -- nothing that waits for the call is ready
  have hcase:i=c∨D i=true:=by
   by_cases hic:i=c
   ·exact .inl hic
   ·right
    rcases Bool.eq_false_or_eq_true (D i)with h|h
    ·exact h
    ·obtain⟨e,he,hb,h2⟩:=hdef i o hoi h hic
     have h3:=hD e.on (Nat.lt_trans (hi.back i o hoi e he hb) hil) (up _ (hdeps e he hb))
     rw[h2]at h3;cases h3
  have hyieldG:∀ (F:Fr),(∀t,t∈o.looksAt all.toArray→cur all fr vals (fun k=>listed.getD k true) all.length t=F.get t)→∀g,gval all F.get o=some g→Region.wanted o (yielded all.toArray a.tmps)=g:=fun F hF g hg=>
   yielded_of (R:=RO w0 R0 ρ w m) (ρ:=ρ) (n:=m.next) (w:=w) (fun j want d hgd hdd=>by rw[←hF d (looks_guard hgd (by simpa using hdd))];exact hrep d) hg
  have hebG:∀ (F:Fr),(∀t,t∈o.looksAt all.toArray→cur all fr vals (fun k=>listed.getD k true) all.length t=F.get t)→∀x∈o.op.operands,Rep (RO w0 R0 ρ w m) ρ m.next w (evalIn F x) (a.eval x):=by
   intro F hF x hx
   cases x with
   |tmp t=>
    show Rep _ _ _ _ (F.get t) _
    rw[←hF t (looks_operand hx)]
    exact hrep t
   |const v=>exact ofVal_rep v _ _ _ _
   |global g=>exact rfl
   |func f=>exact⟨[],[],rfl,rfl,rfl⟩
  unfold wpOp
  rw[ho]
  dsimp only
  by_cases hic:i=c
  ·subst hic
   rw[hc]at hoi
   injection hoi with hoi
   subst hoi
   have looks:∀t,t∈oc.looksAt all.toArray→cur all fr vals (fun k=>listed.getD k true) all.length t=(frs all.length).get t:=by
    intro t ht
    rw[cur_walkD hw _ (Nat.le_refl _)]
    refine cur_same _ fun j hj hd'=>?_
    have hd2:all[j].dst=some t:=by simpa[List.getElem?_eq_getElem hj]using hd'
    rcases Nat.lt_trichotomy j i with h|h|h
    ·have h1:=before j _ (List.getElem?_eq_getElem hj) h (by simp[Oper.apart,hd2,ht])
     rw[h1,hD j hj h1]
    ·subst h;rw[hl,hDc]
    ·have h1:=behind j _ (List.getElem?_eq_getElem hj) h (by simp[Oper.apart,hd2,ht])
     rw[h1]
     rcases hi.pair i j oc _ h hc (List.getElem?_eq_getElem hj)with⟨e,he,hb,heq⟩|h2
     ·rcases Bool.eq_false_or_eq_true (D j)with h3|h3
      ·have:=hDcl j _ (List.getElem?_eq_getElem hj) h3 e he hb
       rw[heq,hDc]at this;cases this
      ·exact h3.symm
     ·have:oc.apart all.toArray all[j] =false:=by simp[Oper.apart,hd2,ht]
      rw[this]at h2;cases h2
   rw[hyieldG _ looks true (by unfold gval;rw[hcg]),if_pos rfl]
   refine .inl ?_
   have h1:=hpan w0 R0 ρ w a.eval hm (hebG _ looks)
   unfold Oper.wp
   generalize (Go.execOp a.eval oc).run P w=r at h1
   have out:∀u w',OpOut w0 R0 ρ w m v m' u w'→Q (.panic [{v:=u,recovered:=false}]) a w':=fun u w' ⟨ρ',g1,g2,g3⟩=>
    hQ ρ' w' a u g1 hs hd (fun t ht=>by
     have:=Rep.mono g2 _ _ (hrep t)
     rwa [cur_free ht]at this) (hps.trans g2) g3
   match r,h1 with
   |.halt (.panic u) w',h1=>exact out u w' h1
   |.ok (.enter f args) w',h1=>
    rw[Oper.upon_enter]
    exact Calls.mono h1 fun e w'' ⟨u,he,hu⟩=>by subst he;exact out u w'' hu
  ·have hDi:=hcase.resolve_left hic
   have looks:∀t,t∈o.looksAt all.toArray→cur all fr vals (fun k=>listed.getD k true) all.length t=(frs i).get t:=by
    intro t ht
    rw[cur_walkD hw i (by omega),cur_past (i:=i) all.length (by omega) (fun j h1 h2 hd'=>?_)]
    ·refine cur_same i fun j hj hd'=>?_
     have hjl:j<all.length:=by omega
     have hd2:all[j].dst=some t:=by simpa[List.getElem?_eq_getElem hjl]using hd'
     have h1:=before j _ (List.getElem?_eq_getElem hjl) hj (by simp[Oper.apart,hd2,ht])
     rw[h1,hD j hjl h1]
    ·by_cases hji:j=i
     ·subst hji;exact hl
     ·have hjl:j<all.length:=h2
      refine behind j _ (List.getElem?_eq_getElem hjl) (by omega) ?_
      have hd2:all[j].dst=some t:=by simpa[List.getElem?_eq_getElem hjl]using hd'
      simp[Oper.apart,hd2,ht]
   have hset:∀k,k<all.length→(listed.setIfInBounds i true).getD k true=if k=i then true else listed.getD k true:=by
    intro k hk
    by_cases hki:k=i
    ·subst hki;simp[Array.getD_eq_getD_getElem?,Array.getElem?_setIfInBounds,hsz,hil]
    ·rw[getD_set_ne true (Ne.symm hki),if_neg hki]
   have hcur:∀t,cur all fr vals (fun k=>(listed.setIfInBounds i true).getD k true) all.length t=if o.dst=some t then vals i else cur all fr vals (fun k=>listed.getD k true) all.length t:=by
    intro t
    by_cases ht:o.dst=some t
    ·rw[if_pos ht,cur_past (i:=i+1) all.length hil (fun j h1 h2 hd'=>?_)]
     ·simp only[cur,hoi,Option.bind_some]
      rw[if_pos ⟨by rw[hset i hil];simp,ht⟩]
     ·rw[hset j h2,if_neg (by omega)]
      refine behind j _ (List.getElem?_eq_getElem h2) (by omega) ?_
      have hd2:all[j].dst=some t:=by simpa[List.getElem?_eq_getElem h2]using hd'
      simp[Oper.apart,hd2,ht]
    ·rw[if_neg ht]
     refine cur_same _ fun j hj hd'=>?_
     rw[hset j hj]
     by_cases hji:j=i
     ·subst hji
      rw[hoi]at hd'
      exact absurd (by simpa using hd') ht
     ·rw[if_neg hji]
   have hun':unlisted (listed.setIfInBounds i true) all.length=fuel:=by
    have:=unlisted_set all.length hil hl (by omega)
    omega
   have hcl':∀j oj,all[j]? =some oj→(listed.setIfInBounds i true).getD j true=true→∀e∈oj.after,Region.binds .any e=true→(listed.setIfInBounds i true).getD e.on false=true:=by
    intro j oj hj hlj e he hb
    have hjl:j<all.length:=(List.getElem?_eq_some_iff.1 hj).1
    rw[hset j hjl]at hlj
    by_cases hji:j=i
    ·subst hji
     rw[hoi]at hj;injection hj with hj;subst hj
     exact getD_set_true (hdeps e he hb)
    ·rw[if_neg hji]at hlj
     exact getD_set_true (hcl j oj hj hlj e he hb)
   have hD':∀k,k<all.length→(listed.setIfInBounds i true).getD k true=true→D k=true:=fun k hk h=>by
    rw[hset k hk]at h
    by_cases hki:k=i
    ·subst hki;exact hDi
    ·rw[if_neg hki]at h;exact hD k hk h
   have hfs:=(hw.next i o hoi).1 hDi
   have putrep:∀ (ρ':Rho) (w':World) (u:Value),MExt w0 R0 ρ w m ρ' w' m→Rep (RO w0 R0 ρ' w' m) ρ' m.next w' (vals i) u→∀t,Rep (RO w0 R0 ρ' w' m) ρ' m.next w' (cur all fr vals (fun k=>(listed.setIfInBounds i true).getD k true) all.length t) ((a.put o.dst u).tmps.getD t Go.undef):=by
    intro ρ' w' u he hu t
    rw[hcur t]
    have h1:∀d,o.dst=some d→d<a.tmps.size:=fun d hd'=>by rw[←hs,←hw.size i (by omega)];exact hfs.2.1 d hd'
    cases hdst:o.dst with
    |none=>simpa[Act.put]using Rep.mono he _ _ (hrep t)
    |some d=>
     have hlt:=h1 d hdst
     by_cases ht:d=t
     ·subst ht
      simp[Act.put,Array.getElem?_setIfInBounds,hlt];exact hu
     ·have:¬(some d=some t):=fun e=>ht (by injection e)
      rw[if_neg this]
      have h2:=Rep.mono he _ _ (hrep t)
      simpa[Act.put,Array.getElem?_setIfInBounds_ne ht]using h2
   have putsize:∀u,fr.size=(a.put o.dst u).tmps.size:=fun u=>by rw[hs];cases o.dst<;>simp[Act.put]
   rcases hstep i o hoi hDi with⟨hg,hsem⟩|⟨hg,hv,_⟩
   ·rw[hyieldG _ looks _ hg,if_pos rfl]
    refine .inl ?_
    unfold Oper.wp
    refine upon_of_post (fun u w' hu=>?_) (hsem w0 R0 ρ w a.eval hm (hebG _ looks))
    obtain⟨ρ',g1,g2,g3⟩:=hu
    exact ih _ ρ' w' _ (by simpa using hsz) hun' hcl' hD' g1 (putsize u) (by rw[put_defers];exact hd) (putrep ρ' w' u g2 g3) (hps.trans g2)
   ·rw[hyieldG _ looks _ hg]
    simp only[Bool.false_eq_true,if_false]
    exact ih _ ρ w _ (by simpa using hsz) hun' hcl' hD' hm (putsize _) (by rw[put_defers];exact hd) (putrep ρ w Go.undef (Ext.refl _ _ _ _) (by rw[hv];rfl)) hps
theorem oneOp_quiet(hE:EOK P E){callQ:CallK α}(hcallQ:CallOK P true callQ){all:List Oper}{o:Oper}{ih:OpsK α}{p:Plan}{fr:Fr}{m:Mem}{L:α→Prop}(h:(oneOp E (quiet E) callQ all o ih p fr m).holds L):
  ∃p' v fr1,(ih p' fr1 m).holds L∧StepOK P all o fr m v m∧FSet fr o.dst v fr1:=by
 have hq:quiet E o.op=true∨gval all fr.get o=some false:=by
  unfold oneOp at h
  cases hg:o.guard with
  |none=>
   rw[hg]at h
   dsimp only at h
   split at h
   ·rename_i hq;exact .inl hq
   ·exact h.elim
  |some jw=>
   cases hq:quiet E o.op with
   |true=>exact .inl rfl
   |false=>
    right
    rw[hg]at h
    dsimp only at h
    rw[nth_eq]at h
    split at h
    ·rename_i oj hoj
     split at h
     ·rename_i d hd
      have hb:(all[jw.1]?).bind (·.dst)=some d:=by rw[hoj];exact hd
      split at h
      ·rename_i b hfr
       obtain⟨p',h⟩:=dec_holds h
       obtain⟨fr2,h1,h2⟩:=Fr.set_holds h
       split at h2
       ·rw[hq]at h2;exact h2.elim
       ·rename_i hbw
        simp only[gval,hg,hb,hfr];rw[hbw]
      ·rename_i hfr
       simp only[gval,hg,hb,hfr]
      ·exact h.elim
     ·exact h.elim
    ·exact h.elim
 obtain⟨p1,v,fr1,m1,h1,h2,h3,h4⟩:=oneOp_holds hE hcallQ h
 have hm:m1=m:=by
  rcases hq with hq|hq
  ·exact h4.quiet rfl hq
  ·rcases h2 with⟨hg,_⟩|⟨_,_,hm⟩
   ·rw[hq]at hg;cases hg
   ·exact hm
 subst hm
 exact⟨p1,v,fr1,h1,h2,h3⟩
theorem execPre_walk(hE:EOK P E){callQ:CallK α}(hcallQ:CallOK P true callQ){W:List Nat}{all:List Oper}{k:OpsK α}{L:α→Prop}:∀ (ops:List Oper) (i:Nat) (p:Plan) (fr:Fr) (m:Mem),(execPre E callQ W all ops k i p fr m).holds L→
  ∃p' fr',(k p' fr' m).holds L∧∃ (frs:Nat→Fr) (vals:Nat→SV),frs 0=fr∧frs ops.length=fr'∧∀j o,ops[j]? =some o→(hasN W (i+j)=false→FSet (frs j) o.dst (vals j) (frs (j+1))∧StepOK P all o (frs j) m (vals j) m)∧(hasN W (i+j)=true→frs (j+1)=frs j)
 |[],i,p,fr,m,h=>⟨p,fr,h,fun _=>fr,fun _=>.undef,rfl,rfl,fun j o h=>by simp at h⟩
 |o::rest,i,p,fr,m,h=>by
  have e:execPre E callQ W all (o::rest) k i=(match hasN W i with
   |true=>execPre E callQ W all rest k (i+1)
   |false=>oneOp E (quiet E) callQ all o (execPre E callQ W all rest k (i+1))):=rfl
  rw[e]at h
  cases hW:hasN W i with
  |true=>
   rw[hW]at h
   obtain⟨p',fr',h1,frs,vals,h2,h3,h4⟩:=execPre_walk hE hcallQ rest (i+1) p fr m h
   refine⟨p',fr',h1,fun j=>Nat.casesOn j fr frs,fun j=>Nat.casesOn j .undef vals,rfl,h3,fun j o' hj=>?_⟩
   cases j with
   |zero=>exact⟨fun hc=>(by rw[Nat.add_zero,hW]at hc;cases hc),fun _=>h2⟩
   |succ j=>rw[show i+(j+1)=i+1+j by omega];exact h4 j o' (by simpa using hj)
  |false=>
   rw[hW]at h
   obtain⟨p1,v,fr1,g1,g2,g3⟩:=oneOp_quiet hE hcallQ h
   obtain⟨p',fr',h1,frs,vals,h2,h3,h4⟩:=execPre_walk hE hcallQ rest (i+1) p1 fr1 m g1
   refine⟨p',fr',h1,fun j=>Nat.casesOn j fr frs,fun j=>Nat.casesOn j v vals,rfl,h3,fun j o' hj=>?_⟩
   cases j with
   |zero=>
    simp at hj;subst hj
    exact⟨fun _=>⟨(by dsimp only;rw[h2];exact g3),g2⟩,fun hc=>by rw[Nat.add_zero,hW]at hc;cases hc⟩
   |succ j=>rw[show i+(j+1)=i+1+j by omega];exact h4 j o' (by simpa using hj)
theorem topK_holds{L:α→Prop}:∀ (ops:List Oper) (fr:Fr) (k:Fr→Tree α),(topK ops fr k).holds L→∃fr',(k fr').holds L∧fr'.size=fr.size∧∀t,fr'.get t=.top∨(fr'.get t=fr.get t∧∀ (j:Nat) (oj:Oper),ops[j]? =some oj→oj.dst≠some t)
 |[],fr,k,h=>⟨fr,h,rfl,fun t=>.inr ⟨rfl,fun j oj h=>by simp at h⟩⟩
 |o::rest,fr,k,h=>by
  have e:topK (o::rest) fr k=(match o.dst with
   |some d=>fr.set d .top fun fr=>topK rest fr k
   |none=>topK rest fr k):=rfl
  rw[e]at h
  cases hd:o.dst with
  |none=>
   rw[hd]at h
   obtain⟨fr',h1,h2,h3⟩:=topK_holds rest fr k h
   refine⟨fr',h1,h2,fun t=>(h3 t).imp id fun⟨g1,g2⟩=>⟨g1,fun j oj hj=>?_⟩⟩
   cases j with
   |zero=>simp at hj;subst hj;rw[hd];simp
   |succ j=>exact g2 j oj (by simpa using hj)
  |some d=>
   rw[hd]at h
   obtain⟨fr1,q1,q2⟩:=Fr.set_holds h
   obtain⟨fr',h1,h2,h3⟩:=topK_holds rest fr1 k q2
   refine⟨fr',h1,h2.trans q1.1,fun t=>?_⟩
   rcases h3 t with g|⟨g1,g2⟩
   ·exact .inl g
   ·by_cases ht:some d=some t
    ·left;rw[g1,q1.2.2 t,if_pos ht]
    ·right
     refine⟨by rw[g1,q1.2.2 t,if_neg ht],fun j oj hj=>?_⟩
     cases j with
     |zero=>simp at hj;subst hj;rw[hd];exact ht
     |succ j=>exact g2 j oj (by simpa using hj)
end
section moves
variable {P:Program} {b:Frame} {a:Act} {k:List Item} {cs:List Frame} {w:World}
theorem step_scope{x:Code}:step P (lone (b.at a (.code (.scope x)::k)) cs w)=.next (lone (b.at a (.code x::.inScope x::k)) cs w):=
 step_lone_go (by simp[stepG,stepG.exec,Frame.at])
theorem step_inScope{x:Code}:step P (lone (b.at a (.inScope x::k)) cs w)=.next (lone (b.at a k) cs w):=
 step_lone_go (by simp[stepG,stepG.exec,Frame.at])
end moves
section
variable {P:Program} {E:Env} {α:Type}
def Reach(P:Program)(items:List Item)(fr:Fr)(m:Mem)(out:Out):Prop:=
 ∀⦃ds:List Deferred⦄ w0 R0 ρ w a,SRelD ds w0 R0 ρ w fr m a→∀ (b:Frame) (cs:List Frame),match out with
  |.ret _ fr' m'=>∃ρ' w' a' todo,SRelD ds w0 R0 ρ' w' fr' m' a'∧MExt w0 R0 ρ w m ρ' w' m'∧Steps P (lone (b.at a items) cs w) (lone {b.at a' todo with mode:=.returning} cs w')
  |.stop items' fr' m'=>∃ρ' w' a',SRelD ds w0 R0 ρ' w' fr' m' a'∧MExt w0 R0 ρ w m ρ' w' m'∧Steps P (lone (b.at a items) cs w) (lone (b.at a' items') cs w')
  |.pan v fr' m'=>∃ρ' w' a' todo u,SRelD ds w0 R0 ρ' w' fr' m' a'∧MExt w0 R0 ρ w m ρ' w' m'∧Rep (RO w0 R0 ρ' w' m') ρ' m'.next w' v u∧Steps P (lone (b.at a items) cs w) (lone {b.at a' todo with mode:=.panicking [{v:=u,recovered:=false}]} cs w')
theorem Reach.trans{items items':List Item}{fr fr':Fr}{m m':Mem}{out:Out}(h:Reach P items fr m (.stop items' fr' m'))(k:Reach P items' fr' m' out):Reach P items fr m out:=by
 intro ds w0 R0 ρ w a hs b cs
 obtain⟨ρ1,w1,a1,h1,h2,h3⟩:=h w0 R0 ρ w a hs b cs
 have h4:=k w0 R0 ρ1 w1 a1 h1 b cs
 cases out with
 |ret p fr2 m2=>
  obtain⟨ρ2,w2,a2,todo,g1,g2,g3⟩:=h4
  exact⟨ρ2,w2,a2,todo,g1,h2.trans g2,h3.trans g3⟩
 |stop it fr2 m2=>
  obtain⟨ρ2,w2,a2,g1,g2,g3⟩:=h4
  exact⟨ρ2,w2,a2,g1,h2.trans g2,h3.trans g3⟩
 |pan v fr2 m2=>
  obtain⟨ρ2,w2,a2,todo,u,g1,g2,g3,g4⟩:=h4
  exact⟨ρ2,w2,a2,todo,u,g1,h2.trans g2,g3,h3.trans g4⟩
theorem Reach.step{items items':List Item}{fr:Fr}{m:Mem}(h:∀ (b:Frame) (a:Act) cs w,(∀x,∃R ρ n,Rep R ρ n w (evalIn fr x) (a.eval x))→Go.step P (lone (b.at a items) cs w)=.next (lone (b.at a items') cs w)):Reach P items fr m (.stop items' fr m):=
 fun ds w0 R0 ρ w a hs b cs=>⟨ρ,w,a,hs,Ext.refl _ _ _ _,.one (h b a cs w fun x=>⟨_,_,_,hs.2.1.eval x⟩)⟩
theorem Reach.refl(items:List Item)(fr:Fr)(m:Mem):Reach P items fr m (.stop items fr m):=
 fun ds w0 R0 ρ w a hs b cs=>⟨ρ,w,a,hs,Ext.refl _ _ _ _,Steps.refl _ _⟩
def ExecOK(P:Program)(ih:ExecK α):Prop:=
 ∀items p fr m (κ:Out→Tree α) (L:α→Prop),(ih items p fr m κ).holds L→∃out,(κ out).holds L∧Reach P items fr m out
theorem callFunc_enter {f : FuncId} {fn : Func} {body : Code} (hf : P.funcs[f]? = some fn) (hb : fn.body = some body) (hn : (fn.name == "runtime.NumGoroutine") = false) (args : Array Value) (w : World) : (Go.callFunc f args).run P w = .ok (.enter f args) w := by
 simp only[Go.callFunc,Sem.run_bind,run_program,Result.andThen_ok,hf,hn,Bool.false_eq_true,if_false,hb,Option.isNone_some,Sem.run_pure]
theorem calls_of_reach{f:FuncId}{fn:Func}{body:Code}(hf:P.funcs[f]? =some fn)(hb:fn.body=some body){fr fr':Fr}{m m':Mem}{p:Plan}(hr:Reach P [.code body] fr m (.ret p fr' m')){v:SV}
  (hv:∀⦃ds:List Deferred⦄ w0 R0 ρ w a,SRelD ds w0 R0 ρ w fr' m' a→∃u,(Go.results fn a.tmps).run P w=.ok u w∧Rep (RO w0 R0 ρ w m') ρ m'.next w v u) {w0:World} {R0:RSet} {ρ:Rho} {w:World} {vs:List Value} (hm:MRel w0 R0 ρ w m)
  (hfr:FRel (RO w0 R0 ρ w m) ρ m.next w fr (vs.toArray++Array.replicate (fn.ntmps-vs.toArray.size) Go.undef)):
  Calls P f vs.toArray w fun e w'=>∃u,e=.returned u∧∃ρ',MRel w0 R0 ρ' w' m'∧MExt w0 R0 ρ w m ρ' w' m'∧Rep (RO w0 R0 ρ' w' m') ρ' m'.next w' v u:=by
 intro cs
 let b:Frame:={ (default:Frame)with fn:=f,kind:=.normal}
 have henter:Frame.enter P f vs.toArray .normal=b.at {tmps:=vs.toArray++Array.replicate (fn.ntmps-vs.toArray.size) Go.undef,defers:=[]} [.code body] :=by
  simp[Frame.enter,Frame.at,hf,hb,b]
 obtain⟨ρ',w',a',todo,g1,g2,g3⟩:=hr w0 R0 ρ w {tmps:=vs.toArray++Array.replicate (fn.ntmps-vs.toArray.size) Go.undef,defers:=[]} ⟨hm,hfr,rfl⟩ b cs
 obtain⟨u,h1,h2⟩:=hv w0 R0 ρ' w' a' g1
 refine⟨.returned u,w',_,⟨u,rfl,ρ',g1.1,g2,h2⟩,by rw[henter];exact g3,rfl,rfl,g1.2.2,rfl,fn,hf,h1⟩
mutual
theorem Rep.noRef{R R':Nat→Prop}{ρ:Rho}{n:Nat}{w:World}:∀ (x:SV) (v:Value),Go.Sx.noRef x=true→Rep R ρ n w x v→Rep R' ρ n w x v
 |.undef,_,_,h=>h
 |.top,_,_,_=>trivial
 |.int _ _,_,_,h=>h
 |.bool _,_,_,h=>h
 |.str _,_,_,h=>h
 |.nilS,_,_,h=>h
 |.list _ _,_,hd,_=>by cases hd
 |.row _,_,_,h=>h
 |.arr _ _ _,_,hd,_=>by cases hd
 |.ptr _ _,_,hd,_=>by cases hd
 |.nilP,_,_,h=>h
 |.eptr _ _ _ _,_,hd,_=>by cases hd
 |.rptr _ _ _ _,_,hd,_=>by cases hd
 |.agg cs,v,hd,h=>by
  obtain⟨vs,h1,h2⟩:=h
  exact⟨vs,h1,RepL.noRef cs vs hd h2⟩
 |.tuple cs,v,hd,h=>by
  obtain⟨vs,h1,h2⟩:=h
  exact⟨vs,h1,RepL.noRef cs vs hd h2⟩
 |.fn _ _ _,_,hd,_=>by cases hd
 |.raw _,_,hd,_=>by cases hd
theorem RepL.noRef{R R':Nat→Prop}{ρ:Rho}{n:Nat}{w:World}:∀ (xs:List SV) (vs:List Value),Go.Sx.noRefL xs=true→RepL R ρ n w xs vs→RepL R' ρ n w xs vs
 |[],_,_,h=>h
 |x::xs,vs,hd,h=>by
  obtain⟨u,us,h1,h2,h3⟩:=h
  have hd:(Go.Sx.noRef x&&Go.Sx.noRefL xs)=true:=hd
  rw[Bool.and_eq_true]at hd
  exact⟨u,us,h1,Rep.noRef x u hd.1 h2,RepL.noRef xs us hd.2 h3⟩
end
theorem RepD.flatT{R R':Nat→Prop}{w:World}:∀ (t:Ty) (x:t.T) (vs:List Value),t.flatT=true→RepD R w t x vs→RepD R' w t x vs
 |.unit,_,_,_,h=>h
 |.int _,_,_,_,h=>h
 |.bool,_,_,_,h=>h
 |.str,_,_,_,h=>h
 |.list _,_,_,hd,_=>by cases hd
 |.pair a b,x,vs,hd,h=>by
  obtain⟨v1,v2,h1,h2,h3⟩:=h
  have hd:(a.flatT&&b.flatT)=true:=hd
  rw[Bool.and_eq_true]at hd
  exact⟨v1,v2,h1,RepD.flatT a _ _ hd.1 h2,RepD.flatT b _ _ hd.2 h3⟩
theorem Tb.get_filt{β:Type}(f:β→Bool):∀ (t:Tb β) (i:Nat),(t.filt f).get i=match t.get i with
  |some x=>match f x with
   |true=>some x
   |false=>none
  |none=>none
 |.e,i=>rfl
 |.n l v r,0=>rfl
 |.n l v r,j+1=>by
  show(Tb.n (l.filt f) _ (r.filt f)).get (j+1)=_
  rw[Tb.get_n_succ,Tb.get_n_succ]
  by_cases h:j % 2=0
  ·rw[Tb.pick_even h,Tb.pick_even h,Tb.get_filt f l]
  ·rw[Tb.pick_odd h,Tb.pick_odd h,Tb.get_filt f r]
theorem flats_get{m:Mem}{id:Nat}{B:Box}(h:m.flats.get id=some B):m.get id=some B∧flatB B=true:=by
 unfold Mem.flats Mem.get at h
 dsimp only at h
 rw[Tb.get_filt]at h
 split at h
 ·rename_i x hx
  split at h
  ·rename_i hf
   injection h with h;subst h
   exact⟨hx,hf⟩
  ·cases h
 ·cases h
theorem MRel.flats{w0:World}{R0 R1:RSet}{ρ:Rho}{w:World}{m:Mem}(h:MRel w0 R0 ρ w m)(hs:∀b,R1 b→R0 b∧R1.keep b=R0.keep b):MRel w0 R1 ρ w m.flats:=by
 refine⟨h.below,fun id B hB=>h.lt id B (flats_get hB).1,fun id B hB=>h.lo id B (flats_get hB).1,fun id B hB=>h.hi id B (flats_get hB).1,fun id id' B B' hB hB'=>h.inj id id' B B' (flats_get hB).1 (flats_get hB').1,fun id B hB=>?_,fun b hb=>⟨(h.hid.1 b (hs b hb).1).1,by rw[(hs b hb).2];exact(h.hid.1 b (hs b hb).1).2⟩,fun id B hB hsol hr=>h.hid.2 id B (flats_get hB).1 hsol (hs _ hr).1⟩
 obtain⟨h1,h2⟩:=flats_get hB
 cases B with
 |cells cs=>cases h2
 |iter s p=>cases h2
 |obj _ _=>cases h2
 |vec _=>cases h2
 |map _ _=>cases h2
 |miter _ _ _ _=>cases h2
 |rows t l=>
  obtain⟨b1,b2,b3⟩:=h.box id _ h1
  refine⟨b1,b2,fun h0=>?_⟩
  obtain⟨arr,e,fr,k1,k2,k3,k4⟩:=b3 h0
  refine⟨arr,e,fr,k1,k2,k3,fun i hi=>?_⟩
  obtain⟨cs,c1,c2,c3⟩:=k4 i hi
  exact⟨cs,c1,c2,RepD.flatT t _ _ h2 c3⟩
theorem argR_rep{w0:World}{R0:RSet}{ρ:Rho}{w:World}{m:Mem}(h:MRel w0 R0 ρ w m){R:Nat→Prop}(hR:∀b,b<w.heap.size→R b):∀{xs:List SV} {vs:List Value},RepL (RO w0 R0 ρ w m) ρ m.next w xs vs→dataL (xs.map (argR m))=true→RepL R ρ 0 w (xs.map (argR m)) vs
 |[],_,hr,_=>hr
 |x::xs,vs,hr,hd=>by
  obtain⟨u,us,rfl,r1,r2⟩:=hr
  have hd:dataL (argR m x::xs.map (argR m))=true:=hd
  rw[dataL_cons]at hd
  cases hx:(argR m x).data with
  |false=>rw[hx]at hd;cases hd
  |true=>
   rw[hx]at hd
   refine⟨u,us,rfl,?_,argR_rep h hR r2 hd⟩
   have hlt:∀b,RO w0 R0 ρ w m b→R b:=fun b hb=>hR b (h.ro_lt hb)
   have plain:argR m x=x→Rep R ρ 0 w (argR m x) u:=fun e=>by
    rw[e]at hx ⊢
    exact Rep.data hlt x u hx r1
   cases x with
   |row id=>
    cases hg:m.get id with
    |none=>exact plain (by simp only[argR,hg])
    |some B=>
     cases B with
     |cells cs=>exact plain (by simp only[argR,hg])
     |iter s p=>exact plain (by simp only[argR,hg])
     |obj _ _=>exact plain (by simp only[argR,hg])
     |vec _=>exact plain (by simp only[argR,hg])
     |map _ _=>exact plain (by simp only[argR,hg])
     |miter _ _ _ _=>exact plain (by simp only[argR,hg])
     |rows t l=>
      have e:argR m (.row id)=.list t l:=by simp only[argR,hg]
      rw[e]
      obtain⟨_,a,hu,ha⟩:=r1
      obtain⟨b1,b2,hp⟩:=h.box id _ hg
      refine⟨a,(ρ id).2.2,by rw[hu,b1],b2,fun h0=>?_⟩
      have h0:0< (ρ id).2.2:=Nat.lt_of_lt_of_le h0 b2
      obtain⟨arr,e,fr,k1,k2,k3,k4⟩:=hp h0
      refine⟨(ρ id).1,0,ha h0,hR _ (h.hi id _ hg h0),fun i hi=>?_⟩
      obtain⟨cs,c1,c2,c3⟩:=k4 i hi
      refine⟨cs,c1,fun j hj=>?_,RepD.mono (fun b hb=>⟨hlt b hb,rfl⟩) _ _ _ c3⟩
      rw[cell_of_row w _ _ arr e fr k1,Nat.zero_add]
      exact c2 j hj
   |_=>exact plain rfl
theorem SemCall.congr{m m2 m' m2':Mem}{v:SV}{f:FuncId}{args:List SV}(hg:∀id,m2.get id=m.get id)(hn:m2.next=m.next)(hg':∀id,m2'.get id=m'.get id)(hn':m2'.next=m'.next)(h:SemCall P m v m' f args):SemCall P m2 v m2' f args:=by
 intro w0 R0 ρ w vs hm hvs
 have h1:=h w0 R0 ρ w vs (hm.congr (fun id=>(hg id).symm) hn.symm) (by rw[←RO.congr hg,←hn];exact hvs)
 exact OpPost.mono (fun u w' hu=>hu.congr hg hn hg' hn') h1
theorem adopt_self{v:SV}{mc m:Mem}{k:SV→Mem→Tree α}{L:α→Prop}(h:(adopt v mc m k).holds L):∃v' m',(k v' m').holds L∧∀ (δ:Type) (k2:SV→Mem→Tree δ),adopt v mc m k2=k2 v' m':=by
 obtain⟨v',_,_,_,_,ha⟩:=adopt_at h
 obtain⟨m',_,_,hk⟩:=ha m rfl
 rw[hk]at h
 exact⟨v',m',h,hk⟩
theorem callR_core(hE:EOK P E){ih:ExecK α}(hih:ExecOK P ih){f:FuncId}{args:List SV}{p:Plan}{m:Mem}{κ:Kont α}{L:α→Prop}(h:(callR E ih f args p m κ).holds L):
  ∃v0 mc p',(adopt v0 mc m fun v m=>κ v p' m).holds L∧∀m2 v' m2',args.map (argR m2)=args.map (argR m)→(adopt v0 mc m2 fun v m=>.leaf (v,m)).holds (fun y=>y=(v',m2'))→SemCall P m2 v' m2' f args:=by
 unfold callR at h
 split at h
 ·rename_i fn hfn
  have hf:=hE.fn f fn hfn
  split at h
  ·rename_i body hb
   split at h
   ·rename_i hn
    split at h
    ·rename_i hd
     obtain⟨fr,h1,h2,h3,h4⟩:=make_holds h
     obtain⟨out,h5,h6⟩:=hih _ _ _ _ _ _ h1
     cases out with
     |stop it fr' m'=>exact h5.elim
     |pan v fr' m'=>exact h5.elim
     |ret p' fr' mc=>
      dsimp only at h5
      obtain⟨v,h7,h8⟩:=results_holds hE h5
      split at h7
      ·rename_i hnr
       refine⟨v,mc.flats,p',h7,fun m2 v' m2' he ha w0 R0 ρ w vs hm hvs=>?_⟩
       obtain⟨v1,m1,hl,hsem⟩:=adopt_holds ha
       injection hl with e1 e2
       subst e1 e2
       rw[callFunc_enter hf hb hn]
       have o1:MRel w (.all w) ρ w ⟨0,.e⟩:=⟨⟨Below.refl _ _,hm.gnd⟩,fun id B h=>(by cases h),fun id B h=>(by cases h),fun id B h=>(by cases h),fun id id' B B' h=>(by cases h),fun id B h=>(by cases h),fun b hb=>⟨hb,rfl⟩,fun id B h=>(by cases h)⟩
       have hvs':=argR_rep hm (R:=RO w (.all w) ρ w ⟨0,.e⟩) (fun b hb=>.inl ⟨hb,hb⟩) hvs (by rw[he];exact hd)
       rw[he]at hvs'
       have hfr:=frame_rel h2 h3 h4 hvs'
       refine Calls.mono (calls_of_reach hf hb h6 h8 o1 hfr) fun e w' ⟨u,he,ρ',g1,g2,g3⟩=>⟨u,he,?_⟩
       exact hsem w0 R0 ρ w ρ' w' u hm (g1.flats fun b hb=>⟨hm.ro_lt hb,rfl⟩) (Rep.noRef v u hnr g3)
      ·exact h7.elim
    ·exact h.elim
   ·exact h.elim
  ·exact h.elim
 ·exact h.elim
theorem callD_core(hE:EOK P E){ih:ExecK α}(hih:ExecOK P ih){f:FuncId}{args:List SV}{p:Plan}{m:Mem}{κ:Kont α}{L:α→Prop}(h:(callD E ih f args p m κ).holds L):
  ∃v0 mc p',(adopt v0 mc m fun v m=>κ v p' m).holds L∧∀m2 v' m2',(adopt v0 mc m2 fun v m=>.leaf (v,m)).holds (fun y=>y=(v',m2'))→SemCall P m2 v' m2' f args:=by
 unfold callD at h
 split at h
 ·rename_i fn hfn
  have hf:=hE.fn f fn hfn
  split at h
  ·rename_i body hb
   split at h
   ·rename_i hn
    split at h
    ·rename_i hd
     obtain⟨fr,h1,h2,h3,h4⟩:=make_holds h
     obtain⟨out,h5,h6⟩:=hih _ _ _ _ _ _ h1
     cases out with
     |stop it fr' m'=>exact h5.elim
     |pan v fr' m'=>exact h5.elim
     |ret p' fr' mc=>
      dsimp only at h5
      obtain⟨v,h7,h8⟩:=results_holds hE h5
      refine⟨v,mc,p',h7,fun m2 v' m2' ha w0 R0 ρ w vs hm hvs=>?_⟩
      obtain⟨v1,m1,hl,hsem⟩:=adopt_holds ha
      injection hl with e1 e2
      subst e1 e2
      rw[callFunc_enter hf hb hn]
      obtain⟨o1,o2⟩:=own_mem hm ρ
      have hfr:=frame_rel h2 h3 h4 (RepL.data (R':=RO w (RS w0 R0 ρ w m2) ρ w ⟨0,.e⟩) (ρ':=ρ) (n':=0) o2 args vs hd hvs)
      refine Calls.mono (calls_of_reach hf hb h6 h8 o1 hfr) fun e w' ⟨u,he,ρ',g1,g2,g3⟩=>⟨u,he,?_⟩
      exact hsem w0 R0 ρ w ρ' w' u hm g1 g3
    ·exact h.elim
   ·exact h.elim
  ·exact h.elim
 ·exact h.elim
theorem callG_ok(hE:EOK P E)(hS:SumOK P E){ih:ExecK α}(hih:ExecOK P ih):CallGOK P (callG E ih):=by
 have fin:∀ (f:FuncId) (args:List SV) (v0:SV) (mc m:Mem) (p':Plan) (κ:Kont α) (L:α→Prop),(adopt v0 mc m fun v m=>κ v p' m).holds L→
   (∀m2 v' m2',args.map (argR m2)=args.map (argR m)→(adopt v0 mc m2 fun v m=>.leaf (v,m)).holds (fun y=>y=(v',m2'))→SemCall P m2 v' m2' f args)→
   ∃v p' m',(κ v p' m').holds L∧m.next≤m'.next∧∀ (F:List Nat) (m2 m2':Mem),(∀id,mentL id args=true→id∈F)→(∀id∈F,m2.get id=m.get id)→m2.next=m.next→
    (∀id,m2'.get id=if id∈F++List.range' m.next (m'.next-m.next)then m'.get id else m2.get id)→m2'.next=m'.next→SemCall P m2 v m2' f args:=by
  intro f args v0 mc m p' κ L h hsem
  obtain⟨v,m',h1,h2,h3,h4⟩:=adopt_at h
  refine⟨v,p',m',h1,h2,fun F m2 m2' hF ha hn hp hn'=>?_⟩
  obtain⟨m3,n3,e3,k3⟩:=h4 m2 hn
  have hargs:args.map (argR m2)=args.map (argR m):=by
   refine List.map_congr_left fun x hx=>?_
   cases x<;>try rfl
   rename_i id
   have:=ha id (hF id (mentL_mem hx (by simp[ment])))
   simp only[argR,this]
  refine(hsem m2 v m3 hargs (by rw[k3];exact rfl)).congr (fun _=>rfl) rfl (fun id=>?_) (by rw[hn',n3])
  rw[hp id,e3 id]
  simp only[List.mem_append,mem_range1]
  by_cases c:m.next≤id∧id<m'.next
  ·rw[if_pos c,if_pos (.inr ⟨c.1,by omega⟩)]
  ·rw[if_neg c]
   by_cases c2:id∈F
   ·rw[if_pos (.inl c2),h3 id c,←ha id c2]
   ·rw[if_neg (fun d=>d.elim c2 fun d=>c ⟨d.1,by omega⟩)]
 intro f args p m κ L h
 unfold callG at h
 split at h
 ·exact h.elim
 ·split at h
  ·exact h.elim
  ·split at h
   ·rename_i s hs
    split at h
    ·rename_i id off rest
     split at h
     ·rename_i h0
      have h0:=Nat.eq_of_beq_eq_true h0
      subst h0
      split at h
      ·rename_i B hB
       split at h
       ·rename_i t ht
        obtain⟨v,B',p',h1,h2⟩:=bindB_holds t p h (hS.2.2.2.1 f s rest B t hs ht)
        obtain⟨m',h3,h4⟩:=Mem.set_holds h1
        refine⟨v,p',m',h4,by rw[h3.2];exact Nat.le_refl _,fun F m2 m2' hF ha hn hp hn'=>?_⟩
        have hidF:id∈F:=hF id (mentL_mem List.mem_cons_self (by simp[ment]))
        refine h2 m2 m2' id ((ha id hidF).trans hB) ⟨fun k=>?_,by rw[hn',h3.2,hn]⟩
        rw[hp k,h3.2,Nat.sub_self,List.range'_zero,List.append_nil,h3.1 k]
        by_cases hk:k∈F
        ·rw[if_pos hk]
         by_cases hki:k=id
         ·rw[if_pos hki,if_pos hki]
         ·rw[if_neg hki,if_neg hki,ha k hk]
        ·rw[if_neg hk,if_neg (fun c=>hk (by rw[c];exact hidF))]
       ·exact h.elim
      ·exact h.elim
     ·exact h.elim
    ·exact h.elim
   ·split at h
    ·rename_i s hs
     split at h
     ·rename_i t ht
      obtain⟨x,p',h1,h2⟩:=bindO_holds t p h (hS.2.2.2.2 f s args t hs ht)
      exact fin f args x.1 x.2 m p' κ L h1 fun m2 v' m2' _=>h2 m2 v' m2'
     ·exact h.elim
    split at h
    ·obtain⟨v0,mc,p',h1,h2⟩:=callR_core hE hih h
     exact fin f args v0 mc m p' κ L h1 h2
    ·obtain⟨v0,mc,p',h1,h2⟩:=callD_core hE hih h
     exact fin f args v0 mc m p' κ L h1 fun m2 v' m2' _=>h2 m2 v' m2'
theorem callIn_ok(hE:EOK P E)(hS:SumOK P E){ih:ExecK α}(hih:ExecOK P ih):CallOK P false (callIn E ih):=by
 intro f args p m κ L h
 unfold callIn at h
 split at h
 ·rename_i s hs
  split at h
  ·rename_i t ht
   obtain⟨v,p',h1,h2⟩:=bindT_holds t p h (hS.1 f s args t hs ht)
   exact⟨v,p',m,h1,fun hq=>(by cases hq),h2 m⟩
  ·exact h.elim
 ·split at h
  ·rename_i s hs
   split at h
   ·rename_i t ht
    obtain⟨x,p',h1,h2⟩:=bindM_holds t p h (hS.2.1 f s args m t hs ht)
    exact⟨x.1,p',x.2,h1,fun hq=>(by cases hq),h2⟩
   ·exact h.elim
  split at h
  ·rename_i s hs
   split at h
   ·rename_i t ht
    obtain⟨x,p',h1,h2⟩:=bindO_holds t p h (hS.2.2.2.2 f s args t hs ht)
    obtain⟨v',m',h3,h4⟩:=adopt_self h1
    exact⟨v',p',m',h3,fun hq=>(by cases hq),h2 m v' m' (by rw[h4];exact rfl)⟩
   ·exact h.elim
  split at h
  ·obtain⟨v0,mc,p',h1,h2⟩:=callR_core hE hih h
   obtain⟨v',m',h3,h4⟩:=adopt_self h1
   exact⟨v',p',m',h3,fun hq=>(by cases hq),h2 m v' m' rfl (by rw[h4];exact rfl)⟩
  split at h
  ·rename_i fn hfn
   have hf:=hE.fn f fn hfn
   split at h
   ·rename_i body hb
    split at h
    ·rename_i hn
     split at h
     ·rename_i hd
      rw[Bool.and_eq_true]at hd
      have hd:=hd.1
      obtain⟨fr,h1,h2,h3,h4⟩:=make_holds h
      obtain⟨out,h5,h6⟩:=hih _ _ _ _ _ _ h1
      cases out with
      |stop it fr' m'=>exact h5.elim
      |pan v fr' m'=>exact h5.elim
      |ret p' fr' mc=>
       dsimp only at h5
       obtain⟨v,h7,h8⟩:=results_holds hE h5
       obtain⟨v',m',h9,h10⟩:=adopt_holds h7
       refine⟨v',p',m',h9,fun hq=>(by cases hq),fun w0 R0 ρ w vs hm hvs=>?_⟩
       rw[callFunc_enter hf hb hn]
       obtain⟨o1,o2⟩:=own_mem hm ρ
       have hfr:=frame_rel h2 h3 h4 (RepL.data (R':=RO w (RS w0 R0 ρ w m) ρ w ⟨0,.e⟩) (ρ':=ρ) (n':=0) o2 args vs hd hvs)
       refine Calls.mono (calls_of_reach hf hb h6 h8 o1 hfr) fun e w' ⟨u,he,ρ',g1,g2,g3⟩=>⟨u,he,?_⟩
       exact h10 w0 R0 ρ w ρ' w' u hm g1 g3
     ·obtain⟨fr,h1,h2,h3,h4⟩:=make_holds h
      obtain⟨out,h5,h6⟩:=hih _ _ _ _ _ _ h1
      cases out with
      |stop it fr' m'=>exact h5.elim
      |pan v fr' m'=>exact h5.elim
      |ret p' fr' mc=>
       dsimp only at h5
       obtain⟨v,h7,h8⟩:=results_holds hE h5
       refine⟨v,p',mc,h7,fun hq=>(by cases hq),fun w0 R0 ρ w vs hm hvs=>?_⟩
       rw[callFunc_enter hf hb hn]
       exact calls_of_reach hf hb h6 h8 hm (frame_rel h2 h3 h4 hvs)
    ·exact h.elim
   ·exact h.elim
  ·exact h.elim
theorem callQ_ok(hE:EOK P E)(hS:SumOK P E){ih:ExecK α}(hih:ExecOK P ih):CallOK P true (callQ E ih):=by
 intro f args p m κ L h
 unfold callQ at h
 split at h
 ·rename_i s hs
  split at h
  ·rename_i t ht
   obtain⟨v,p',h1,h2⟩:=bindT_holds t p h (hS.1 f s args t hs ht)
   exact⟨v,p',m,h1,fun _=>⟨rfl,h2⟩,h2 m⟩
  ·exact h.elim
 ·split at h
  ·rename_i fn hfn
   have hf:=hE.fn f fn hfn
   split at h
   ·rename_i body hb
    split at h
    ·rename_i hn
     split at h
     ·rename_i hd
      obtain⟨fr,h1,h2,h3,h4⟩:=make_holds h
      obtain⟨out,h5,h6⟩:=hih _ _ _ _ _ _ h1
      cases out with
      |stop it fr' m'=>exact h5.elim
      |pan v fr' m'=>exact h5.elim
      |ret p' fr' mc=>
       dsimp only at h5
       obtain⟨v,h7,h8⟩:=results_holds hE h5
       split at h7
       ·rename_i hvd
        suffices key:∀m,SemCall P m v m f args from⟨v,p',m,h7,fun _=>⟨rfl,key⟩,key m⟩
        intro m w0 R0 ρ w vs hm hvs
        rw[callFunc_enter hf hb hn]
        obtain⟨o1,o2⟩:=own_mem hm ρ
        have hfr:=frame_rel h2 h3 h4 (RepL.data (R':=RO w (RS w0 R0 ρ w m) ρ w ⟨0,.e⟩) (ρ':=ρ) (n':=0) o2 args vs hd hvs)
        refine Calls.mono (calls_of_reach hf hb h6 h8 o1 hfr) fun e w' ⟨u,he,ρ',g1,g2,g3⟩=>⟨u,he,?_⟩
        have hst:=Hand.start hm g1
        obtain⟨k1,k2⟩:=hst.finish hm g1
        exact⟨ρ,k1,k2,Rep.data (fun b hb=>hst.ro b (.inr hb)) v u hvd g3⟩
       ·exact h7.elim
     ·exact h.elim
    ·exact h.elim
   ·exact h.elim
  ·exact h.elim
def Start(fr:Fr)(m:Mem):Prop:=m.get m.next=none∧(∀id B,m.get id=some B→id<m.next∧∀k,m.next≤k→mentB k (some B)=false)∧∀t k,m.next≤k→ment k (fr.get t)=false
theorem SRelD.start{ds:List Deferred}{w0:World}{R0:RSet}{ρ:Rho}{w:World}{fr:Fr}{m:Mem}{a:Act}(h:SRelD ds w0 R0 ρ w fr m a):Start fr m:=by
 obtain⟨hm,hfr,_⟩:=h
 refine⟨hm.fresh,fun id B hB=>⟨hm.lt id B hB,fun k hk=>?_⟩,fun t k hk=>?_⟩
 ·cases B with
  |rows t l=>rfl
  |iter s p=>rfl
  |obj t cs=>
   obtain⟨arr,_,h3⟩:=hm.box id _ hB
   rcases Bool.eq_false_or_eq_true (mentL k cs)with h|h
   ·have:=RepL.bound cs _ h3 h;omega
   ·exact h
  |cells cs=>
   obtain⟨arr,e,fr,_,_,h3⟩:=hm.box id _ hB
   rcases Bool.eq_false_or_eq_true (mentL k cs)with h|h
   ·have:=RepL.bound cs _ h3 h;omega
   ·exact h
  |vec cs=>
   obtain⟨arr,e,fr,_,_,_,_,h3⟩:=hm.box id _ hB
   rcases Bool.eq_false_or_eq_true (mentL k cs)with h|h
   ·have:=RepL.bound cs _ h3 h;omega
   ·exact h
  |map es c=>
   obtain⟨arr,_,h3⟩:=hm.box id _ hB
   rcases Bool.eq_false_or_eq_true (es.any fun e=>ment k e.1||ment k e.2.1)with h|h
   ·have:=RepM.bound es _ h3 h;omega
   ·exact h
  |miter om since seen last=>
   obtain⟨_,h3⟩:=hm.box id _ hB
   cases om with
   |none=>rfl
   |some i=>
    have:=h3 i rfl
    rcases Bool.eq_false_or_eq_true (Nat.beq i k)with h|h
    ·have:=Nat.eq_of_beq_eq_true h;omega
    ·exact h
 ·rcases Bool.eq_false_or_eq_true (ment k (fr.get t))with h|h
  ·have:=Rep.bound _ _ (hfr.2 t) h;omega
  ·exact h
theorem MRel.bump{w0:World}{R0:RSet}{ρ:Rho}{w:World}{m m2:Mem}(h:MRel w0 R0 ρ w m)(hg:∀id,m2.get id=m.get id)(hn:m.next≤m2.next):MRel w0 R0 ρ w m2∧MExt w0 R0 ρ w m ρ w m2:=by
 have e:MExt w0 R0 ρ w m ρ w m2:=⟨hn,fun _ _=>rfl,fun b hb=>⟨by rw[RO.congr hg];exact hb,rfl⟩⟩
 refine⟨⟨h.below,fun id B hB=>?_,fun id B hB=>h.lo id B (by rw[←hg];exact hB),fun id B hB=>h.hi id B (by rw[←hg];exact hB),fun id id' B B' hB hB'=>h.inj id id' B B' (by rw[←hg];exact hB) (by rw[←hg];exact hB'),fun id B hB=>?_,h.hid.1,fun id B hB=>h.hid.2 id B (by rw[←hg];exact hB)⟩,e⟩
 ·have:=h.lt id B (by rw[←hg];exact hB);omega
 ·exact BoxRel.mono e B (fun _=>rfl) (h.box id B (by rw[←hg];exact hB))
theorem idOf_mem:∀{refs:List (Nat×Nat)} {c k:Nat},idOf refs c=some k→(c,k)∈refs
 |x::l,c,k,h=>by
  unfold idOf at h
  split at h
  ·rename_i hx
   injection h with h;subst h
   rw[←Nat.eq_of_beq_eq_true hx];exact List.mem_cons_self
  ·exact List.mem_cons_of_mem _ (idOf_mem h)
theorem refsOf_range:∀ (l:List Oper) (i k:Nat) {c j:Nat},(c,j)∈refsOf l i k→k≤j∧j<k+(refsOf l i k).length
 |[],i,k,c,j,h=>by cases h
 |o::l,i,k,c,j,h=>by
  have e:refsOf (o::l) i k=match isAlloc o.op with
   |true=>(i,k)::refsOf l (i+1) (k+1)
   |false=>refsOf l (i+1) k:=rfl
  rw[e]at h ⊢
  cases ha:isAlloc o.op with
  |true=>
   rw[ha]at h
   dsimp only at h ⊢
   rcases List.mem_cons.1 h with h|h
   ·injection h with h1 h2;simp;omega
   ·have:=refsOf_range l (i+1) (k+1) h;simp;omega
  |false=>rw[ha]at h;exact refsOf_range l (i+1) k h
theorem oneOpP_holds(hE:EOK P E)(hS:SumOK P E){call:CallK α}(hcall:CallOK P false call){esc:SV→Fr→Mem→Tree α}{all:List Oper}{o:Oper}{ih:OpsK α}{p:Plan}{fr:Fr}{m:Mem}{L:α→Prop}(h:(oneOpP E call esc all o ih p fr m).holds L):
  (∃p' v fr1 m1,(ih p' fr1 m1).holds L∧StepOK P all o fr m v m1∧FSet fr o.dst v fr1)∨∃v m',(esc v fr m').holds L∧o.guard=none∧SemPan P m v m' o (evalIn fr):=by
 have old:(oneOp E (fun _=>true) call all o ih p fr m).holds L→∃p' v fr1 m1,(ih p' fr1 m1).holds L∧StepOK P all o fr m v m1∧FSet fr o.dst v fr1:=fun h=>by
  obtain⟨p',v,fr1,m1,h1,h2,h3,_⟩:=oneOp_holds hE hcall h
  exact⟨p',v,fr1,m1,h1,h2,h3⟩
 unfold oneOpP at h
 split at h
 ·exact .inl (old h)
 ·rename_i hg
  split at h
  ·rename_i x hop
   split at h
   ·rename_i v0 hx
    split at h
    ·rename_i t v1
     refine .inr ⟨_,m,h,hg,fun w0 R0 ρ w eb hm hev=>?_⟩
     have h1:=hev x (by rw[hop];simp[Op.operands])
     rw[hx]at h1
     have h1:eb x=.iface t v1:=h1
     obtain⟨dst,op,ty,pos,after,guard⟩:=o
     dsimp only at hop
     subst hop
     simp only[Go.execOp,h1,Instr.panic]
     exact⟨ρ,hm,Ext.refl _ _ _ _,rfl⟩
    ·exact h.elim
   ·exact h.elim
  ·rename_i c hop
   split at h
   ·rename_i g hc
    split at h
    ·rename_i f first cap hgv
     split at h
     ·rename_i s hs
      split at h
      ·rename_i t ht
       have run:∀{w0:World} {R0:RSet} {ρ:Rho} {w:World} {eb:Operand→Value},(∀x∈o.op.operands,Rep (RO w0 R0 ρ w m) ρ m.next w (evalIn fr x) (eb x))→∃vs:List Value,RepL (RO w0 R0 ρ w m) ρ m.next w (first++(c.args.toList.map (evalIn fr)++cap)) vs∧(Go.execOp eb o).run P w=(Go.callFunc f vs.toArray).run P w:=by
        intro w0 R0 ρ w eb hev
        have hg0:=hev g (by rw[hop];simp[Op.operands,Call.operands,hc])
        rw[hgv]at hg0
        obtain⟨vs,us,h4,h5,h6⟩:=hg0
        have r1:RepL (RO w0 R0 ρ w m) ρ m.next w (c.args.toList.map (evalIn fr)) (c.args.toList.map eb):=RepL.map _ _ _ fun x hx=>hev x (by rw[hop];simp[Op.operands,Call.operands]at hx ⊢;simp[hx])
        refine⟨vs++(c.args.toList.map eb++us),h5.append (r1.append h6),?_⟩
        obtain⟨dst,op,ty,pos,after,guard⟩:=o
        dsimp only at hop
        subst hop
        simp only[Go.execOp,resolve,hc,h4,Deferred.ofValue,pure_bind,invoke]
        have e:(vs++(c.args.toList.map eb++us)).toArray=vs.toArray++c.args.map eb++us.toArray:=by apply Array.ext';simp
        rw[e]
       rcases bindX_holds t p h (hS.2.2.1 f s _ m t hs ht)with⟨v,m1,p',h1,h2⟩|⟨v,m1,h1,h2⟩
       ·obtain⟨fr1,h3,h4⟩:=putK_holds h1
        refine .inl ⟨p',v,fr1,m1,h4,.inl ⟨by simp[gval,hg],fun w0 R0 ρ w eb hm hev=>?_⟩,h3⟩
        obtain⟨vs,r1,r2⟩:=run hev
        rw[r2]
        exact h2 w0 R0 ρ w _ hm r1
       ·refine .inr ⟨v,m1,h1,hg,fun w0 R0 ρ w eb hm hev=>?_⟩
        obtain⟨vs,r1,r2⟩:=run hev
        rw[r2]
        exact h2 w0 R0 ρ w _ hm r1
      ·exact h.elim
     ·exact .inl (old h)
    ·exact .inl (old h)
   ·exact .inl (old h)
  ·exact .inl (old h)
theorem execOpsP_chain(hE:EOK P E)(hS:SumOK P E){call:CallK α}(hcall:CallOK P false call){esc:SV→Fr→Mem→Tree α}{all:List Oper}{k:OpsK α}{L:α→Prop}:∀ (ops:List Oper) (p:Plan) (fr:Fr) (m:Mem),(execOpsP E call esc all ops k p fr m).holds L→
  (∃p' fr' m',(k p' fr' m').holds L∧Chain P all ops fr m fr' m')∨∃v fr' m',(esc v fr' m').holds L∧ChainP P all ops fr m v fr' m'
 |[],p,fr,m,h=>.inl ⟨p,fr,m,h,.nil fr m⟩
 |o::rest,p,fr,m,h=>by
  change (oneOpP E call esc all o (execOpsP E call esc all rest k) p fr m).holds L at h
  rcases oneOpP_holds hE hS hcall h with⟨p1,v,fr1,m1,h1,h2,h3⟩|⟨v,m',h1,h2,h3⟩
  ·rcases execOpsP_chain hE hS hcall rest p1 fr1 m1 h1 with⟨p',fr',m',h5,h6⟩|⟨v',fr',m',h5,h6⟩
   ·exact .inl ⟨p',fr',m',h5,.cons h2 h3 h6⟩
   ·exact .inr ⟨v',fr',m',h5,.next h2 h3 h6⟩
  ·exact .inr ⟨v,fr,m',h1,.here h2 h3⟩
theorem pnTree_spec{fr:Fr}{m:Mem}{o:Op}{t:Tree Ex}(h:pnTree E fr m o=some t):∃f c,o=.call c∧c.callee=.value (.func f)∧∃s,E.pn f=some s∧s (c.args.toList.map (evalIn fr)) m=some t:=by
 unfold pnTree at h
 split at h
 ·rename_i c
  split at h
  ·rename_i g hc
   split at h
   ·rename_i f
    split at h
    ·rename_i s hs
     exact⟨f,c,rfl,hc,s,hs,h⟩
    ·cases h
   ·cases h
  ·cases h
 ·cases h
theorem semPan_call{m m1:Mem}{v:SV}{o:Oper}{f:FuncId}{c:Call}{fr:Fr}(hop:o.op=.call c)(hc:c.callee=.value (.func f))(h:XCall P f (c.args.toList.map (evalIn fr)) m (.pan v m1)):SemPan P m v m1 o (evalIn fr):=by
 intro w0 R0 ρ w eb hm hev
 have r1:RepL (RO w0 R0 ρ w m) ρ m.next w (c.args.toList.map (evalIn fr)) (c.args.toList.map eb):=RepL.map _ _ _ fun x hx=>hev x (by rw[hop];simp[Op.operands,Call.operands]at hx ⊢;simp[hx])
 have hf:eb (.func f)=.func (.func f) #[] #[] :=by
  obtain⟨vs,us,h4,h5,h6⟩:=hev (.func f) (by rw[hop];simp[Op.operands,Call.operands,hc])
  have h5:vs=[] :=h5
  have h6:us=[] :=h6
  subst h5 h6
  exact h4
 have e1:(Go.execOp eb o).run P w=(Go.callFunc f (c.args.toList.map eb).toArray).run P w:=by
  obtain⟨dst,op,ty,pos,after,guard⟩:=o
  dsimp only at hop
  subst hop
  simp only[Go.execOp,resolve,hc,hf,Deferred.ofValue,pure_bind,invoke]
  have e:(c.args.toList.map eb).toArray=(#[] :Array Value)++c.args.map eb++#[] :=by apply Array.ext';simp
  rw[e]
 rw[e1]
 exact h w0 R0 ρ w _ hm r1
theorem fset_any(fr:Fr)(d:Option Tmp)(hd:∀t,d=some t→t<fr.size)(v:SV):∃fr',FSet fr d v fr':=by
 cases d with
 |none=>exact⟨fr,rfl,(fun t h=>by cases h),(fun t=>by simp)⟩
 |some d=>
  obtain⟨t',h⟩:=tbSet_ex' d fr.tb (some v)
  refine⟨⟨fr.size,t'⟩,rfl,hd,fun t=>?_⟩
  unfold Fr.get
  rw[h t]
  by_cases e:t=d
  ·subst e;simp
  ·rw[if_neg e,if_neg (fun h=>e (by injection h with h;exact h.symm))]
def WkM(fr fr2:Fr):Prop:=fr.size=fr2.size∧∀t,fr.get t=.top∨fr.get t=fr2.get t
theorem WkM.refl(fr:Fr):WkM fr fr:=⟨rfl,fun _=>.inr rfl⟩
theorem WkM.top{fr fr2 fr' fr2':Fr}{d:Option Tmp}{v:SV}(h:WkM fr fr2)(h1:FSet fr d .top fr')(h2:FSet fr2 d v fr2'):WkM fr' fr2':=
 ⟨h1.1.trans (h.1.trans h2.1.symm),fun t=>by
  rw[h1.2.2 t,h2.2.2 t]
  by_cases e:d=some t
  ·rw[if_pos e];exact .inl rfl
  ·rw[if_neg e,if_neg e];exact h.2 t⟩
theorem WkM.same{fr fr2 fr' fr2':Fr}{d:Option Tmp}{v:SV}(h:WkM fr fr2)(h1:FSet fr d v fr')(h2:FSet fr2 d v fr2'):WkM fr' fr2':=
 ⟨h1.1.trans (h.1.trans h2.1.symm),fun t=>by
  rw[h1.2.2 t,h2.2.2 t]
  by_cases e:d=some t
  ·rw[if_pos e,if_pos e];exact .inr rfl
  ·rw[if_neg e,if_neg e];exact h.2 t⟩
theorem Chain.wk{all ops:List Oper}{fr fr2 fr':Fr}{m m':Mem}(h:WkM fr2 fr)(k:Chain P all ops fr2 m fr' m'):Chain P all ops fr m fr' m':=.weak h.1 h.2 k
theorem pick_sem(hE:EOK P E){fr:Fr}{o:Oper}{t:Nat}{x y:Operand}{b bv:Bool}{m:Mem}(hop:o.op=.pick (.tmp t) x y)(hb:fr.get t=.bool b)(hv:(match b with|true=>evalIn fr x|false=>evalIn fr y)=.bool bv):SemOp P m (.bool bv) m o (evalIn fr):=by
 refine semOp_of_run hE (call:=fun _ _ _ _ _=>.fail 0) noCall_ok (p:=.auto) ?_
 rw[hop]
 show(match evalIn fr (.tmp t)with
  |.bool c=>dec .auto c fun c p=>frc (match c with|true=>evalIn fr x|false=>evalIn fr y) fun v=>Tree.leaf (v,m)
  |_=>.fail 120:Tree (SV×Mem)).holds _
 rw[show evalIn fr (.tmp t)=.bool b from hb]
 cases b with
 |true=>
  show(frc (evalIn fr x) fun v=>Tree.leaf (v,m):Tree (SV×Mem)).holds _
  rw[frc_eq]
  exact⟨hv,fun _=>rfl,rfl⟩
 |false=>
  show(frc (evalIn fr y) fun v=>Tree.leaf (v,m):Tree (SV×Mem)).holds _
  rw[frc_eq]
  exact⟨hv,fun _=>rfl,rfl⟩
theorem execOpsM_chain(hE:EOK P E){call callQ:CallK α}(hcall:CallOK P false call)(hcallQ:CallOK P true callQ){all:List Oper}{k:OpsK α}{L:α→Prop}:∀ (ops:List Oper) (q:PendM) (p:Plan) (fr:Fr) (m:Mem),(execOpsM E call callQ all ops k q p fr m).holds L→
  match q with
  |none=>∃p' fr' m',(k p' fr' m').holds L∧Chain P all ops fr m fr' m'
  |some (jw,b,d,frX)=>fr.get d=.bool b→frX.get d=.bool b→(all[jw.1]?).bind (·.dst)=some d→WkM fr frX→
   ((b==jw.2)=true→∃p' fr' m',(k p' fr' m').holds L∧Chain P all ops frX m fr' m')∧
   ((b==jw.2)=false→∀frO,WkM fr frO→frO.get d=.bool b→∃p' fr' m',(k p' fr' m').holds L∧Chain P all ops frO m fr' m')
 |[],q,p,fr,m,h=>by
  cases q with
  |none=>exact⟨p,fr,m,h,.nil fr m⟩
  |some x=>exact h.elim
 |o::rest,q,p,fr,m,h=>by
  have ih:=execOpsM_chain hE hcall hcallQ (all:=all) (k:=k) (L:=L) rest
  change (oneOpM E call callQ all o (execOpsM E call callQ all rest k) q p fr m).holds L at h
  -- one operation behind a condition
  have grd:∀ (jw:Nat×Bool) (b:Bool) (d:Nat) (frX:Fr),o.guard=some jw→fr.get d=.bool b→frX.get d=.bool b→(all[jw.1]?).bind (·.dst)=some d→WkM fr frX→(mrgK E callQ o (execOpsM E call callQ all rest k) jw b d frX p fr m).holds L→
    ((b==jw.2)=true→∃p' fr' m',(k p' fr' m').holds L∧Chain P all (o::rest) frX m fr' m')∧
    ((b==jw.2)=false→∀frO,WkM fr frO→frO.get d=.bool b→∃p' fr' m',(k p' fr' m').holds L∧Chain P all (o::rest) frO m fr' m'):=by
   intro jw b d frX hg hb hbX hj hw h
   unfold mrgK at h
   split at h
   ·rename_i hq
    rw[Bool.and_eq_true]at hq
    obtain⟨hq,hne⟩:=hq
    have hne:o.dst≠some d:=fun e=>by rw[e]at hne;simp at hne
    obtain⟨v,p1,m1,h1,h2,h3,_⟩:=execOp_sound hE hcallQ h
    have:=h2 rfl hq
    subst this
    obtain⟨frX1,g1,h4⟩:=putK_holds h1
    obtain⟨fr1,g2,h5⟩:=putK_holds h4
    have hb1:fr1.get d=.bool b:=by rw[g2.2.2 d,if_neg hne];exact hb
    have hbX1:frX1.get d=.bool b:=by rw[g1.2.2 d,if_neg hne];exact hbX
    obtain⟨k1,k2⟩:=ih _ _ _ _ h5 hb1 hbX1 hj (hw.top g2 g1)
    refine⟨fun hbw=>?_,fun hbw frO hwO hbO=>?_⟩
    ·obtain⟨p',fr',m',q1,q2⟩:=k1 hbw
     exact⟨p',fr',m',q1,.cons (.inl ⟨by simp only[gval,hg,hj,hbX];rw[hbw],h3⟩) g1 q2⟩
    ·obtain⟨frO1,g3⟩:=fset_any frO o.dst (fun t ht=>by rw[←hwO.1];exact g2.2.1 t ht) .undef
     obtain⟨p',fr',m',q1,q2⟩:=k2 hbw frO1 (hwO.top g2 g3) (by rw[g3.2.2 d,if_neg hne];exact hbO)
     exact⟨p',fr',m',q1,.cons (.inr ⟨by simp only[gval,hg,hj,hbO];rw[hbw],rfl,rfl⟩) g3 q2⟩
   ·exact h.elim
  unfold oneOpM at h
  cases q with
  |none=>
   dsimp only at h ⊢
   cases hg:o.guard with
   |none=>
    rw[hg]at h
    obtain⟨v,p1,m1,h1,_,h3,_⟩:=execOp_sound hE hcall h
    obtain⟨fr1,g1,h4⟩:=putK_holds h1
    obtain⟨p',fr',m',q1,q2⟩:=ih _ _ _ _ h4
    exact⟨p',fr',m',q1,.cons (.inl ⟨by simp[gval,hg],h3⟩) g1 q2⟩
   |some jw=>
    rw[hg]at h
    dsimp only at h
    rw[nth_eq]at h
    split at h
    ·rename_i oj hoj
     split at h
     ·rename_i d hd
      have hj:(all[jw.1]?).bind (·.dst)=some d:=by rw[hoj];exact hd
      split at h
      ·rename_i b hfr
       obtain⟨k1,k2⟩:=grd jw b d fr hg hfr hfr hj (WkM.refl fr) h
       cases hbw:(b==jw.2)with
       |true=>exact k1 hbw
       |false=>exact k2 hbw fr (WkM.refl fr) hfr
      ·exact h.elim
     ·exact h.elim
    ·exact h.elim
  |some x=>
   obtain⟨jw,b,d,frX⟩:=x
   dsimp only at h ⊢
   intro hb hbX hj hw
   cases hg:o.guard with
   |some iw=>
    rw[hg]at h
    dsimp only at h
    split at h
    ·rename_i he
     rw[Bool.and_eq_true]at he
     have e1:=Nat.eq_of_beq_eq_true he.1
     have e2:iw.2=jw.2:=by simpa using he.2
     have:iw=jw:=Prod.ext e1 e2
     subst this
     exact grd iw b d frX hg hb hbX hj hw h
    ·exact h.elim
   |none=>
    rw[hg]at h
    dsimp only at h
    split at h
    ·rename_i t x y hop
     split at h
     ·rename_i htd
      have htd:=Nat.eq_of_beq_eq_true htd
      subst htd
      unfold pickK at h
      split at h
      ·rename_i b1 b2 hv1 hv2
       obtain⟨fr1,g1,h2⟩:=putK_holds h
       obtain⟨p',fr',m',q1,q2⟩:=ih _ _ _ _ h2
       have hgv:∀f:Fr,gval all f.get o=some true:=fun f=>by simp[gval,hg]
       refine⟨fun hbw=>?_,fun hbw frO hwO hbO=>?_⟩
       ·rw[hbw]at g1
        obtain⟨frX1,g2⟩:=fset_any frX o.dst (fun t ht=>by rw[←hw.1];exact g1.2.1 t ht) (.bool b1)
        have e:b=jw.2:=by simpa using hbw
        refine⟨p',fr',m',q1,.cons (.inl ⟨hgv frX,pick_sem hE hop hbX ?_⟩) g2 (Chain.wk (hw.same g1 g2) q2)⟩
        rw[e];exact hv1
       ·rw[hbw]at g1
        obtain⟨frO1,g2⟩:=fset_any frO o.dst (fun t ht=>by rw[←hwO.1];exact g1.2.1 t ht) (.bool b2)
        have e:b=!jw.2:=by
         cases b<;>cases hj2:jw.2<;>rw[hj2]at hbw<;>first|rfl|cases hbw
        refine⟨p',fr',m',q1,.cons (.inl ⟨hgv frO,pick_sem hE hop hbO ?_⟩) g2 (Chain.wk (hwO.same g1 g2) q2)⟩
        have up:∀z:Operand,evalIn fr z=.bool b2→evalIn frO z=.bool b2:=fun z hz=>by
         cases z with
         |tmp t=>
          have hz:fr.get t=.bool b2:=hz
          show frO.get t=.bool b2
          rcases hwO.2 t with e|e
          ·rw[e]at hz;cases hz
          ·rw[←e];exact hz
         |const v=>exact hz
         |global g=>exact hz
         |func f=>exact hz
        rw[e]
        cases hj2:jw.2 with
        |true=>
         rw[hj2]at hv2
         exact up _ hv2
        |false=>
         rw[hj2]at hv2
         exact up _ hv2
      ·exact h.elim
     ·exact h.elim
    ·exact h.elim
theorem WkM.trans{a b c:Fr}(h:WkM a b)(k:WkM b c):WkM a c:=
 ⟨h.1.trans k.1,fun t=>by
  rcases h.2 t with e|e
  ·exact .inl e
  ·rw[e];exact k.2 t⟩
theorem SemOp.wk{fr2 fr:Fr}{m m':Mem}{v:SV}{o:Oper}(h:WkM fr2 fr)(k:SemOp P m v m' o (evalIn fr2)):SemOp P m v m' o (evalIn fr):=
 fun w0 R0 ρ w eb hm hev=>k w0 R0 ρ w eb hm fun x hx=>by
  have q:=hev x hx
  cases x with
  |tmp t=>
   show Rep _ _ _ _ (fr2.get t) _
   rcases h.2 t with e|e
   ·rw[e];trivial
   ·rw[e];exact q
  |const v=>exact q
  |global g=>exact q
  |func f=>exact q
theorem gval_wk{all:List Oper}{fr2 fr:Fr}{o:Oper}{b:Bool}(h:WkM fr2 fr)(k:gval all fr2.get o=some b):gval all fr.get o=some b:=by
 unfold gval at k ⊢
 split at k
 ·exact k
 ·split at k
  ·rename_i d hd
   rcases h.2 d with e|e
   ·rw[e]at k;cases k
   ·rw[←e];exact k
  ·cases k
theorem Extra.wk{Q:Bool}{fr2 fr:Fr}{m m':Mem}{v:SV}{o:Oper}(h:WkM fr2 fr)(k:Extra P Q m v m' o (evalIn fr2)):Extra P Q m v m' o (evalIn fr):=
 ⟨fun a m2=>(k.pure a m2).wk h,fun a m2 b=>(k.shape a m2 b).wk h,fun a b m2 c=>(k.up a b m2 c).wk h,k.store,k.alloc⟩
theorem StepOK.wk{all:List Oper}{fr2 fr:Fr}{m m':Mem}{v:SV}{o:Oper}(h:WkM fr2 fr)(k:StepOK P all o fr2 m v m'):StepOK P all o fr m v m':=by
 rcases k with⟨a,b⟩|⟨a,b⟩
 ·exact .inl ⟨gval_wk h a,b.wk h⟩
 ·exact .inr ⟨gval_wk h a,b⟩
theorem MoreOK.wk{Q:Bool}{all:List Oper}{fr2 fr:Fr}{m m':Mem}{v:SV}{o:Oper}(h:WkM fr2 fr)(k:MoreOK P E Q all o fr2 m v m')(s:StepOK P all o fr2 m v m'):MoreOK P E Q all o fr m v m':=
 ⟨k.quiet,(fun g=>by
  rcases s with⟨a,b⟩|⟨a,b⟩
  ·exact(k.more a).wk h
  ·rw[gval_wk h a]at g;cases g),k.store,k.alloc⟩
theorem ChainW.wk{all ops:List Oper}{fr2 fr':Fr}{m m':Mem}(k:ChainW P E all ops fr2 m fr' m'):∀{fr:Fr},WkM fr2 fr→∃fr'',WkM fr' fr''∧ChainW P E all ops fr m fr'' m':=by
 induction k with
 |nil f m=>exact fun h=>⟨_,h,.nil _ _⟩
 |@cons o rest fr2 fr1 fr' m m1 m' v h hx hf k ih=>
  intro fr hw
  obtain⟨f1,g⟩:=fset_any fr o.dst (fun t ht=>by rw[←hw.1];exact hf.2.1 t ht) v
  obtain⟨fr'',a,b⟩:=ih (hw.same hf g)
  exact⟨fr'',a,.cons (h.wk hw) (hx.wk hw h) g b⟩
theorem pick_more(hE:EOK P E){Q:Bool}{all:List Oper}{fr:Fr}{o:Oper}{t:Nat}{x y:Operand}{b bv:Bool}{m:Mem}(hop:o.op=.pick (.tmp t) x y)(hb:fr.get t=.bool b)(hv:(match b with|true=>evalIn fr x|false=>evalIn fr y)=.bool bv):MoreOK P E Q all o fr m (.bool bv) m:=by
 have k:Extra P Q m (.bool bv) m o (evalIn fr):=(Extra.ofPure (by rw[hop];rfl) (by rw[hop];rfl) (by rw[hop];rfl) (by rw[hop];rfl) fun m2=>pick_sem hE hop hb hv).2
 exact⟨fun _ _=>rfl,fun _=>k,k.store,k.alloc⟩
theorem Reach.wk{items items':List Item}{fr fr' fr2:Fr}{m m':Mem}(h:WkM fr' fr2)(k:Reach P items fr m (.stop items' fr2 m')):Reach P items fr m (.stop items' fr' m'):=by
 intro ds w0 R0 ρ w a hs b cs
 obtain⟨ρ1,w1,a1,h1,h2,h3⟩:=k w0 R0 ρ w a hs b cs
 exact⟨ρ1,w1,a1,⟨h1.1,⟨h.1.trans h1.2.1.1,fun t=>by
   rcases h.2 t with e|e
   ·rw[e];trivial
   ·rw[e];exact h1.2.1.2 t⟩,h1.2.2⟩,h2,h3⟩
theorem execOpsM_chainW(hE:EOK P E){call:CallK α}(hcall:CallOK P true call){all:List Oper}{k:OpsK α}{L:α→Prop}:∀ (ops:List Oper) (q:PendM) (p:Plan) (fr:Fr) (m:Mem),(execOpsM E call call all ops k q p fr m).holds L→
  match q with
  |none=>∃p' fr' fr2 m',(k p' fr' m').holds L∧WkM fr' fr2∧ChainW P E all ops fr m fr2 m'
  |some (jw,b,d,frX)=>fr.get d=.bool b→frX.get d=.bool b→(all[jw.1]?).bind (·.dst)=some d→WkM fr frX→
   ((b==jw.2)=true→∃p' fr' fr2 m',(k p' fr' m').holds L∧WkM fr' fr2∧ChainW P E all ops frX m fr2 m')∧
   ((b==jw.2)=false→∀frO,WkM fr frO→frO.get d=.bool b→∃p' fr' fr2 m',(k p' fr' m').holds L∧WkM fr' fr2∧ChainW P E all ops frO m fr2 m')
 |[],q,p,fr,m,h=>by
  cases q with
  |none=>exact⟨p,fr,fr,m,h,WkM.refl fr,.nil fr m⟩
  |some x=>exact h.elim
 |o::rest,q,p,fr,m,h=>by
  have ih:=execOpsM_chainW hE hcall (all:=all) (k:=k) (L:=L) rest
  change (oneOpM E call call all o (execOpsM E call call all rest k) q p fr m).holds L at h
  -- one operation behind a condition
  have grd:∀ (jw:Nat×Bool) (b:Bool) (d:Nat) (frX:Fr),o.guard=some jw→fr.get d=.bool b→frX.get d=.bool b→(all[jw.1]?).bind (·.dst)=some d→WkM fr frX→(mrgK E call o (execOpsM E call call all rest k) jw b d frX p fr m).holds L→
    ((b==jw.2)=true→∃p' fr' fr2 m',(k p' fr' m').holds L∧WkM fr' fr2∧ChainW P E all (o::rest) frX m fr2 m')∧
    ((b==jw.2)=false→∀frO,WkM fr frO→frO.get d=.bool b→∃p' fr' fr2 m',(k p' fr' m').holds L∧WkM fr' fr2∧ChainW P E all (o::rest) frO m fr2 m'):=by
   intro jw b d frX hg hb hbX hj hw h
   unfold mrgK at h
   split at h
   ·rename_i hq
    rw[Bool.and_eq_true]at hq
    obtain⟨hq,hne⟩:=hq
    have hne:o.dst≠some d:=fun e=>by rw[e]at hne;simp at hne
    obtain⟨v,p1,m1,h1,h2,h3,hX⟩:=execOp_sound hE hcall h
    have e1:=h2 rfl hq
    subst e1
    obtain⟨frX1,g1,h4⟩:=putK_holds h1
    obtain⟨fr1,g2,h5⟩:=putK_holds h4
    have hb1:fr1.get d=.bool b:=by rw[g2.2.2 d,if_neg hne];exact hb
    have hbX1:frX1.get d=.bool b:=by rw[g1.2.2 d,if_neg hne];exact hbX
    obtain⟨k1,k2⟩:=ih _ _ _ _ h5 hb1 hbX1 hj (hw.top g2 g1)
    refine⟨fun hbw=>?_,fun hbw frO hwO hbO=>?_⟩
    ·obtain⟨p',fr',fr2,m',q1,q3,q2⟩:=k1 hbw
     exact⟨p',fr',fr2,m',q1,q3,.cons (.inl ⟨by simp only[gval,hg,hj,hbX];rw[hbw],h3⟩) ⟨h2,fun _=>hX,hX.store,hX.alloc⟩ g1 q2⟩
    ·obtain⟨frO1,g3⟩:=fset_any frO o.dst (fun t ht=>by rw[←hwO.1];exact g2.2.1 t ht) .undef
     obtain⟨p',fr',fr2,m',q1,q3,q2⟩:=k2 hbw frO1 (hwO.top g2 g3) (by rw[g3.2.2 d,if_neg hne];exact hbO)
     have hgf:gval all frO.get o=some false:=by simp only[gval,hg,hj,hbO];rw[hbw]
     exact⟨p',fr',fr2,m',q1,q3,.cons (.inr ⟨hgf,rfl,rfl⟩) ⟨fun _ _=>rfl,fun h=>(by rw[hgf]at h;cases h),fun _=>⟨Shape.refl _,Shape.refl _⟩,fun _ _=>Up.refl _⟩ g3 q2⟩
   ·exact h.elim
  unfold oneOpM at h
  cases q with
  |none=>
   dsimp only at h ⊢
   cases hg:o.guard with
   |none=>
    rw[hg]at h
    obtain⟨v,p1,m1,h1,h2,h3,hX⟩:=execOp_sound hE hcall h
    obtain⟨fr1,g1,h4⟩:=putK_holds h1
    obtain⟨p',fr',fr2,m',q1,q3,q2⟩:=ih _ _ _ _ h4
    exact⟨p',fr',fr2,m',q1,q3,.cons (.inl ⟨by simp[gval,hg],h3⟩) ⟨h2,fun _=>hX,hX.store,hX.alloc⟩ g1 q2⟩
   |some jw=>
    rw[hg]at h
    dsimp only at h
    rw[nth_eq]at h
    split at h
    ·rename_i oj hoj
     split at h
     ·rename_i d hd
      have hj:(all[jw.1]?).bind (·.dst)=some d:=by rw[hoj];exact hd
      split at h
      ·rename_i b hfr
       obtain⟨k1,k2⟩:=grd jw b d fr hg hfr hfr hj (WkM.refl fr) h
       cases hbw:(b==jw.2)with
       |true=>exact k1 hbw
       |false=>exact k2 hbw fr (WkM.refl fr) hfr
      ·exact h.elim
     ·exact h.elim
    ·exact h.elim
  |some x=>
   obtain⟨jw,b,d,frX⟩:=x
   dsimp only at h ⊢
   intro hb hbX hj hw
   cases hg:o.guard with
   |some iw=>
    rw[hg]at h
    dsimp only at h
    split at h
    ·rename_i he
     rw[Bool.and_eq_true]at he
     have e1:=Nat.eq_of_beq_eq_true he.1
     have e2:iw.2=jw.2:=by simpa using he.2
     have:iw=jw:=Prod.ext e1 e2
     subst this
     exact grd iw b d frX hg hb hbX hj hw h
    ·exact h.elim
   |none=>
    rw[hg]at h
    dsimp only at h
    split at h
    ·rename_i t x y hop
     split at h
     ·rename_i htd
      have htd:=Nat.eq_of_beq_eq_true htd
      subst htd
      unfold pickK at h
      split at h
      ·rename_i b1 b2 hv1 hv2
       obtain⟨fr1,g1,h2⟩:=putK_holds h
       obtain⟨p',fr',fr2,m',q1,q3,q2⟩:=ih _ _ _ _ h2
       have hgv:∀f:Fr,gval all f.get o=some true:=fun f=>by simp[gval,hg]
       refine⟨fun hbw=>?_,fun hbw frO hwO hbO=>?_⟩
       ·rw[hbw]at g1
        obtain⟨frX1,g2⟩:=fset_any frX o.dst (fun t ht=>by rw[←hw.1];exact g1.2.1 t ht) (.bool b1)
        have e:b=jw.2:=by simpa using hbw
        obtain⟨fr3,q4,q5⟩:=ChainW.wk q2 (hw.same g1 g2)
        suffices hv':(match b with|true=>evalIn frX x|false=>evalIn frX y)=.bool b1 from⟨p',fr',fr3,m',q1,q3.trans q4,.cons (.inl ⟨hgv frX,pick_sem hE hop hbX hv'⟩) (pick_more hE hop hbX hv') g2 q5⟩
        rw[e];exact hv1
       ·rw[hbw]at g1
        obtain⟨frO1,g2⟩:=fset_any frO o.dst (fun t ht=>by rw[←hwO.1];exact g1.2.1 t ht) (.bool b2)
        have e:b=!jw.2:=by
         cases b<;>cases hj2:jw.2<;>rw[hj2]at hbw<;>first|rfl|cases hbw
        obtain⟨fr3,q4,q5⟩:=ChainW.wk q2 (hwO.same g1 g2)
        suffices hv':(match b with|true=>evalIn frO x|false=>evalIn frO y)=.bool b2 from⟨p',fr',fr3,m',q1,q3.trans q4,.cons (.inl ⟨hgv frO,pick_sem hE hop hbO hv'⟩) (pick_more hE hop hbO hv') g2 q5⟩
        have up:∀z:Operand,evalIn fr z=.bool b2→evalIn frO z=.bool b2:=fun z hz=>by
         cases z with
         |tmp t=>
          have hz:fr.get t=.bool b2:=hz
          show frO.get t=.bool b2
          rcases hwO.2 t with e|e
          ·rw[e]at hz;cases hz
          ·rw[←e];exact hz
         |const v=>exact hz
         |global g=>exact hz
         |func f=>exact hz
        rw[e]
        cases hj2:jw.2 with
        |true=>
         rw[hj2]at hv2
         exact up _ hv2
        |false=>
         rw[hj2]at hv2
         exact up _ hv2
      ·exact h.elim
     ·exact h.elim
    ·exact h.elim
theorem region_reach(hE:EOK P E)(hS:SumOK P E)(hmix:P.follows .mixedOrders=true){ih:ExecK α}(hih:ExecOK P ih){id:Nat}{ops:Array Oper}{draw:Bool}{k:List Item}{p:Plan}{fr:Fr}{m:Mem}{κ:Out→Tree α}{L:α→Prop}(h:(codeStep E ih (.region id ops draw) k p fr m κ).holds L):
  (∃p' fr' m',(ih k p' fr' m' κ).holds L∧Reach P (.code (.region id ops draw)::k) fr m (.stop k fr' m'))∨∃out,(κ out).holds L∧Reach P (.code (.region id ops draw)::k) fr m out:=by
 have fin:∀ (fr':Fr) (m':Mem),(∀ (ds:List Deferred) w0 R0 ρ w a,SRelD ds w0 R0 ρ w fr m a→(Code.region id ops draw).wp P (fun e a' w'=>e=.normal∧∃ρ',SRelD ds w0 R0 ρ' w' fr' m' a'∧MExt w0 R0 ρ w m ρ' w' m') a w)→Reach P (.code (.region id ops draw)::k) fr m (.stop k fr' m'):=by
  intro fr' m' hw ds w0 R0 ρ w a hs b cs
  obtain⟨e,a',w',⟨rfl,ρ',g1,g2⟩,harr⟩:=hw ds w0 R0 ρ w a hs b k cs
  exact⟨ρ',w',a',g1,g2,harr⟩
 dsimp only[codeStep]at h
 split at h
 ·exact .inr ⟨_,h,Reach.refl _ _ _⟩
 cases draw with
 |false=>
  have mrg:(execOpsM E (callIn E ih) (callQ E ih) ops.toList ops.toList (fun p fr m=>ih k p fr m κ) none .allM fr m).holds L→(∃p' fr' m',(ih k p' fr' m' κ).holds L∧Reach P (.code (.region id ops false)::k) fr m (.stop k fr' m')):=fun h=>by
   obtain⟨p',fr',m',h1,h2⟩:=execOpsM_chain hE (callIn_ok hE hS hih) (callQ_ok hE hS hih) _ _ _ _ _ h
   refine⟨p',fr',m',h1,fin fr' m' fun ds w0 R0 ρ w a hs=>wp_region ?_⟩
   have:=chain_wpOps (Q:=fun e a' w'=>e=.normal∧∃ρ',SRelD ds w0 R0 ρ' w' fr' m' a'∧MExt w0 R0 ρ w m ρ' w' m') h2 0 rfl ρ w a hs (fun ρ' w' a' g1 g2=>⟨rfl,ρ',g1,g2⟩)
   rw[←List.range_eq_range']at this
   simpa using this
  dsimp only at h
  split at h
  ·exact .inl (mrg h)
  rcases execOpsP_chain hE hS (callIn_ok hE hS hih) _ _ _ _ h with⟨p',fr',m',h1,h2⟩|⟨v,fr',m',h1,h2⟩
  ·refine .inl ⟨p',fr',m',h1,fin fr' m' fun ds w0 R0 ρ w a hs=>wp_region ?_⟩
   have:=chain_wpOps (Q:=fun e a' w'=>e=.normal∧∃ρ',SRelD ds w0 R0 ρ' w' fr' m' a'∧MExt w0 R0 ρ w m ρ' w' m') h2 0 rfl ρ w a hs (fun ρ' w' a' g1 g2=>⟨rfl,ρ',g1,g2⟩)
   rw[←List.range_eq_range']at this
   simpa using this
  ·refine .inr ⟨_,h1,fun ds w0 R0 ρ w a hs b cs=>?_⟩
   have:=chainP_wpOps (Q:=fun e a' w'=>∃u ρ',e=.panic [{v:=u,recovered:=false}] ∧SRelD ds w0 R0 ρ' w' fr' m' a'∧MExt w0 R0 ρ w m ρ' w' m'∧Rep (RO w0 R0 ρ' w' m') ρ' m'.next w' v u) h2 0 rfl ρ w a hs (fun ρ' w' a' u g1 g2 g3=>⟨u,ρ',rfl,g1,g2,g3⟩)
   rw[←List.range_eq_range']at this
   have hw:(Code.region id ops false).wp P (fun e a' w'=>∃u ρ',e=.panic [{v:=u,recovered:=false}] ∧SRelD ds w0 R0 ρ' w' fr' m' a'∧MExt w0 R0 ρ w m ρ' w' m'∧Rep (RO w0 R0 ρ' w' m') ρ' m'.next w' v u) a w:=wp_region (by simpa using this)
   obtain⟨e,a',w',⟨u,ρ',rfl,g1,g2,g3⟩,todo,harr⟩:=hw b k cs
   exact⟨ρ',w',a',todo,u,g1,g2,g3,harr⟩
 |true=>
  dsimp only at h
  split at h
  ·rename_i hlex
   have hns:Region.noSelect ops.toList.toArray=true:=noSelect_of_lexL hlex
   have hrep:∀k,k<ops.toList.length→(Array.replicate ops.toList.length false).getD k true=false:=fun k h=>by
    rw[Array.getD_eq_getD_getElem?,Array.getElem?_replicate,if_pos h];rfl
   have ord:∀ (fr':Fr) (m':Mem) (frs:Nat→Fr) (vals:Nat→SV) (M:(Nat→Bool)→Mem),Walk ops.toList fr fr' frs vals→(∀S S',(∀k,k<ops.toList.length→S k=S' k)→M S=M S')→((∀id,(M fun _=>true).get id=m'.get id)∧(M fun _=>true).next=m'.next)→
     ((∀id,(M fun k=>(Array.replicate ops.toList.length false).getD k true).get id=m.get id)∧m.next≤(M fun k=>(Array.replicate ops.toList.length false).getD k true).next)→
     (Start fr m→∀ (S:Nat→Bool) i o,ops.toList[i]? =some o→S i=false→(∀j oj,ops.toList[j]? =some oj→S j=true→∀e∈oj.after,Region.binds .any e=true→S e.on=true)→(∀e∈o.after,Region.binds .any e=true→S e.on=true)→StepOK P ops.toList o (frs i) (M S) (vals i) (M fun k=>if k=i then true else S k)∨AllocAt P o m.next (vals i) (cur ops.toList fr vals S ops.toList.length) (M S) (M fun k=>if k=i then true else S k))→
     Reach P (.code (.region id ops true)::k) fr m (.stop k fr' m'):=by
    intro fr' m' frs vals M hwalk hMc eAll eNone hst
    refine fin fr' m' fun ds w0 R0 ρ w a hs=>wp_region_any hmix ?_
    have hstart:=hs.start
    obtain⟨hm,hfr,hd⟩:=hs
    obtain⟨hm0,he0⟩:=hm.drew
    obtain⟨hm1,he1⟩:=hm0.bump eNone.1 eNone.2
    have he1:=he0.trans he1
    have hfr1:=hfr.mono he1
    have hcur0:∀ (n:Nat) t,cur ops.toList fr vals (fun i=>(Array.replicate ops.toList.length false).getD i true) n t=fr.get t∨n>ops.toList.length:=by
     intro n
     induction n with
     |zero=>intro t;exact .inl rfl
     |succ n ih2=>
      intro t
      rcases Nat.lt_or_ge ops.toList.length (n+1)with hgt|hle
      ·exact .inr hgt
      ·left
       simp only[cur]
       rw[if_neg (fun hc=>by have:=hc.1;rw[hrep n (by omega)]at this;cases this)]
       exact(ih2 t).resolve_right (by omega)
    have key:=any_order (w0:=w0) (R0:=R0) (M:=M) m.next hwalk (indep_of_lexL hlex) hMc (hst hstart) hns (Q:=fun e a' w'=>e=.normal∧∃ρ',SRelD ds w0 R0 ρ' w' fr' m' a'∧MExt w0 R0 ρ w m ρ' w' m') (Ψ:=fun ρ' w' mm=>MExt w0 R0 ρ w m ρ' w' mm)
     (fun ρ1 w1 m1 k r w2 m2 hk h1 hn hkeep=>⟨by rw[hn];exact h1.le,fun id hid=>by rw[upd_other _ _ (by omega)];exact h1.same id hid,fun b hb=>by
       obtain⟨g1,g2⟩:=h1.keep b hb
       obtain⟨g3,g4⟩:=hkeep b g1
       exact⟨g3,g4.trans g2⟩⟩)
     (fun _ _ _ _ _ _ h1 h2=>h1.trans h2) (fun ρ' w' a' g1 g2=>by
       obtain⟨q1,q2,q3⟩:=g1
       refine⟨rfl,ρ',⟨q1.congr (fun id=>(eAll.1 id).symm) eAll.2.symm,?_,q3⟩,?_⟩
       ·rw[←RO.congr eAll.1,←eAll.2];exact q2
       ·unfold MExt
        rw[←RO.congr eAll.1,←eAll.2];exact g2) ops.toList.length (Array.replicate ops.toList.length false) ρ w.drew a (by simp)
     (by
       have:∀n,n≤ops.toList.length→unlisted (Array.replicate ops.toList.length false) n=n:=by
        intro n
        induction n with
        |zero=>intro _;rfl
        |succ n ih2=>
         intro hn
         simp only[unlisted,ih2 (by omega),hrep n (by omega)]
         simp
       exact this _ (Nat.le_refl _))
     (fun j oj hj hl=>by
       have hjl:=(List.getElem?_eq_some_iff.1 hj).1
       rw[Array.getD_eq_getD_getElem?,Array.getElem?_replicate,if_pos (by omega)]at hl
       cases hl)
     hm1 hfr1.1 hd (fun t=>by rw[(hcur0 _ t).resolve_right (by omega)];exact hfr1.2 t) he1
    simpa using key
   have tpart:∀p,(tRun E ih ops.toList (fun p fr m=>ih k p fr m κ) p fr m).holds L→∃p' fr' m',(ih k p' fr' m' κ).holds L∧Reach P (.code (.region id ops true)::k) fr m (.stop k fr' m'):=by
    intro p h
    unfold tRun at h
    obtain⟨p',fr',m',h1,h2⟩:=execOpsT_chain hE (callIn_ok hE hS hih) (callQ_ok hE hS hih) (callG_ok hE hS hih) _ _ _ _ _ _ h
    obtain⟨frs,vals,ms,rs,hw⟩:=h2.toWalk hE
    have get:∀j,j<ops.toList.length→∃o,ops.toList[j]? =some o:=fun j hj=>⟨_,List.getElem?_eq_getElem hj⟩
    have hkeep:∀id j,j<ops.toList.length→id∉ (rs j).wt→(ms (j+1)).get id=(ms j).get id:=fun id j hj hid=>by
     obtain⟨o,ho⟩:=get j hj
     exact(hw.step j o ho).keep id hid
    have hsame:∀j,j<ops.toList.length→(rs j).g=false→(ms (j+1)).next=(ms j).next:=fun j hj=>by
     obtain⟨o,ho⟩:=get j hj
     exact(hw.step j o ho).same
    refine⟨p',fr',m',h1,ord fr' m' frs vals (memS ops.toList ms rs) ⟨hw.first,hw.last,hw.next⟩ (fun S S' hS=>?_) ⟨fun id=>?_,?_⟩ ⟨fun id=>?_,?_⟩ (fun hst S i o hoi hSi hcl hrd=>?_)⟩
    ·unfold memS
     rw[show getS ms rs S ops.toList.length=getS ms rs S' ops.toList.length from funext fun id=>getS_congr _ fun j hj _=>hS j hj,nextS_congr _ fun j hj _=>hS j hj]
    ·rw[memS_get,getS_all _ (fun j hj=>hkeep id j hj) (fun _ _ _=>rfl),hw.mlast]
    ·rw[memS_next,nextS_all _ hsame (fun _ _ _=>rfl),hw.mlast]
    ·rw[memS_get,getS_past (i:=0) _ (Nat.zero_le _) (fun j _ h2 _=>hrep j h2)]
     show(ms 0).get id=_
     rw[hw.mfirst];rfl
    ·rw[memS_next,nextS_past (i:=0) _ (Nat.zero_le _) (fun j _ h2 _=>hrep j h2)]
     show _≤(ms 0).next
     rw[hw.mfirst];exact Nat.le_add_right _ _
    ·refine traceT_step hw m.next (fun c k hk=>?_) (fun id B hB=>hst.2.1 id B hB) (fun t k hk=>hst.2.2 t k hk) S i o hoi hSi hcl hrd
     have h3:=idOf_mem hk
     obtain⟨h4,h5⟩:=refsOf_range _ _ _ h3
     exact⟨h3,h4,h5⟩
   split at h
   ·exact .inl (tpart _ h)
   split at h
   · -- a call at the end
     split at h
     ·rename_i hlb
      left
      have hne:ops.toList≠[] :=by
       intro hc
       rename_i hany _
       rw[hc]at hany
       simp at hany
      have hpos:0<ops.toList.length:=List.length_pos_iff.2 hne
      obtain⟨p',fr',m',h1,h2⟩:=execOpsL_chain hE (callQ_ok hE hS hih) (callIn_ok hE hS hih) _ _ _ _ hne h
      obtain⟨frs,vals,q1,q2,q3,q4,q5⟩:=h2.index
      exact⟨p',fr',m',h1,ord fr' m' frs vals (fun S=>if S (ops.toList.length-1)=true then m' else m) ⟨q1,q2,q3⟩ (fun S S' hS=>by rw[hS (ops.toList.length-1) (by omega)])
       (by rw[if_pos rfl];exact⟨fun _=>rfl,rfl⟩) (by
         rw[if_neg (fun h=>by
          have h2:(Array.replicate ops.toList.length false).getD (ops.toList.length-1) true=true:=h
          rw[hrep _ (by omega)]at h2;cases h2)]
         exact⟨fun _=>rfl,Nat.le_refl _⟩)
       (fun _ S i o hoi hSi hcl hrd=>.inl (last_step hlb q4 q5 S i o hoi hSi hcl))⟩
     ·exact h.elim
   ·split at h
    · -- a call that may panic
      rename_i c hpn
      split at h
      ·rename_i oc hoc
       rw[nth_eq]at hoc
       split at h
       ·rename_i hcg
        obtain⟨p1,fr1,h1,frs,vals,q1,q2,q3⟩:=execPre_walk hE (callQ_ok hE hS hih) _ _ _ _ _ h
        split at h1
        ·rename_i t ht
         obtain⟨f,cl,hop,hcal,s,hs,ht⟩:=pnTree_spec ht
         rcases bindX_holds t p1 h1 (hS.2.2.1 f s _ m t hs ht)with⟨v,m1,p',h2,h3⟩|⟨v,m1,h2,h3⟩
         ·exact .inl (tpart p' h2)
         ·right
          obtain⟨fr2,g1,g2,g3⟩:=topK_holds _ _ _ h2
          refine⟨_,g1,fun ds w0 R0 ρ w a hs b cs=>?_⟩
          have hcl:=(List.getElem?_eq_some_iff.1 hoc).1
          obtain⟨s1,s2,s3,s4,s5⟩:=waitsOf_spec (c:=c) ops.toList 0 []
          have hi:=indep_of_lexL hlex
          have hpan:SemPan P m v m1 oc (evalIn (frs ops.toList.length)):=by
           rw[q2]
           exact semPan_call hop hcal h3
          obtain⟨hm,hfr,hd⟩:=hs
          obtain⟨hm0,he0⟩:=hm.drew
          have hfr0:=hfr.mono he0
          have key:=any_pan (ds:=ds) (D:=fun j=>!hasN (waitsOf c ops.toList 0 []) j) (w0:=w0) (R0:=R0) (v:=v) (m':=m1) (frs:=frs) (vals:=vals) (fr:=fr) (c:=c)
           ⟨q1,fun i o ho=>by
            have:=q3 i o ho
            rw[Nat.zero_add]at this
            exact⟨fun hD=>(this.1 (by simpa using hD)).1,fun hD=>this.2 (by simpa using hD)⟩⟩ hi
           (fun i o ho hD=>by
             have:=q3 i o ho
             rw[Nat.zero_add]at this
             exact(this.1 (by simpa using hD)).2) hoc hcg (by
             have:=s3 c oc hoc (Nat.zero_add c)
             rw[Nat.zero_add]at this
             simp[this]) hpan
           (fun i o ho hD hic=>by
             have:=s4 i o ho (by rw[Nat.zero_add];simpa using hD)
             rw[Nat.zero_add]at this
             rcases this with h|h|⟨e,e1,e2,e3⟩
             ·cases h
             ·exact absurd h hic
             ·exact⟨e,e1,e2,by simp[e3]⟩)
           (fun j oj hj hD e e1 e2=>by
             cases h4:hasN (waitsOf c ops.toList 0 []) e.on with
             |false=>simp
             |true=>
              have:=s5 j oj hj ⟨e,e1,e2,h4,by rw[Nat.zero_add];exact hi.back j oj hj e e1 e2⟩
              rw[Nat.zero_add]at this
              simp[this]at hD)
           (Q:=fun e a' w'=>∃u ρ',e=.panic [{v:=u,recovered:=false}] ∧SRelD ds w0 R0 ρ' w' fr2 m1 a'∧MExt w0 R0 ρ w m ρ' w' m1∧Rep (RO w0 R0 ρ' w' m1) ρ' m1.next w' v u) (ρ0:=ρ) (wa:=w)
           (fun ρ' w' a' u k1 k2 k3 k4 k5 k6=>⟨u,ρ',rfl,⟨k1,⟨g2.trans k2,fun t=>by
             rcases g3 t with h|⟨h,h'⟩
             ·rw[h];trivial
             ·rw[h];exact k4 t h'⟩,k3⟩,k5,k6⟩) ops.toList.length (Array.replicate ops.toList.length false) ρ w.drew a (by simp)
           (by
             have:∀n,n≤ops.toList.length→unlisted (Array.replicate ops.toList.length false) n=n:=by
              intro n
              induction n with
              |zero=>intro _;rfl
              |succ n ih2=>
               intro hn
               simp only[unlisted,ih2 (by omega),hrep n (by omega)]
               simp
             exact this _ (Nat.le_refl _))
           (fun j oj hj hl=>by
             rw[hrep j (List.getElem?_eq_some_iff.1 hj).1]at hl;cases hl)
           (fun k hk hl=>by rw[hrep k hk]at hl;cases hl) hm0 hfr0.1 hd (fun t=>by
             have hcur0:∀ (n:Nat),n≤ops.toList.length→cur ops.toList fr vals (fun i=>(Array.replicate ops.toList.length false).getD i true) n t=fr.get t:=by
              intro n
              induction n with
              |zero=>intro _;rfl
              |succ n ih2=>
               intro hn
               simp only[cur]
               rw[if_neg (fun hc=>by have:=hc.1;rw[hrep n (by omega)]at this;cases this)]
               exact ih2 (by omega)
             rw[hcur0 _ (Nat.le_refl _)];exact hfr0.2 t) he0
          have hw:(Code.region id ops true).wp P (fun e a' w'=>∃u ρ',e=.panic [{v:=u,recovered:=false}] ∧SRelD ds w0 R0 ρ' w' fr2 m1 a'∧MExt w0 R0 ρ w m ρ' w' m1∧Rep (RO w0 R0 ρ' w' m1) ρ' m1.next w' v u) a w:=wp_region_any hmix (by simpa using key)
          obtain⟨e,a',w',⟨u,ρ',rfl,k1,k2,k3⟩,todo,harr⟩:=hw b k cs
          exact⟨ρ',w',a',todo,u,k1,k2,k3,harr⟩
        ·exact h1.elim
       ·exact h.elim
      ·exact h.elim
    left
    split at h
    ·split at h
     ·rename_i hch
      obtain⟨p',fr',m',h1,h2⟩:=execOpsF_chain hE (callIn_ok hE hS hih) _ _ _ _ h
      obtain⟨frs,vals,ms,hw⟩:=h2.toWalk
      have eA:curF E ops.toList ms (fun _=>true) ops.toList.length=m':=by rw[curF_all (free_keep hw) _ (Nat.le_refl _) (fun _ _ _=>rfl),hw.mlast]
      have eN:curF E ops.toList ms (fun k=>(Array.replicate ops.toList.length false).getD k true) ops.toList.length=m:=by rw[curF_past (i:=0) _ (Nat.zero_le _) (fun k _ h2 _=>hrep k h2)];exact hw.mfirst
      exact⟨p',fr',m',h1,ord fr' m' frs vals (fun S=>curF E ops.toList ms S ops.toList.length) ⟨hw.first,hw.last,hw.next⟩ (fun S S' hS=>curF_congr _ fun k hk _=>hS k hk)
       (by rw[eA];exact⟨fun _=>rfl,rfl⟩) (by rw[eN];exact⟨fun _=>rfl,Nat.le_refl _⟩)
       (fun _ S i o hoi hSi hcl hrd=>.inl (free_step hw hch S i o hoi hSi hcl hrd))⟩
     ·exact h.elim
    ·split at h
     ·rename_i hwetb
      have hwetb:=(Bool.and_eq_true _ _▸hwetb).1
      have hch:∃p' fr0 fr' m',(ih k p' fr0 m' κ).holds L∧WkM fr0 fr'∧ChainW P E ops.toList ops.toList fr m fr' m':=by
       split at h
       ·obtain⟨p',fr0,fr',m',h1,h3,h2⟩:=execOpsM_chainW hE (callQ_ok hE hS hih) _ _ _ _ _ h
        exact⟨p',fr0,fr',m',h1,h3,h2⟩
       ·obtain⟨p',fr',m',h1,h2⟩:=execOps_chainW hE (callQ_ok hE hS hih) _ _ _ _ h
        exact⟨p',fr',fr',m',h1,WkM.refl _,h2⟩
      obtain⟨p',fr0,fr',m',h1,hwk,h2⟩:=hch
      obtain⟨frs,vals,ms,hw⟩:=h2.toWalk
      obtain⟨al,af,hwet⟩:=wetB_spec hwetb
      have hquiet:∀i o,ops.toList[i]? =some o→writer o.op=false→ms (i+1)=ms i:=fun i o ho hwr=>wet_keep hw hwet i o ho hwr
      have eA:curM ops.toList ms (fun _=>true) ops.toList.length=m':=by rw[curM_all hquiet _ (Nat.le_refl _) (fun _ _ _=>rfl),hw.mlast]
      have eN:curM ops.toList ms (fun k=>(Array.replicate ops.toList.length false).getD k true) ops.toList.length=m:=by rw[curM_past (i:=0) _ (Nat.zero_le _) (fun k _ h2 _=>hrep k h2)];exact hw.mfirst
      exact⟨p',fr0,m',h1,Reach.wk hwk <| ord fr' m' frs vals (fun S=>curM ops.toList ms S ops.toList.length) ⟨hw.first,hw.last,hw.next⟩ (fun S S' hS=>curM_congr _ fun k hk _=>hS k hk)
       (by rw[eA];exact⟨fun _=>rfl,rfl⟩) (by rw[eN];exact⟨fun _=>rfl,Nat.le_refl _⟩)
       (fun hst S i o hoi hSi hcl hrd=>.inl (wet_step hw hwet hst.1 S i o hoi hSi hcl hrd))⟩
     ·exact tpart _ h
  ·exact h.elim
theorem exec_ok(hE:EOK P E)(hS:SumOK P E)(hmix:P.follows .mixedOrders=true):∀n:Nat,ExecOK P (exec (α:=α) E n)
 |0=>fun items p fr m κ L h=>h.elim
 |n+1=>by
  have ihn:=exec_ok hE hS hmix n
  intro items p fr m κ L h
  change (stepIn E (exec E n) items p fr m κ).holds L at h
  -- on from where one step leads
  have onn:∀ (items':List Item) (p:Plan) (fr':Fr) (m':Mem),(exec E n items' p fr' m' κ).holds L→Reach P items fr m (.stop items' fr' m')→∃out,(κ out).holds L∧Reach P items fr m out:=by
   intro items' p fr' m' h1 h2
   obtain⟨out,h3,h4⟩:=ihn _ _ _ _ _ _ h1
   exact⟨out,h3,h2.trans h4⟩
  unfold stepIn at h
  split at h
  ·exact⟨_,h,fun ds w0 R0 ρ w a hs b cs=>⟨ρ,w,a,[],hs,Ext.refl _ _ _ _,.one step_end⟩⟩
  ·rename_i id k
   exact onn _ _ _ _ h (Reach.step fun b a cs w _=>step_inBlock)
  ·rename_i bd k
   exact onn _ _ _ _ h (Reach.step fun b a cs w _=>step_inScope)
  ·rename_i bd k
   split at h
   ·exact onn _ _ _ _ h (Reach.step fun b a cs w _=>step_inLoop)
   ·exact onn _ _ _ _ h (Reach.step fun b a cs w _=>step_inLoop)
   ·exact⟨_,h,Reach.refl _ _ _⟩
  ·rename_i c k
   cases c with
   |skip=>exact onn _ _ _ _ h (Reach.step fun b a cs w _=>step_skip)
   |label l=>exact onn _ _ _ _ h (Reach.step fun b a cs w _=>step_label)
   |region id ops draw=>
    rcases region_reach hE hS hmix ihn h with⟨p',fr',m',h1,h2⟩|h
    ·exact onn _ _ _ _ h1 h2
    ·exact h
   |seq x y=>exact onn _ _ _ _ h (Reach.step fun b a cs w _=>step_seq)
   |cond c x y=>
    dsimp only[codeStep]at h
    split at h
    ·rename_i bb hc
     obtain⟨p',h⟩:=dec_holds h
     have st:∀ (a:Act) (w:World),(∀x,∃R ρ n,Rep R ρ n w (evalIn fr x) (a.eval x))→a.eval c=.bool bb:=fun a w hx=>by
      obtain⟨R,ρ,n,h1⟩:=hx c
      rw[hc]at h1;exact h1
     cases bb with
     |true=>exact onn _ _ _ _ h (Reach.step fun b a cs w hx=>by have:=step_cond (P:=P) (b:=b) (a:=a) (k:=k) (cs:=cs) (w:=w) (x:=x) (y:=y) (st a w hx);simpa using this)
     |false=>exact onn _ _ _ _ h (Reach.step fun b a cs w hx=>by have:=step_cond (P:=P) (b:=b) (a:=a) (k:=k) (cs:=cs) (w:=w) (x:=x) (y:=y) (st a w hx);simpa using this)
    ·exact h.elim
   |block id bd=>exact onn _ _ _ _ h (Reach.step fun b a cs w _=>step_block)
   |loop bd=>
    dsimp only[codeStep]at h
    split at h
    ·exact onn _ _ _ _ h (Reach.step fun b a cs w _=>step_loop)
    ·exact onn _ _ _ _ h (Reach.step fun b a cs w _=>step_loop)
    ·exact⟨_,h,Reach.refl _ _ _⟩
   |rangeFunc f ps as1 bd=>exact h.elim
   |exit id=>
    dsimp only[codeStep]at h
    split at h
    ·rename_i k' hk
     exact onn _ _ _ _ h (Reach.step fun b a cs w _=>step_exit hk)
    ·exact h.elim
   |scope bd=>exact onn _ _ _ _ h (Reach.step fun b a cs w _=>step_scope)
   |goto l=>exact h.elim
   |ret=>exact⟨_,h,fun ds w0 R0 ρ w a hs b cs=>⟨ρ,w,a,_,hs,Ext.refl _ _ _ _,.one step_ret⟩⟩
   |refuse why=>exact h.elim
  ·rename_i ops l k
   split at h
   ·exact onn _ _ _ _ h (Reach.step fun b a cs w _=>step_region_end)
   ·rename_i i rest
    split at h
    ·rename_i hl
     have hl:=of_decide_eq_true hl
     have hlen:(ops.toList.drop i).length=ops.size-i:=by simp
     rcases execOpsP_chain hE hS (callIn_ok hE hS ihn) _ _ _ _ h with⟨p',fr',m',h1,h2⟩|⟨v,fr',m',h1,h2⟩
     ·refine onn _ _ _ _ h1 fun ds w0 R0 ρ w a hs b cs=>?_
      have:=chain_wpOps (Q:=fun e a' w'=>e=.normal∧∃ρ',SRelD ds w0 R0 ρ' w' fr' m' a'∧MExt w0 R0 ρ w m ρ' w' m') h2 i rfl ρ w a hs (fun ρ' w' a' g1 g2=>⟨rfl,ρ',g1,g2⟩)
      rw[hlen,←hl]at this
      have hq:wpOps P ops (fun e a' w'=>e=.normal∧∃ρ',SRelD ds w0 R0 ρ' w' fr' m' a'∧MExt w0 R0 ρ w m ρ' w' m') (i::rest) a w:=by simpa using this
      obtain⟨e,a',w',⟨rfl,ρ',g1,g2⟩,harr⟩:=wp_ops _ a w hq b k cs
      exact⟨ρ',w',a',g1,g2,harr⟩
     ·refine⟨_,h1,fun ds w0 R0 ρ w a hs b cs=>?_⟩
      have:=chainP_wpOps (Q:=fun e a' w'=>∃u ρ',e=.panic [{v:=u,recovered:=false}] ∧SRelD ds w0 R0 ρ' w' fr' m' a'∧MExt w0 R0 ρ w m ρ' w' m'∧Rep (RO w0 R0 ρ' w' m') ρ' m'.next w' v u) h2 i rfl ρ w a hs (fun ρ' w' a' u g1 g2 g3=>⟨u,ρ',rfl,g1,g2,g3⟩)
      rw[hlen,←hl]at this
      have hq:wpOps P ops (fun e a' w'=>∃u ρ',e=.panic [{v:=u,recovered:=false}] ∧SRelD ds w0 R0 ρ' w' fr' m' a'∧MExt w0 R0 ρ w m ρ' w' m'∧Rep (RO w0 R0 ρ' w' m') ρ' m'.next w' v u) (i::rest) a w:=by simpa using this
      obtain⟨e,a',w',⟨u,ρ',rfl,g1,g2,g3⟩,todo,harr⟩:=wp_ops _ a w hq b k cs
      exact⟨ρ',w',a',todo,u,g1,g2,g3,harr⟩
    ·exact h.elim
  ·exact h.elim
structure Known (P:Program) (E:Env):Prop where
 e:EOK P E
 s:SumOK P E
 mix:P.follows .mixedOrders=true
theorem scall_of_exec(hK:Known P E){n:Nat}{f:FuncId}{args:List SV}{p:Plan}{v:SV}(hd:dataL args=true)(hvd:v.data=true)(h:(execFn E n f args p).holds fun x=>x.1=v):SCall P f args v:=by
 intro m w0 R0 ρ w vs hm hvs
 unfold execFn at h
 split at h
 ·rename_i fn hfn
  have hf:=hK.e.fn f fn hfn
  split at h
  ·rename_i body hb
   split at h
   ·rename_i hn
    obtain⟨fr,h1,h2,h3,h4⟩:=make_holds h
    obtain⟨out,h5,h6⟩:=exec_ok hK.e hK.s hK.mix n _ _ _ _ _ _ h1
    cases out with
    |stop it fr' m'=>exact h5.elim
    |pan v fr' m'=>exact h5.elim
    |ret p' fr' mc=>
     dsimp only at h5
     obtain⟨v',h7,h8⟩:=results_holds hK.e h5
     obtain rfl:v'=v:=h7
     rw[callFunc_enter hf hb hn]
     obtain⟨o1,o2⟩:=own_mem hm ρ
     have hfr:=frame_rel h2 h3 h4 (RepL.data (R':=RO w (RS w0 R0 ρ w m) ρ w ⟨0,.e⟩) (ρ':=ρ) (n':=0) o2 args vs hd hvs)
     refine Calls.mono (calls_of_reach hf hb h6 h8 o1 hfr) fun e w' ⟨u,he,ρ',g1,g2,g3⟩=>⟨u,he,?_⟩
     have hst:=Hand.start hm g1
     obtain⟨k1,k2⟩:=hst.finish hm g1
     exact⟨ρ,k1,k2,Rep.data (fun b hb=>hst.ro b (.inr hb)) v' u hvd g3⟩
   ·exact h.elim
  ·exact h.elim
 ·exact h.elim
end
theorem dfltChk_rep{R:Nat→Prop}{w:World}:∀ (u:Ty) (vs rest:List Value),dfltChk u vs=some rest→∃v1,vs=v1++rest∧RepD R w u u.dflt v1
 |.unit,vs,rest,h=>by simp only[dfltChk,Option.some.injEq]at h;exact⟨[],h,rfl⟩
 |.int k,vs,rest,h=>by
  unfold dfltChk at h
  split at h
  ·split at h
   ·rename_i hk
    injection h with h;subst h hk
    exact⟨[_],rfl,rfl⟩
   ·cases h
  ·cases h
 |.bool,vs,rest,h=>by
  unfold dfltChk at h
  split at h
  ·injection h with h;subst h
   exact⟨[_],rfl,rfl⟩
  ·cases h
 |.str,vs,rest,h=>by
  unfold dfltChk at h
  split at h
  ·injection h with h;subst h
   exact⟨[_],rfl,rfl⟩
  ·cases h
 |.list t,vs,rest,h=>by
  unfold dfltChk at h
  split at h
  ·injection h with h;subst h
   exact⟨[_],rfl,none,0,rfl,Nat.le_refl _,fun h0=>absurd h0 (Nat.lt_irrefl _)⟩
  ·cases h
 |.pair a b,vs,rest,h=>by
  unfold dfltChk at h
  split at h
  ·rename_i vs1 h1
   obtain⟨v1,e1,r1⟩:=dfltChk_rep a vs vs1 h1
   obtain⟨v2,e2,r2⟩:=dfltChk_rep b vs1 rest h
   exact⟨v1++v2,by rw[e1,e2];simp,v1,v2,rfl,r1,r2⟩
  ·cases h
theorem rowOf_ok{P:Program}[ElOK P]{t:TypeId}{r:Row}(h:rowOf P t=some r):RowOK P t r:=by
 have h00:=h
 unfold rowOf at h
 split at h
 ·rename_i d i hd hi
  split at h
  ·rename_i z hz
   injection h with h
   have hel:∀hk:(r.ty=some (.int .u8)∨r.desc=.int .u8),r.size=1→El8 t:=rowOf_u8 h00
   subst h
   refine⟨hd,⟨i,z,hi,rfl,rfl,hz,fun R ρ n w=>ofLeafs_rep R ρ n w _,fun u hu R w=>?_⟩,rfl,rfl,hel⟩
   dsimp only at hu
   unfold tyIf at hu
   split at hu
   ·rename_i u' hu'
    split at hu
    ·rename_i hc
     injection hu with hu;subst hu
     obtain⟨v1,e1,r1⟩:=dfltChk_rep (R:=R) (w:=w) u' _ _ hc
     rw[List.append_nil]at e1
     rw[e1];exact r1
    ·cases hu
   ·cases hu
  ·cases h
 ·cases h
theorem known_of{P:Program}[ElOK P]{sum:FuncId→Option (List SV→Option (Tree SV))}(hmix:P.follows .mixedOrders=true)(hsum:SumOK P (Env.of P sum)):Known P (Env.of P sum):=
 ⟨⟨fun t r h=>rowOf_ok h,fun f fn h=>h,fun t z h=>(by cases h)⟩,hsum,hmix⟩
structure Fact where
 f:FuncId
 s:List SV→Option (Tree SV)
noncomputable def sumOf(l:List Fact)(f:FuncId):Option (List SV→Option (Tree SV)):=
 List.rec (motive:=fun _=>Option (List SV→Option (Tree SV))) none (fun x _ ih=>match Nat.beq x.f f with
  |true=>some x.s
  |false=>ih) l
def Fact.ok(P:Program)(x:Fact):Prop:=∀args t,x.s args=some t→t.says (SCall P x.f args)
theorem sumOf_says{P:Program}:∀ (l:List Fact),(∀x∈l,x.ok P)→∀f s args t,sumOf l f=some s→s args=some t→t.says (SCall P f args)
 |[],_=>fun f s args t h=>by cases h
 |x::l,h=>fun f s args t hs ht=>by
  change (match Nat.beq x.f f with
   |true=>some x.s
   |false=>sumOf l f)=some s at hs
  split at hs
  ·rename_i hf
   injection hs with hs
   subst hs
   have:x.f=f:=Nat.eq_of_beq_eq_true hf
   subst this
   exact h x List.mem_cons_self args t ht
  ·exact sumOf_says l (fun y hy=>h y (List.mem_cons_of_mem _ hy)) f s args t hs ht
theorem sumOf_ok{P:Program}(l:List Fact)(h:∀x∈l,x.ok P):SumOK P (Env.of P (sumOf l)):=⟨sumOf_says l h,fun f s args m t h=>(by cases h),fun f s args m t h=>(by cases h),fun f s args B t h=>(by cases h),fun f s args t h=>(by cases h)⟩
structure WFact where
 f:FuncId
 s:List SV→Mem→Option (Tree (SV×Mem))
noncomputable def wrOf(l:List WFact)(f:FuncId):Option (List SV→Mem→Option (Tree (SV×Mem))):=
 List.rec (motive:=fun _=>Option (List SV→Mem→Option (Tree (SV×Mem)))) none (fun x _ ih=>match Nat.beq x.f f with
  |true=>some x.s
  |false=>ih) l
def WFact.ok(P:Program)(x:WFact):Prop:=∀args m t,x.s args m=some t→t.says (WCall P x.f args m)
theorem wrOf_says{P:Program}:∀ (l:List WFact),(∀x∈l,x.ok P)→∀f s args m t,wrOf l f=some s→s args m=some t→t.says (WCall P f args m)
 |[],_=>fun f s args m t h=>by cases h
 |x::l,h=>fun f s args m t hs ht=>by
  change (match Nat.beq x.f f with
   |true=>some x.s
   |false=>wrOf l f)=some s at hs
  split at hs
  ·rename_i hf
   injection hs with hs
   subst hs
   have:x.f=f:=Nat.eq_of_beq_eq_true hf
   subst this
   exact h x List.mem_cons_self args m t ht
  ·exact wrOf_says l (fun y hy=>h y (List.mem_cons_of_mem _ hy)) f s args m t hs ht
def rdOf(l:List Nat)(f:FuncId):Bool:=l.any fun x=>Nat.beq x f
structure PFact where
 f:FuncId
 s:List SV→Mem→Option (Tree Ex)
noncomputable def pnOf(l:List PFact)(f:FuncId):Option (List SV→Mem→Option (Tree Ex)):=
 List.rec (motive:=fun _=>Option (List SV→Mem→Option (Tree Ex))) none (fun x _ ih=>match Nat.beq x.f f with
  |true=>some x.s
  |false=>ih) l
def PFact.ok(P:Program)(x:PFact):Prop:=∀args m t,x.s args m=some t→t.says (XCall P x.f args m)
theorem pnOf_says{P:Program}:∀ (l:List PFact),(∀x∈l,x.ok P)→∀f s args m t,pnOf l f=some s→s args m=some t→t.says (XCall P f args m)
 |[],_=>fun f s args m t h=>by cases h
 |x::l,h=>fun f s args m t hs ht=>by
  change (match Nat.beq x.f f with
   |true=>some x.s
   |false=>pnOf l f)=some s at hs
  split at hs
  ·rename_i hf
   injection hs with hs
   subst hs
   have:x.f=f:=Nat.eq_of_beq_eq_true hf
   subst this
   exact h x List.mem_cons_self args m t ht
  ·exact pnOf_says l (fun y hy=>h y (List.mem_cons_of_mem _ hy)) f s args m t hs ht
structure BFact where
 f:FuncId
 s:List SV→Box→Option (Tree (Bool×SV×Box))
noncomputable def bxOf(l:List BFact)(f:FuncId):Option (List SV→Box→Option (Tree (Bool×SV×Box))):=
 List.rec (motive:=fun _=>Option (List SV→Box→Option (Tree (Bool×SV×Box)))) none (fun x _ ih=>match Nat.beq x.f f with
  |true=>some x.s
  |false=>ih) l
def BFact.ok(P:Program)(x:BFact):Prop:=∀args B t,x.s args B=some t→t.says (BCall P x.f args B)
theorem bxOf_says{P:Program}:∀ (l:List BFact),(∀x∈l,x.ok P)→∀f s args B t,bxOf l f=some s→s args B=some t→t.says (BCall P f args B)
 |[],_=>fun f s args m t h=>by cases h
 |x::l,h=>fun f s args m t hs ht=>by
  change (match Nat.beq x.f f with
   |true=>some x.s
   |false=>bxOf l f)=some s at hs
  split at hs
  ·rename_i hf
   injection hs with hs
   subst hs
   have:x.f=f:=Nat.eq_of_beq_eq_true hf
   subst this
   exact h x List.mem_cons_self args m t ht
  ·exact bxOf_says l (fun y hy=>h y (List.mem_cons_of_mem _ hy)) f s args m t hs ht
theorem setT_saysB{β γ:Type}{Φ:γ→Prop}:∀ (d:Nat) (t:Tb β) (i:Nat) (v:Option β) (k:Tb β→Tree γ),(∀t',TbSet t i v t'→(k t').says Φ)→(setT d t i v k).says Φ
 |0,_,_,_,_,_=>trivial
 |d+1,.e,0,v,k,h=>h _ fun j=>by cases j with
   |zero=>simp[Tb.get_n_zero]
   |succ j=>rw[Tb.get_n_succ];by_cases hj:j % 2=0<;>simp[Tb.pick_even,Tb.pick_odd,hj,Tb.get_e]
 |d+1,.n l u r,0,v,k,h=>h _ fun j=>by cases j with
   |zero=>simp[Tb.get_n_zero]
   |succ j=>simp[Tb.get_n_succ]
 |d+1,.e,i+1,v,k,h=>by
  rw[setT_e]
  by_cases hi:i % 2=0
  ·rw[Tb.pick_even hi]
   refine setT_saysB d _ _ _ _ fun t' h1=>h _ fun j=>?_
   cases j with
   |zero=>simp[Tb.get_n_zero,Tb.get_e]
   |succ j=>
    rw[Tb.get_n_succ]
    by_cases hj:j % 2=0
    ·rw[Tb.pick_even hj,h1 (j / 2),Tb.get_e,Tb.get_e]
     have:j / 2=i / 2↔j+1=i+1:=by omega
     simp[this]
    ·rw[Tb.pick_odd hj,Tb.get_e,Tb.get_e,if_neg (by omega)]
  ·rw[Tb.pick_odd hi]
   refine setT_saysB d _ _ _ _ fun t' h1=>h _ fun j=>?_
   cases j with
   |zero=>simp[Tb.get_n_zero,Tb.get_e]
   |succ j=>
    rw[Tb.get_n_succ]
    by_cases hj:j % 2=0
    ·rw[Tb.pick_even hj,Tb.get_e,Tb.get_e,if_neg (by omega)]
    ·rw[Tb.pick_odd hj,h1 (j / 2),Tb.get_e,Tb.get_e]
     have:j / 2=i / 2↔j+1=i+1:=by omega
     simp[this]
 |d+1,.n l u r,i+1,v,k,h=>by
  rw[setT_n]
  by_cases hi:i % 2=0
  ·rw[Tb.pick_even hi]
   refine setT_saysB d _ _ _ _ fun t' h1=>h _ fun j=>?_
   cases j with
   |zero=>simp[Tb.get_n_zero]
   |succ j=>
    rw[Tb.get_n_succ,Tb.get_n_succ]
    by_cases hj:j % 2=0
    ·rw[Tb.pick_even hj,Tb.pick_even hj,h1 (j / 2)]
     have:j / 2=i / 2↔j+1=i+1:=by omega
     simp[this]
    ·rw[Tb.pick_odd hj,Tb.pick_odd hj,if_neg (by omega)]
  ·rw[Tb.pick_odd hi]
   refine setT_saysB d _ _ _ _ fun t' h1=>h _ fun j=>?_
   cases j with
   |zero=>simp[Tb.get_n_zero]
   |succ j=>
    rw[Tb.get_n_succ,Tb.get_n_succ]
    by_cases hj:j % 2=0
    ·rw[Tb.pick_even hj,Tb.pick_even hj,if_neg (by omega)]
    ·rw[Tb.pick_odd hj,Tb.pick_odd hj,h1 (j / 2)]
     have:j / 2=i / 2↔j+1=i+1:=by omega
     simp[this]
theorem set_saysB{γ:Type}{Φ:γ→Prop}{m:Mem}{id:Nat}{b:Option Box}{k:Mem→Tree γ}(h:∀m',MSet m id b m'→(k m').says Φ):(m.set id b k).says Φ:=
 setT_saysB 40 _ _ _ _ fun t' ht=>h ⟨m.next,t'⟩ ⟨ht,rfl⟩
theorem known_ofB{P:Program}[ElOK P](hmix:P.follows .mixedOrders=true){l:List Fact}{k:List WFact}{j:List PFact}{i:List BFact}(hl:∀x∈l,x.ok P)(hk:∀x∈k,x.ok P)(hj:∀x∈j,x.ok P)(hi:∀x∈i,x.ok P)(typed:TypeId→Bool)(lst rd:FuncId→Bool)(cut:Nat→Bool):Known P (Env.ofB P (sumOf l) (wrOf k) (pnOf j) (bxOf i) typed lst rd cut):=
 ⟨⟨fun t r h=>rowOf_ok h,fun f fn h=>h,fun t z h=>by
   change (P.info? t).bind (fun i=>i.zero)=some z at h
   cases hi:P.info? t with
   |none=>rw[hi]at h;cases h
   |some i=>rw[hi]at h;exact⟨i,rfl,h⟩⟩,⟨sumOf_says l hl,wrOf_says k hk,pnOf_says j hj,bxOf_says i hi,fun f s args t h=>(by cases h)⟩,hmix⟩
theorem scall_of{P:Program}[ElOK P](hmix:P.follows .mixedOrders=true)(l:List Fact)(hl:∀x∈l,x.ok P)(n:Nat)(p:Plan){f:FuncId}{args:List SV}{v:SV}{t:Tree (SV×Mem)}(ht:execFn (Env.of P (sumOf l)) n f args p=t)(h:t.holds fun x=>x.1=v)(hd:dataL args=true)(hv:v.data=true):SCall P f args v:=
 scall_of_exec (known_of hmix (sumOf_ok l hl)) hd hv (by rw[ht];exact h)
open Go.RowKit Go.WideShapes
section
variable {H:Type} {enc:TypeId×Value→H} {P:Program} {W:World}
end
def Tree.vals:Tree (SV×Mem)→Tree SV
 |.leaf x=>.leaf x.1
 |.node b t f=>.node b t.vals f.vals
 |.req b t=>.req b t.vals
 |.fail n=>.fail n
theorem Tree.vals_holds{L:SV→Prop}:∀t:Tree (SV×Mem),t.vals.holds L→t.holds fun x=>L x.1
 |.leaf _,h=>h
 |.node _ t f,h=>⟨fun hb=>t.vals_holds (h.1 hb),fun hb=>f.vals_holds (h.2 hb)⟩
 |.req _ t,h=>⟨h.1,t.vals_holds h.2⟩
 |.fail _,h=>h
def allOk(P:Program):List Fact→Prop
 |[] =>True
 |x::l=>x.ok P∧allOk P l
theorem allOk.all{P:Program}:∀{l:List Fact},allOk P l→∀x∈l,x.ok P
 |_::_,h,_,.head _=>h.1
 |_::_,h,_,.tail _ hx=>h.2.all _ hx
theorem scall_v{P:Program}[ElOK P](hmix:P.follows .mixedOrders=true)(l:List Fact)(hl:allOk P l)(n:Nat)(p:Plan){f:FuncId}{args:List SV}{v:SV}{t:Tree SV}
  (ht:(execFn (Env.of P (sumOf l)) n f args p).vals=t) (h:t.holds fun x=>x=v) (hd:dataL args=true) (hv:v.data=true):SCall P f args v:=
 scall_of hmix l hl.all n p rfl (Tree.vals_holds _ (by rw[ht];exact h)) hd hv
theorem wrap64{x:Int}(h: -9223372036854775808≤x)(k:x≤9223372036854775807):IntKind.wrap .i64 x=x:=by
 have h2:IntKind.wrap .i64 x=if true&&decide (x % 18446744073709551616≥9223372036854775808)then x % 18446744073709551616-18446744073709551616 else x % 18446744073709551616:=rfl
 rw[h2]
 simp only[Bool.true_and,decide_eq_true_eq]
 split<;>omega
noncomputable def viewS(fr:Fr):List Bool→Nat→List SV
 |[],_=>[]
 |true::ks,t=>fr.get t::viewS fr ks (t+1)
 |false::ks,t=>.top::viewS fr ks (t+1)
theorem viewS_get(fr:Fr):∀ (ks:List Bool) (t i:Nat) (x:SV),(viewS fr ks t)[i]? =some x→x=.top∨x=fr.get (t+i)
 |[],_,_,_,h=>by simp[viewS]at h
 |true::ks,t,0,x,h=>by simp[viewS]at h;exact .inr h.symm
 |false::ks,t,0,x,h=>by simp[viewS]at h;exact .inl h.symm
 |true::ks,t,i+1,x,h=>by
  have:=viewS_get fr ks (t+1) i x (by simpa[viewS]using h)
  rwa [show t+(i+1)=t+1+i by omega]
 |false::ks,t,i+1,x,h=>by
  have:=viewS_get fr ks (t+1) i x (by simpa[viewS]using h)
  rwa [show t+(i+1)=t+1+i by omega]
structure Canon (slots:List SV) (boxes:List (Option Box)) (fr:Fr) (m:Mem):Prop where
 size:fr.size=slots.length
 get:∀t,fr.get t=slots.getD t .undef
 next:m.next=boxes.length
 box:∀id,m.get id=(boxes[id]?).join
inductive Stop where
 |done (v:SV)
 |at(items:List Item) (size:Nat) (slots:List SV) (boxes:List (Option Box))
noncomputable def memFill{α:Type}:List (Option Box)→Mem→(Mem→Tree α)→Tree α
 |[],m,k=>k m
 |some B::l,m,k=>m.push B fun m _=>memFill l m k
 |none::l,m,k=>memFill l ⟨m.next+1,m.tb⟩ k
theorem memFill_holds{α:Type}{L:α→Prop}:∀ (l:List (Option Box)) (m:Mem) (k:Mem→Tree α),(memFill l m k).holds L→(∀id,m.next≤id→m.get id=none)→
  ∃m',(k m').holds L∧m'.next=m.next+l.length∧(∀id,id<m.next→m'.get id=m.get id)∧∀id,m'.get (m.next+id)=(l[id]?).join
 |[],m,k,h,hf=>⟨m,h,rfl,fun _ _=>rfl,fun id=>by simpa using hf (m.next+id) (by omega)⟩
 |none::l,m,k,h,hf=>by
  obtain⟨m',h1,h2,h3,h4⟩:=memFill_holds l ⟨m.next+1,m.tb⟩ k h fun id hid=>hf id (by dsimp only at hid;omega)
  refine⟨m',h1,by rw[h2];simp;omega,fun id hid=>h3 id (by dsimp only;omega),fun id=>?_⟩
  cases id with
  |zero=>
   rw[h3 (m.next+0) (by dsimp only;omega)]
   simpa[Mem.get]using hf m.next (Nat.le_refl _)
  |succ id=>
   have:=h4 id
   dsimp only at this
   rw[show m.next+(id+1)=m.next+1+id by omega,this]
   simp
 |some B::l,m,k,h,hf=>by
  obtain⟨m1,hp,h0⟩:=Mem.push_holds (k:=fun m _=>memFill l m k) h
  obtain⟨m',h1,h2,h3,h4⟩:=memFill_holds l m1 k h0 fun id hid=>by
   rw[hp.2]at hid
   rw[hp.1 id,if_neg (by omega)]
   exact hf id (by omega)
  rw[hp.2]at h2 h3 h4
  refine⟨m',h1,by rw[h2];simp;omega,fun id hid=>?_,fun id=>?_⟩
  ·rw[h3 id (by omega),hp.1 id,if_neg (by omega)]
  ·cases id with
   |zero=>
    rw[h3 (m.next+0) (by omega),hp.1]
    simp
   |succ id=>
    rw[show m.next+(id+1)=m.next+1+id by omega,h4 id]
    simp
def enter:List Item→List Item
 |.code (.loop b)::k=>.code b::.inLoop b::k
 |.inLoop b::k=>.code b::.inLoop b::k
 |x=>x
def loopsIn:Code→List Item→List (List Item)
 |.seq a b,k=>loopsIn a (.code b::k)++loopsIn b k
 |.cond _ x y,k=>loopsIn x k++loopsIn y k
 |.block id b,k=>loopsIn b (.inBlock id::k)
 |.scope b,k=>loopsIn b (.inScope b::k)
 |.loop b,k=>(.code b::.inLoop b::k)::loopsIn b (.inLoop b::k)
 |_,_=>[]
def fnOf(P:Program)(f:FuncId):Func:=match P.funcs[f]? with
 |some fn=>fn
 |none=>default
def bodyOf(P:Program)(f:FuncId):Code:=match(fnOf P f).body with
 |some b=>b
 |none=>.skip
def loopOf(P:Program)(f:FuncId)(i:Nat):List Item:=((loopsIn (bodyOf P f) [])[i]?).getD []
theorem tbSet_ex{β:Type}:∀ (i:Nat) (t:Tb β) (v:Option β),∃t',TbSet t i v t':=by
 intro i
 induction i using Nat.strongRecOn with
 |ind i ih=>
  intro t v
  obtain⟨l,x,r,hg⟩:∃l x r,∀k,t.get k=(Tb.n l x r).get k:=by
   cases t with
   |n l x r=>exact⟨l,x,r,fun _=>rfl⟩
   |e=>
    refine⟨.e,none,.e,fun k=>?_⟩
    cases k with
    |zero=>rfl
    |succ j=>
     rw[Tb.get_n_succ]
     by_cases h:j % 2=0
     ·rw[Tb.pick_even h];rfl
     ·rw[Tb.pick_odd h];rfl
  cases i with
  |zero=>
   refine⟨.n l v r,fun k=>?_⟩
   cases k with
   |zero=>rfl
   |succ j=>rw[if_neg (by omega),hg];rfl
  |succ i=>
   by_cases hi:i % 2=0
   ·obtain⟨l',hl⟩:=ih (i / 2) (by omega) l v
    refine⟨.n l' x r,fun k=>?_⟩
    cases k with
    |zero=>rw[if_neg (by omega),hg];rfl
    |succ j=>
     rw[hg,Tb.get_n_succ,Tb.get_n_succ]
     by_cases h:j % 2=0
     ·rw[Tb.pick_even h,Tb.pick_even h,hl]
      by_cases e:j=i
      ·subst e;simp
      ·rw[if_neg (by omega),if_neg (by omega)]
     ·rw[Tb.pick_odd h,Tb.pick_odd h,if_neg (by omega)]
   ·obtain⟨r',hr⟩:=ih (i / 2) (by omega) r v
    refine⟨.n l x r',fun k=>?_⟩
    cases k with
    |zero=>rw[if_neg (by omega),hg];rfl
    |succ j=>
     rw[hg,Tb.get_n_succ,Tb.get_n_succ]
     by_cases h:j % 2=0
     ·rw[Tb.pick_even h,Tb.pick_even h,if_neg (by omega)]
     ·rw[Tb.pick_odd h,Tb.pick_odd h,hr]
      by_cases e:j=i
      ·subst e;simp
      ·rw[if_neg (by omega),if_neg (by omega)]
theorem Canon.of{slots:List SV}{boxes:List (Option Box)}:∃fr m,Canon slots boxes fr m:=by
 have hS:∀ (l:List SV) (t:Tb SV) (i:Nat),∃t':Tb SV,∀k,t'.get k=if i≤k∧k<i+l.length then l[k-i]? else t.get k:=by
  intro l
  induction l with
  |nil=>exact fun t i=>⟨t,fun k=>by rw[if_neg (by simp)]⟩
  |cons x l ih=>
   intro t i
   obtain⟨t1,h1⟩:=ih t (i+1)
   have:∃t',TbSet t1 i (some x) t':=tbSet_ex i t1 (some x)
   obtain⟨t',ht'⟩:=this
   refine⟨t',fun k=>?_⟩
   rw[ht' k]
   by_cases hk:k=i
   ·subst hk;simp
   ·rw[if_neg hk,h1 k]
    by_cases h2:i+1≤k∧k<i+1+l.length
    ·rw[if_pos h2,if_pos (by simp;omega)]
     rw[show k-i=(k-(i+1))+1 by omega]
     simp
    ·rw[if_neg h2,if_neg (by simp;omega)]
 have hB:∀ (l:List (Option Box)) (t:Tb Box) (i:Nat),∃t':Tb Box,∀k,t'.get k=if i≤k∧k<i+l.length then(l[k-i]?).join else t.get k:=by
  intro l
  induction l with
  |nil=>exact fun t i=>⟨t,fun k=>by rw[if_neg (by simp)]⟩
  |cons x l ih=>
   intro t i
   obtain⟨t1,h1⟩:=ih t (i+1)
   obtain⟨t',ht'⟩:=tbSet_ex i t1 x
   refine⟨t',fun k=>?_⟩
   rw[ht' k]
   by_cases hk:k=i
   ·subst hk;simp
   ·rw[if_neg hk,h1 k]
    by_cases h2:i+1≤k∧k<i+1+l.length
    ·rw[if_pos h2,if_pos (by simp;omega)]
     rw[show k-i=(k-(i+1))+1 by omega]
     simp
    ·rw[if_neg h2,if_neg (by simp;omega)]
 obtain⟨t,ht⟩:=hS slots .e 0
 obtain⟨u,hu⟩:=hB boxes .e 0
 refine⟨⟨slots.length,t⟩,⟨boxes.length,u⟩,⟨rfl,fun k=>?_,rfl,fun k=>?_⟩⟩
 ·unfold Fr.get
  rw[ht k,List.getD_eq_getElem?_getD]
  by_cases h:k<slots.length
  ·rw[if_pos (by omega)];simp[h]
  ·rw[if_neg (by omega)]
   rw[Tb.get_e,List.getElem?_eq_none (by omega)];rfl
 ·unfold Mem.get
  rw[hu k]
  by_cases h:k<boxes.length
  ·rw[if_pos (by omega)];simp
  ·rw[if_neg (by omega)]
   rw[Tb.get_e,List.getElem?_eq_none (by omega)];rfl
theorem Canon.swap{ds:List Deferred}{slots:List SV}{boxes:List (Option Box)}{fr fr':Fr}{m m':Mem}(h:Canon slots boxes fr m)(h':Canon slots boxes fr' m'){w0:World}{R0:RSet}{ρ:Rho}{w:World}{a:Act}(hs:SRelD ds w0 R0 ρ w fr m a):
  SRelD ds w0 R0 ρ w fr' m' a∧(∀b,RO w0 R0 ρ w m b↔RO w0 R0 ρ w m' b):=by
 have hg:∀id,m'.get id=m.get id:=fun id=>by rw[h.box,h'.box]
 have hn:m'.next=m.next:=by rw[h.next,h'.next]
 have hro:RO w0 R0 ρ w m'=RO w0 R0 ρ w m:=by
  funext b
  unfold RO
  simp only[hg]
 obtain⟨h1,h2,h3⟩:=hs
 refine⟨⟨⟨h1.below,fun id B hB=>?_,fun id B hB=>h1.lo id B (by rw[←hg];exact hB),fun id B hB=>h1.hi id B (by rw[←hg];exact hB),fun id id' B B' hB hB'=>h1.inj id id' B B' (by rw[←hg];exact hB) (by rw[←hg];exact hB'),fun id B hB=>?_,h1.hid.1,fun id B hB=>h1.hid.2 id B (by rw[←hg];exact hB)⟩,⟨?_,fun t=>?_⟩,h3⟩,fun b=>by rw[hro]⟩
 ·rw[hn];exact h1.lt id B (by rw[←hg];exact hB)
 ·rw[hro,hn];exact h1.box id B (by rw[←hg];exact hB)
 ·rw[h'.size,←h.size];exact h2.1
 ·rw[hro,hn,h'.get,←h.get];exact h2.2 t
theorem pad_get(l:List SV)(k t:Nat):(l++List.replicate k SV.undef).getD t .undef=l.getD t .undef:=by
 simp only[List.getD_eq_getElem?_getD]
 by_cases h:t<l.length
 ·rw[List.getElem?_append_left h]
 ·rw[List.getElem?_append_right (by omega),List.getElem?_eq_none (l:=l) (by omega)]
  cases hx:(List.replicate k SV.undef)[t-l.length]? with
  |none=>rfl
  |some x=>
   have:=List.eq_of_mem_replicate (List.mem_of_getElem? hx)
   subst this;rfl
end Go.Sx
