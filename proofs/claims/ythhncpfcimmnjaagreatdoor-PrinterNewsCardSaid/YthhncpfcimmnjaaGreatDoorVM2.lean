/-
  Evaluator, closed run of the example, contracts, law.
-/
import Derived.Test.YthhncpfcimmnjaaGreatDoorVM1
import Derived.Great.FillDense
set_option maxRecDepth 100000
set_option linter.unusedVariables false
set_option linter.unusedSimpArgs false
open Go.IntKind (i64 u64)
namespace Go.Sx
open Go.RowKit
section
variable {P:Program} {E:Env} {α:Type} {L:α→Prop}
theorem repL_one{R:Nat→Prop}{ρ:Rho}{n:Nat}{w:World}:∀{xs:List SV} {vs:List Value},RepL R ρ n w xs vs→all1 xs=true→∀u∈vs,u.oneCell'=true
 |[],vs,h,_,u,hu=>by rw[show vs=[]from h]at hu;cases hu
 |x::xs,_,h,ha,u,hu=>by
  obtain⟨v,vs,rfl,h1,h2⟩:=h
  have ha':=all1_spec _ ha
  rcases List.mem_cons.1 hu with rfl|hu
  ·exact one_cell h1 (ha' x List.mem_cons_self)
  ·refine repL_one h2 ?_ u hu
   have:all1 (x::xs)=match x.one with|true=>all1 xs|false=>false:=rfl
   rw[this]at ha
   cases hx:x.one with
   |true=>rw[hx]at ha;exact ha
   |false=>rw[hx]at ha;cases ha
def SrcOK(P:Program)(z:Nat)(m:Mem)(x:SV)(xs:List SV)(n:Nat):Prop:=
 ∀w0 R0 ρ w (xv:Value),MRel w0 R0 ρ w m→Rep (RO w0 R0 ρ w m) ρ m.next w x xv→∃vs,(Builtin.lenOf xv).run P w=.ok n w∧(∀k,k≤n→(Builtin.firstCells z k xv).run P w=.ok ⟨vs.take (k*z)⟩ w)∧RepL (RO w0 R0 ρ w m) ρ m.next w xs vs∧vs.length=n*z∧((∃a l c,xv=.slice a l c)∨∃s,xv=.string s)
theorem loadCells_take{w:World}{a:Addr}{n:Nat}{vs:List Value}(h:(Go.loadCells a n).run P w=.ok ⟨vs⟩ w){k:Nat}(hk:k≤n):(Go.loadCells a k).run P w=.ok ⟨vs.take k⟩ w:=by
 have key:∀ (n i:Nat) (acc:Array Value) (cs:Array Value),(loadCellsFrom a i n acc).run P w=.ok cs w→∃us:List Value,cs.toList=acc.toList++us∧us.length=n∧∀k,k≤n→(loadCellsFrom a i k acc).run P w=.ok ⟨acc.toList++us.take k⟩ w:=by
  intro n
  induction n with
  |zero=>
   intro i acc cs h
   simp only[loadCellsFrom,Sem.run_pure,Result.ok.injEq]at h
   refine⟨[],by rw[h.1];simp,rfl,fun k hk=>?_⟩
   obtain rfl:=Nat.le_zero.1 hk
   simp[loadCellsFrom]
  |succ n ih=>
   intro i acc cs h
   simp only[loadCellsFrom,Sem.run_bind,run_load]at h
   have step:∃v:Value,(∀k,(loadCellsFrom a i (k+1) acc).run P w=(loadCellsFrom a (i+1) k (acc.push v)).run P w)∧(loadCellsFrom a (i+1) n (acc.push v)).run P w=.ok cs w:=by
    cases hc:w.cell? (a.add i)with
    |some v=>
     rw[hc]at h
     exact⟨v,fun k=>by simp only[loadCellsFrom,Sem.run_bind,run_load,hc,Result.andThen_ok],h⟩
    |none=>
     rw[hc]at h
     dsimp only at h
     cases hq:w.farLoad P (a.add i) (Mode.plain==.atomic)with
     |ok q=>rw[hq]at h;exact⟨q.1,fun k=>by simp only[loadCellsFrom,Sem.run_bind,run_load,hc,hq,Result.andThen_ok],h⟩
     |error e=>rw[hq]at h;cases h
   obtain⟨v,h1,h2⟩:=step
   obtain⟨us,k1,k2,k3⟩:=ih _ _ _ h2
   refine⟨v::us,by rw[k1];simp,by simp[k2],fun k hk=>?_⟩
   cases k with
   |zero=>simp[loadCellsFrom]
   |succ k=>rw[h1 k,k3 k (by omega)];simp
 obtain⟨us,k1,k2,k3⟩:=key n 0 #[] ⟨vs⟩ h
 have:vs=us:=by simpa using k1
 subst this
 have:=k3 k hk
 simpa[Go.loadCells]using this
theorem srcK_holds{z:Nat}{m:Mem}{x:SV}{k:List SV→Nat→Tree α}(h:(srcK z m x k).holds L):∃xs n,(k xs n).holds L∧SrcOK P z m x xs n:=by
 unfold srcK at h
 split at h
 ·refine⟨_,_,h,fun w0 R0 ρ w xv hm hx=>?_⟩
  rw[show xv=_ from hx]
  exact⟨[],rfl,fun k hk=>by simp[Builtin.firstCells],rfl,by simp,.inl ⟨_,_,_,rfl⟩⟩
 ·rename_i id off n lb z' ex
  split at h
  ·rename_i hz
   obtain rfl:=Nat.eq_of_beq_eq_true hz
   split at h
   ·rename_i cs hg
    have fin:(n*z'=0∨off+n*z'≤cs.length)→SrcOK P z' m (.vsl id off n lb z' ex) ((cs.drop off).take (n*z')) n:=by
     intro hl w0 R0 ρ w xv hm hx
     obtain⟨a,cap,vs,rfl,k1,k2⟩:=vsl_cells (P:=P) hm hg hl hx
     have hlen:=k2.length
     refine⟨vs,rfl,fun k hk=>?_,k2,?_,.inl ⟨_,_,_,rfl⟩⟩
     ·exact loadCells_take k1 (Nat.mul_le_mul_right _ hk)
     ·rw[hlen];simp only[List.length_take,List.length_drop];omega
    rcases takeK_holds _ _ _ _ h with⟨h0,h1⟩|⟨h0,h1⟩
    ·exact⟨_,_,h1,by have:=fin (.inl h0);rw[h0]at this;simpa using this⟩
    ·exact⟨_,_,h1,fin (.inr h0)⟩
   ·exact h.elim
  ·exact h.elim
 ·rename_i id off n
  split at h
  ·rename_i cs hg
   have fin:(n*z=0∨off+n*z≤cs.length)→SrcOK P z m (.arr id off n) ((cs.drop off).take (n*z)) n:=by
    intro hl w0 R0 ρ w xv hm hx
    obtain⟨hid,rfl⟩:=hx
    obtain⟨vs,k1,k2⟩:=run_loadCells_at (P:=P) (ptr_cells hm hg) hl
    rw[Nat.zero_add]at k1
    have hlen:=k2.length
    refine⟨vs,rfl,fun k hk=>?_,k2,?_,.inl ⟨_,_,_,rfl⟩⟩
    ·exact loadCells_take k1 (Nat.mul_le_mul_right _ hk)
    ·rw[hlen];simp only[List.length_take,List.length_drop];omega
   rcases takeK_holds _ _ _ _ h with⟨h0,h1⟩|⟨h0,h1⟩
   ·exact⟨_,_,h1,by have:=fin (.inl h0);rw[h0]at this;simpa using this⟩
   ·exact⟨_,_,h1,fin (.inr h0)⟩
  ·exact h.elim
 ·rename_i s
  split at h
  ·rename_i hz
   obtain rfl:=Nat.eq_of_beq_eq_true hz
   rw[frcL_eq]at h
   refine⟨_,_,h,fun w0 R0 ρ w xv hm hx=>?_⟩
   rw[show xv=_ from hx]
   refine⟨s.map fun b=>Value.int .u8 b.toNat,rfl,fun k hk=>?_,bytes_repL s,by simp,.inr ⟨_,rfl⟩⟩
   simp only[Builtin.firstCells,Sem.run_pure,Result.ok.injEq,and_true,Nat.mul_one]
   apply Array.ext'
   simp[ByteArray.extract,ByteArray.copySlice]
  ·exact h.elim
 ·exact h.elim
theorem MRel.over{w0:World}{R0:RSet}{ρ:Rho}{w w':World}{m m1 m':Mem}{id:Nat}{B B':Box}{r:Nat×Nat×Nat}(hm:MRel w0 R0 ρ w m)(hg:m.get id=some B)(hsol:solid (ρ id) B)(h1:MSet m id none m1)(h3:MPush m1 B' m')(hr:r.1=(ρ id).1)
  (r3:w'.os=w.os) (r4:w'.tape=w.tape) (r5:w'.output=w.output) (r6:w'.heap.size=w.heap.size) (r7:∀k,k≠(ρ id).1→w'.heap[k]? =w.heap[k]?)
  (hB:∀R n ρ',Ext (RO w0 R0 ρ w m) ρ m.next w R ρ' n w'→BoxRel R ρ' n w' r B'):
  MRel w0 R0 (upd ρ m.next r) w' m'∧MExt w0 R0 ρ w m (upd ρ m.next r) w' m':=by
 have hlen1:m1.next=m.next:=h1.2
 have hdrop:∀k C,m1.get k=some C→k≠id∧m.get k=some C:=fun k C hk=>by
  rw[h1.1 k]at hk
  by_cases e0:k=id
  ·rw[if_pos e0]at hk;cases hk
  ·rw[if_neg e0]at hk;exact⟨e0,hk⟩
 have hnew:∀k C,m'.get k=some C→(k=m.next∧C=B')∨(k≠m.next∧k≠id∧m.get k=some C):=fun k C hk=>by
  rw[h3.1 k,hlen1]at hk
  by_cases e0:k=m.next
  ·rw[if_pos e0]at hk;injection hk with hk;exact .inl ⟨e0,hk.symm⟩
  ·rw[if_neg e0]at hk;exact .inr ⟨e0,hdrop k C hk⟩
 have hidlt:id<m.next:=hm.lt id _ hg
 have hblk:=hm.hi id _ hg hsol
 have hblo:=hm.lo id _ hg hsol
 have hro:∀b,RO w0 R0 ρ w m b→RO w0 R0 (upd ρ m.next r) w' m' b:=fun b hb=>by
  have hne:=hm.ro_ne hb hg hsol
  rcases hb with hb|⟨g1,g2,g3,g4⟩
  ·exact .inl hb
  ·refine .inr ⟨g1,by omega,fun k C hk hs'=>?_,g4⟩
   rcases hnew k C hk with⟨rfl,rfl⟩|⟨n1,n2,n3⟩
   ·rw[upd_same,hr];exact hne
   ·rw[upd_other _ _ n1]at hs' ⊢;exact g3 k C n3 hs'
 have hext:MExt w0 R0 ρ w m (upd ρ m.next r) w' m':=
  ⟨by rw[h3.2];omega,fun k hk=>upd_other _ _ (by omega),fun b hb=>⟨hro b hb,r7 b (Ne.symm (hm.ro_ne hb hg hsol))⟩⟩
 refine⟨⟨hm.below.trans ⟨r3,r4,r5,by omega,fun k hk=>r7 k (by omega)⟩,fun k C hk=>?_,fun k C hk hs'=>?_,fun k C hk hs'=>?_,fun k k' C C' hk hk' hs1 hs2 he0=>?_,fun k C hk=>?_,fun b hb=>⟨by rw[r6];exact(hm.hid.1 b hb).1,(r7 b fun he=>hm.hid.2 id _ hg hsol (he▸hb)).trans (hm.hid.1 b hb).2⟩,fun k C hk hs'=>?_⟩,hext⟩
 ·rw[h3.2]
  rcases hnew k C hk with⟨rfl,_⟩|⟨_,_,n3⟩
  ·omega
  ·have:=hm.lt k C n3;omega
 ·rcases hnew k C hk with⟨rfl,rfl⟩|⟨n1,_,n3⟩
  ·rw[upd_same,hr];exact hblo
  ·rw[upd_other _ _ n1]at hs' ⊢;exact hm.lo k C n3 hs'
 ·rw[r6]
  rcases hnew k C hk with⟨rfl,rfl⟩|⟨n1,_,n3⟩
  ·rw[upd_same,hr];exact hblk
  ·rw[upd_other _ _ n1]at hs' ⊢;exact hm.hi k C n3 hs'
 ·rcases hnew k C hk with⟨rfl,rfl⟩|⟨n1,n2,n3⟩<;>rcases hnew k' C' hk' with⟨rfl,rfl⟩|⟨n1',n2',n3'⟩
  ·rfl
  ·rw[upd_same,hr]at he0;rw[upd_other _ _ n1']at he0 hs2
   exact absurd (hm.inj id k' _ C' hg n3' hsol hs2 he0).symm n2'
  ·rw[upd_same,hr]at he0;rw[upd_other _ _ n1]at he0 hs1
   exact absurd (hm.inj k id C _ n3 hg hs1 hsol he0) n2
  ·rw[upd_other _ _ n1]at he0 hs1;rw[upd_other _ _ n1']at he0 hs2
   exact hm.inj k k' C C' n3 n3' hs1 hs2 he0
 ·rcases hnew k C hk with⟨rfl,rfl⟩|⟨n1,n2,n3⟩
  ·rw[upd_same];exact hB _ _ _ hext
  ·rw[upd_other _ _ n1]
   exact BoxRel.mono hext C (fun hs'=>r7 _ fun he0=>n2 (hm.inj k id C _ n3 hg hs' hsol he0)) (hm.box k C n3)
 ·rcases hnew k C hk with⟨rfl,rfl⟩|⟨n1,_,n3⟩
  ·rw[upd_same,hr];exact hm.hid.2 id _ hg hsol
  ·rw[upd_other _ _ n1]at hs' ⊢;exact hm.hid.2 k C n3 hs'
theorem newK_sound{bytes:Nat}{cs:List SV}{n z:Nat}{p:Plan}{m:Mem}{κ:Kont α}(h:(newK bytes cs n z p m κ).holds L):n*bytes≤140737488355328∧∃m',MPush m (.vec cs) m'∧(κ (.vsl m.next 0 n n z false) p m').holds L:=by
 obtain⟨hb,h⟩:=h
 obtain⟨m',h1,h2⟩:=Mem.push_holds h
 exact⟨by simpa using hb,m',h1,h2⟩
theorem grown_vec{w0:World}{R0:RSet}{ρ:Rho}{w:World}{m m':Mem}{xs ys:List SV}{old new:List Value}{e:TypeId}{zv:Value}{cap n k z:Nat}(hm:MRel w0 R0 ρ w m)(hp:MPush m (.vec (ys++xs)) m')(ho:RepL (RO w0 R0 ρ w m) ρ m.next w ys old)(hn:RepL (RO w0 R0 ρ w m) ρ m.next w xs new)
  (hl:old.length=n*z) (hl':new.length=k*z) (hz:zv.cells.size=z):
  OpOut w0 R0 ρ w m (.vsl m.next 0 (n+k) (n+k) z false) m' (.slice (some ⟨w.heap.size,0,none⟩) (n+k) (grownCap w (n+k) cap e)) (w.drew.alloc (.cells (⟨old⟩++⟨new⟩++Builtin.zeroCells zv.cells (grownCap w (n+k) cap e-(n+k))) e)):=by
 have hcap:n+k≤grownCap w (n+k) cap e:=Nat.le_add_right _ _
 refine push_vec (vs:=old++new) (rest:=(Builtin.zeroCells zv.cells (grownCap w (n+k) cap e-(n+k))).toList) hm hp rfl rfl rfl (by simp) (fun j hj=>Below.heap_alloc w.drew _ j hj) (heap_alloc_new w.drew _) (unfrozen_zero _) (by simp) (ho.append hn) (Nat.le_refl _) hcap (fun hc=>by cases hc) ?_
 have e1:(⟨old⟩:Array Value).size=old.length:=rfl
 have e2:(⟨new⟩:Array Value).size=new.length:=rfl
 simp only[Array.size_append,Builtin.zeroCells,Array.size_map,Array.size_range,hz,e1,e2,hl,hl',←Nat.add_mul]
 exact Nat.le_of_eq (by congr 1;omega)
theorem opAppendH_sound(hE:EOK P E){t:TypeId}{s x:SV}{p:Plan}{m:Mem}{κ:Kont α}(h:(opAppendH E t s x p m κ).holds L):
  ∃v p' m',(κ v p' m').holds L∧∀ (ts:Array TypeId) ty w0 R0 ρ w (sv xv:Value),(∀e,P.underlying t=some (.slice e)→AppOK P ts t e)→MRel w0 R0 ρ w m→Rep (RO w0 R0 ρ w m) ρ m.next w s sv→Rep (RO w0 R0 ρ w m) ρ m.next w x xv→
   Yields' P m v m' (Builtin.append_ ts ty #[sv,xv]) w0 R0 ρ w:=by
 unfold opAppendH at h
 split at h
 case h_2=>exact h.elim
 rename_i e sz by_ ze ty0 eg he hrow
 have hu:=(hE.row _ _ hrow).und
 dsimp only at hu
 split at h
 case h_2=>exact h.elim
 rename_i re hre
 have hok:=hE.row _ _ hre
 split at h
 case h_2=>exact h.elim
 rename_i hs
 simp only[Bool.and_eq_true,Nat.ble_eq]at hs
 obtain⟨hb1,hz1,hzl⟩:=hs
 have hzl:=Nat.eq_of_beq_eq_true hzl
 obtain⟨zv,hzr,hzc,_⟩:=run_zero' hok
 have hzs:zv.cells.size=re.size:=by
  have:=(hzc (fun _=>True) (fun _=>(0,0,0)) 0 default).length
  rw[hzl]at this;simpa using this
 replace h:=srcK_holds (P:=P) h
 obtain⟨xs,k,h,hsrc⟩:=h
 split at h
 · -- nil
   split at h
   ·refine⟨_,p,m,h,fun ts ty w0 R0 ρ w sv xv ha hm hsv hxv=>?_⟩
    rw[show sv=_ from hsv]
    obtain⟨vs,k1,k2,k3,k4,_⟩:=hsrc _ _ _ _ _ hm hxv
    refine⟨_,_,(append_room (ha e hu) hu hok k1 (Nat.le_refl _)).trans (by rw[k2 0 (Nat.le_refl _)];rfl),OpOut.same hm rfl⟩
   ·rename_i k
    obtain⟨hfit,m',h1,h2⟩:=newK_sound h
    refine⟨_,p,m',h2,fun ts ty w0 R0 ρ w sv xv ha hm hsv hxv=>?_⟩
    rw[show sv=_ from hsv]
    obtain⟨vs,k1,k2,k3,k4,_⟩:=hsrc _ _ _ _ _ hm hxv
    have k2':=k2 _ (Nat.le_refl _)
    rw[List.take_of_length_le (by omega)]at k2'
    have hrun:=append_grow (ts:=ts) (ty:=ty) (len:=0) (cap:=0) (base:=none) (old:=[]) (new:=vs) (z:=zv) (ha e hu) hu hok k1 (by omega) hb1 (by simpa using hfit) (by simp[Builtin.firstCells]) (firstCells_drew k2') hzr
    refine⟨_,_,hrun,?_⟩
    have:=grown_vec (n:=0) (ys:=[]) (old:=[]) (e:=e) (cap:=0) hm (by simpa using h1) rfl k3 (by simp) k4 hzs
    simpa using this
 ·rename_i id off n lb z ex
  split at h
  case h_2=>exact h.elim
  rename_i hz
  obtain rfl:=Nat.eq_of_beq_eq_true hz
  split at h
  ·refine⟨_,p,m,h,fun ts ty w0 R0 ρ w sv xv ha hm hsv hxv=>?_⟩
   have hsv':=hsv
   obtain⟨hid,a,cap,rfl,g1,g2,g3,g4,g5⟩:=hsv
   obtain⟨vs,k1,k2,k3,k4,_⟩:=hsrc _ _ _ _ _ hm hxv
   refine⟨_,_,(append_room (ha e hu) hu hok k1 (by omega)).trans (by rw[k2 0 (Nat.le_refl _)];simp[storeCells]),OpOut.same hm hsv'⟩
  ·rename_i k
   split at h
   case h_2=>exact h.elim
   rename_i cs hg
   split at h
   · -- room that is known
     rename_i hroom
     have hroom:n+(k+1)≤lb:=by simpa using hroom
     split at h
     case h_2=>exact h.elim
     rename_i hone
     rcases overK_holds _ _ _ _ h with⟨h0,h1⟩|⟨h0,h1⟩
     · -- nothing is appended: it cannot be
       obtain⟨m',h2,h3⟩:=Mem.set_holds h1
       refine⟨_,p,m',h3,fun ts ty w0 R0 ρ w sv xv ha hm hsv hxv=>?_⟩
       obtain⟨vs,k1,k2,k3,k4,_⟩:=hsrc _ _ _ _ _ hm hxv
       subst h0
       rw[show vs=[]from k3]at k4
       have:0< (k+1)*re.size:=Nat.mul_pos (by omega) (by omega)
       simp at k4;omega
     ·obtain⟨m',h2,h3⟩:=Mem.set_holds h1
      refine⟨_,p,m',h3,fun ts ty w0 R0 ρ w sv xv ha hm hsv hxv=>?_⟩
      obtain⟨hid,a,cap,rfl,g1,g2,g3,g4,g5⟩:=hsv
      obtain rfl:=g4 (by omega)
      obtain⟨vs,k1,k2,k3,k4,_⟩:=hsrc _ _ _ _ _ hm hxv
      have k2':=k2 _ (Nat.le_refl _)
      rw[List.take_of_length_le (by omega)]at k2'
      obtain⟨w',r1,r2,r3⟩:=vec_store (P:=P) hm hg h0 h2 k3 (repL_one k3 hone)
      refine⟨_,w',(append_room (ha e hu) hu hok k1 (by omega)).trans ?_,ρ,r2,r3,by rw[h2.2];exact hid,_,cap,rfl,hroom,g2,g3,fun _=>rfl,g5⟩
      rw[k2']
      simp only[Result.andThen_ok,Addr.add_lit]
      rw[Nat.add_assoc,r1]
      rfl
   ·rename_i hroom
    split at h
    case h_2=>exact h.elim
    rename_i hone
    have hroom:lb<n+(k+1):=by
     rcases Nat.lt_or_ge lb (n+(k+1))with h|h
     ·exact h
     ·rw[show Nat.ble (n+(k+1)) lb=true by simpa using h]at hroom;cases hroom
    have main:∀ (ys:List SV),((n*re.size=0∧ys=[])∨(off+n*re.size≤cs.length∧ys=(cs.drop off).take (n*re.size)))→(match(generalizing:=false) ex with
      |true=>newK re.bytes (ys++xs) (n+(k+1)) re.size p m κ
      |false=>m.set id none fun m=>newK re.bytes (ys++xs) (n+(k+1)) re.size p m κ:Tree α).holds L→∃v p' m',(κ v p' m').holds L∧∀ (ts:Array TypeId) ty w0 R0 ρ w (sv xv:Value),(∀e,P.underlying t=some (.slice e)→AppOK P ts t e)→MRel w0 R0 ρ w m→Rep (RO w0 R0 ρ w m) ρ m.next w (.vsl id off n lb re.size ex) sv→Rep (RO w0 R0 ρ w m) ρ m.next w x xv→
       Yields' P m v m' (Builtin.append_ ts ty #[sv,xv]) w0 R0 ρ w:=by
     intro ys hys h
     have hys2:ys=(cs.drop off).take (n*re.size)∧(n*re.size=0∨off+n*re.size≤cs.length):=by
      rcases hys with⟨h1,h2⟩|⟨h1,h2⟩
      ·exact⟨by rw[h2,h1];simp,.inl h1⟩
      ·exact⟨h2,.inr h1⟩
     obtain⟨rfl,hl⟩:=hys2
     cases ex with
     |true=>
      obtain⟨hfit,m',h1,h2⟩:=newK_sound h
      refine⟨_,p,m',h2,fun ts ty w0 R0 ρ w sv xv ha hm hsv hxv=>?_⟩
      obtain⟨a,cap,vs0,rfl,o1,o2⟩:=vsl_cells (P:=P) hm hg hl hsv
      obtain⟨hid,a',cap',hq,g1,g2,g3,g4,g5⟩:=hsv
      injection hq with q1 q2 q3
      subst q3
      have g3:=g3 rfl
      obtain⟨vs,k1,k2,k3,k4,_⟩:=hsrc _ _ _ _ _ hm hxv
      have k2':=k2 _ (Nat.le_refl _)
      rw[List.take_of_length_le (by omega)]at k2'
      have o3:(Builtin.firstCells re.size n (.slice (some a) n cap)).run P w=.ok ⟨vs0⟩ w:=o1
      have hrun:=append_grow (ts:=ts) (ty:=ty) (len:=n) (cap:=cap) (base:=some a) (old:=vs0) (new:=vs) (z:=zv) (ha e hu) hu hok k1 (by omega) hb1 hfit (firstCells_drew o3) (firstCells_drew k2') hzr
      exact⟨_,_,hrun,grown_vec hm h1 o2 k3 (by rw[o2.length];simp only[List.length_take,List.length_drop];omega) k4 hzs⟩
     |false=>
      obtain⟨m1,h1,h2⟩:=Mem.set_holds h
      obtain⟨hfit,m',h3,h4⟩:=newK_sound h2
      refine⟨_,p,m',h4,fun ts ty w0 R0 ρ w sv xv ha hm hsv hxv=>?_⟩
      obtain⟨a,cap,vs0,rfl,o1,o2⟩:=vsl_cells (P:=P) hm hg hl hsv
      obtain⟨hid,a',cap',hq,g1,g2,g3,g4,g5⟩:=hsv
      injection hq with q1 q2 q3
      injection q1 with q1
      subst q1 q3
      obtain⟨vs,k1,k2,k3,k4,_⟩:=hsrc _ _ _ _ _ hm hxv
      have k2':=k2 _ (Nat.le_refl _)
      rw[List.take_of_length_le (by omega)]at k2'
      have k4:vs.length=(k+1)*re.size:=k4
      by_cases hle:n+(k+1)≤cap
      · -- in place
        obtain rfl:=g4 (by omega)
        obtain⟨arr,el,fr,b1,b2,b3,b4,b5⟩:=hm.box id _ hg
        have hfits:off+(n+(k+1))*re.size≤(ρ id).2.2:=Nat.le_trans (Nat.add_le_add_left (Nat.mul_le_mul_right _ hle) _) g5
        have hroom2:(n+(k+1))*re.size=n*re.size+(k+1)*re.size:=Nat.add_mul _ _ _
        obtain⟨w',r1,r2,r3,r4,r5,r6,r7⟩:=run_storeCells' (P:=P) (ρ id).1 ((ρ id).2.1+off+n*re.size) el fr vs 0 arr w b1 b2 (by omega) (repL_one k3 hone)
        rw[Nat.add_zero]at r2
        obtain⟨f1,f2⟩:=hm.over (w':=w') (r:=((ρ id).1,(ρ id).2.1+off,(ρ id).2.2-off)) hg trivial h1 h3 rfl r3 r4 r5 r6 r7 (fun R n' ρ' e'=>by
         refine⟨_,el,fr,r2,unfrozen_over b2 (by omega),by rw[overA_size (by omega)];show arr.size=(ρ id).2.1+off+((ρ id).2.2-off);omega,?_,?_⟩
         ·show(((cs.drop off).take (n*re.size))++xs).length≤(ρ id).2.2-off
          rw[List.length_append,←k3.length,k4,List.length_take,List.length_drop]
          omega
         ·have hlen:(((cs.drop off).take (n*re.size))++xs).length=(n+(k+1))*re.size:=by
           rw[List.length_append,←k3.length,k4,List.length_take,List.length_drop,hroom2];omega
          show RepL R ρ' n' w' _ (((overA arr ((ρ id).2.1+off+n*re.size) vs).toList.drop ((ρ id).2.1+off)).take _)
          rw[hlen,vec_over (by omega) (by omega),show List.drop (n*re.size+vs.length) (((arr.toList.drop ((ρ id).2.1+off))).take ((n+(k+1))*re.size))=[]from List.drop_of_length_le (by simp only[List.length_take];omega),List.append_nil,List.take_take,Nat.min_eq_left (by omega)]
          refine RepL.append ?_ (RepL.mono e' _ _ k3)
          have b5':=RepL.mono e' _ _ ((b5.drop off).take (n*re.size))
          rcases hl with h0|h0
          ·rw[h0];simp[RepL]
          ·rw[List.drop_take,List.take_take,List.drop_drop,Nat.min_eq_left (by omega)]at b5'
           exact b5')
        refine⟨.slice (some ⟨(ρ id).1,(ρ id).2.1+off,none⟩) (n+(k+1)) cap,w',(append_room (ha e hu) hu hok k1 hle).trans ?_,_,f1,f2,by rw[h3.2,h1.2];omega,⟨(ρ id).1,(ρ id).2.1+off,none⟩,cap,rfl,Nat.le_refl _,hle,fun hc=>(by cases hc),fun _=>?_,?_⟩
        ·rw[k2']
         simp only[Result.andThen_ok,Addr.add_lit]
         rw[r1]
         rfl
        ·rw[h1.2,upd_same];rfl
        ·rw[h1.2,upd_same]
         show 0+cap*re.size≤(ρ id).2.2-off
         omega
      ·have o3:(Builtin.firstCells re.size n (.slice (some a) n cap)).run P w=.ok ⟨vs0⟩ w:=o1
       have hrun:=append_grow (ts:=ts) (ty:=ty) (len:=n) (cap:=cap) (base:=some a) (old:=vs0) (new:=vs) (z:=zv) (ha e hu) hu hok k1 (by omega) hb1 hfit (firstCells_drew o3) (firstCells_drew k2') hzr
       obtain⟨d1,d2⟩:=hm.drop h1
       obtain⟨ρ',f1,f2,f3⟩:=grown_vec (n:=n) (k:=k+1) (z:=re.size) (e:=e) (cap:=cap) d1 h3 (RepL.mono d2 _ _ o2) (RepL.mono d2 _ _ k3) (by rw[o2.length];simp only[List.length_take,List.length_drop];omega) k4 hzs
       exact⟨_,_,hrun,ρ',f1,d2.trans f2,f3⟩
    rcases takeK_holds _ _ _ _ h with⟨h0,h1⟩|⟨h0,h1⟩
    ·exact main [] (.inl ⟨h0,rfl⟩) h1
    ·exact main _ (.inr ⟨h0,rfl⟩) h1
 ·rename_i id off n
  split at h
  ·refine⟨_,p,m,h,fun ts ty w0 R0 ρ w sv xv ha hm hsv hxv=>?_⟩
   have hsv':=hsv
   obtain⟨hid,rfl⟩:=hsv
   obtain⟨vs,k1,k2,k3,k4,_⟩:=hsrc _ _ _ _ _ hm hxv
   refine⟨_,_,(append_room (ha e hu) hu hok k1 (by omega)).trans (by rw[k2 0 (Nat.le_refl _)];simp[storeCells]),OpOut.same hm hsv'⟩
  ·rename_i k
   split at h
   case h_2=>exact h.elim
   rename_i cs hg
   have main:∀ (ys:List SV),((n*re.size=0∧ys=[])∨(off+n*re.size≤cs.length∧ys=(cs.drop off).take (n*re.size)))→(newK re.bytes (ys++xs) (n+(k+1)) re.size p m κ).holds L→∃v p' m',(κ v p' m').holds L∧∀ (ts:Array TypeId) ty w0 R0 ρ w (sv xv:Value),(∀e,P.underlying t=some (.slice e)→AppOK P ts t e)→MRel w0 R0 ρ w m→Rep (RO w0 R0 ρ w m) ρ m.next w (.arr id off n) sv→Rep (RO w0 R0 ρ w m) ρ m.next w x xv→
       Yields' P m v m' (Builtin.append_ ts ty #[sv,xv]) w0 R0 ρ w:=by
    intro ys hys h
    have hys2:ys=(cs.drop off).take (n*re.size)∧(n*re.size=0∨off+n*re.size≤cs.length):=by
     rcases hys with⟨h1,h2⟩|⟨h1,h2⟩
     ·exact⟨by rw[h2,h1];simp,.inl h1⟩
     ·exact⟨h2,.inr h1⟩
    obtain⟨rfl,hl⟩:=hys2
    obtain⟨hfit,m',h1,h2⟩:=newK_sound h
    refine⟨_,p,m',h2,fun ts ty w0 R0 ρ w sv xv ha hm hsv hxv=>?_⟩
    obtain⟨hid,rfl⟩:=hsv
    obtain⟨vs0,o1,o2⟩:=run_loadCells_at (P:=P) (ptr_cells hm hg) hl
    rw[Nat.zero_add]at o1
    obtain⟨vs,k1,k2,k3,k4,_⟩:=hsrc _ _ _ _ _ hm hxv
    have k2':=k2 _ (Nat.le_refl _)
    rw[List.take_of_length_le (by omega)]at k2'
    have o3:(Builtin.firstCells re.size n (.slice (some ⟨(ρ id).1,off,none⟩) n n)).run P w=.ok ⟨vs0⟩ w:=o1
    have hrun:=append_grow (ts:=ts) (ty:=ty) (len:=n) (cap:=n) (base:=some ⟨(ρ id).1,off,none⟩) (old:=vs0) (new:=vs) (z:=zv) (ha e hu) hu hok k1 (by omega) hb1 hfit (firstCells_drew o3) (firstCells_drew k2') hzr
    exact⟨_,_,hrun,grown_vec hm h1 o2 k3 (by rw[o2.length];simp only[List.length_take,List.length_drop];omega) k4 hzs⟩
   rcases takeK_holds _ _ _ _ h with⟨h0,h1⟩|⟨h0,h1⟩
   ·exact main [] (.inl ⟨h0,rfl⟩) h1
   ·exact main _ (.inr ⟨h0,rfl⟩) h1
 ·exact h.elim
theorem storeK_holds{id off:Nat}{ys:List SV}{m:Mem}{k:Mem→Tree α}(h:(storeK id off ys m k).holds L)(hne:ys≠[]):∃cs m',m.get id=some (.vec cs)∧all1 ys=true∧off+ys.length≤cs.length∧MSet m id (some (.vec (over cs off ys))) m'∧(k m').holds L:=by
 unfold storeK at h
 split at h
 case h_2=>exact h.elim
 rename_i cs hg
 split at h
 case h_2=>exact h.elim
 rename_i hone
 rcases overK_holds _ _ _ _ h with⟨h0,h1⟩|⟨h0,h1⟩
 ·exact absurd h0 hne
 ·obtain⟨m',h2,h3⟩:=Mem.set_holds h1
  exact⟨cs,m',hg,hone,h0,h2,h3⟩
theorem opCopyH_sound(hE:EOK P E){t:TypeId}{d x:SV}{p:Plan}{m:Mem}{κ:Kont α}(h:(opCopyH E t d x p m κ).holds L):
  ∃v p' m',(κ v p' m').holds L∧∀ (ts:Array TypeId) ty w0 R0 ρ w (dv xv:Value),ts[0]? =some t→MRel w0 R0 ρ w m→Rep (RO w0 R0 ρ w m) ρ m.next w d dv→Rep (RO w0 R0 ρ w m) ρ m.next w x xv→
   ∃u w',(Builtin.copy_ ts ty #[dv,xv]).run P w=.ok u w'∧OpOut w0 R0 ρ w m v m' u w':=by
 unfold opCopyH at h
 split at h
 case h_2=>exact h.elim
 rename_i e sz by_ ze ty0 eg he hrow
 have hu:=(hE.row _ _ hrow).und
 dsimp only at hu
 split at h
 case h_2=>exact h.elim
 rename_i re hre
 have hok:=hE.row _ _ hre
 split at h
 case h_2=>exact h.elim
 rename_i hs
 have hz1:1≤re.size:=by simpa using hs
 replace h:=srcK_holds (P:=P) h
 obtain⟨xs,k,h,hsrc⟩:=h
 have run:∀ (ts:Array TypeId) ty (base:Option Addr) (len cap:Nat) (xv:Value) (w:World) (cells:List Value),ts[0]? =some t→(Builtin.lenOf xv).run P w=.ok k w→(Builtin.firstCells re.size (min k len) xv).run P w=.ok ⟨cells⟩ w→
   (Builtin.copy_ ts ty #[.slice base len cap,xv]).run P w=match base with
     |some a=>((storeCells a cells).run P w).andThen fun _ w=>.ok (goInt (min k len:Nat)) w
     |none=>.ok (goInt (min k len:Nat)) w:=by
  intro ts ty base len cap xv w cells ht h1 h2
  have h2':(Builtin.firstCells re.size (Nat.min k len) xv).run P w=.ok ⟨cells⟩ w:=h2
  cases base<;>simp[Builtin.copy_,ht,run_underlying hu,run_sizeOf' hok,h1,h2']<;>rfl
 split at h
 ·refine⟨_,p,m,h,fun ts ty w0 R0 ρ w dv xv ht hm hd hx=>?_⟩
  rw[show dv=_ from hd]
  obtain⟨vs,k1,k2,k3,k4,_⟩:=hsrc _ _ _ _ _ hm hx
  refine⟨goInt 0,w,(run ts ty none 0 0 xv w _ ht k1 (k2 _ (Nat.min_le_left _ _))).trans ?_,OpOut.same hm rfl⟩
  simp
 ·rename_i id off n lb z ex
  split at h
  case h_2=>exact h.elim
  rename_i hz
  obtain rfl:=Nat.eq_of_beq_eq_true hz
  split at h
  ·rename_i hmin
   refine⟨_,p,m,h,fun ts ty w0 R0 ρ w dv xv ht hm hd hx=>?_⟩
   obtain⟨hid,a,cap,rfl,g1,g2,g3,g4,g5⟩:=hd
   obtain⟨vs,k1,k2,k3,k4,_⟩:=hsrc _ _ _ _ _ hm hx
   refine⟨goInt 0,w,(run ts ty (some a) n cap xv w _ ht k1 (k2 _ (Nat.min_le_left _ _))).trans ?_,OpOut.same hm rfl⟩
   rw[hmin]
   simp[storeCells]
  ·rename_i j hmin
   have main:∀ys,ys=xs.take ((j+1)*re.size)→(storeK id off ys m fun m=>κ (.int .i64 (j+1:Nat)) p m).holds L→∃v p' m',(κ v p' m').holds L∧∀ (ts:Array TypeId) ty w0 R0 ρ w (dv xv:Value),ts[0]? =some t→MRel w0 R0 ρ w m→Rep (RO w0 R0 ρ w m) ρ m.next w (.vsl id off n lb re.size ex) dv→Rep (RO w0 R0 ρ w m) ρ m.next w x xv→
     ∃u w',(Builtin.copy_ ts ty #[dv,xv]).run P w=.ok u w'∧OpOut w0 R0 ρ w m v m' u w':=by
    intro ys hys h
    by_cases hne:ys=[]
    · -- then nothing can be read at all
      subst hne
      unfold storeK at h
      split at h
      case h_2=>exact h.elim
      rename_i cs hg
      split at h
      case h_2=>exact h.elim
      rcases overK_holds _ _ _ _ h with⟨h0,h1⟩|⟨h0,h1⟩
      all_goals
       obtain⟨m',h2,h3⟩:=Mem.set_holds h1
       refine⟨_,p,m',h3,fun ts ty w0 R0 ρ w dv xv ht hm hd hx=>?_⟩
       obtain⟨vs,k1,k2,k3,k4,_⟩:=hsrc _ _ _ _ _ hm hx
       have hl:=k3.length
       have e1:([] :List SV).length=(xs.take ((j+1)*re.size)).length:=by rw[←hys]
       rw[List.length_take,←hl,k4,List.length_nil]at e1
       have e2:(j+1)*re.size≤k*re.size:=Nat.mul_le_mul_right _ (by rw[←Nat.succ_eq_add_one,←hmin];exact Nat.min_le_left _ _)
       have e3:0< (j+1)*re.size:=Nat.mul_pos (by omega) (by omega)
       omega
    ·obtain⟨cs,m',hg,hone,hfit,hset,h3⟩:=storeK_holds h hne
     refine⟨_,p,m',h3,fun ts ty w0 R0 ρ w dv xv ht hm hd hx=>?_⟩
     obtain⟨hid,a,cap,rfl,g1,g2,g3,g4,g5⟩:=hd
     obtain⟨vs,k1,k2,k3,k4,_⟩:=hsrc _ _ _ _ _ hm hx
     have hn:j+1≤n:=by rw[←Nat.succ_eq_add_one,←hmin];exact Nat.min_le_right _ _
     have hk:j+1≤k:=by rw[←Nat.succ_eq_add_one,←hmin];exact Nat.min_le_left _ _
     obtain rfl:=g4 (by omega)
     have k2':=k2 (min k n) (Nat.min_le_left _ _)
     have k3':RepL (RO w0 R0 ρ w m) ρ m.next w ys (vs.take ((j+1)*re.size)):=by rw[hys];exact k3.take _
     obtain⟨w',r1,r2,r3⟩:=vec_store (P:=P) hm hg hfit hset k3' (repL_one k3' hone)
     refine⟨goInt (j+1:Nat),w',(run ts ty (some _) n cap xv w _ ht k1 k2').trans ?_,ρ,r2,r3,rfl⟩
     rw[hmin]
     simp only[Nat.succ_eq_add_one]
     rw[r1]
     rfl
   rcases takeK_holds _ _ _ _ h with⟨h0,h1⟩|⟨h0,h1⟩
   ·have:0< (j+1)*re.size:=Nat.mul_pos (by omega) (by omega)
    omega
   ·exact main _ (by simp) h1
 ·exact h.elim
theorem repeat_rep{R:Nat→Prop}{ρ:Rho}{n:Nat}{w:World}{z:List SV}{zs:List Value}(h:RepL R ρ n w z zs):∀k,RepL R ρ n w (repeatL z k) ((List.range (k*zs.length)).map fun i=>zs.getD (i % zs.length) default)
 |0=>by simp[repeatL,RepL]
 |k+1=>by
  have ih:=repeat_rep h k
  rcases Nat.eq_zero_or_pos zs.length with h0|h0
  ·have hz:z=[] :=List.eq_nil_of_length_eq_zero (by rw[←h.length];exact h0)
   have:∀j,repeatL z j=[] :=by
    intro j;induction j with
    |zero=>rfl
    |succ j ih=>simp[repeatL,hz]at ih ⊢;exact ih
   rw[this,h0];simp[RepL]
  ·have e:(List.range ((k+1)*zs.length)).map (fun i=>zs.getD (i % zs.length) default)=zs++(List.range (k*zs.length)).map fun i=>zs.getD (i % zs.length) default:=by
    rw[Nat.succ_mul,Nat.add_comm,List.range_add,List.map_append,List.map_map]
    congr 1
    ·apply List.ext_getElem?
     intro j
     by_cases hj:j<zs.length
     ·simp[hj,Nat.mod_eq_of_lt hj]
     ·simp[hj]
    ·apply List.map_congr_left
     intro j _
     simp
   rw[e]
   exact h.append ih
theorem zeros_list{z:Value}{size:Nat}(hzs:z.cells.size=size)(k:Nat):((Array.range (k*size)).map (z.cells[· % size]!)).toList=(List.range (k*z.cells.toList.length)).map fun i=>z.cells.toList.getD (i % z.cells.toList.length) default:=by
 have hl:z.cells.toList.length=size:=by simpa using hzs
 simp only[Array.toList_map,Array.toList_range,hl]
 apply List.map_congr_left
 intro i hi
 have hlt:=List.mem_range.1 hi
 have h0:0<size:=by
  rcases Nat.eq_zero_or_pos size with h0|h0
  ·rw[h0]at hlt;simp at hlt
  ·exact h0
 have hk:i % size<z.cells.size:=by rw[hzs];exact Nat.mod_lt _ h0
 simp[List.getD,getElem!_pos,hk]
theorem opClearH_sound(hE:EOK P E){t:TypeId}{x:SV}{p:Plan}{m:Mem}{κ:Kont α}(h:(opClearH E t x p m κ).holds L):
  ∃v p' m',(κ v p' m').holds L∧∀ (ts:Array TypeId) ty w0 R0 ρ w (xv:Value),ts[0]? =some t→MRel w0 R0 ρ w m→Rep (RO w0 R0 ρ w m) ρ m.next w x xv→
   ∃u w',(Builtin.clear_ ts ty #[xv]).run P w=.ok u w'∧OpOut w0 R0 ρ w m v m' u w':=by
 unfold opClearH at h
 split at h
 case h_2=>exact h.elim
 rename_i e sz by_ ze ty0 eg he hrow
 have hu:=(hE.row _ _ hrow).und
 dsimp only at hu
 split at h
 case h_2=>exact h.elim
 rename_i re hre
 have hok:=hE.row _ _ hre
 split at h
 case h_2=>exact h.elim
 rename_i hs
 rw[Bool.and_eq_true]at hs
 have hzl:=Nat.eq_of_beq_eq_true hs.1
 have hz1:1≤re.size:=by simpa using hs.2
 obtain⟨zv,hzr,hzc,_⟩:=run_zero' hok
 have hzs:zv.cells.size=re.size:=by
  have:=(hzc (fun _=>True) (fun _=>(0,0,0)) 0 default).length
  rw[hzl]at this;simpa using this
 split at h
 ·refine⟨_,p,m,h,fun ts ty w0 R0 ρ w xv ht hm hx=>?_⟩
  rw[show xv=_ from hx]
  exact⟨.tuple #[],w,by simp[Builtin.clear_,ht,run_underlying hu],OpOut.same hm ⟨[],rfl,rfl⟩⟩
 ·rename_i id off n lb z ex
  split at h
  case h_2=>exact h.elim
  rename_i hz
  obtain rfl:=Nat.eq_of_beq_eq_true hz
  split at h
  ·refine⟨_,p,m,h,fun ts ty w0 R0 ρ w xv ht hm hx=>?_⟩
   obtain⟨hid,a,cap,rfl,_⟩:=hx
   exact⟨.tuple #[],w,by simp[Builtin.clear_,ht,run_underlying hu],OpOut.same hm ⟨[],rfl,rfl⟩⟩
  ·rename_i n
   rw[frcL_eq]at h
   have hne:repeatL re.zero (n+1)≠[] :=by
    intro hc
    have:(repeatL re.zero (n+1)).length=0:=by rw[hc];rfl
    simp only[repeatL,List.length_append]at this
    omega
   obtain⟨cs,m',hg,hone,hfit,hset,h3⟩:=storeK_holds h hne
   refine⟨_,p,m',h3,fun ts ty w0 R0 ρ w xv ht hm hx=>?_⟩
   obtain⟨hid,a,cap,rfl,g1,g2,g3,g4,g5⟩:=hx
   obtain rfl:=g4 (by omega)
   have k3:=repeat_rep (hzc (RO w0 R0 ρ w m) ρ m.next w) (n+1)
   obtain⟨w',r1,r2,r3⟩:=vec_store (P:=P) hm hg hfit hset k3 (repL_one k3 hone)
   refine⟨.tuple #[],w',?_,ρ,r2,r3,[],rfl,rfl⟩
   have hzc2:(Builtin.zeroCells zv.cells (n+1)).toList=(List.range ((n+1)*zv.cells.toList.length)).map fun i=>zv.cells.toList.getD (i % zv.cells.toList.length) default:=by
    rw[←zeros_list hzs,Builtin.zeroCells,hzs]
   rw[←hzc2]at r1
   simp[Builtin.clear_,ht,run_underlying hu,hzr,r1]
 ·exact h.elim
theorem boundsH{lo hi mx:Option SV}{n lb cap:Nat}{b1 b2 b3:Bool}{l h c:Nat}(e1:boundOf 0 lo=some (b1,l))(e2:boundOf n hi=some (b2,h))(e3:boundOf lb mx=some (b3,c))(hb:b1=true∧b2=true∧b3=true)(h1:l≤h)(h2:h≤c)(h3:c≤lb)(h4:lb≤cap)
  (hm:¬(mx.isSome&&hi.isNone)=true) {R:Nat→Prop} {ρ:Rho} {k:Nat} {w:World} {lv hv mv:Option Value} (hl:OptRep R ρ k w lo lv) (hh:OptRep R ρ k w hi hv) (hx:OptRep R ρ k w mx mv):
  (Instr.sliceBounds true n cap lv hv mv).run P w=.ok (l,h,if mx.isSome then c else cap) w:=by
 obtain⟨rfl,rfl,rfl⟩:=hb
 -- what each bound is
 have one:∀{d:Nat} {x:Option SV} {v:Option Value} {j:Nat},boundOf d x=some (true,j)→OptRep R ρ k w x v→(x=none∧v=none∧j=d)∨∃kk i,v=some (.int kk i)∧x.isSome=true∧0≤i∧j=i.toNat:=by
  intro d x v j he ho
  cases x with
  |none=>
   cases v with
   |none=>simp only[boundOf,Option.some.injEq,Prod.mk.injEq,true_and]at he;exact .inl ⟨rfl,rfl,he.symm⟩
   |some v=>exact ho.elim
  |some x=>
   cases v with
   |none=>exact ho.elim
   |some v=>
    cases x<;>simp only[boundOf,Option.some.injEq,Prod.mk.injEq,decide_eq_true_eq]at he<;>try(cases he;done)
    rename_i kk i
    obtain rfl:v=_:=ho
    exact .inr ⟨kk,i,rfl,rfl,he.1,he.2.symm⟩
 rcases one e1 hl with⟨rfl,rfl,rfl⟩|⟨k1,i1,rfl,s1,p1,rfl⟩<;>rcases one e2 hh with⟨rfl,rfl,rfl⟩|⟨k2,i2,rfl,s2,p2,rfl⟩<;>rcases one e3 hx with⟨rfl,rfl,rfl⟩|⟨k3,i3,rfl,s3,p3,rfl⟩
 ·simp[Instr.sliceBounds]
 ·simp[s3]at hm
 ·simp[Instr.sliceBounds,sliceBound_ok (P:=P) (k:=k2) (i:=i2) (y:=cap) (code:=.sliceAcap) (by omega) w]
 ·simp[Instr.sliceBounds,s3,sliceBound_ok (P:=P) (k:=k3) (i:=i3) (y:=cap) (code:=.slice3Acap) (by omega) w,sliceBound_ok (P:=P) (k:=k2) (i:=i2) (y:=i3.toNat) (code:=.slice3B) (by omega) w]
 ·simp[Instr.sliceBounds,sliceBound_ok (P:=P) (k:=k1) (i:=i1) (y:=h) (code:=.sliceB) (by omega) w]
 ·simp[s3]at hm
 ·simp[Instr.sliceBounds,sliceBound_ok (P:=P) (k:=k2) (i:=i2) (y:=cap) (code:=.sliceAcap) (by omega) w,sliceBound_ok (P:=P) (k:=k1) (i:=i1) (y:=i2.toNat) (code:=.sliceB) (by omega) w]
 ·simp[Instr.sliceBounds,s3,sliceBound_ok (P:=P) (k:=k3) (i:=i3) (y:=cap) (code:=.slice3Acap) (by omega) w,sliceBound_ok (P:=P) (k:=k2) (i:=i2) (y:=i3.toNat) (code:=.slice3B) (by omega) w,sliceBound_ok (P:=P) (k:=k1) (i:=i1) (y:=i2.toNat) (code:=.slice3C) (by omega) w]
theorem run_sliceAt_slice{t e:TypeId}(hu:P.underlying t=some (.slice e))(x:Value)(l h m:Option Value)(w:World):(Instr.sliceAt t x l h m).run P w=(Instr.slice t x l h m).run P w:=by
 simp only[Instr.sliceAt,Sem.run_bind,run_underlying hu,Result.andThen_ok]
theorem opSliceH_sound(hE:EOK P E){t:TypeId}{x:SV}{lo hi mx:Option SV}{p:Plan}{m:Mem}{κ:Kont α}(h:(opSliceH E t x lo hi mx p m κ).holds L):
  ∃v m',(κ v p m').holds L∧(mx=none→m'=m)∧∀w0 R0 ρ w (xv:Value) (lv hv mv:Option Value),MRel w0 R0 ρ w m→Rep (RO w0 R0 ρ w m) ρ m.next w x xv→OptRep (RO w0 R0 ρ w m) ρ m.next w lo lv→OptRep (RO w0 R0 ρ w m) ρ m.next w hi hv→OptRep (RO w0 R0 ρ w m) ρ m.next w mx mv→
   Yields' P m v m' (Instr.sliceAt t xv lv hv mv) w0 R0 ρ w:=by
 unfold opSliceH at h
 split at h
 case h_2=>exact opSlice_sound hE h
 rename_i e sz by_ ze ty0 eg he hrow
 have hu:=(hE.row _ _ hrow).und
 dsimp only at hu
 split at h
 case h_2=>exact h.elim
 rename_i re hre
 have hok:=hE.row _ _ hre
 split at h
 · -- nil
   split at h
   case h_2=>exact h.elim
   rename_i b1 l b2 hh b3 c e1 e2 e3
   split at h
   ·exact h.elim
   rename_i hm
   obtain⟨hb,h⟩:=h
   simp only[Bool.and_eq_true]at hb
   obtain⟨hb1,hb2,hb3,q1,q2,q3⟩:=hb
   obtain rfl:=Nat.eq_of_beq_eq_true q1
   obtain rfl:=Nat.eq_of_beq_eq_true q2
   obtain rfl:=Nat.eq_of_beq_eq_true q3
   refine⟨_,m,h,fun _=>rfl,fun w0 R0 ρ w xv lv hv mv hm' hx hl hh hxx=>?_⟩
   rw[show xv=_ from hx]
   have hbs:=boundsH (P:=P) (cap:=0) e1 e2 e3 ⟨hb1,hb2,hb3⟩ (Nat.le_refl _) (Nat.le_refl _) (Nat.le_refl _) (Nat.le_refl _) (by rw[hm];simp) hl hh hxx
   refine⟨.slice none 0 0,w,?_,OpOut.same hm' rfl⟩
   rw[run_sliceAt_slice hu]
   simp[Instr.slice,run_underlying hu,hbs,run_sizeOf' hok]
 ·rename_i id off n lb z ex
  split at h
  case h_2=>exact h.elim
  rename_i hz
  obtain rfl:=Nat.eq_of_beq_eq_true hz
  split at h
  case h_2=>exact h.elim
  rename_i b1 l b2 hh b3 c e1 e2 e3
  split at h
  ·exact h.elim
  rename_i hm
  obtain⟨hb,h⟩:=h
  simp only[Bool.and_eq_true,Nat.ble_eq]at hb
  obtain⟨hb1,hb2,hb3,q1,q2,q3⟩:=hb
  rw[frcN_eq,frcN_eq,frcN_eq]at h
  refine⟨_,m,h,fun _=>rfl,fun w0 R0 ρ w xv lv hv mv hm' hx hl hh' hxx=>?_⟩
  obtain⟨hid,a,cap,rfl,g1,g2,g3,g4,g5⟩:=hx
  have hbs:=boundsH (P:=P) e1 e2 e3 ⟨hb1,hb2,hb3⟩ q1 q2 q3 g2 (by rw[hm];simp) hl hh' hxx
  have hM:∃M,(if mx.isSome then c else cap)=M∧c≤M∧M≤cap∧(ex=true∨mx.isSome=true→M=c):=by
   cases hmx:mx.isSome with
   |true=>exact⟨c,by simp,Nat.le_refl _,by omega,fun _=>rfl⟩
   |false=>
    refine⟨cap,by simp,by omega,Nat.le_refl _,fun hc=>?_⟩
    have hex:ex=true:=hc.elim (fun h=>h) (fun h=>by cases h)
    cases mx with
    |some _=>cases hmx
    |none=>
     simp only[boundOf,Option.some.injEq,Prod.mk.injEq]at e3
     rw[g3 hex];exact e3.2
  obtain⟨M,m1,m2,m3,m4⟩:=hM
  rw[m1]at hbs
  refine⟨.slice (some (if M=l then a else a.add (l*re.size))) (hh-l) (M-l),w,?_,OpOut.same hm' ⟨hid,_,M-l,rfl,by omega,by omega,fun hx=>?_,fun hpos=>?_,?_⟩⟩
  ·rw[run_sliceAt_slice hu]
   simp only[Instr.slice,Sem.run_bind,run_underlying hu,Result.andThen_ok,hbs,run_sizeOf' hok,Sem.run_pure]
   by_cases hMl:M=l<;>simp[hMl]
  ·rw[m4 (by simpa[Bool.or_eq_true]using hx)]
  ·rw[if_neg (by omega),g4 (by omega),Addr.add_lit,Nat.add_assoc]
  ·have:l*re.size+(M-l)*re.size≤cap*re.size:=by
    rw[←Nat.add_mul];exact Nat.mul_le_mul_right _ (by omega)
   omega
 ·exact opSlice_sound hE h
theorem opMakeSliceH_sound(hE:EOK P E){t:TypeId}{len cap:SV}{p:Plan}{m:Mem}{κ:Kont α}(h:(opMakeSliceH E t len cap p m κ).holds L):
  ∃v m',(κ v p m').holds L∧∀w0 R0 ρ w (lv cv:Value),MRel w0 R0 ρ w m→Rep (RO w0 R0 ρ w m) ρ m.next w len lv→Rep (RO w0 R0 ρ w m) ρ m.next w cap cv→Yields' P m v m' (Instr.makeSlice t lv cv) w0 R0 ρ w:=by
 unfold opMakeSliceH at h
 split at h
 case h_2=>exact h.elim
 rename_i n c
 split at h
 case h_2=>exact h.elim
 rename_i e sz by_ ze ty eg he hr
 have hu:=(hE.row _ _ hr).und
 dsimp only at hu
 split at h
 case h_2=>exact h.elim
 rename_i re hre
 have hok:=hE.row _ _ hre
 obtain⟨z,hz1,hz2,hz3⟩:=run_zero' hok
 obtain⟨i,hi,hib,his⟩:=run_typeInfo' hok
 split at h
 case h_2=>exact h.elim
 rename_i hs
 rw[Bool.and_eq_true]at hs
 have hzl:=Nat.eq_of_beq_eq_true hs.1
 have hpos:1≤re.size:=by simpa using hs.2
 have hzs:z.cells.size=re.size:=by
  have:=(hz2 (fun _=>True) (fun _=>(0,0,0)) 0 default).length
  rw[hzl]at this;simpa using this
 obtain⟨hb,h⟩:=h
 simp only[Bool.and_eq_true,decide_eq_true_eq,Nat.ble_eq]at hb
 obtain⟨hb1,⟨hb2,hb3⟩,hb4⟩:=hb
 rw[frcL_eq]at h
 obtain⟨m',h1,h2⟩:=Mem.push_holds h
 refine⟨_,m',h2,fun w0 R0 ρ w lv cv hm hl hc=>?_⟩
 rw[show lv=_ from hl,show cv=_ from hc]
 have hw:∀k:Int,0≤k→k≤9223372036854775807→i64.wrap k=k:=by
  intro k h0 h1
  unfold IntKind.wrap
  simp only[IntKind.signed,IntKind.bits]
  have:k % (2 ^ 64:Int)=k:=Int.emod_eq_of_lt h0 (by omega)
  simp only[this]
  rw[if_neg (by simp;omega)]
 have hwn:=hw n hb1 (by omega)
 have hwc:=hw c (by omega) hb4
 have hzero:∃zs:Array Value,((c.toNat*re.size=0∧zs=#[])∨(¬c.toNat*re.size=0∧zs=z.cells))∧((Array.range (c.toNat*re.size)).map (zs[· % zs.size]!)).toList=(List.range (c.toNat*z.cells.toList.length)).map fun i=>z.cells.toList.getD (i % z.cells.toList.length) default:=by
  by_cases h0:c.toNat*re.size=0
  ·refine⟨#[],.inl ⟨h0,rfl⟩,?_⟩
   have:z.cells.toList.length=re.size:=by simpa using hzs
   rw[this,h0];simp
  ·refine⟨z.cells,.inr ⟨h0,rfl⟩,?_⟩
   rw[hzs]
   exact zeros_list hzs _
 obtain⟨zs,q1,q2⟩:=hzero
 have hkey:=push_vec (n:=n.toNat) (lb:=c.toNat) (cap:=c.toNat) (z:=re.size) (ex:=true) (vs:=(List.range (c.toNat*z.cells.toList.length)).map fun i=>z.cells.toList.getD (i % z.cells.toList.length) default) (rest:=[])
  (w1:=w.alloc (.cells ((Array.range (c.toNat*re.size)).map (zs[· % zs.size]!)) e)) hm h1 rfl rfl rfl (by simp) (fun k hk=>Below.heap_alloc w _ k hk) (heap_alloc_new w _) (unfrozen_zero _) (by rw[q2];simp) (repeat_rep (hz2 _ _ _ _) _) (by omega) (Nat.le_refl _) (fun _=>rfl) (by simp)
 refine⟨_,_,?_,hkey⟩
 have t1:¬n<0:=by omega
 have t2:¬(281474976710656< (i.bytes:Int)*c):=by
  have e1:(i.bytes:Int)=(re.bytes:Int):=by rw[hib]
  have e2:((re.bytes*c.toNat:Nat):Int)=(re.bytes:Int)*c:=by
   rw[Int.natCast_mul,Int.toNat_of_nonneg (by omega)]
  rw[e1];omega
 have hsr:=run_sizeOf' hok
 simp only[Instr.makeSlice,Sem.run_bind,run_underlying hu,Result.andThen_ok,asInt,asIntOf,Sem.run_pure,hi,hwn,hwc]
 rw[if_neg (by simp;omega)]
 simp only[Sem.run_bind,run_askRoom,Result.andThen_ok,hsr,pure_bind]
 rcases q1 with⟨h0,rfl⟩|⟨h0,rfl⟩
 ·rw[if_pos h0]
  simp[newRow]
 ·rw[if_neg h0]
  simp only[Sem.run_bind,hz1,Result.andThen_ok]
  simp[newRow]
end
section
variable {P:Program} {E:Env} {α:Type} {L:α→Prop}
theorem run_getMap{w:World}{r:Nat}{es:Array MapEntry}{c:Nat}(hb:w.heap[r]? =some (.map es c)):(getObj r).run P w=.ok (.map es c) w:=by
 simp[getObj,Sem.run,hb]
theorem run_setMap{w:World}{r:Nat}{es:Array MapEntry}{c:Nat}(o:Obj)(hb:w.heap[r]? =some (.map es c)):(setObj r o).run P w=.ok () {w with heap:=w.heap.setIfInBounds r o}:=by
 simp[setObj,Sem.run,hb]
theorem checkKey_run(hE:EOK P E)(empty:Bool):∀ (d:Nat) (t:TypeId) (x:SV),keyV E d t x=true→∀ (D:Nat),d≤D→∀{R:Nat→Prop} {ρ:Rho} {n:Nat} {w:World} {v:Value},Rep R ρ n w x v→(Instr.checkKey empty D t v).run P w=.ok () w:=by
 intro d
 induction d with
 |zero=>intro t x h;unfold keyV at h;cases h
 |succ d ih=>
  intro t x h D hD
  obtain⟨D,rfl⟩:∃D',D=D'+1:=⟨D-1,by omega⟩
  have hdD:d≤D:=by omega
  intro R ρ n w v hx
  unfold keyV at h
  split at h
  ·rename_i sz by_ ze ty eg he hrow
   have hu:=(hE.row _ _ hrow).und
   dsimp only at hu
   simp[Instr.checkKey,run_underlying hu]
  ·rename_i k sz by_ ze ty eg he hrow
   have hu:=(hE.row _ _ hrow).und
   dsimp only at hu
   simp[Instr.checkKey,run_underlying hu]
  ·rename_i sz by_ ze ty eg he hrow
   have hu:=(hE.row _ _ hrow).und
   dsimp only at hu
   simp[Instr.checkKey,run_underlying hu]
  ·rename_i fs sz by_ ze ty eg he hrow
   have hok:=hE.row _ _ hrow
   have hu:P.underlying t=some (.struct fs):=hok.und
   split at h
   ·rename_i xs
    obtain⟨vx,rfl,hvx⟩:=hx
    simp only[Instr.checkKey,Sem.run_bind,run_underlying hu,Result.andThen_ok]
    rw[list_forIn_eq]
    clear hu hrow hok
    generalize fs.toList=l at h
    clear fs
    induction l with
    |nil=>rfl
    |cons f l ihl=>
     rw[List.all_cons,Bool.and_eq_true]at h
     obtain⟨h1,h2⟩:=h
     have hl:=ihl h2
     split at h1
     ·rename_i y hy
      obtain⟨r1,hr1,hl1⟩:=eqPart_loaded hy
      obtain⟨p1,hp1,hq1⟩:=run_partOf (P:=P) (hE.row _ _ hr1) hvx hl1
      have hc:=ih _ _ h1 D hdD hq1
      by_cases hn : f.name ≠ "_"
      ·simp only[List.forIn_cons,if_pos hn,Sem.run_bind,hp1,hc,Result.andThen_ok,Sem.run_pure]at hl ⊢
       exact hl
      ·simp only[List.forIn_cons,if_neg hn,Sem.run_bind,Result.andThen_ok,Sem.run_pure]at hl ⊢
       exact hl
     ·cases h1
   ·cases h
  ·cases h
theorem sameNow_of(hE:EOK P E){d:Nat}{t:TypeId}{x y:SV}{b:Bool}(h:eqIn E d t x y=some b){r:Row}(hr:E.row t=some r){R:Nat→Prop}{ρ:Rho}{n:Nat}{w:World}{xv yv:Value}(hx:Rep R ρ n w x xv)(hy:Rep R ρ n w y yv):Instr.sameNow r.desc xv yv=some b∨Instr.sameNow r.desc xv yv=none:=by
 cases d with
 |zero=>unfold eqIn at h;cases h
 |succ d=>
  unfold eqIn at h
  rw[hr]at h
  split at h
  ·rename_i sz by_ ze ty eg he hrow
   injection hrow with hrow;subst hrow
   split at h
   ·rename_i a b'
    injection h with h
    rw[show xv=_ from hx,show yv=_ from hy]
    exact .inl (by simp[Instr.sameNow,h])
   ·cases h
  ·rename_i k sz by_ ze ty eg he hrow
   injection hrow with hrow;subst hrow
   split at h
   ·rename_i k1 a k2 b'
    split at h
    ·rename_i hk
     injection h with h
     subst hk
     rw[show xv=_ from hx,show yv=_ from hy]
     exact .inl (by simp[Instr.sameNow,h])
    ·cases h
   ·cases h
  ·rename_i sz by_ ze ty eg he hrow
   injection hrow with hrow;subst hrow
   split at h
   ·rename_i a b'
    injection h with h
    rw[show xv=_ from hx,show yv=_ from hy]
    refine .inl ?_
    simp only[Instr.sameNow,Option.some.injEq]
    rw[←h]
    rw[beq_toListBytes,toList_mk',toList_mk']
   ·cases h
  ·rename_i fs sz by_ ze ty eg hrow
   injection hrow with hrow;subst hrow
   exact .inr rfl
  ·rename_i n0 e sz by_ ze ty eg he hrow
   injection hrow with hrow;subst hrow
   exact .inr rfl
  ·rename_i ms sz by_ ze ty eg he hrow
   injection hrow with hrow;subst hrow
   exact .inr rfl
  ·cases h
def FoundRel(R:Nat→Prop)(ρ:Rho)(n:Nat)(w:World):Option (Nat×SV×Nat)→Option (Nat×Value)→Prop
 |none,none=>True
 |some y,some (i,v)=>i=y.1∧Rep R ρ n w y.2.1 v
 |_,_=>False
theorem findKey_run(hE:EOK P E){kt:TypeId}{k:SV}{R:Nat→Prop}{ρ:Rho}{n:Nat}{w:World}{kv:Value}(hk:Rep R ρ n w k kv)(hrow:∃r,E.row kt=some r){es:List (SV×SV×Nat)}{r:Option (Nat×SV×Nat)}(h:findM E kt k es 0=some r){arr:List MapEntry}(hes:RepM R ρ n w es arr):
  ∃y,(Instr.findKey kt kv arr).run P w=.ok y w∧FoundRel R ρ n w r y:=by
 obtain⟨rw_,hrow⟩:=hrow
 have hu:=(hE.row _ _ hrow).und
 -- the model's answer, by its own search
 have ask:∀ (es:List (SV×SV×Nat)) (i:Nat) (r:Option (Nat×SV×Nat)) (arr:List MapEntry),findM E kt k es i=some r→RepM R ρ n w es arr→∃y,(Instr.findAsking kt kv arr i).run P w=.ok y w∧FoundRel R ρ n w r y∧(Instr.findNow rw_.desc kv arr i=some y∨Instr.findNow rw_.desc kv arr i=none):=by
  intro es
  induction es with
  |nil=>
   intro i r arr h hes
   simp only[findM,Option.some.injEq]at h
   subst h
   rw[show arr=[]from hes]
   exact⟨none,rfl,trivial,.inl rfl⟩
  |cons e es ih=>
   intro i r arr h hes
   obtain⟨a,arr,rfl,h1,h2,h3,h4⟩:=hes
   simp only[findM]at h
   split at h
   ·rename_i b hb
    have heq:(Op.equal kt kv a.key).run P w=.ok b w:=eqIn_sound hE 100 _ _ _ _ hb Op.maxDepth (by decide) hk h1
    have hsn:=sameNow_of hE hb hrow hk h1
    split at h
    ·simp only[Option.some.injEq]at h
     subst h
     refine⟨some (i,a.val),?_,⟨rfl,h2⟩,?_⟩
     ·simp only[Instr.findAsking,Sem.run_bind,heq,Result.andThen_ok,if_true,Sem.run_pure]
     ·rcases hsn with hsn|hsn<;>simp[Instr.findNow,hsn]
    ·obtain⟨y,g1,g2,g3⟩:=ih (i+1) r arr h h4
     refine⟨y,?_,g2,?_⟩
     ·simp only[Instr.findAsking,Sem.run_bind,heq,Result.andThen_ok,Bool.false_eq_true,if_false,g1]
     ·rcases hsn with hsn|hsn
      ·simp only[Instr.findNow,hsn];exact g3
      ·exact .inr (by simp[Instr.findNow,hsn])
   ·cases h
 obtain⟨y,h1,h2,h3⟩:=ask es 0 r arr h hes
 refine⟨y,?_,h2⟩
 simp only[Instr.findKey,Sem.run_bind,run_underlying hu,Result.andThen_ok]
 rcases h3 with h3|h3
 ·rw[h3];rfl
 ·rw[h3];exact h1
theorem sameLeaf_eq{x y:SV}(h:sameLeaf x y=true){R:Nat→Prop}{ρ:Rho}{n:Nat}{w:World}{u v:Value}(hx:Rep R ρ n w x u)(hy:Rep R ρ n w y v):u=v∧∀d,Instr.sameBits d u u=true:=by
 cases x<;>cases y<;>simp only[sameLeaf]at h<;>try(cases h;done)
 ·simp only[Bool.and_eq_true,decide_eq_true_eq,beq_iff_eq]at h
  rw[show u=_ from hx,show v=_ from hy,h.1,h.2]
  exact⟨rfl,fun d=>by cases d<;>simp[Instr.sameBits]⟩
 ·rw[show u=_ from hx,show v=_ from hy,beq_iff_eq.1 h]
  exact⟨rfl,fun d=>by cases d<;>simp[Instr.sameBits]⟩
 ·rw[show u=_ from hx,show v=_ from hy,beq_iff_eq.1 h]
  exact⟨rfl,fun d=>by cases d<;>simp[Instr.sameBits,beq_toListBytes]⟩
theorem sameLeaves_eq{R:Nat→Prop}{ρ:Rho}{n:Nat}{w:World}:∀{xs ys:List SV} {us vs:List Value},sameLeaves xs ys=true→RepL R ρ n w xs us→RepL R ρ n w ys vs→us=vs∧∀d,∀u∈us,Instr.sameBits d u u=true
 |[],[],us,vs,_,hx,hy=>by
  rw[show us=[]from hx,show vs=[]from hy]
  exact⟨rfl,fun d u hu=>by cases hu⟩
 |[],_::_,_,_,h,_,_=>by cases h
 |_::_,[],_,_,h,_,_=>by cases h
 |x::xs,y::ys,_,_,h,hx,hy=>by
  obtain⟨u,us,rfl,h1,h2⟩:=hx
  obtain⟨v,vs,rfl,h3,h4⟩:=hy
  simp only[sameLeaves]at h
  split at h
  ·rename_i hl
   obtain⟨rfl,k1⟩:=sameLeaf_eq hl h1 h3
   obtain⟨rfl,k2⟩:=sameLeaves_eq h h2 h4
   exact⟨rfl,fun d u' hu=>by
    rcases List.mem_cons.1 hu with rfl|hu
    ·exact k1 d
    ·exact k2 d u' hu⟩
  ·cases h
theorem sameKey_eq{x y:SV}(h:sameKey x y=true){R:Nat→Prop}{ρ:Rho}{n:Nat}{w:World}{u v:Value}(hx:Rep R ρ n w x u)(hy:Rep R ρ n w y v):u=v∧Instr.sameBits 10000 u u=true:=by
 unfold sameKey at h
 split at h
 ·obtain⟨us,rfl,h1⟩:=hx
  obtain⟨vs,rfl,h2⟩:=hy
  obtain⟨rfl,k⟩:=sameLeaves_eq h h1 h2
  refine⟨rfl,?_⟩
  show(us.toArray.size==us.toArray.size&& (us.toArray.toList.zip us.toArray.toList).all fun(x,y)=>Instr.sameBits 9999 x y)=true
  simp only[beq_self_eq_true,Bool.true_and,List.all_eq_true]
  intro xy hxy
  have:xy.1=xy.2∧xy.1∈us:=by
   have hz:∀ (l:List Value) (p:Value×Value),p∈l.zip l→p.1=p.2∧p.1∈l:=by
    intro l
    induction l with
    |nil=>intro p hp;cases hp
    |cons a l ih=>
     intro p hp
     rcases List.mem_cons.1 hp with rfl|hp
     ·exact⟨rfl,List.mem_cons_self⟩
     ·obtain⟨h1,h2⟩:=ih p hp
      exact⟨h1,List.mem_cons_of_mem _ h2⟩
   exact hz us xy (by simpa using hxy)
  rw[←this.1]
  exact k 9999 xy.1 this.2
 ·obtain⟨h1,h2⟩:=sameLeaf_eq h hx hy
  exact⟨h1,h2 _⟩
theorem run_keyThatStays{u:Value}(h:Instr.sameBits 10000 u u=true)(w:World):(Instr.keyThatStays u u).run P w=.ok u w:=by
 simp[Instr.keyThatStays,h]
theorem RepM.get{R:Nat→Prop}{ρ:Rho}{n:Nat}{w:World}:∀{es:List (SV×SV×Nat)} {arr:List MapEntry},RepM R ρ n w es arr→∀{i:Nat} {e:SV×SV×Nat},es[i]? =some e→∃a,arr[i]? =some a∧Rep R ρ n w e.1 a.key∧Rep R ρ n w e.2.1 a.val∧a.born=e.2.2
 |[],_,h,i,e,hi=>by simp at hi
 |x::xs,_,h,i,e,hi=>by
  obtain⟨a,arr,rfl,h1,h2,h3,h4⟩:=h
  cases i with
  |zero=>simp at hi;subst hi;exact⟨a,by simp,h1,h2,h3⟩
  |succ i=>obtain⟨b,g1,g2⟩:=RepM.get h4 (i:=i) (by simpa using hi);exact⟨b,by simpa using g1,g2⟩
theorem RepM.modify{R:Nat→Prop}{ρ:Rho}{n:Nat}{w:World}{f:SV×SV×Nat→SV×SV×Nat}{g:MapEntry→MapEntry}(hfg:∀e a,Rep R ρ n w e.1 a.key→Rep R ρ n w e.2.1 a.val→a.born=e.2.2→Rep R ρ n w (f e).1 (g a).key∧Rep R ρ n w (f e).2.1 (g a).val∧(g a).born=(f e).2.2):
  ∀{es:List (SV×SV×Nat)} {arr:List MapEntry} (i:Nat),RepM R ρ n w es arr→RepM R ρ n w (es.modify i f) (arr.modify i g)
 |[],_,i,h=>by rw[show _=[]from h];cases i<;>simp[RepM]
 |x::xs,_,i,h=>by
  obtain⟨a,arr,rfl,h1,h2,h3,h4⟩:=h
  cases i with
  |zero=>obtain⟨k1,k2,k3⟩:=hfg x a h1 h2 h3;exact⟨_,_,rfl,k1,k2,k3,h4⟩
  |succ i=>exact⟨_,_,rfl,h1,h2,h3,RepM.modify hfg i h4⟩
theorem RepM.push{R:Nat→Prop}{ρ:Rho}{n:Nat}{w:World}{k v:SV}{b:Nat}{a:MapEntry}(h1:Rep R ρ n w k a.key)(h2:Rep R ρ n w v a.val)(h3:a.born=b):∀{es:List (SV×SV×Nat)} {arr:List MapEntry},RepM R ρ n w es arr→RepM R ρ n w (es++[(k,v,b)]) (arr++[a])
 |[],_,h=>by rw[show _=[]from h];exact⟨a,[],rfl,h1,h2,h3,rfl⟩
 |x::xs,_,h=>by
  obtain⟨a',arr,rfl,g1,g2,g3,g4⟩:=h
  exact⟨a',_,rfl,g1,g2,g3,RepM.push h1 h2 h3 g4⟩
theorem RepM.erase{R:Nat→Prop}{ρ:Rho}{n:Nat}{w:World}:∀{es:List (SV×SV×Nat)} {arr:List MapEntry} (i:Nat),RepM R ρ n w es arr→RepM R ρ n w (es.eraseIdx i) (arr.eraseIdx i)
 |[],_,i,h=>by rw[show _=[]from h];simp[RepM]
 |x::xs,_,i,h=>by
  obtain⟨a,arr,rfl,h1,h2,h3,h4⟩:=h
  cases i with
  |zero=>exact h4
  |succ i=>exact⟨_,_,rfl,h1,h2,h3,RepM.erase i h4⟩
theorem RepM.length{R:Nat→Prop}{ρ:Rho}{n:Nat}{w:World}:∀{es:List (SV×SV×Nat)} {arr:List MapEntry},RepM R ρ n w es arr→arr.length=es.length
 |[],_,h=>by rw[show _=[]from h];rfl
 |x::xs,_,h=>by
  obtain⟨a,arr,rfl,_,_,_,h4⟩:=h
  simp[RepM.length h4]
theorem MRel.setMap{w0:World}{R0:RSet}{ρ:Rho}{w:World}{m m':Mem}{id:Nat}{es es':List (SV×SV×Nat)}{c c':Nat}{arr':Array MapEntry}(h:MRel w0 R0 ρ w m)(hid:m.get id=some (.map es c))(hm:MSet m id (some (.map es' c')) m')
  (hB:∀R,Ext (RO w0 R0 ρ w m) ρ m.next w R ρ m.next {w with heap:=w.heap.setIfInBounds (ρ id).1 (.map arr' c')}→RepM R ρ m.next {w with heap:=w.heap.setIfInBounds (ρ id).1 (.map arr' c')} es' arr'.toList):
  MRel w0 R0 ρ {w with heap:=w.heap.setIfInBounds (ρ id).1 (.map arr' c')} m'∧MExt w0 R0 ρ w m ρ {w with heap:=w.heap.setIfInBounds (ρ id).1 (.map arr' c')} m':=by
 have hlb:(ρ id).1<w.heap.size:=h.hi id _ hid trivial
 exact h.setBox (w':={w with heap:=w.heap.setIfInBounds (ρ id).1 (.map arr' c')}) hid trivial hm rfl rfl rfl (by simp) (fun k hk=>by simp[Array.getElem?_setIfInBounds,Ne.symm hk]) (fun R e'=>⟨arr',by simp[Array.getElem?_setIfInBounds,hlb],hB R e'⟩)
theorem keyV_row{d:Nat}{t:TypeId}{x:SV}(h:keyV E d t x=true):∃r,E.row t=some r:=by
 cases d with
 |zero=>unfold keyV at h;cases h
 |succ d=>
  unfold keyV at h
  cases hr:E.row t with
  |none=>rw[hr]at h;cases h
  |some r=>exact⟨r,rfl⟩
theorem zv_run(hE:EOK P E){t:TypeId}{z:Value}(h:E.zv t=some z)(w:World):(zeroValue t).run P w=.ok z w:=by
 obtain⟨i,h1,h2⟩:=hE.zv t z h
 simp only[zeroValue,typeInfo,Sem.run_bind,run_program,Result.andThen_ok,h1,Sem.run_pure,h2]
theorem ofLeaf_rep'(v:Value)(R:Nat→Prop)(ρ:Rho)(n:Nat)(w:World):Rep R ρ n w (ofLeaf v) v:=by
 unfold ofLeaf;split<;>rfl
theorem ofLeafs_rep'(R:Nat→Prop)(ρ:Rho)(n:Nat)(w:World):∀vs:List Value,RepL R ρ n w (vs.map ofLeaf) vs
 |[] =>rfl
 |v::vs=>⟨v,vs,rfl,ofLeaf_rep' v R ρ n w,ofLeafs_rep' R ρ n w vs⟩
theorem ofVal_rep'(v:Value)(R:Nat→Prop)(ρ:Rho)(n:Nat)(w:World):Rep R ρ n w (ofVal v) v:=by
 unfold ofVal
 split
 ·rename_i cs
  exact⟨cs.toList,by simp,ofLeafs_rep' R ρ n w _⟩
 ·rename_i f a c
  split
  ·rename_i ha hc
   refine⟨[],[],?_,rfl,rfl⟩
   have e1:a=#[] :=Array.ext' (by rw[ha])
   have e2:c=#[] :=Array.ext' (by rw[hc])
   rw[e1,e2]
  ·rfl
 ·exact ofLeaf_rep' _ R ρ n w
theorem opLookup_sound(hE:EOK P E){t:TypeId}{x i:SV}{ok:Bool}{p:Plan}{m:Mem}{κ:Kont α}(h:(opLookup E t x i ok p m κ).holds L):
  ∃v,(κ v p m).holds L∧∀m2,Up m m2→∀w0 R0 ρ w (xv iv:Value),MRel w0 R0 ρ w m2→Rep (RO w0 R0 ρ w m2) ρ m2.next w x xv→Rep (RO w0 R0 ρ w m2) ρ m2.next w i iv→∃u,(Instr.lookup t xv iv ok).run P w=.ok u w∧Rep (RO w0 R0 ρ w m2) ρ m2.next w v u:=by
 unfold opLookup at h
 split at h
 case h_2=>exact h.elim
 rename_i kt et sz by_ ze ty eg he hrow
 have hu:=(hE.row _ _ hrow).und
 dsimp only at hu
 split at h
 case h_2=>exact h.elim
 rename_i hkv
 split at h
 case h_2=>exact h.elim
 rename_i z hz
 split at h
 case h_2=>exact h.elim
 rename_i es hes
 split at h
 case h_2=>exact h.elim
 rename_i r hfind
 -- what the map is
 have src:∀m2,Up m m2→∀w0 R0 ρ w (xv:Value),MRel w0 R0 ρ w m2→Rep (RO w0 R0 ρ w m2) ρ m2.next w x xv→(xv=.map none∧es=[])∨∃r arr c,xv=.map (some r)∧w.heap[r]? =some (.map arr c)∧RepM (RO w0 R0 ρ w m2) ρ m2.next w es arr.toList:=by
  intro m2 hup w0 R0 ρ w xv hm hx
  cases x<;>simp only at hes<;>try(cases hes;done)
  · -- no map
    rename_i v
    split at hes
    ·injection hes with hes;subst hes
     exact .inl ⟨hx,rfl⟩
    ·cases hes
  ·rename_i id
   split at hes
   ·rename_i es' c hg
    injection hes with hes;subst hes
    obtain⟨_,rfl⟩:=hx
    obtain⟨arr,b1,b2⟩:=hm.box id _ (hup _ _ hg)
    exact .inr ⟨_,arr,c,rfl,b1,b2⟩
   ·cases hes
 have main:∀m2,Up m m2→∀w0 R0 ρ w (xv iv:Value),MRel w0 R0 ρ w m2→Rep (RO w0 R0 ρ w m2) ρ m2.next w x xv→Rep (RO w0 R0 ρ w m2) ρ m2.next w i iv→∃y,FoundRel (RO w0 R0 ρ w m2) ρ m2.next w r y∧(Instr.lookup t xv iv ok).run P w=.ok (if ok then .tuple #[(y.map (·.2)).getD z,.bool y.isSome]else(y.map (·.2)).getD z) w:=by
  intro m2 hup w0 R0 ρ w xv iv hm hx hi
  rcases src m2 hup w0 R0 ρ w xv hm hx with⟨rfl,rfl⟩|⟨q,arr,c,rfl,a0,a1⟩
  ·obtain⟨y,h1,h2⟩:=findKey_run (arr:=[]) hE hi (keyV_row hkv) hfind rfl
   refine⟨y,h2,?_⟩
   have hck:=checkKey_run hE true 10 kt i hkv 10000 (by decide) hi
   simp only[Instr.lookup,Sem.run_bind,run_underlying hu,Result.andThen_ok,Sem.run_pure,List.isEmpty_toArray,List.isEmpty_nil,hck,h1]
   cases y with
   |none=>cases ok<;>simp[zv_run hE hz]
   |some y=>cases ok<;>simp
  ·obtain⟨y,h1,h2⟩:=findKey_run hE hi (keyV_row hkv) hfind a1
   refine⟨y,h2,?_⟩
   have hck:=checkKey_run hE arr.isEmpty 10 kt i hkv 10000 (by decide) hi
   simp only[Instr.lookup,Sem.run_bind,run_underlying hu,Result.andThen_ok,run_getMap a0,Sem.run_pure,hck,h1]
   cases y with
   |none=>cases ok<;>simp[zv_run hE hz]
   |some y=>cases ok<;>simp
 cases r with
 |some y=>
  cases ok with
  |true=>
   dsimp only at h
   rw[frc_eq]at h
   refine⟨_,h,fun m2 hup w0 R0 ρ w xv iv hm hx hi=>?_⟩
   obtain⟨q,h1,h2⟩:=main m2 hup w0 R0 ρ w xv iv hm hx hi
   cases q with
   |none=>exact h1.elim
   |some q=>exact⟨_,h2,_,rfl,_,_,rfl,h1.2,_,_,rfl,rfl,rfl⟩
  |false=>
   dsimp only at h
   rw[frc_eq]at h
   refine⟨_,h,fun m2 hup w0 R0 ρ w xv iv hm hx hi=>?_⟩
   obtain⟨q,h1,h2⟩:=main m2 hup w0 R0 ρ w xv iv hm hx hi
   cases q with
   |none=>exact h1.elim
   |some q=>exact⟨_,h2,h1.2⟩
 |none=>
  cases ok with
  |true=>
   dsimp only at h
   rw[frc_eq]at h
   refine⟨_,h,fun m2 hup w0 R0 ρ w xv iv hm hx hi=>?_⟩
   obtain⟨q,h1,h2⟩:=main m2 hup w0 R0 ρ w xv iv hm hx hi
   cases q with
   |some q=>exact h1.elim
   |none=>exact⟨_,h2,_,rfl,_,_,rfl,ofVal_rep' _ _ _ _ _,_,_,rfl,rfl,rfl⟩
  |false=>
   dsimp only at h
   rw[frc_eq]at h
   refine⟨_,h,fun m2 hup w0 R0 ρ w xv iv hm hx hi=>?_⟩
   obtain⟨q,h1,h2⟩:=main m2 hup w0 R0 ρ w xv iv hm hx hi
   cases q with
   |some q=>exact h1.elim
   |none=>exact⟨_,h2,ofVal_rep' _ _ _ _ _⟩
theorem findM_get{kt:TypeId}{k:SV}:∀{es:List (SV×SV×Nat)} {i:Nat} {y:Nat×SV×Nat},findM E kt k es i=some (some y)→i≤y.1∧∃e,es[y.1-i]? =some e∧y.2=e.2
 |[],i,y,h=>by simp[findM]at h
 |e::es,i,y,h=>by
  simp only[findM]at h
  split at h
  ·split at h
   ·simp only[Option.some.injEq]at h
    subst h
    exact⟨Nat.le_refl _,e,by simp,rfl⟩
   ·obtain⟨h1,e',h2,h3⟩:=findM_get h
    refine⟨by omega,e',?_,h3⟩
    rw[show y.1-i=(y.1-(i+1))+1 by omega,List.getElem?_cons_succ];exact h2
  ·cases h
theorem opMapUpdate_sound(hE:EOK P E){t:TypeId}{x k v:SV}{p:Plan}{m:Mem}{κ:Kont α}(h:(opMapUpdate E t x k v p m κ).holds L):
  ∃m',(κ .undef p m').holds L∧∀w0 R0 ρ w (xv kv vv:Value),MRel w0 R0 ρ w m→Rep (RO w0 R0 ρ w m) ρ m.next w x xv→Rep (RO w0 R0 ρ w m) ρ m.next w k kv→Rep (RO w0 R0 ρ w m) ρ m.next w v vv→
   ∃w',(Instr.mapUpdate t xv kv vv).run P w=.ok () w'∧MRel w0 R0 ρ w' m'∧MExt w0 R0 ρ w m ρ w' m':=by
 unfold opMapUpdate at h
 split at h
 case h_2=>exact h.elim
 rename_i kt et sz by_ ze ty eg he hrow
 have hu:=(hE.row _ _ hrow).und
 dsimp only at hu
 split at h
 case h_2=>exact h.elim
 rename_i hkv
 split at h
 case h_2=>exact h.elim
 rename_i id
 split at h
 case h_2=>exact h.elim
 rename_i es c hg
 split at h
 case h_2=>exact h.elim
 rename_i r hfind
 split at h
 ·rename_i y
  split at h
  case h_2=>exact h.elim
  rename_i hka
  rw[frcN_eq]at h
  obtain⟨m',h1,h2⟩:=Mem.set_holds h
  refine⟨m',h2,fun w0 R0 ρ w xv kv vv hm hx hk hv=>?_⟩
  obtain⟨hid,rfl⟩:=hx
  obtain⟨arr,b1,b2⟩:=hm.box id _ hg
  obtain⟨q,q1,q2⟩:=findKey_run hE hk (keyV_row hkv) hfind b2
  have hck:=checkKey_run hE false 10 kt k hkv 10000 (by decide) hk
  cases q with
  |none=>exact q2.elim
  |some q=>
   obtain⟨qi,qv⟩:=q
   obtain⟨rfl,q3⟩:=q2
   obtain⟨_,e,he1,he2⟩:=findM_get hfind
   rw[Nat.sub_zero]at he1
   obtain⟨a,ha1,ha2,ha3,ha4⟩:=b2.get he1
   unfold keyAt at hka
   rw[nth_eq,he1]at hka
   obtain⟨rfl,hsb⟩:=sameKey_eq hka ha2 hk
   have hag:arr[y.1]? =some a:=by rw[←Array.getElem?_toList];exact ha1
   refine⟨_,?_,hm.setMap (arr':=arr.modify y.1 fun e=>{e with key:=a.key,val:=vv}) hg h1 (fun R e'=>?_)⟩
   ·simp only[Instr.mapUpdate,Sem.run_bind,run_underlying hu,Result.andThen_ok,run_getMap b1,hck,q1,hag,Option.map_some,Option.getD_some,run_keyThatStays hsb,run_setMap _ b1]
   ·rw[Array.toList_modify]
    exact RepM.modify (f:=fun e=>(k,v,e.2.2)) (g:=fun e=>{e with key:=a.key,val:=vv}) (fun e a' g1 g2 g3=>⟨Rep.mono e' k _ hk,Rep.mono e' v _ hv,g3⟩) y.1 (RepM.mono e' _ _ b2)
 ·rw[frcN_eq]at h
  obtain⟨m',h1,h2⟩:=Mem.set_holds h
  refine⟨m',h2,fun w0 R0 ρ w xv kv vv hm hx hk hv=>?_⟩
  obtain⟨hid,rfl⟩:=hx
  obtain⟨arr,b1,b2⟩:=hm.box id _ hg
  obtain⟨q,q1,q2⟩:=findKey_run hE hk (keyV_row hkv) hfind b2
  have hck:=checkKey_run hE false 10 kt k hkv 10000 (by decide) hk
  cases q with
  |some q=>exact q2.elim
  |none=>
   refine⟨_,?_,hm.setMap (arr':=arr.push {key:=kv,val:=vv,born:=c}) hg h1 (fun R e'=>?_)⟩
   ·simp only[Instr.mapUpdate,Sem.run_bind,run_underlying hu,Result.andThen_ok,run_getMap b1,hck,q1,run_setMap _ b1]
   ·rw[Array.toList_push]
    exact RepM.push (a:={key:=kv,val:=vv,born:=c}) (Rep.mono e' k _ hk) (Rep.mono e' v _ hv) rfl (RepM.mono e' _ _ b2)
theorem opMapEntry_sound(hE:EOK P E){t:TypeId}{x k:SV}{p:Plan}{m:Mem}{κ:Kont α}(h:(opMapEntry E t x k p m κ).holds L):
  ∃v m',(κ v p m').holds L∧∀w0 R0 ρ w (xv kv:Value),MRel w0 R0 ρ w m→Rep (RO w0 R0 ρ w m) ρ m.next w x xv→Rep (RO w0 R0 ρ w m) ρ m.next w k kv→Yields' P m v m' (Instr.mapEntry t xv kv) w0 R0 ρ w:=by
 unfold opMapEntry at h
 split at h
 case h_2=>exact h.elim
 rename_i kt et sz by_ ze ty eg he hrow
 have hu:=(hE.row _ _ hrow).und
 dsimp only at hu
 split at h
 case h_2=>exact h.elim
 rename_i hkv
 split at h
 case h_2=>exact h.elim
 rename_i z hz
 split at h
 case h_2=>exact h.elim
 rename_i id
 split at h
 case h_2=>exact h.elim
 rename_i es c hg
 split at h
 case h_2=>exact h.elim
 rename_i r hfind
 split at h
 ·rename_i y
  split at h
  case h_2=>exact h.elim
  rename_i hka
  rw[frcN_eq,frc_eq,frcN_eq]at h
  obtain⟨m',h1,h2⟩:=Mem.set_holds h
  refine⟨_,m',h2,fun w0 R0 ρ w xv kv hm hx hk=>?_⟩
  obtain⟨hid,rfl⟩:=hx
  obtain⟨arr,b1,b2⟩:=hm.box id _ hg
  obtain⟨q,q1,q2⟩:=findKey_run hE hk (keyV_row hkv) hfind b2
  have hck:=checkKey_run hE false 10 kt k hkv 10000 (by decide) hk
  cases q with
  |none=>exact q2.elim
  |some q=>
   obtain⟨qi,qv⟩:=q
   obtain⟨rfl,q3⟩:=q2
   obtain⟨_,e,he1,he2⟩:=findM_get hfind
   rw[Nat.sub_zero]at he1
   obtain⟨a,ha1,ha2,ha3,ha4⟩:=b2.get he1
   unfold keyAt at hka
   rw[nth_eq,he1]at hka
   obtain⟨rfl,hsb⟩:=sameKey_eq hka ha2 hk
   have hag:arr[y.1]? =some a:=by rw[←Array.getElem?_toList];exact ha1
   obtain⟨g1,g2⟩:=hm.setMap (arr':=arr.modify y.1 fun e=>{e with key:=a.key}) hg h1 (fun R e'=>by
    rw[Array.toList_modify]
    exact RepM.modify (f:=fun e=>(k,e.2.1,e.2.2)) (g:=fun e=>{e with key:=a.key}) (fun e a' g1 g2 g3=>⟨Rep.mono e' k _ hk,g2,g3⟩) y.1 (RepM.mono e' _ _ b2))
   refine⟨.tuple #[qv,goInt a.born],_,?_,ρ,g1,g2,_,rfl,_,_,rfl,Rep.mono g2 _ _ q3,_,_,rfl,?_,rfl⟩
   ·simp only[Instr.mapEntry,Sem.run_bind,run_underlying hu,Result.andThen_ok,run_getMap b1,hck,q1,hag,Option.map_some,Option.getD_some,run_keyThatStays hsb,run_setMap _ b1,Sem.run_pure]
   ·rw[ha4,he2];rfl
 ·rw[frcN_eq,frc_eq]at h
  obtain⟨m',h1,h2⟩:=Mem.set_holds h
  refine⟨_,m',h2,fun w0 R0 ρ w xv kv hm hx hk=>?_⟩
  obtain⟨hid,rfl⟩:=hx
  obtain⟨arr,b1,b2⟩:=hm.box id _ hg
  obtain⟨q,q1,q2⟩:=findKey_run hE hk (keyV_row hkv) hfind b2
  have hck:=checkKey_run hE false 10 kt k hkv 10000 (by decide) hk
  cases q with
  |some q=>exact q2.elim
  |none=>
   obtain⟨g1,g2⟩:=hm.setMap (arr':=arr.push {key:=kv,val:=z,born:=c}) hg h1 (fun R e'=>by
    rw[Array.toList_push]
    exact RepM.push (a:={key:=kv,val:=z,born:=c}) (Rep.mono e' k _ hk) (ofVal_rep' _ _ _ _ _) rfl (RepM.mono e' _ _ b2))
   refine⟨.tuple #[z,goInt c],_,?_,ρ,g1,g2,_,rfl,_,_,rfl,ofVal_rep' _ _ _ _ _,_,_,rfl,rfl,rfl⟩
   simp only[Instr.mapEntry,Sem.run_bind,run_underlying hu,Result.andThen_ok,run_getMap b1,hck,q1,zv_run hE hz,run_setMap _ b1,Sem.run_pure]
theorem stampM_get{b:Nat}{R:Nat→Prop}{ρ:Rho}{n:Nat}{w:World}:∀{es:List (SV×SV×Nat)} {arr:List MapEntry} {i j:Nat},stampM b es i=some j→RepM R ρ n w es arr→i≤j∧arr.findIdx? (fun e=>(e.born:Int)==(b:Int))=some (j-i)
 |[],_,i,j,h,_=>by simp[stampM]at h
 |e::es,_,i,j,h,hr=>by
  obtain⟨a,arr,rfl,h1,h2,h3,h4⟩:=hr
  simp only[stampM]at h
  split at h
  ·rename_i hb
   injection h with h;subst h
   have:=Nat.eq_of_beq_eq_true hb
   refine⟨Nat.le_refl _,?_⟩
   rw[List.findIdx?_cons,h3,this];simp
  ·rename_i hb
   have hne:¬e.2.2=b:=fun hc=>by rw[hc]at hb;simp at hb
   obtain⟨g1,g2⟩:=stampM_get h h4
   refine⟨by omega,?_⟩
   rw[List.findIdx?_cons,h3,g2]
   have:((e.2.2:Int)==(b:Int))=false:=by rw[beq_eq_false_iff_ne];omega
   rw[this];simp;omega
theorem opEntryStore_sound{x b v:SV}{p:Plan}{m:Mem}{κ:Kont α}(h:(opEntryStore x b v p m κ).holds L):
  ∃m',(κ .undef p m').holds L∧∀t w0 R0 ρ w (xv bv vv:Value),MRel w0 R0 ρ w m→Rep (RO w0 R0 ρ w m) ρ m.next w x xv→Rep (RO w0 R0 ρ w m) ρ m.next w b bv→Rep (RO w0 R0 ρ w m) ρ m.next w v vv→
   ∃w',(Instr.entryStore t xv bv vv).run P w=.ok () w'∧MRel w0 R0 ρ w' m'∧MExt w0 R0 ρ w m ρ w' m':=by
 unfold opEntryStore at h
 split at h
 case h_2=>exact h.elim
 rename_i id kk b
 split at h
 case h_2=>exact h.elim
 rename_i hb0
 have hb0:0≤b:=of_decide_eq_true hb0
 split at h
 case h_2=>exact h.elim
 rename_i es c hg
 split at h
 case h_2=>exact h.elim
 rename_i i hst
 rw[frcN_eq]at h
 obtain⟨m',h1,h2⟩:=Mem.set_holds h
 refine⟨m',h2,fun t w0 R0 ρ w xv bv vv hm hx hb hv=>?_⟩
 obtain⟨hid,rfl⟩:=hx
 rw[show bv=_ from hb]
 obtain⟨arr,b1,b2⟩:=hm.box id _ hg
 obtain⟨_,hidx⟩:=stampM_get hst b2
 rw[Nat.sub_zero,Int.toNat_of_nonneg hb0]at hidx
 have hidx':arr.findIdx? (fun e=>(e.born:Int)==b)=some i:=by
  rw[←hidx];cases arr;simp
 refine⟨_,?_,hm.setMap (arr':=arr.modify i fun e=>{e with val:=vv}) hg h1 (fun R e'=>?_)⟩
 ·simp only[Instr.entryStore,Sem.run_bind,run_getMap b1,Result.andThen_ok,asInt,asIntOf,Sem.run_pure,hidx',run_setMap _ b1]
 ·rw[Array.toList_modify]
  exact RepM.modify (f:=fun e=>(e.1,v,e.2.2)) (g:=fun e=>{e with val:=vv}) (fun e a' g1 g2 g3=>⟨g1,Rep.mono e' v _ hv,g3⟩) i (RepM.mono e' _ _ b2)
theorem opDelete_sound(hE:EOK P E){t:TypeId}{x k:SV}{p:Plan}{m:Mem}{κ:Kont α}(h:(opDelete E t x k p m κ).holds L):
  ∃v p' m',(κ v p' m').holds L∧∀ (ts:Array TypeId) ty w0 R0 ρ w (xv kv:Value),ts[0]? =some t→MRel w0 R0 ρ w m→Rep (RO w0 R0 ρ w m) ρ m.next w x xv→Rep (RO w0 R0 ρ w m) ρ m.next w k kv→
   ∃u w',(Builtin.delete_ ts ty #[xv,kv]).run P w=.ok u w'∧OpOut w0 R0 ρ w m v m' u w':=by
 unfold opDelete at h
 split at h
 case h_2=>exact h.elim
 rename_i kt et sz by_ ze ty eg he hrow
 have hu:=(hE.row _ _ hrow).und
 dsimp only at hu
 split at h
 case h_2=>exact h.elim
 rename_i hkv
 split at h
 case h_2=>exact h.elim
 rename_i id
 split at h
 case h_2=>exact h.elim
 rename_i es c hg
 split at h
 case h_2=>exact h.elim
 rename_i r hfind
 split at h
 ·rename_i y
  rw[frcN_eq]at h
  obtain⟨m',h1,h2⟩:=Mem.set_holds h
  refine⟨_,p,m',h2,fun ts ty w0 R0 ρ w xv kv ht hm hx hk=>?_⟩
  obtain⟨hid,rfl⟩:=hx
  obtain⟨arr,b1,b2⟩:=hm.box id _ hg
  obtain⟨q,q1,q2⟩:=findKey_run hE hk (keyV_row hkv) hfind b2
  have hck:=checkKey_run hE arr.isEmpty 10 kt k hkv 10000 (by decide) hk
  cases q with
  |none=>exact q2.elim
  |some q=>
   obtain⟨qi,qv⟩:=q
   obtain⟨rfl,q3⟩:=q2
   obtain⟨g1,g2⟩:=hm.setMap (arr':=arr.eraseIdxIfInBounds y.1) hg h1 (fun R e'=>by
    rw[Array.toList_eraseIdxIfInBounds]
    exact RepM.erase y.1 (RepM.mono e' _ _ b2))
   refine⟨.tuple #[],_,?_,ρ,g1,g2,[],rfl,rfl⟩
   simp[Builtin.delete_,ht,run_underlying hu,run_getMap b1,hck,q1,run_setMap _ b1]
 ·refine⟨_,p,m,h,fun ts ty w0 R0 ρ w xv kv ht hm hx hk=>?_⟩
  obtain⟨hid,rfl⟩:=hx
  obtain⟨arr,b1,b2⟩:=hm.box id _ hg
  obtain⟨q,q1,q2⟩:=findKey_run hE hk (keyV_row hkv) hfind b2
  have hck:=checkKey_run hE arr.isEmpty 10 kt k hkv 10000 (by decide) hk
  cases q with
  |some q=>exact q2.elim
  |none=>
   have hw:{w with heap:=w.heap.setIfInBounds (ρ id).1 (.map arr c)}=w:=by
    have:w.heap.setIfInBounds (ρ id).1 (.map arr c)=w.heap:=by
     apply Array.ext_getElem?
     intro j
     rw[Array.getElem?_setIfInBounds]
     split
     ·rename_i hj
      subst hj
      have hlb:(ρ id).1<w.heap.size:=hm.hi id _ hg trivial
      simp only[hlb,if_true];exact b1.symm
     ·rfl
    rw[this]
   refine⟨.tuple #[],w,?_,OpOut.same hm ⟨[],rfl,rfl⟩⟩
   simp[Builtin.delete_,ht,run_underlying hu,run_getMap b1,hck,q1,run_setMap _ b1,hw]
theorem opRangeM_sound{x:SV}{p:Plan}{m:Mem}{κ:Kont α}(h:(opRangeM x p m κ).holds L):
  ∃v m',(κ v p m').holds L∧∀t kt et w0 R0 ρ w (xv:Value),P.underlying t=some (.map kt et)→MRel w0 R0 ρ w m→Rep (RO w0 R0 ρ w m) ρ m.next w x xv→Yields' P m v m' (Instr.range t xv) w0 R0 ρ w:=by
 unfold opRangeM at h
 split at h
 ·rename_i id
  split at h
  ·rename_i es c hg
   rw[frcN_eq]at h
   obtain⟨m',h1,h2⟩:=Mem.push_holds h
   refine⟨_,m',h2,fun t kt et w0 R0 ρ w xv hu hm hx=>?_⟩
   obtain⟨hid,rfl⟩:=hx
   obtain⟨arr,b1,b2⟩:=hm.box id _ hg
   obtain⟨g1,g2⟩:=hm.alloc (o:=.mapIter (some (ρ id).1) c #[] c) h1 0 0 (fun R n' ρ' e'=>⟨by rw[heap_alloc_new];simp[e'.same id hid],fun j hj=>by injection hj with hj;subst hj;exact Nat.lt_of_lt_of_le hid e'.le⟩)
   refine⟨.pointer (some ⟨w.heap.size,0,none⟩),_,?_,_,g1,g2,by rw[h1.2];omega,by rw[upd_same]⟩
   simp[Instr.range,run_underlying hu,run_getMap b1]
  ·exact h.elim
 ·rename_i v
  split at h
  ·obtain⟨m',h1,h2⟩:=Mem.push_holds h
   refine⟨_,m',h2,fun t kt et w0 R0 ρ w xv hu hm hx=>?_⟩
   rw[show xv=_ from hx]
   obtain⟨g1,g2⟩:=hm.alloc (o:=.mapIter none 0 #[] 0) h1 0 0 (fun R n' ρ' e'=>⟨by rw[heap_alloc_new];rfl,fun j hj=>by cases hj⟩)
   refine⟨.pointer (some ⟨w.heap.size,0,none⟩),_,?_,_,g1,g2,by rw[h1.2];omega,by rw[upd_same]⟩
   simp[Instr.range,run_underlying hu]
  ·exact h.elim
 ·exact h.elim
theorem bornM_get{b:Nat}{R:Nat→Prop}{ρ:Rho}{n:Nat}{w:World}:∀{es:List (SV×SV×Nat)} {arr:List MapEntry} {y:SV×SV},bornM b es=some y→RepM R ρ n w es arr→∃a,arr.find? (fun e=>e.born==b)=some a∧Rep R ρ n w y.1 a.key∧Rep R ρ n w y.2 a.val
 |[],_,_,h,_=>by cases h
 |e::es,arr,y,h,hr=>by
  obtain⟨u,us,rfl,h2,h3,h4,h5⟩:=hr
  simp only[bornM]at h
  split at h
  ·rename_i hb
   injection h with h
   subst h
   refine⟨u,?_,h2,h3⟩
   rw[List.find?_cons]
   have:(u.born==b)=true:=by rw[h4];exact beq_iff_eq.2 (Nat.eq_of_beq_eq_true hb)
   rw[this]
  ·rename_i hb
   obtain⟨a,k1,k2⟩:=bornM_get h h5
   refine⟨a,?_,k2⟩
   rw[List.find?_cons]
   have:(u.born==b)=false:=by rw[h4];exact beq_eq_false_iff_ne.2 (fun e=>by rw[e]at hb;simp at hb)
   rw[this];exact k1
theorem opEntry_sound{x:SV}{p:Plan}{m:Mem}{κ:Kont α}(h:(opEntry x p m κ).holds L):
  ∃v,(κ v p m).holds L∧∀w0 R0 ρ w (xv:Value),MRel w0 R0 ρ w m→Rep (RO w0 R0 ρ w m) ρ m.next w x xv→Plainly P m v (Instr.entry xv) w0 R0 ρ w:=by
 unfold opEntry at h
 split at h
 ·rename_i i
  split at h
  ·rename_i id since b s c hg
   split at h
   ·rename_i es c' hg2
    split at h
    ·rename_i hc
     have hc:=Nat.eq_of_beq_eq_true hc
     subst hc
     split at h
     ·rename_i y hy
      rw[frc_eq,frc_eq]at h
      refine⟨_,h,fun w0 R0 ρ w xv hm hx=>?_⟩
      obtain⟨_,rfl⟩:=hx
      obtain⟨b1,_⟩:=hm.box i _ hg
      have b1:w.heap[(ρ i).1]? =some (.mapIter (some (ρ id).1) since (⟨s.reverse++[b]⟩:Array Nat) c):=by rw[←List.reverse_cons];exact b1
      obtain⟨arr,b2,b3⟩:=hm.box id _ hg2
      obtain⟨a,k1,k2,k3⟩:=bornM_get hy b3
      refine⟨.tuple #[a.key,a.val],?_,[a.key,a.val],rfl,_,_,rfl,k2,_,_,rfl,k3,rfl⟩
      rw[Array.find?_toList]at k1
      simp[Instr.entry,getObj,Sem.run,b1,b2,k1]
     ·exact h.elim
    ·exact h.elim
   ·exact h.elim
  ·exact h.elim
 ·exact h.elim
theorem opNextM_sound{x:SV}{p:Plan}{m:Mem}{κ:Kont α}(h:(opNextM x p m κ).holds L):
  ∃v,(κ v p m).holds L∧∀t w0 R0 ρ w (xv:Value),MRel w0 R0 ρ w m→Rep (RO w0 R0 ρ w m) ρ m.next w x xv→Plainly P m v (Instr.next xv false t) w0 R0 ρ w:=by
 unfold opNextM at h
 split at h
 ·rename_i i
  split at h
  ·rename_i since seen last hg
   refine⟨_,h,fun t w0 R0 ρ w xv hm hx=>?_⟩
   obtain⟨_,rfl⟩:=hx
   obtain⟨b1,_⟩:=hm.box i _ hg
   refine⟨.tuple #[.bool false],?_,_,rfl,_,_,rfl,rfl,rfl⟩
   simp[Instr.next,getObj,Sem.run,b1]
  ·rename_i id since seen last hg
   split at h
   ·rename_i c hg2
    refine⟨_,h,fun t w0 R0 ρ w xv hm hx=>?_⟩
    obtain⟨_,rfl⟩:=hx
    obtain⟨b1,_⟩:=hm.box i _ hg
    obtain⟨arr,b2,b3⟩:=hm.box id _ hg2
    have harr:arr=#[] :=Array.ext' b3
    subst harr
    refine⟨.tuple #[.bool false],?_,_,rfl,_,_,rfl,rfl,rfl⟩
    simp[Instr.next,getObj,Sem.run,b1,b2,Question.forced]
   ·exact h.elim
  ·exact h.elim
 ·exact h.elim
end
section
variable {P:Program} {E:Env} {α:Type} {L:α→Prop}
theorem lenOf_run{m:Mem}{x:SV}{n:Nat}(h:lenOf m x=some n){m2:Mem}(hsh:Shape m m2){w0:World}{R0:RSet}{ρ:Rho}{w:World}{xv:Value}(hm:MRel w0 R0 ρ w m2)(hx:Rep (RO w0 R0 ρ w m2) ρ m2.next w x xv):
  ∃a c,xv=.slice a n c:=by
 cases x<;>simp only[lenOf]at h<;>try(cases h;done)
 case nilS=>injection h with h;subst h;exact⟨_,_,hx⟩
 case list t l=>
  injection h with h;subst h
  obtain⟨A,cap,hxv,_⟩:=hx
  injection hxv with hxv
  exact⟨_,_,hxv⟩
 case row id=>
  split at h
  ·rename_i t l hg
   injection h with h;subst h
   obtain⟨hid,a,rfl,_⟩:=hx
   obtain⟨B',hg2,hl⟩:=hsh id _ hg
   cases B'<;>try exact hl.elim
   obtain⟨rfl,hll⟩:=hl
   obtain⟨b1,_⟩:=hm.box id _ hg2
   rw[←hll]at b1
   exact⟨a,(ρ id).2.2,by rw[b1]⟩
  ·cases h
 case arr id off k=>injection h with h;subst h;exact⟨_,_,hx.2⟩
 case vsl id off k lb z ex=>
  injection h with h;subst h
  obtain⟨_,a,cap,rfl,_⟩:=hx
  exact⟨_,_,rfl⟩
theorem opLen_sound(hE:EOK P E){t:TypeId}{x:SV}{p:Plan}{m:Mem}{κ:Kont α}(h:(opLen E t x p m κ).holds L):
  ∃v,(κ v p m).holds L∧∀m2,Shape m m2→∀ (ts:Array TypeId) ty w0 R0 ρ w (xv:Value),ts[0]? =some t→MRel w0 R0 ρ w m2→Rep (RO w0 R0 ρ w m2) ρ m2.next w x xv→Plainly P m2 v (Builtin.len_ ts ty #[xv]) w0 R0 ρ w:=by
 unfold opLen at h
 split at h
 ·rename_i r hr
  have hu:=(hE.row _ _ hr).und
  split at h
  ·rename_i n e hd
   rw[hd]at hu
   refine⟨_,h,fun m2 hsh ts ty w0 R0 ρ w xv ht hm hx=>⟨_,?_,rfl⟩⟩
   cases xv<;>simp[Builtin.len_,ht,run_underlying hu,goInt]
  ·rename_i hd
   rw[hd]at hu
   split at h
   ·rename_i s
    refine⟨_,h,fun m2 hsh ts ty w0 R0 ρ w xv ht hm hx=>⟨_,?_,rfl⟩⟩
    rw[show xv=_ from hx]
    simp only[Builtin.len_,ht,Array.getElem?_eq_getElem (show 0< (#[Value.string ⟨⟨s⟩⟩]).size by simp),Sem.run_bind,run_underlying hu,Result.andThen_ok]
    rfl
   ·exact h.elim
  ·rename_i e hd
   rw[hd]at hu
   split at h
   ·rename_i n hn
    refine⟨_,h,fun m2 hsh ts ty w0 R0 ρ w xv ht hm hx=>⟨_,?_,rfl⟩⟩
    obtain⟨a,c,rfl⟩:=lenOf_run hn hsh hm hx
    simp[Builtin.len_,ht,run_underlying hu,goInt]
   ·exact h.elim
  ·rename_i kt et hd
   rw[hd]at hu
   split at h
   ·rename_i id
    split at h
    ·rename_i es c hg
     refine⟨_,h,fun m2 hsh ts ty w0 R0 ρ w xv ht hm hx=>⟨goInt es.length,?_,rfl⟩⟩
     obtain⟨hid,rfl⟩:=hx
     obtain⟨B',hg2,hl⟩:=hsh id _ hg
     cases B'<;>try exact hl.elim
     obtain⟨rfl,rfl⟩:=hl
     obtain⟨arr,b1,b2⟩:=hm.box id _ hg2
     have hlen:arr.size=es.length:=by rw[←Array.length_toList];exact b2.length
     simp[Builtin.len_,ht,run_underlying hu,run_getMap b1,hlen]
    ·exact h.elim
   ·rename_i v
    split at h
    ·refine⟨_,h,fun m2 hsh ts ty w0 R0 ρ w xv ht hm hx=>⟨goInt 0,?_,rfl⟩⟩
     rw[show xv=_ from hx]
     simp[Builtin.len_,ht,run_underlying hu]
    ·exact h.elim
   ·exact h.elim
  ·exact h.elim
 ·exact h.elim
theorem maxAll_run{R:Nat→Prop}{ρ:Rho}{n:Nat}{w:World}:∀ (vs:List SV) (x v:SV) (us:List Value) (u:Value),maxAll x vs=some v→Rep R ρ n w x u→RepL R ρ n w vs us→∃y,(us.foldlM Builtin.max2 u).run P w=.ok y w∧Rep R ρ n w v y
 |[],x,v,us,u,h,hx,hv=>by
  rw[show us=[]from hv]
  simp only[maxAll]at h;injection h with h;subst h
  exact⟨u,rfl,hx⟩
 |y::vs,x,v,us,u,h,hx,hv=>by
  obtain⟨b,bs,rfl,h1,h2⟩:=hv
  unfold maxAll at h
  split at h
  ·rename_i heq;cases heq
  ·rename_i heq
   injection heq with e1 e2
   subst e1 e2
   rw[show u=_ from hx,show b=_ from h1]
   obtain⟨z,h3,h4⟩:=maxAll_run vs _ v bs _ h rfl h2
   exact⟨z,by simp only[List.foldlM_cons,Builtin.max2,pure_bind];exact h3,h4⟩
  ·cases h
theorem minAll_run{R:Nat→Prop}{ρ:Rho}{n:Nat}{w:World}:∀ (vs:List SV) (x v:SV) (us:List Value) (u:Value),minAll x vs=some v→Rep R ρ n w x u→RepL R ρ n w vs us→∃y,(us.foldlM Builtin.min2 u).run P w=.ok y w∧Rep R ρ n w v y
 |[],x,v,us,u,h,hx,hv=>by
  rw[show us=[]from hv]
  simp only[minAll]at h;injection h with h;subst h
  exact⟨u,rfl,hx⟩
 |y::vs,x,v,us,u,h,hx,hv=>by
  obtain⟨b,bs,rfl,h1,h2⟩:=hv
  unfold minAll at h
  split at h
  ·rename_i heq;cases heq
  ·rename_i heq
   injection heq with e1 e2
   subst e1 e2
   rw[show u=_ from hx,show b=_ from h1]
   obtain⟨z,h3,h4⟩:=minAll_run vs _ v bs _ h rfl h2
   exact⟨z,by simp only[List.foldlM_cons,Builtin.min2,pure_bind];exact h3,h4⟩
  ·cases h
theorem opCopy_sound(hE:EOK P E){t:TypeId}{d x:SV}{p:Plan}{m:Mem}{κ:Kont α}(h:(opCopy E t d x p m κ).holds L):
  ∃v p' m',(κ v p' m').holds L∧∀ (ts:Array TypeId) ty w0 R0 ρ w (dv xv:Value),ts[0]? =some t→MRel w0 R0 ρ w m→Rep (RO w0 R0 ρ w m) ρ m.next w d dv→Rep (RO w0 R0 ρ w m) ρ m.next w x xv→
   ∃u w',(Builtin.copy_ ts ty #[dv,xv]).run P w=.ok u w'∧OpOut w0 R0 ρ w m v m' u w':=by
 unfold opCopy at h
 split at h
 ·rename_i e sz by_ ze ty0 eg he hrow
  have hu:=(hE.row _ _ hrow).und
  dsimp only at hu
  split at h
  ·rename_i de size bytes ze' u eg' he' hre
   have hok:=hE.row _ _ hre
   split at h
   ·rename_i hs
    have hs:size=u.sz:=by simpa using hs
    split at h
    ·rename_i xs hxs
     split at h
     ·rename_i id
      split at h
      ·rename_i v l hg
       split at h
       ·rename_i hv
        subst hv
        split at h
        ·obtain⟨hb,h⟩:=h
         simp only[Bool.and_eq_true,decide_eq_true_eq,Bool.not_eq_true',List.isEmpty_eq_false_iff]at hb
         obtain⟨hl,hne⟩:=hb
         obtain⟨m',h1,h2⟩:=Mem.set_holds h
         refine⟨_,p,m',h2,fun ts ty w0 R0 ρ w dv xv ht hm hd hx=>?_⟩
         obtain⟨vs,k1,k2,k3⟩:=elemsOf_cells (P:=P) hxs hm hx
         obtain⟨_,a,rfl,ha⟩:=hd
         obtain⟨b1,b2,bp⟩:=hm.box id _ hg
         have hpos:0<l.length:=List.length_pos_iff.2 hne
         have hcap:0< (ρ id).2.2:=by omega
         obtain⟨arr,el,fr,c1,c2,c3,c4⟩:=bp hcap
         have hvl:=k3.length
         have hroom:0+0+vs.length≤arr.size:=by
          rw[c3,hvl]
          have:=Nat.mul_le_mul_right v.sz (show xs.length≤(ρ id).2.2 by omega)
          omega
         have hone:∀y∈vs,y.oneCell'=true:=by
          have:∀ (zs:List v.T) (us:List Value),RepDL (RO w0 R0 ρ w m) w v zs us→∀y∈us,y.oneCell'=true:=by
           intro zs
           induction zs with
           |nil=>intro us hr y hy;rw[show us=[]from hr]at hy;cases hy
           |cons z zs ih=>
            intro us hr y hy
            obtain⟨v1,v2,rfl,r1,r2⟩:=hr
            rcases List.mem_append.1 hy with hy|hy
            ·exact repD_one _ _ _ r1 y hy
            ·exact ih _ r2 y hy
          exact this _ _ k3
         obtain⟨w',r1,r2,r3,r4,r5,r6,r7⟩:=run_storeCells' (P:=P) (ρ id).1 0 el fr vs 0 arr w c1 c2.1 hroom hone
         rw[ha hcap]
         rw[←hs]at k2
         have hmin:Nat.min xs.length (ρ id).2.1=xs.length:=Nat.min_eq_left (by omega)
         have hrun:(Builtin.copy_ ts ty #[.slice (some ⟨(ρ id).1,0,none⟩) (ρ id).2.1 (ρ id).2.2,xv]).run P w=.ok (goInt xs.length) w':=by
          simp[Builtin.copy_,ht,run_underlying hu,k1,hmin,run_sizeOf' hok,k2,r1]
         refine⟨_,_,hrun,?_⟩
         obtain⟨g1,g2⟩:=hm.setBox (B':=.rows v (xs++l.drop xs.length)) hg hcap h1 r3 r4 r5 r6 r7 fun R e'=>by
          refine⟨by rw[List.length_append,List.length_drop];omega,by rw[List.length_append,List.length_drop];omega,fun _=>⟨_,_,_,r2,⟨unfrozen_over c2.1 (by omega),c2.2⟩,by rw[overA_size (by omega)];exact c3,fun i hi=>?_⟩⟩
          rw[List.length_append,List.length_drop]at hi
          by_cases hi':i<xs.length
          ·obtain⟨cs,q1,q2,q3⟩:=(RepDL.mono e'.keep k3).elems i hi'
           refine⟨cs,q1,fun j hj=>?_,by rw[List.getElem_append_left hi'];exact q3⟩
           have:(i+1)*v.sz≤xs.length*v.sz:=Nat.mul_le_mul_right _ hi'
           rw[Nat.succ_mul]at this
           rw[←q2 j hj,overA_get (by omega),if_pos (by omega),Nat.sub_zero]
          ·obtain⟨cs,q1,q2,q3⟩:=c4 i (by omega)
           refine⟨cs,q1,fun j hj=>?_,?_⟩
           ·have:xs.length*v.sz≤i*v.sz:=Nat.mul_le_mul_right _ (by omega)
            rw[←q2 j hj,overA_get (by omega),if_neg (by omega)]
           ·rw[List.getElem_append_right (by omega),List.getElem_drop]
            have q4:=RepD.mono e'.keep v _ _ q3
            have:xs.length+(i-xs.length)=i:=by omega
            simpa only[this]using q4
         exact⟨ρ,g1,g2,rfl⟩
        ·obtain⟨hb,h⟩:=h
         simp only[Bool.and_eq_true,beq_iff_eq,Bool.not_eq_true',List.isEmpty_eq_false_iff]at hb
         obtain⟨hl,hne⟩:=hb
         obtain⟨m',h1,h2⟩:=Mem.set_holds h
         refine⟨_,p,m',h2,fun ts ty w0 R0 ρ w dv xv ht hm hd hx=>?_⟩
         obtain⟨vs,k1,k2,k3⟩:=elemsOf_cells (P:=P) hxs hm hx
         obtain⟨_,a,rfl,ha⟩:=hd
         obtain⟨b1,b2,bp⟩:=hm.box id _ hg
         have hpos:0<xs.length:=List.length_pos_iff.2 hne
         have hcap:0< (ρ id).2.2:=by omega
         obtain⟨arr,el,fr,c1,c2,c3,c4⟩:=bp hcap
         have hvl:=k3.length
         have hroom:0+0+vs.length≤arr.size:=by
          rw[c3,hvl]
          have:=Nat.mul_le_mul_right v.sz (show xs.length≤(ρ id).2.2 by omega)
          omega
         have hone:∀y∈vs,y.oneCell'=true:=by
          have:∀ (zs:List v.T) (us:List Value),RepDL (RO w0 R0 ρ w m) w v zs us→∀y∈us,y.oneCell'=true:=by
           intro zs
           induction zs with
           |nil=>intro us hr y hy;rw[show us=[]from hr]at hy;cases hy
           |cons z zs ih=>
            intro us hr y hy
            obtain⟨v1,v2,rfl,r1,r2⟩:=hr
            rcases List.mem_append.1 hy with hy|hy
            ·exact repD_one _ _ _ r1 y hy
            ·exact ih _ r2 y hy
          exact this _ _ k3
         obtain⟨w',r1,r2,r3,r4,r5,r6,r7⟩:=run_storeCells' (P:=P) (ρ id).1 0 el fr vs 0 arr w c1 c2.1 hroom hone
         rw[ha hcap]
         rw[←hs]at k2
         have hmin:Nat.min xs.length (ρ id).2.1=xs.length:=by rw[hl,b1];exact Nat.min_self _
         have hrun:(Builtin.copy_ ts ty #[.slice (some ⟨(ρ id).1,0,none⟩) (ρ id).2.1 (ρ id).2.2,xv]).run P w=.ok (goInt xs.length) w':=by
          simp[Builtin.copy_,ht,run_underlying hu,k1,hmin,run_sizeOf' hok,k2,r1]
         refine⟨_,_,hrun,?_⟩
         obtain⟨g1,g2⟩:=hm.setBox (B':=.rows v xs) hg hcap h1 r3 r4 r5 r6 r7 fun R e'=>by
          refine boxRows_of (rest:=(overA arr 0 vs).toList.drop vs.length) (vs:=vs) (by rw[hl,b1]) (by omega) r2 ⟨unfrozen_over c2.1 (by omega),c2.2⟩ (by rw[overA_size (by omega)];exact c3) ?_ (RepDL.mono e'.keep k3)
          have:(overA arr 0 vs).toList.take vs.length=vs:=by
           apply List.ext_getElem?
           intro k
           rw[List.getElem?_take]
           by_cases hk:k<vs.length
           ·rw[if_pos hk,Array.getElem?_toList,overA_get (by omega),if_pos (by omega),Nat.sub_zero]
           ·rw[if_neg hk,List.getElem?_eq_none (by omega)]
          conv=>lhs;rw[←List.take_append_drop vs.length (overA arr 0 vs).toList,this]
         exact⟨ρ,g1,g2,rfl⟩
       ·exact h.elim
      ·exact h.elim
     ·exact h.elim
    ·exact h.elim
   ·exact h.elim
  ·exact h.elim
 ·exact h.elim
theorem opBuiltin_sound(hE:EOK P E){b:Builtin}{ts:List TypeId}{vs:List SV}{p:Plan}{m:Mem}{κ:Kont α}(h:(opBuiltin E b ts vs p m κ).holds L):
  ∃v p' m',(κ v p' m').holds L∧(b≠.append→b≠.copy→b≠.clear→b≠.delete→m'=m)∧(b=.len→∀m2,Shape m m2→∀ty cs w0 R0 ρ w (us:List Value),MRel w0 R0 ρ w m2→RepL (RO w0 R0 ρ w m2) ρ m2.next w vs us→
   ∃u w',(Go.builtin b ts.toArray ty cs us.toArray).run P w=.ok (.value u) w'∧OpOut w0 R0 ρ w m2 v m2 u w')∧∀ty cs w0 R0 ρ w (us:List Value),MRel w0 R0 ρ w m→RepL (RO w0 R0 ρ w m) ρ m.next w vs us→
   ∃u w',(Go.builtin b ts.toArray ty cs us.toArray).run P w=.ok (.value u) w'∧OpOut w0 R0 ρ w m v m' u w':=by
 unfold opBuiltin at h
 split at h
 ·rename_i t x
  obtain⟨v,h1,h2⟩:=opLen_sound hE h
  have key:∀m2,Shape m m2→∀ty (cs:Array Bool) w0 R0 ρ w (us:List Value),MRel w0 R0 ρ w m2→RepL (RO w0 R0 ρ w m2) ρ m2.next w [x] us→
   ∃u w',(Go.builtin .len [t].toArray ty cs us.toArray).run P w=.ok (.value u) w'∧OpOut w0 R0 ρ w m2 v m2 u w':=?key
  exact⟨v,p,m,h1,fun _ _ _ _=>rfl,fun _ m2 hsh ty cs=>key m2 hsh ty cs,fun ty cs=>key m (Shape.refl m) ty cs⟩
  intro m2 hsh ty cs w0 R0 ρ w us hm hus
  obtain⟨u,us',rfl,h3,h4⟩:=hus
  rw[show us'=[]from h4]
  obtain⟨y,h5,h6⟩:=h2 m2 hsh [t].toArray ty w0 R0 ρ w u (by simp) hm h3
  have h5':(Builtin.len_ #[t] ty #[u]).run P w=.ok y w:=h5
  exact⟨y,w,by simp[Go.builtin,h5'],OpOut.same hm h6⟩
 ·rename_i t t1 s x
  have key:∀ (hE1:(∃e',P.underlying t1=some (.slice e'))∨P.underlying t1=some .string),(match E.hp with
    |false=>opAppend E t s x p m κ
    |true=>opAppendH E t s x p m κ:Tree α).holds L→∃v p' m',(κ v p' m').holds L∧(Builtin.append≠.append→Builtin.append≠.copy→Builtin.append≠.clear→Builtin.append≠.delete→m'=m)∧(Builtin.append=.len→∀m2,Shape m m2→∀ty cs w0 R0 ρ w (us:List Value),MRel w0 R0 ρ w m2→RepL (RO w0 R0 ρ w m2) ρ m2.next w [s,x] us→
   ∃u w',(Go.builtin .append [t,t1].toArray ty cs us.toArray).run P w=.ok (.value u) w'∧OpOut w0 R0 ρ w m2 v m2 u w')∧∀ty cs w0 R0 ρ w (us:List Value),MRel w0 R0 ρ w m→RepL (RO w0 R0 ρ w m) ρ m.next w [s,x] us→
   ∃u w',(Go.builtin .append [t,t1].toArray ty cs us.toArray).run P w=.ok (.value u) w'∧OpOut w0 R0 ρ w m v m' u w':=by
   intro hE1 h
   have both:∃v p' m',(κ v p' m').holds L∧∀ (ts:Array TypeId) ty w0 R0 ρ w (sv xv:Value),(∀e,P.underlying t=some (.slice e)→AppOK P ts t e)→MRel w0 R0 ρ w m→Rep (RO w0 R0 ρ w m) ρ m.next w s sv→Rep (RO w0 R0 ρ w m) ρ m.next w x xv→Yields' P m v m' (Builtin.append_ ts ty #[sv,xv]) w0 R0 ρ w:=by
    split at h
    ·exact opAppend_sound hE h
    ·exact opAppendH_sound hE h
   obtain⟨v,p',m',h1,h2⟩:=both
   refine⟨v,p',m',h1,fun hn _ _ _=>absurd rfl hn,(fun hn=>by cases hn),fun ty cs w0 R0 ρ w us hm hus=>?_⟩
   obtain⟨u,us',rfl,h3,y,us2,rfl,h4,h5⟩:=hus
   rw[show us2=[]from h5]
   obtain⟨z,w',h6,h7⟩:=h2 [t,t1].toArray ty w0 R0 ρ w u y (fun e he=>⟨by simp,t1,by simp,hE1⟩) hm h3 h4
   have h6':(Builtin.append_ #[t,t1] ty #[u,y]).run P w=.ok z w':=h6
   exact⟨z,w',by simp[Go.builtin,h6'],h7⟩
  split at h
  ·rename_i e sz by_ ze ty eg he hr
   exact key (.inl ⟨e,(hE.row _ _ hr).und⟩) h
  ·rename_i sz by_ ze ty eg he hr
   exact key (.inr (hE.row _ _ hr).und) h
  ·exact h.elim
 ·rename_i t t1 d x
  have both:∃v p' m',(κ v p' m').holds L∧∀ (ts:Array TypeId) ty w0 R0 ρ w (dv xv:Value),ts[0]? =some t→MRel w0 R0 ρ w m→Rep (RO w0 R0 ρ w m) ρ m.next w d dv→Rep (RO w0 R0 ρ w m) ρ m.next w x xv→∃u w',(Builtin.copy_ ts ty #[dv,xv]).run P w=.ok u w'∧OpOut w0 R0 ρ w m v m' u w':=by
   split at h
   ·exact opCopy_sound hE h
   ·exact opCopyH_sound hE h
  obtain⟨v,p',m',h1,h2⟩:=both
  refine⟨v,p',m',h1,fun _ hn _ _=>absurd rfl hn,(fun hn=>by cases hn),fun ty cs w0 R0 ρ w us hm hus=>?_⟩
  obtain⟨u,us',rfl,h3,y,us2,rfl,h4,h5⟩:=hus
  rw[show us2=[]from h5]
  obtain⟨z,w',h6,h7⟩:=h2 [t,t1].toArray ty w0 R0 ρ w u y (by simp) hm h3 h4
  have h6':(Builtin.copy_ #[t,t1] ty #[u,y]).run P w=.ok z w':=h6
  exact⟨z,w',by simp[Go.builtin,h6'],h7⟩
 ·rename_i t x
  obtain⟨v,p',m',h1,h2⟩:=opClearH_sound hE h
  refine⟨v,p',m',h1,fun _ _ hn _=>absurd rfl hn,(fun hn=>by cases hn),fun ty cs w0 R0 ρ w us hm hus=>?_⟩
  obtain⟨u,us',rfl,h3,h4⟩:=hus
  rw[show us'=[]from h4]
  obtain⟨z,w',h6,h7⟩:=h2 [t].toArray ty w0 R0 ρ w u (by simp) hm h3
  have h6':(Builtin.clear_ #[t] ty #[u]).run P w=.ok z w':=h6
  exact⟨z,w',by simp[Go.builtin,h6'],h7⟩
 ·rename_i t t1 x k
  obtain⟨v,p',m',h1,h2⟩:=opDelete_sound hE h
  refine⟨v,p',m',h1,fun _ _ _ hn=>absurd rfl hn,(fun hn=>by cases hn),fun ty cs w0 R0 ρ w us hm hus=>?_⟩
  obtain⟨u,us',rfl,h3,y,us2,rfl,h4,h5⟩:=hus
  rw[show us2=[]from h5]
  obtain⟨z,w',h6,h7⟩:=h2 [t,t1].toArray ty w0 R0 ρ w u y (by simp) hm h3 h4
  have h6':(Builtin.delete_ #[t,t1] ty #[u,y]).run P w=.ok z w':=h6
  exact⟨z,w',by simp[Go.builtin,h6'],h7⟩
 ·rename_i v vs
  split at h
  ·rename_i y hy
   refine⟨y,p,m,h,fun _ _ _ _=>rfl,(fun hn=>by cases hn),fun ty cs w0 R0 ρ w us hm hus=>?_⟩
   obtain⟨u,us',rfl,h3,h4⟩:=hus
   obtain⟨z,h5,h6⟩:=maxAll_run (P:=P) vs v y us' u hy h3 h4
   exact⟨z,w,by simp[Go.builtin,Builtin.max_,h5],OpOut.same hm h6⟩
  ·exact h.elim
 ·rename_i v vs
  split at h
  ·rename_i y hy
   refine⟨y,p,m,h,fun _ _ _ _=>rfl,(fun hn=>by cases hn),fun ty cs w0 R0 ρ w us hm hus=>?_⟩
   obtain⟨u,us',rfl,h3,h4⟩:=hus
   obtain⟨z,h5,h6⟩:=minAll_run (P:=P) vs v y us' u hy h3 h4
   exact⟨z,w,by simp[Go.builtin,Builtin.min_,h5],OpOut.same hm h6⟩
  ·exact h.elim
 ·exact h.elim
theorem fill_over(cells:Array Value)(off:Nat)(vs:Array Value)(h:off+vs.toList.length≤cells.size):vs.zipIdx.foldl (fun cs (c,j)=>cs.setIfInBounds (off+j) c) cells=overA cells off vs.toList:=by
 rw[←Array.foldl_toList,Array.toList_zipIdx]
 obtain⟨h1,h2⟩:=Great.foldl_set off vs.toList 0 cells
 apply Array.ext_getElem?
 intro k
 rw[overA_get h]
 have:=h2 k
 simp only[Nat.add_zero]at this
 rw[this]
 by_cases hk:off≤k∧k<off+vs.toList.length
 ·rw[if_pos ⟨hk.1,hk.2,by omega⟩,if_pos hk]
 ·rw[if_neg (fun h=>hk ⟨h.1,h.2.1⟩),if_neg hk]
def PR(R:Nat→Prop)(ρ:Rho)(n:Nat)(w:World):List (Nat×SV)→List (Nat×Value)→Prop
 |[],vs=>vs=[]
 |x::xs,vs=>∃u us,vs=(x.1,u)::us∧Rep R ρ n w x.2 u∧PR R ρ n w xs us
theorem PR.map{R:Nat→Prop}{ρ:Rho}{n:Nat}{w:World}(ev:Operand→SV)(eb:Operand→Value):∀xs:List (Nat×Operand),(∀x∈xs,Rep R ρ n w (ev x.2) (eb x.2))→PR R ρ n w (xs.map fun x=>(x.1,ev x.2)) (xs.map fun x=>(x.1,eb x.2))
 |[],_=>rfl
 |x::xs,h=>⟨_,_,rfl,h x List.mem_cons_self,PR.map ev eb xs fun y hy=>h y (List.mem_cons_of_mem _ hy)⟩
theorem fillK_holds(place:Nat→Option (Nat×Nat)):∀ (parts:List (Nat×SV)) (cs:List SV) (k:List SV→Tree α),(fillK place cs parts k).holds L→
  ∃cs',(k cs').holds L∧∀ (R:Nat→Prop) (ρ:Rho) (n:Nat) (w:World) (vs:List (Nat×Value)) (arr:Array Value),PR R ρ n w parts vs→RepL R ρ n w cs arr.toList→∃arr',Instr.fill place arr vs=some arr'∧RepL R ρ n w cs' arr'.toList
 |[],cs,k,h=>⟨cs,h,fun R ρ n w vs arr hv hc=>by rw[show vs=[]from hv];exact⟨arr,rfl,hc⟩⟩
 |x::parts,cs,k,h=>by
  change (match place x.1 with
   |some os=>match os.2==x.2.cells.length&&all1 x.2.cells&&Nat.ble 1 os.2 with
    |true=>overK cs os.1 x.2.cells fun cs=>fillK place cs parts k
    |false=>.fail 94
   |none=>.fail 95:Tree α).holds L at h
  split at h
  ·rename_i os hos
   split at h
   ·rename_i hsz
    simp only[Bool.and_eq_true,beq_iff_eq,Nat.ble_eq]at hsz
    obtain⟨⟨hs1,hs2⟩,hs3⟩:=hsz
    rcases overK_holds _ _ _ _ h with⟨h0,_⟩|⟨h0,h1⟩
    ·rw[h0]at hs1;simp at hs1;omega
    obtain⟨cs',h3,h4⟩:=fillK_holds place parts _ k h1
    refine⟨cs',h3,fun R ρ n w vs arr hv hc=>?_⟩
    obtain⟨u,us,rfl,h5,h6⟩:=hv
    obtain⟨h7,h8⟩:=h5.cells hs2
    have hl:=h7.length
    have hal:=hc.length
    have hfit:os.1+u.cells.toList.length≤arr.size:=by
     rw[hl];rw[Array.length_toList]at hal;omega
    have e1:u.cells.size=os.2:=by rw[hs1,←hl];simp
    have e2:¬os.1+u.cells.size>arr.size:=by rw[Array.length_toList]at hfit;omega
    have e3:¬os.1+os.2>arr.size:=by rw[←e1];exact e2
    simp only[Instr.fill,hos,e1,ne_eq,not_true_eq_false,decide_false,Bool.false_or,e3,Bool.false_eq_true,if_false]
    rw[fill_over _ _ _ hfit]
    exact h4 R ρ n w us _ h6 (over_rep hc h7)
   ·exact h.elim
  ·exact h.elim
theorem placesOf_run(hE:EOK P E)(w:World):∀ (fs:List Field) (pl:List (Nat×Nat)),placesOf E fs=some pl→(fs.mapM (fun f=>do pure (f.offset,←sizeOf f.type)):Sem (List (Nat×Nat))).run P w=.ok pl w
 |[],pl,h=>by
  have:some [] =some pl:=h
  injection this with this;subst this;rfl
 |f::fs,pl,h=>by
  change (match E.row f.type,placesOf E fs with
   |some r,some l=>some ((f.offset,r.size)::l)
   |_,_=>none)=some pl at h
  split at h
  ·rename_i r l hr hl
   injection h with h;subst h
   simp only[List.mapM_cons,Sem.run_bind,run_sizeOf' (hE.row _ _ hr),Result.andThen_ok,Sem.run_pure,placesOf_run hE w fs l hl]
  ·cases h
theorem opBuild_sound(hE:EOK P E){t:TypeId}{parts:List (Nat×SV)}{p:Plan}{m:Mem}{κ:Kont α}(h:(opBuild E t parts p m κ).holds L):
  ∃v,(κ v p m).holds L∧∀ (m:Mem) w0 R0 ρ w (vs:List (Nat×Value)),PR (RO w0 R0 ρ w m) ρ m.next w parts vs→Plainly P m v (Instr.build t vs.toArray) w0 R0 ρ w:=by
 unfold opBuild at h
 split at h
 ·rename_i r hr
  have hok:=hE.row _ _ hr
  have hu:=hok.und
  obtain⟨z,hz1,hz2,_⟩:=run_zero' hok
  split at h
  ·rename_i fs hd
   rw[hd]at hu
   split at h
   ·rename_i pl hpl
    obtain⟨cs',h1,h2⟩:=fillK_holds _ _ _ _ h
    refine⟨_,h1,fun m w0 R0 ρ w vs hv=>?_⟩
    obtain⟨arr',h3,h4⟩:=h2 _ _ _ _ _ z.cells hv (hz2 _ _ _ _)
    have hp:=placesOf_run hE w fs.toList pl hpl
    have hpl':∀i,(pl.toArray[i]? :Option (Nat×Nat))=nth pl i:=fun i=>by rw[nth_eq];simp
    refine⟨.agg arr',?_,_,rfl,h4⟩
    simp only[Instr.build,Sem.run_bind,hz1,Result.andThen_ok,run_underlying hu]
    rw[Array.mapM_eq_mapM_toList,Sem.run_map,hp]
    simp only[Result.andThen_ok,hpl']
    rw[h3];rfl
   ·exact h.elim
  ·rename_i n e hd
   rw[hd]at hu
   split at h
   ·rename_i re hre
    obtain⟨cs',h1,h2⟩:=fillK_holds _ _ _ _ h
    refine⟨_,h1,fun m w0 R0 ρ w vs hv=>?_⟩
    obtain⟨arr',h3,h4⟩:=h2 _ _ _ _ _ z.cells hv (hz2 _ _ _ _)
    refine⟨.agg arr',?_,_,rfl,h4⟩
    simp only[Instr.build,Sem.run_bind,hz1,Result.andThen_ok,run_underlying hu,run_sizeOf' (hE.row _ _ hre)]
    rw[h3];rfl
   ·exact h.elim
  ·exact h.elim
 ·exact h.elim
theorem opBuildSlice_sound(hE:EOK P E){t:TypeId}{n:Nat}{parts:List (Nat×SV)}{p:Plan}{m:Mem}{κ:Kont α}(h:(opBuildSlice E t n parts p m κ).holds L):
  ∃v m',(κ v p m').holds L∧∀w0 R0 ρ w (vs:List (Nat×Value)),MRel w0 R0 ρ w m→PR (RO w0 R0 ρ w m) ρ m.next w parts vs→Yields' P m v m' (Instr.buildSlice t n vs.toArray) w0 R0 ρ w:=by
 unfold opBuildSlice at h
 split at h
 ·rename_i e sz by_ ze ty eg he hr
  have hu:=(hE.row _ _ hr).und
  dsimp only at hu
  split at h
  ·rename_i re hre
   have hok:=hE.row _ _ hre
   obtain⟨z,hz1,hz2,_⟩:=run_zero' hok
   split at h
   ·rename_i hs
    simp only[Bool.and_eq_true,decide_eq_true_eq]at hs
    obtain⟨cs',h1,h2⟩:=fillK_holds _ _ _ _ h
    have key:∀w0 R0 ρ w (vs:List (Nat×Value)),MRel w0 R0 ρ w m→PR (RO w0 R0 ρ w m) ρ m.next w parts vs→∃arr':Array Value,RepL (RO w0 R0 ρ w m) ρ m.next w cs' arr'.toList∧(Instr.buildSlice t n vs.toArray).run P w=.ok (.slice (some ⟨w.heap.size,0,none⟩) n n) (w.alloc (.cells arr' e)):=by
     intro w0 R0 ρ w vs hm hv
     have hzl:z.cells.toList.length=re.size:=by
      rw[(hz2 (RO w0 R0 ρ w m) ρ m.next w).length];exact hs.2
     have hrep:=repeat_rep (hz2 (RO w0 R0 ρ w m) ρ m.next w) n
     have hzs:z.cells.size=re.size:=by simpa using hzl
     -- the zero cells
     have hzero:∃zs:Array Value,((n*re.size=0∧zs=#[])∨(¬n*re.size=0∧zs=z.cells))∧((Array.range (n*re.size)).map (zs[· % zs.size]!)).toList=(List.range (n*z.cells.toList.length)).map fun i=>z.cells.toList.getD (i % z.cells.toList.length) default:=by
      by_cases h0:n*re.size=0
      ·refine⟨#[],.inl ⟨h0,rfl⟩,?_⟩
       rw[hzl,h0];simp
      ·refine⟨z.cells,.inr ⟨h0,rfl⟩,?_⟩
       rw[hzs]
       exact zeros_list hzs _
     obtain⟨zs,q1,q2⟩:=hzero
     obtain⟨arr',h5,h6⟩:=h2 _ _ _ _ _ ((Array.range (n*re.size)).map (zs[· % zs.size]!)) hv (by rw[q2];exact hrep)
     refine⟨arr',h6,?_⟩
     have hbig:¬n*re.size>2 ^ 24:=by have:=hs.1;omega
     simp only[Instr.buildSlice,Sem.run_bind,run_underlying hu,Result.andThen_ok,run_sizeOf' hok,hbig,if_false,pure_bind]
     rcases q1 with⟨h0,rfl⟩|⟨h0,rfl⟩
     ·rw[if_pos h0,h5]
      simp[newRow]
     ·rw[if_neg h0]
      simp only[Sem.run_bind,hz1,Result.andThen_ok]
      rw[h5]
      simp[newRow]
    split at h1
    ·obtain⟨m',h3,h4⟩:=Mem.push_holds h1
     refine⟨_,m',h4,fun w0 R0 ρ w vs hm hv=>?_⟩
     obtain⟨arr',h6,hrun⟩:=key w0 R0 ρ w vs hm hv
     obtain⟨g1,g2⟩:=hm.alloc (o:=.cells arr' e) h3 n n (fun R n' ρ' e'=>⟨arr',e,(0,0),heap_alloc_new w _,unfrozen_zero _,RepL.mono e' _ _ h6⟩)
     exact⟨.slice (some ⟨w.heap.size,0,none⟩) n n,w.alloc (.cells arr' e),hrun,_,g1,g2,by rw[h3.2];omega,by rw[upd_same]⟩
    ·split at h1
     ·rename_i hlen
      have hlen:=Nat.eq_of_beq_eq_true hlen
      obtain⟨m',h3,h4⟩:=Mem.push_holds h1
      refine⟨_,m',h4,fun w0 R0 ρ w vs hm hv=>?_⟩
      obtain⟨arr',h6,hrun⟩:=key w0 R0 ρ w vs hm hv
      have hal:arr'.size=n*re.size:=by rw[←hlen,←h6.length];simp
      exact⟨_,_,hrun,push_vec (vs:=arr'.toList) (rest:=[]) hm h3 rfl rfl rfl (by simp) (fun k hk=>Below.heap_alloc w _ k hk) (heap_alloc_new w _) (unfrozen_zero _) (by simp) h6 (Nat.le_refl _) (Nat.le_refl _) (fun _=>rfl) (by rw[hal];exact Nat.le_refl _)⟩
     ·exact h1.elim
   ·exact h.elim
  ·exact h.elim
 ·exact h.elim
theorem opMakeSlice_sound(hE:EOK P E){t:TypeId}{len cap:SV}{p:Plan}{m:Mem}{κ:Kont α}(h:(opMakeSlice E t len cap p m κ).holds L):
  ∃v m',(κ v p m').holds L∧∀w0 R0 ρ w (lv cv:Value),MRel w0 R0 ρ w m→Rep (RO w0 R0 ρ w m) ρ m.next w len lv→Rep (RO w0 R0 ρ w m) ρ m.next w cap cv→Yields' P m v m' (Instr.makeSlice t lv cv) w0 R0 ρ w:=by
 unfold opMakeSlice at h
 split at h
 ·rename_i n c
  split at h
  ·rename_i e sz by_ ze ty eg he hr
   have hu:=(hE.row _ _ hr).und
   dsimp only at hu
   split at h
   ·rename_i de size bytes ze' u eg' he' hre
    have hok:=hE.row _ _ hre
    obtain⟨z,hz1,hz2,hz3⟩:=run_zero' hok
    obtain⟨i,hi,hib,his⟩:=run_typeInfo' hok
    split at h
    ·rename_i hs
     have hs':size=u.sz:=by simpa using hs
     obtain⟨hb,h⟩:=h
     simp only[Bool.and_eq_true,decide_eq_true_eq,beq_iff_eq]at hb
     obtain⟨⟨⟨hb1,hb2⟩,hb3⟩,hb4⟩:=hb
     obtain⟨m',h1,h2⟩:=Mem.push_holds h
     refine⟨_,m',h2,fun w0 R0 ρ w lv cv hm hl hc=>?_⟩
     rw[show lv=_ from hl,show cv=_ from hc,←hb2]
     have hw:i64.wrap n=n:=by
      unfold IntKind.wrap
      simp only[IntKind.signed,IntKind.bits]
      have:n % (2 ^ 64:Int)=n:=Int.emod_eq_of_lt hb1 (by omega)
      simp only[this]
      rw[if_neg (by simp;omega)]
     have hzl:=(RepD.flat (ρ:=ρ) (n:=0) u u.dflt _ (hz3 u rfl (fun _=>True) w)).1
     have hzs:z.cells.size=size:=by rw[hs'];simpa using hzl
     have hdl:∀k,RepDL (RO w0 R0 ρ w m) w u (List.replicate k u.dflt) ((List.range (k*size)).map fun i=>z.cells.toList.getD (i % size) default):=by
      intro k
      refine Elems.repDL (by simp[hs']) fun i hi'=>?_
      rw[List.length_replicate]at hi'
      refine⟨z.cells.toList,hzl,fun j hj=>?_,by simpa using hz3 u rfl _ _⟩
      have hlt:i*u.sz+j<k*size:=by
       have:(i+1)*u.sz≤k*size:=by rw[hs'];exact Nat.mul_le_mul_right _ hi'
       rw[Nat.succ_mul]at this;omega
      have hmod:(i*u.sz+j) % size=j:=by
       rw[hs',Nat.mul_comm,Nat.mul_add_mod];exact Nat.mod_eq_of_lt hj
      dsimp only
      rw[List.getElem?_map,List.getElem?_range hlt,Option.map_some,hmod]
      have hjl:j<z.cells.toList.length:=by omega
      rw[List.getD_eq_getElem?_getD,List.getElem?_eq_getElem hjl]
      rfl
     have hzero:∃zs:Array Value,((n.toNat*size=0∧zs=#[])∨(¬n.toNat*size=0∧zs=z.cells))∧((Array.range (n.toNat*size)).map (zs[· % zs.size]!)).toList=(List.range (n.toNat*size)).map fun i=>z.cells.toList.getD (i % size) default:=by
      by_cases h0:n.toNat*size=0
      ·refine⟨#[],.inl ⟨h0,rfl⟩,?_⟩
       rw[h0];simp
      ·refine⟨z.cells,.inr ⟨h0,rfl⟩,?_⟩
       simp only[Array.toList_map,Array.toList_range]
       apply List.map_congr_left
       intro k _
       rw[hzs]
       have:size≠0:=fun hc=>h0 (by rw[hc];simp)
       have hk:k % size<z.cells.size:=by rw[hzs];exact Nat.mod_lt _ (by omega)
       simp[List.getD,getElem!_pos,hk]
     obtain⟨zs,q1,q2⟩:=hzero
     have hkey:=push_rows (u:=u) (l:=List.replicate n.toNat u.dflt) (cap:=n.toNat) (vs:=(List.range (n.toNat*size)).map fun i=>z.cells.toList.getD (i % size) default) (rest:=[])
      (w1:=w.alloc (.cells ((Array.range (n.toNat*size)).map (zs[· % zs.size]!)) e)) hm h1 rfl rfl rfl (by simp) (fun k hk=>Below.heap_alloc w _ k hk) (heap_alloc_new w _) ⟨unfrozen_zero _,fun h=>hok.el (.inl (congrArg some h)) (by subst h;exact hs')⟩ (by simp[hs']) (by simp) (by rw[q2];simp) (hdl _)
     refine⟨_,_,?_,by simpa using hkey⟩
     have t1:¬n<0:=by omega
     have t2:¬(281474976710656< (i.bytes:Int)*n):=by
      have e1:(i.bytes:Int)=(bytes:Int):=by rw[hib]
      rw[e1];omega
     have hsr:=run_sizeOf' hok
     dsimp only at hsr
     simp only[Instr.makeSlice,Sem.run_bind,run_underlying hu,Result.andThen_ok,asInt,asIntOf,Sem.run_pure,hi,hw]
     rw[if_neg (by simp;omega)]
     simp only[Sem.run_bind,run_askRoom,Result.andThen_ok,hsr,pure_bind]
     rcases q1 with⟨h0,rfl⟩|⟨h0,rfl⟩
     ·rw[if_pos h0]
      simp[newRow]
     ·rw[if_neg h0]
      simp only[Sem.run_bind,hz1,Result.andThen_ok]
      simp[newRow]
    ·exact h.elim
   ·exact h.elim
  ·exact h.elim
 ·exact h.elim
theorem opRange_sound{x:SV}{p:Plan}{m:Mem}{κ:Kont α}(h:(opRange x p m κ).holds L):
  ∃v m',(κ v p m').holds L∧∀t w0 R0 ρ w (xv:Value),P.underlying t=some .string→MRel w0 R0 ρ w m→Rep (RO w0 R0 ρ w m) ρ m.next w x xv→Yields' P m v m' (Instr.range t xv) w0 R0 ρ w:=by
 unfold opRange at h
 split at h
 ·rename_i s
  obtain⟨m',h1,h2⟩:=Mem.push_holds h
  refine⟨_,m',h2,fun t w0 R0 ρ w xv hu hm hx=>?_⟩
  rw[show xv=_ from hx]
  obtain⟨g1,g2⟩:=hm.alloc (o:=.stringIter ⟨⟨s⟩⟩ 0) h1 0 0 (fun R n' ρ' e'=>heap_alloc_new w _)
  refine⟨.pointer (some ⟨w.heap.size,0,none⟩),_,?_,_,g1,g2,by rw[h1.2];omega,by rw[upd_same]⟩
  simp[Instr.range,run_underlying hu]
 ·exact h.elim
theorem opNext_sound{x:SV}{p:Plan}{m:Mem}{κ:Kont α}(h:(opNext x p m κ).holds L):
  ∃v p' m',(κ v p' m').holds L∧∀t w0 R0 ρ w (xv:Value),MRel w0 R0 ρ w m→Rep (RO w0 R0 ρ w m) ρ m.next w x xv→Yields' P m v m' (Instr.next xv true t) w0 R0 ρ w:=by
 unfold opNext at h
 split at h
 ·rename_i id
  split at h
  ·rename_i s pos hg
   obtain⟨p',h⟩:=dec_holds h
   have hb:∀w0 R0 ρ w,MRel w0 R0 ρ w m→w.heap[(ρ id).1]? =some (.stringIter ⟨⟨s⟩⟩ pos):=fun w0 R0 ρ w hm=>hm.box id _ hg
   by_cases hlt:pos<s.length
   ·rw[decide_eq_true hlt]at h
    dsimp only at h
    obtain⟨m',h1,h2⟩:=Mem.set_holds h
    refine⟨_,p',m',h2,fun t w0 R0 ρ w xv hm hx=>?_⟩
    obtain⟨hid,rfl⟩:=hx
    have hh:=hb w0 R0 ρ w hm
    have hsz:(ByteArray.mk ⟨s⟩).size=s.length:=rfl
    have hlb:(ρ id).1<w.heap.size:=hm.hi id _ hg trivial
    refine⟨.tuple #[.bool true,.int .i64 pos,.int .i32 (Utf8.decode ⟨⟨s⟩⟩ pos).1],{w with heap:=w.heap.setIfInBounds (ρ id).1 (.stringIter ⟨⟨s⟩⟩ (pos+(Utf8.decode ⟨⟨s⟩⟩ pos).2))},?_,ρ,?_⟩
    ·simp only[Instr.next,Sem.run_bind,getObj,Sem.run,hh,Result.andThen_ok,hsz,hlt,if_true,setObj,goInt]
     rfl
    ·obtain⟨g1,g2⟩:=hm.setBox (w':={w with heap:=w.heap.setIfInBounds (ρ id).1 (.stringIter ⟨⟨s⟩⟩ (pos+(Utf8.decode ⟨⟨s⟩⟩ pos).2))}) hg trivial h1 rfl rfl rfl (by simp) (fun k hk=>by simp[Array.getElem?_setIfInBounds,Ne.symm hk]) (fun R e'=>by simp[BoxRel,Array.getElem?_setIfInBounds,hlb])
     exact⟨g1,g2,_,rfl,_,_,rfl,rfl,_,_,rfl,rfl,_,_,rfl,rfl,rfl⟩
   ·rw[decide_eq_false hlt]at h
    dsimp only at h
    refine⟨_,p',m,h,fun t w0 R0 ρ w xv hm hx=>?_⟩
    obtain⟨hid,rfl⟩:=hx
    have hh:=hb w0 R0 ρ w hm
    have hsz:(ByteArray.mk ⟨s⟩).size=s.length:=rfl
    refine Plainly.yields ⟨.tuple #[.bool false],?_,_,rfl,_,_,rfl,rfl,rfl⟩ hm
    simp only[Instr.next,Sem.run_bind,getObj,Sem.run,hh,Result.andThen_ok,hsz,hlt,if_false]
    rfl
  ·exact h.elim
 ·exact h.elim
end
section
variable {P:Program} {E:Env} {α:Type}
def OpPost(P:Program)(Φ:Value→World→Prop):Result Next→Prop
 |.ok (.value v) w=>Φ v w
 |.ok .skip w=>Φ Go.undef w
 |.ok (.enter f args) w=>Calls P f args w fun e w'=>∃v,e=.returned v∧Φ v w'
 |_=>False
theorem OpPost.mono{Φ Ψ:Value→World→Prop}(h:∀v w,Φ v w→Ψ v w):∀{r:Result Next},OpPost P Φ r→OpPost P Ψ r
 |.ok (.value v) w,k=>h v w k
 |.ok .skip w,k=>h _ w k
 |.ok (.enter f args) w,k=>Calls.mono k fun e w' ⟨v,he,hv⟩=>⟨v,he,h v w' hv⟩
def SemOp(P:Program)(m:Mem)(v:SV)(m':Mem)(o:Oper)(ev:Operand→SV):Prop:=
 ∀w0 R0 ρ w (eb:Operand→Value),MRel w0 R0 ρ w m→(∀x∈o.op.operands,Rep (RO w0 R0 ρ w m) ρ m.next w (ev x) (eb x))→OpPost P (OpOut w0 R0 ρ w m v m') ((Go.execOp eb o).run P w)
def SemCall(P:Program)(m:Mem)(v:SV)(m':Mem)(f:FuncId)(args:List SV):Prop:=
 ∀w0 R0 ρ w (vs:List Value),MRel w0 R0 ρ w m→RepL (RO w0 R0 ρ w m) ρ m.next w args vs→OpPost P (OpOut w0 R0 ρ w m v m') ((Go.callFunc f vs.toArray).run P w)
def CallOK(P:Program)(Q:Bool)(call:CallK α):Prop:=
 ∀f args p m (κ:Kont α) (L:α→Prop),(call f args p m κ).holds L→∃v p' m',(κ v p' m').holds L∧(Q=true→m'=m∧∀m2,SemCall P m2 v m2 f args)∧SemCall P m v m' f args
theorem post_value{Φ:Value→World→Prop}{s:Sem Value}{w:World}{u:Value}{w':World}(h:s.run P w=.ok u w')(hΦ:Φ u w'):OpPost P Φ ((do pure (Next.value (←s)):Sem Next).run P w):=by
 simp only[Sem.run_bind,h,Result.andThen_ok,Sem.run_pure];exact hΦ
theorem ofLeaf_rep(v:Value)(R:Nat→Prop)(ρ:Rho)(n:Nat)(w:World):Rep R ρ n w (ofLeaf v) v:=by
 unfold ofLeaf
 split<;>rfl
theorem ofLeafs_rep(R:Nat→Prop)(ρ:Rho)(n:Nat)(w:World):∀vs:List Value,RepL R ρ n w (vs.map ofLeaf) vs
 |[] =>rfl
 |v::vs=>⟨v,vs,rfl,ofLeaf_rep v R ρ n w,ofLeafs_rep R ρ n w vs⟩
theorem ofVal_rep(v:Value)(R:Nat→Prop)(ρ:Rho)(n:Nat)(w:World):Rep R ρ n w (ofVal v) v:=by
 unfold ofVal
 split
 ·rename_i cs
  exact⟨cs.toList,rfl,ofLeafs_rep R ρ n w _⟩
 ·rename_i f a c
  split
  ·rename_i ha hc
   refine⟨[],[],?_,rfl,rfl⟩
   have h1:a=#[] :=by apply Array.ext';simpa using ha
   have h2:c=#[] :=by apply Array.ext';simpa using hc
   rw[h1,h2]
  ·rfl
 ·exact ofLeaf_rep _ R ρ n w
theorem svLeaf_rep{R:Nat→Prop}{ρ:Rho}{n:Nat}{w:World}:∀{x:SV} {v u:Value},svLeaf x=some v→Rep R ρ n w x u→u=v
 |.int _ _,_,_,h,hr=>by injection h with h;subst h;exact hr
 |.bool _,_,_,h,hr=>by injection h with h;subst h;exact hr
 |.str _,_,_,h,hr=>by injection h with h;subst h;exact hr
theorem svLeaves_rep{R:Nat→Prop}{ρ:Rho}{n:Nat}{w:World}:∀{xs:List SV} {vs us:List Value},svLeaves xs=some vs→RepL R ρ n w xs us→us=vs
 |[],_,_,h,hr=>by injection h with h;subst h;exact hr
 |x::xs,vs,us,h,hr=>by
  obtain⟨u,us',rfl,h1,h2⟩:=hr
  unfold svLeaves at h
  split at h
  ·rename_i v vs' e1 e2
   injection h with h;subst h
   rw[svLeaf_rep e1 h1,svLeaves_rep e2 h2]
  ·cases h
theorem svVal_rep{R:Nat→Prop}{ρ:Rho}{n:Nat}{w:World}{x:SV}{v u:Value}(h:svVal x=some v)(hr:Rep R ρ n w x u):u=v:=by
 unfold svVal at h
 split at h
 ·rename_i cs
  split at h
  ·rename_i vs e
   injection h with h;subst h
   obtain⟨us,rfl,h2⟩:=hr
   rw[svLeaves_rep e h2]
  ·cases h
 ·exact svLeaf_rep h hr
theorem clash{b:Bool}{p:Prop}(h:b=false)(k:b=true):p:=by rw[h]at k;cases k
structure Extra (P:Program) (Q:Bool) (m:Mem) (v:SV) (m':Mem) (o:Oper) (ev:Operand→SV):Prop where
 pure:pureOp o.op=true→∀m2,SemOp P m2 v m2 o ev
 shape:shapeOp o.op=true→∀m2,Shape m m2→SemOp P m2 v m2 o ev
 up:Q=true→upOp o.op=true→∀m2,Up m m2→SemOp P m2 v m2 o ev
 store:isStore o.op=true→Shape m m'∧Shape m' m
 alloc:isAlloc o.op=true→m.get m.next=none→Up m m'
theorem Extra.ofPure{P:Program}{Q:Bool}{m:Mem}{v:SV}{o:Oper}{ev:Operand→SV}(h1:shapeOp o.op=false)(h2:upOp o.op=false)(h3:isStore o.op=false)(h4:isAlloc o.op=false)(h:∀m2,SemOp P m2 v m2 o ev):SemOp P m v m o ev∧Extra P Q m v m o ev:=
 ⟨h m,fun _=>h,fun k=>clash h1 k,fun _ k=>clash h2 k,fun k=>clash h3 k,fun k=>clash h4 k⟩
theorem Extra.none{P:Program}{Q:Bool}{m m':Mem}{v:SV}{o:Oper}{ev:Operand→SV}(h0:pureOp o.op=false)(h1:shapeOp o.op=false)(h2:upOp o.op=false)(h3:isStore o.op=false)(h4:isAlloc o.op=false):Extra P Q m v m' o ev:=
 ⟨fun k=>clash h0 k,fun k=>clash h1 k,fun _ k=>clash h2 k,fun k=>clash h3 k,fun k=>clash h4 k⟩
theorem Extra.ofShape{P:Program}{Q:Bool}{m:Mem}{v:SV}{o:Oper}{ev:Operand→SV}(h1:pureOp o.op=false)(h2:upOp o.op=false)(h3:isStore o.op=false)(h4:isAlloc o.op=false)(h:∀m2,Shape m m2→SemOp P m2 v m2 o ev):SemOp P m v m o ev∧Extra P Q m v m o ev:=
 ⟨h m (Shape.refl m),fun k=>clash h1 k,fun _=>h,fun _ k=>clash h2 k,fun k=>clash h3 k,fun k=>clash h4 k⟩
theorem Extra.ofUp{P:Program}{Q:Bool}{m:Mem}{v:SV}{o:Oper}{ev:Operand→SV}(h1:pureOp o.op=false)(h2:shapeOp o.op=false)(h3:isStore o.op=false)(h4:isAlloc o.op=false)(h:∀m2,Up m m2→SemOp P m2 v m2 o ev):SemOp P m v m o ev∧Extra P Q m v m o ev:=
 ⟨h m (Up.refl m),fun k=>clash h1 k,fun k=>clash h2 k,fun _ _=>h,fun k=>clash h3 k,fun k=>clash h4 k⟩
theorem run_typeAssert_nil{P:Program}{xt t:TypeId}{d:TypeDesc}{z:Value}{w:World}(hu:P.underlying t=some d)(hi:isIface d=false)(hz:∀w,(zeroValue t).run P w=.ok z w):(Instr.typeAssert .nilIface xt t true).run P w=.ok (.tuple #[z,.bool false]) w:=by
 unfold Instr.typeAssert
 rw[Sem.run_bind,run_underlying hu,Result.andThen_ok]
 cases d<;>first|(cases hi;done)|(show Sem.run P (do let z ←zeroValue t;pure (Value.tuple #[z,.bool false])) w=_;rw[Sem.run_bind,hz,Result.andThen_ok,Sem.run_pure])
theorem run_typeAssert_is{P:Program}{xt t:TypeId}{d:TypeDesc}{v:Value}{w:World}(hu:P.underlying t=some d)(hi:isIface d=false):(Instr.typeAssert (.iface t v) xt t true).run P w=.ok (.tuple #[v,.bool true]) w:=by
 unfold Instr.typeAssert
 rw[Sem.run_bind,run_underlying hu,Result.andThen_ok]
 cases d<;>first|(cases hi;done)|(show Sem.run P (if t=t then pure (Value.tuple #[v,.bool true])else _) w=_;rw[if_pos rfl,Sem.run_pure])
theorem execOp_sound(hE:EOK P E){Q:Bool}{call:CallK α}(hcall:CallOK P Q call){ev:Operand→SV}{o:Oper}{p:Plan}{m:Mem}{κ:Kont α}{L:α→Prop}(h:(execOp E call ev o.op p m κ).holds L):
  ∃v p' m',(κ v p' m').holds L∧(Q=true→quiet E o.op=true→m'=m)∧(SemOp P m v m' o ev∧Extra P Q m v m' o ev):=by
 obtain⟨dst,op,ty,pos,after,guard⟩:=o
 cases op<;>dsimp only[execOp]at h<;>try exact h.elim
 case move x=>
  rw[frc_eq]at h
  exact⟨_,p,m,h,fun _ _=>rfl,Extra.ofPure rfl rfl rfl rfl fun m2 w0 R0 ρ w eb hm hev=>OpOut.same hm (hev x (by simp[Op.operands,Call.operands]))⟩
 case assign x=>
  rw[frc_eq]at h
  exact⟨_,p,m,h,fun _ _=>rfl,Extra.ofPure rfl rfl rfl rfl fun m2 w0 R0 ρ w eb hm hev=>OpOut.same hm (hev x (by simp[Op.operands,Call.operands]))⟩
 case pick c a b=>
  split at h
  ·rename_i cb hc
   obtain⟨p',h⟩:=dec_holds h
   rw[frc_eq]at h
   refine⟨_,p',m,h,fun _ _=>rfl,Extra.ofPure rfl rfl rfl rfl fun m2 w0 R0 ρ w eb hm hev=>?_⟩
   have h1:=hev c (by simp[Op.operands,Call.operands])
   rw[hc]at h1
   have h1':eb c=.bool cb:=h1
   simp only[Go.execOp,h1',asBool,pure_bind,Sem.run_pure]
   refine OpOut.same hm ?_
   cases cb
   ·exact hev b (by simp[Op.operands,Call.operands])
   ·exact hev a (by simp[Op.operands,Call.operands])
  ·exact h.elim
 case alloc t=>
  split at h
  ·rename_i r hr
   split at h
   ·rw[frcL_eq]at h
    obtain⟨m',h1,h2⟩:=Mem.push_holds h
    have hok:=hE.row _ _ hr
    obtain⟨z,hz1,hz2,_⟩:=run_zero' hok
    refine⟨_,p,m',h2,fun _ hq=>(by cases hq),⟨fun w0 R0 ρ w eb hm hev=>?_,⟨(fun k=>by cases k),(fun k=>by cases k),(fun _ k=>by cases k),(fun k=>by cases k),fun _ hn=>h1.up hn⟩⟩⟩
    obtain⟨g1,g2⟩:=hm.alloc (o:=.cells z.cells t) h1 0 0 (fun R n' ρ' e'=>⟨_,heap_alloc_new w _,hz2 _ _ _ _⟩)
    refine post_value (u:=.pointer (some ⟨w.heap.size,0,none⟩)) (w':=w.alloc (.cells z.cells t)) ?_ ⟨_,g1,g2,by rw[h1.2];omega,by rw[upd_same]⟩
    simp[Instr.alloc,hz1,newVar,newRow]
   ·rw[frcL_eq]at h
    obtain⟨m',h1,h2⟩:=Mem.push_holds h
    have hok:=hE.row _ _ hr
    obtain⟨z,hz1,hz2,_⟩:=run_zero' hok
    refine⟨_,p,m',h2,fun _ hq=>(by cases hq),⟨fun w0 R0 ρ w eb hm hev=>?_,⟨(fun k=>by cases k),(fun k=>by cases k),(fun _ k=>by cases k),(fun k=>by cases k),fun _ hn=>h1.up hn⟩⟩⟩
    obtain⟨g1,g2⟩:=hm.alloc (o:=.cells z.cells t) h1 0 0 (fun R n' ρ' e'=>⟨_,t,(0,0),heap_alloc_new w _,unfrozen_zero _,hz2 _ _ _ _⟩)
    refine post_value (u:=.pointer (some ⟨w.heap.size,0,none⟩)) (w':=w.alloc (.cells z.cells t)) ?_ ⟨_,g1,g2,by rw[h1.2];omega,by rw[upd_same]⟩
    simp[Instr.alloc,hz1,newVar,newRow]
  ·exact h.elim
 case box t x=>
  split at h
  ·rename_i hone
   rw[frcL_eq]at h
   obtain⟨m',h1,h2⟩:=Mem.push_holds h
   refine⟨_,p,m',h2,fun _ hq=>(by cases hq),⟨fun w0 R0 ρ w eb hm hev=>?_,Extra.none rfl rfl rfl rfl rfl⟩⟩
   obtain⟨k1,k2⟩:=(hev x (by simp[Op.operands,Call.operands])).cells hone
   obtain⟨g1,g2⟩:=hm.alloc (o:=.cells (eb x).cells t) h1 0 0 (fun R n' ρ' e'=>⟨_,t,(0,0),heap_alloc_new w _,unfrozen_zero _,RepL.mono e' _ _ k1⟩)
   refine post_value (u:=.pointer (some ⟨w.heap.size,0,none⟩)) (w':=w.alloc (.cells (eb x).cells t)) ?_ ⟨_,g1,g2,by rw[h1.2];omega,by rw[upd_same]⟩
   simp[Instr.box,newVar,newRow]
  ·exact h.elim
 case build t parts=>
  obtain⟨v,h1,h2⟩:=opBuild_sound hE h
  refine⟨v,p,m,h1,fun _ _=>rfl,Extra.ofPure rfl rfl rfl rfl fun m2 w0 R0 ρ w eb hm hev=>?_⟩
  obtain⟨u,h3,h4⟩:=h2 m2 w0 R0 ρ w (parts.toList.map fun x=>(x.1,eb x.2)) (PR.map ev eb _ fun x hx=>hev x.2 (by simp only[Op.operands];simpa using ⟨x.1,by simpa using hx⟩))
  refine post_value (u:=u) (w':=w) ?_ (OpOut.same hm h4)
  rw[←h3]
  congr 2
  apply Array.ext';simp
 case buildSlice t n parts=>
  obtain⟨v,m',h1,h2⟩:=opBuildSlice_sound hE h
  refine⟨v,p,m',h1,fun _ hq=>(by cases hq),⟨fun w0 R0 ρ w eb hm hev=>?_,Extra.none rfl rfl rfl rfl rfl⟩⟩
  obtain⟨u,w',h3,h4⟩:=h2 w0 R0 ρ w (parts.toList.map fun x=>(x.1,eb x.2)) hm (PR.map ev eb _ fun x hx=>hev x.2 (by simp only[Op.operands];simpa using ⟨x.1,by simpa using hx⟩))
  refine post_value (u:=u) (w':=w') ?_ h4
  rw[←h3]
  congr 2
  apply Array.ext';simp
 case load t a=>
  obtain⟨v,h1,h2⟩:=opLoad_sound hE h
  refine⟨v,p,m,h1,fun _ _=>rfl,Extra.ofUp rfl rfl rfl rfl fun m2 hup w0 R0 ρ w eb hm hev=>?_⟩
  obtain⟨u,h3,h4⟩:=h2 m2 hup w0 R0 ρ w _ hm (hev a (by simp[Op.operands,Call.operands]))
  exact post_value h3 (OpOut.same hm h4)
 case store t a x=>
  obtain⟨m',h1,hsh,h2⟩:=opStore_sound hE h
  refine⟨_,p,m',h1,fun _ hq=>(by cases hq),⟨fun w0 R0 ρ w eb hm hev=>?_,⟨(fun k=>by cases k),(fun k=>by cases k),(fun _ k=>by cases k),fun _=>hsh,(fun k=>by cases k)⟩⟩⟩
  obtain⟨w',h3,h4,h5⟩:=h2 w0 R0 ρ w _ _ hm (hev a (by simp[Op.operands,Call.operands])) (hev x (by simp[Op.operands,Call.operands]))
  simp only[Go.execOp,Sem.run_bind,h3,Result.andThen_ok,Sem.run_pure]
  exact⟨ρ,h4,h5,rfl⟩
 case nilCheck x=>
  split at h<;>first
   |exact h.elim
   |(rename_i heq
     refine⟨_,p,m,h,fun _ _=>rfl,Extra.ofPure rfl rfl rfl rfl fun m2 w0 R0 ρ w eb hm hev=>?_⟩
     have h1:=hev x (by simp[Op.operands,Call.operands])
     rw[heq]at h1
     first
      |(obtain⟨_,h2⟩:=h1
        have h3:=hev x (by simp[Op.operands,Call.operands])
        rw[heq]at h3
        simp only[Go.execOp,h2,Sem.run_pure]
        rw[h2]at h3
        exact OpOut.same hm h3)
      |(obtain⟨b,o,h2,h4⟩:=h1
        have h3:=hev x (by simp[Op.operands,Call.operands])
        rw[heq]at h3
        simp only[Go.execOp,h2,Sem.run_pure]
        rw[h2]at h3
        exact OpOut.same hm h3))
 case binOp op t x y ty'=>
  obtain⟨v,h1,h2⟩:=opBin_sound hE h
  refine⟨v,p,m,h1,fun _ _=>rfl,Extra.ofPure rfl rfl rfl rfl fun m2 w0 R0 ρ w eb hm hev=>?_⟩
  obtain⟨u,h3,h4⟩:=h2 m2 w0 R0 ρ w _ _ x y (hev x (by simp[Op.operands,Call.operands])) (hev y (by simp[Op.operands,Call.operands]))
  exact post_value h3 (OpOut.same hm h4)
 case unOp op t x=>
  obtain⟨v,h1,h2⟩:=opUn_sound (P:=P) h
  refine⟨v,p,m,h1,fun _ _=>rfl,Extra.ofPure rfl rfl rfl rfl fun m2 w0 R0 ρ w eb hm hev=>?_⟩
  obtain⟨u,h3,h4⟩:=h2 m2 w0 R0 ρ w _ (hev x (by simp[Op.operands,Call.operands]))
  exact post_value h3 (OpOut.same hm h4)
 case convert s d x=>
  obtain⟨v,m',h1,hq',h2⟩:=opConv_sound hE h
  refine⟨v,p,m',h1,fun _ hq=>hq' fun r e hr hd=>?_,⟨fun w0 R0 ρ w eb hm hev=>?_,Extra.none rfl rfl rfl rfl rfl⟩⟩
  ·simp only[quiet,hr]at hq
   obtain⟨de,sz,by_,ze,ty',eg,he⟩:=r
   dsimp only at hd
   subst hd
   cases hq
  ·obtain⟨u,w',h3,h4⟩:=h2 w0 R0 ρ w _ hm (hev x (by simp[Op.operands,Call.operands]))
   exact post_value h3 h4
 case makeFunc fn first cap=>
  cases fn<;>try exact h.elim
  case func f=>
   refine⟨_,p,m,h,fun _ _=>rfl,Extra.ofPure rfl rfl rfl rfl fun m2 w0 R0 ρ w eb hm hev=>?_⟩
   refine post_value (u:=.func (.func f) (first.map eb) (cap.map eb)) (w':=w) (by rfl) (OpOut.same hm ⟨first.toList.map eb,cap.toList.map eb,?_,RepL.map ev eb _ (fun x hx=>hev x (by simp[Op.operands]at hx ⊢;simp[hx])),RepL.map ev eb _ fun x hx=>hev x (by simp[Op.operands]at hx ⊢;simp[hx])⟩)
   congr 1<;>(apply Array.ext';simp)
 case makeSlice t l c=>
  have both:∃v m',(κ v p m').holds L∧∀w0 R0 ρ w (lv cv:Value),MRel w0 R0 ρ w m→Rep (RO w0 R0 ρ w m) ρ m.next w (ev l) lv→Rep (RO w0 R0 ρ w m) ρ m.next w (ev c) cv→Yields' P m v m' (Instr.makeSlice t lv cv) w0 R0 ρ w:=by
   split at h
   ·exact opMakeSlice_sound hE h
   ·exact opMakeSliceH_sound hE h
  obtain⟨v,m',h1,h2⟩:=both
  refine⟨v,p,m',h1,fun _ hq=>(by cases hq),⟨fun w0 R0 ρ w eb hm hev=>?_,Extra.none rfl rfl rfl rfl rfl⟩⟩
  obtain⟨u,w',h3,h4⟩:=h2 w0 R0 ρ w _ _ hm (hev l (by simp[Op.operands,Call.operands])) (hev c (by simp[Op.operands,Call.operands]))
  exact post_value h3 h4
 case slice t x lo hi mx=>
  have both:∃v m',(κ v p m').holds L∧(mx.map ev=none→m'=m)∧∀w0 R0 ρ w (xv:Value) (lv hv mv:Option Value),MRel w0 R0 ρ w m→Rep (RO w0 R0 ρ w m) ρ m.next w (ev x) xv→OptRep (RO w0 R0 ρ w m) ρ m.next w (lo.map ev) lv→OptRep (RO w0 R0 ρ w m) ρ m.next w (hi.map ev) hv→OptRep (RO w0 R0 ρ w m) ρ m.next w (mx.map ev) mv→
    Yields' P m v m' (Instr.sliceAt t xv lv hv mv) w0 R0 ρ w:=by
   split at h
   ·exact opSlice_sound hE h
   ·exact opSliceH_sound hE h
  obtain⟨v,m',h1,hq',h2⟩:=both
  refine⟨v,p,m',h1,fun _ hq=>hq' (by cases mx with|none=>rfl|some _=>cases hq),⟨fun w0 R0 ρ w eb hm hev=>?_,Extra.none rfl rfl rfl rfl rfl⟩⟩
  have ho:∀y:Option Operand,(∀z,y=some z→z∈(Op.slice t x lo hi mx).operands)→OptRep (RO w0 R0 ρ w m) ρ m.next w (y.map ev) (y.map eb):=fun y hy=>by
   cases y with
   |none=>trivial
   |some y=>exact hev y (hy y rfl)
  obtain⟨u,w',h3,h4⟩:=h2 w0 R0 ρ w _ (lo.map eb) (hi.map eb) (mx.map eb) hm (hev x (by simp[Op.operands,Call.operands])) (ho lo fun z hz=>by simp[Op.operands,hz]) (ho hi fun z hz=>by simp[Op.operands,hz]) (ho mx fun z hz=>by simp[Op.operands,hz])
  exact post_value h3 h4
 case fieldAddr s x f=>
  obtain⟨v,h1,h2⟩:=opFieldAddr_sound hE h
  refine⟨v,p,m,h1,fun _ _=>rfl,Extra.ofPure rfl rfl rfl rfl fun m2 w0 R0 ρ w eb hm hev=>?_⟩
  obtain⟨u,h3,h4⟩:=h2 m2 w0 R0 ρ w _ (hev x (by simp[Op.operands,Call.operands]))
  exact post_value h3 (OpOut.same hm h4)
 case field s x f=>
  obtain⟨v,h1,h2⟩:=opField_sound hE h
  refine⟨v,p,m,h1,fun _ _=>rfl,Extra.ofPure rfl rfl rfl rfl fun m2 w0 R0 ρ w eb hm hev=>?_⟩
  obtain⟨u,h3,h4⟩:=h2 m2 w0 R0 ρ w _ (hev x (by simp[Op.operands,Call.operands]))
  exact post_value h3 (OpOut.same hm h4)
 case indexAddr t x ix=>
  obtain⟨v,h1,h2⟩:=opIndexAddr_sound hE h
  refine⟨v,p,m,h1,fun _ _=>rfl,Extra.ofShape rfl rfl rfl rfl fun m2 hsh w0 R0 ρ w eb hm hev=>?_⟩
  obtain⟨u,h3,h4⟩:=h2 m2 hsh w0 R0 ρ w _ _ hm (hev x (by simp[Op.operands,Call.operands])) (hev ix (by simp[Op.operands,Call.operands]))
  exact post_value h3 (OpOut.same hm h4)
 case index t x ix=>
  obtain⟨v,h1,h2⟩:=opIndex_sound hE h
  refine⟨v,p,m,h1,fun _ _=>rfl,Extra.ofPure rfl rfl rfl rfl fun m2 w0 R0 ρ w eb hm hev=>?_⟩
  obtain⟨u,h3,h4⟩:=h2 m2 w0 R0 ρ w _ _ (hev x (by simp[Op.operands,Call.operands])) (hev ix (by simp[Op.operands,Call.operands]))
  exact post_value h3 (OpOut.same hm h4)
 case range t x=>
  split at h
  ·rename_i sz by_ ze ty' eg he hr
   obtain⟨v,m',h1,h2⟩:=opRange_sound (P:=P) h
   refine⟨v,p,m',h1,fun _ hq=>(by cases hq),⟨fun w0 R0 ρ w eb hm hev=>?_,Extra.none rfl rfl rfl rfl rfl⟩⟩
   obtain⟨u,w',h3,h4⟩:=h2 t w0 R0 ρ w _ (hE.row _ _ hr).und hm (hev x (by simp[Op.operands,Call.operands]))
   exact post_value h3 h4
  ·rename_i kt et sz by_ ze ty' eg he hr
   obtain⟨v,m',h1,h2⟩:=opRangeM_sound (P:=P) h
   refine⟨v,p,m',h1,fun _ hq=>(by cases hq),⟨fun w0 R0 ρ w eb hm hev=>?_,Extra.none rfl rfl rfl rfl rfl⟩⟩
   obtain⟨u,w',h3,h4⟩:=h2 t kt et w0 R0 ρ w _ (hE.row _ _ hr).und hm (hev x (by simp[Op.operands,Call.operands]))
   exact post_value h3 h4
  ·exact h.elim
 case makeMap t r=>
  cases r with
  |none=>
   obtain⟨m',h1,h2⟩:=Mem.push_holds h
   refine⟨_,p,m',h2,fun _ hq=>(by cases hq),⟨fun w0 R0 ρ w eb hm hev=>?_,Extra.none rfl rfl rfl rfl rfl⟩⟩
   obtain⟨g1,g2⟩:=hm.alloc (o:=.map #[] 0) h1 0 0 (fun R n' ρ' e'=>⟨#[],heap_alloc_new w _,rfl⟩)
   refine post_value (u:=.map (some w.heap.size)) (w':=w.alloc (.map #[] 0)) ?_ ⟨_,g1,g2,by rw[h1.2];omega,by rw[upd_same]⟩
   simp[Instr.makeMap]
  |some r=>
   dsimp only at h
   split at h
   ·rename_i kt et sz by_ ze ty' eg he hr
    have hu:=(hE.row _ _ hr).und
    dsimp only at hu
    split at h
    ·rename_i k i hri
     obtain⟨m',h1,h2⟩:=Mem.push_holds h
     refine⟨_,p,m',h2,fun _ hq=>(by cases hq),⟨fun w0 R0 ρ w eb hm hev=>?_,Extra.none rfl rfl rfl rfl rfl⟩⟩
     have hr1:eb r=.int k i:=by have:=hev r (by simp[Op.operands]);rw[hri]at this;exact this
     obtain⟨g1,g2⟩:=hm.alloc (o:=.map #[] 0) h1 0 0 (fun R n' ρ' e'=>⟨#[],heap_alloc_new w _,rfl⟩)
     refine post_value (u:=.map (some w.heap.size)) (w':=w.alloc (.map #[] 0)) ?_ ⟨_,g1,g2,by rw[h1.2];omega,by rw[upd_same]⟩
     simp[Instr.makeMap,run_underlying hu,hr1,asInt,asIntOf]
    ·exact h.elim
   ·exact h.elim
 case lookup t x i ok=>
  obtain⟨v,h1,h2⟩:=opLookup_sound hE h
  refine⟨v,p,m,h1,fun _ _=>rfl,Extra.ofUp rfl rfl rfl rfl fun m2 hup w0 R0 ρ w eb hm hev=>?_⟩
  obtain⟨u,h3,h4⟩:=h2 m2 hup w0 R0 ρ w _ _ hm (hev x (by simp[Op.operands,Call.operands])) (hev i (by simp[Op.operands,Call.operands]))
  exact post_value h3 (OpOut.same hm h4)
 case mapUpdate t x k v=>
  obtain⟨m',h1,h2⟩:=opMapUpdate_sound hE h
  refine⟨_,p,m',h1,fun _ hq=>(by cases hq),⟨fun w0 R0 ρ w eb hm hev=>?_,Extra.none rfl rfl rfl rfl rfl⟩⟩
  obtain⟨w',h3,h4,h5⟩:=h2 w0 R0 ρ w _ _ _ hm (hev x (by simp[Op.operands,Call.operands])) (hev k (by simp[Op.operands,Call.operands])) (hev v (by simp[Op.operands,Call.operands]))
  simp only[Go.execOp,Sem.run_bind,h3,Result.andThen_ok,Sem.run_pure]
  exact⟨ρ,h4,h5,rfl⟩
 case insert t x k v=>
  obtain⟨m',h1,h2⟩:=opMapUpdate_sound hE h
  refine⟨_,p,m',h1,fun _ hq=>(by cases hq),⟨fun w0 R0 ρ w eb hm hev=>?_,Extra.none rfl rfl rfl rfl rfl⟩⟩
  obtain⟨w',h3,h4,h5⟩:=h2 w0 R0 ρ w _ _ _ hm (hev x (by simp[Op.operands,Call.operands])) (hev k (by simp[Op.operands,Call.operands])) (hev v (by simp[Op.operands,Call.operands]))
  simp only[Go.execOp,Sem.run_bind,h3,Result.andThen_ok,Sem.run_pure]
  exact⟨ρ,h4,h5,rfl⟩
 case mapEntry t x k=>
  obtain⟨v,m',h1,h2⟩:=opMapEntry_sound hE h
  refine⟨v,p,m',h1,fun _ hq=>(by cases hq),⟨fun w0 R0 ρ w eb hm hev=>?_,Extra.none rfl rfl rfl rfl rfl⟩⟩
  obtain⟨u,w',h3,h4⟩:=h2 w0 R0 ρ w _ _ hm (hev x (by simp[Op.operands,Call.operands])) (hev k (by simp[Op.operands,Call.operands]))
  exact post_value h3 h4
 case entryStore t x b v=>
  obtain⟨m',h1,h2⟩:=opEntryStore_sound (P:=P) h
  refine⟨_,p,m',h1,fun _ hq=>(by cases hq),⟨fun w0 R0 ρ w eb hm hev=>?_,Extra.none rfl rfl rfl rfl rfl⟩⟩
  obtain⟨w',h3,h4,h5⟩:=h2 t w0 R0 ρ w _ _ _ hm (hev x (by simp[Op.operands,Call.operands])) (hev b (by simp[Op.operands,Call.operands])) (hev v (by simp[Op.operands,Call.operands]))
  simp only[Go.execOp,Sem.run_bind,h3,Result.andThen_ok,Sem.run_pure]
  exact⟨ρ,h4,h5,rfl⟩
 case next x isString=>
  cases isString with
  |false=>
   obtain⟨v,h1,h2⟩:=opNextM_sound (P:=P) h
   refine⟨v,p,m,h1,fun _ hq=>(by cases hq),⟨fun w0 R0 ρ w eb hm hev=>?_,Extra.none rfl rfl rfl rfl rfl⟩⟩
   obtain⟨u,h3,h4⟩:=h2 ty w0 R0 ρ w _ hm (hev x (by simp[Op.operands,Call.operands]))
   exact post_value h3 (OpOut.same hm h4)
  |true=>
   obtain⟨v,p',m',h1,h2⟩:=opNext_sound (P:=P) h
   refine⟨v,p',m',h1,fun _ hq=>(by cases hq),⟨fun w0 R0 ρ w eb hm hev=>?_,Extra.none rfl rfl rfl rfl rfl⟩⟩
   obtain⟨u,w',h3,h4⟩:=h2 ty w0 R0 ρ w _ hm (hev x (by simp[Op.operands,Call.operands]))
   exact post_value h3 h4
 case entry x=>
  obtain⟨v,h1,h2⟩:=opEntry_sound (P:=P) h
  refine⟨v,p,m,h1,fun _ hq=>(by cases hq),⟨fun w0 R0 ρ w eb hm hev=>?_,Extra.none rfl rfl rfl rfl rfl⟩⟩
  obtain⟨u,h3,h4⟩:=h2 w0 R0 ρ w _ hm (hev x (by simp[Op.operands,Call.operands]))
  exact post_value h3 (OpOut.same hm h4)
 case extract x i=>
  obtain⟨v,h1,h2⟩:=opExtract_sound (P:=P) h
  refine⟨v,p,m,h1,fun _ _=>rfl,Extra.ofPure rfl rfl rfl rfl fun m2 w0 R0 ρ w eb hm hev=>?_⟩
  obtain⟨u,h3,h4⟩:=h2 m2 w0 R0 ρ w _ (hev x (by simp[Op.operands,Call.operands]))
  exact post_value h3 (OpOut.same hm h4)
 case makeInterface t x=>
  split at h
  ·rename_i r hr
   split at h
   ·rename_i hi
    split at h
    ·rename_i v hv
     refine⟨_,p,m,h,fun _ _=>rfl,fun w0 R0 ρ w eb hm hev=>?_,Extra.none rfl rfl rfl rfl rfl⟩
     have h1:=svVal_rep hv (hev x (by simp[Op.operands,Call.operands]))
     have hu:=(hE.row _ _ hr).und
     refine post_value (u:=.iface t v) (w':=w) ?_ ⟨ρ,hm,Ext.refl _ _ _ _,rfl⟩
     simp only[Instr.makeInterface,Sem.run_bind,run_underlying hu,Result.andThen_ok,h1]
     cases hd:r.desc<;>first|rfl|(rw[hd]at hi;cases hi)
    ·exact h.elim
   ·exact h.elim
  ·exact h.elim
 case typeAssert x xt t ok=>
  cases ok with
  |false=>exact h.elim
  |true=>
   dsimp only at h
   split at h
   ·rename_i r hr
    have hok:=hE.row _ _ hr
    split at h
    ·rename_i hi
     split at h
     ·rename_i u hx
      split at h
      ·split at h
       ·rename_i z hzv
        obtain⟨i,g1,g2⟩:=hE.zv t z hzv
        have hz:∀w,(zeroValue t).run P w=.ok z w:=fun w=>by simp only[zeroValue,typeInfo,Sem.run_bind,run_program,Result.andThen_ok,g1,Sem.run_pure,g2]
        refine⟨_,p,m,h,fun _ _=>rfl,fun w0 R0 ρ w eb hm hev=>?_,Extra.none rfl rfl rfl rfl rfl⟩
        have h1:eb x=.nilIface:=by have:=hev x (by simp[Op.operands,Call.operands]);rw[hx]at this;exact this
        refine post_value (u:=.tuple #[z,.bool false]) (w':=w) ?_ ⟨ρ,hm,Ext.refl _ _ _ _,_,rfl,_,_,rfl,ofVal_rep _ _ _ _ _,_,_,rfl,rfl,rfl⟩
        simp only[h1,Sem.run_bind,run_typeAssert_nil hok.und hi hz,Result.andThen_ok,Sem.run_pure]
       ·exact h.elim
      ·rename_i t' v
       split at h
       ·rename_i ht
        have ht:=Nat.eq_of_beq_eq_true ht
        subst ht
        refine⟨_,p,m,h,fun _ _=>rfl,fun w0 R0 ρ w eb hm hev=>?_,Extra.none rfl rfl rfl rfl rfl⟩
        have h1:eb x=.iface t' v:=by have:=hev x (by simp[Op.operands,Call.operands]);rw[hx]at this;exact this
        refine post_value (u:=.tuple #[v,.bool true]) (w':=w) ?_ ⟨ρ,hm,Ext.refl _ _ _ _,_,rfl,_,_,rfl,ofVal_rep _ _ _ _ _,_,_,rfl,rfl,rfl⟩
        simp only[h1,Sem.run_bind,run_typeAssert_is hok.und hi,Result.andThen_ok,Sem.run_pure]
       ·exact h.elim
      ·exact h.elim
     ·exact h.elim
    ·exact h.elim
   ·exact h.elim
 case call c=>
  unfold opCall at h
  split at h
  ·rename_i b hb
   obtain⟨v,p',m',h1,hq',hsh,h2⟩:=opBuiltin_sound hE h
   refine⟨v,p',m',h1,fun _ hq=>hq' (fun hb'=>by obtain⟨ca,aa,ta⟩:=c;dsimp only at hb;subst hb hb';cases hq) (fun hb'=>by obtain⟨ca,aa,ta⟩:=c;dsimp only at hb;subst hb hb';cases hq) (fun hb'=>by obtain⟨ca,aa,ta⟩:=c;dsimp only at hb;subst hb hb';cases hq) (fun hb'=>by obtain⟨ca,aa,ta⟩:=c;dsimp only at hb;subst hb hb';cases hq),⟨fun w0 R0 ρ w eb hm hev=>?_,?_⟩⟩
   ·have key:∀cs,OpPost P (OpOut w0 R0 ρ w m v m') ((Go.builtin b c.argTypes ty cs (c.args.map eb)).run P w):=fun cs=>by
     obtain⟨u,w',h3,h4⟩:=h2 ty cs w0 R0 ρ w (c.args.toList.map eb) hm (RepL.map ev eb _ fun x hx=>hev x (by simp[Op.operands,Call.operands]at hx ⊢;simp[hx]))
     have e1:c.argTypes.toList.toArray=c.argTypes:=by simp
     have e2:(c.args.toList.map eb).toArray=c.args.map eb:=by apply Array.ext';simp
     rw[e1,e2]at h3
     rw[h3]
     exact h4
    simp only[Go.execOp,resolve,hb,pure_bind,invoke]
    exact key _
   ·obtain⟨ca,aa,ta⟩:=c
    dsimp only at hb
    subst hb
    refine⟨(fun k=>by cases k),fun k m2 hsh2 w0 R0 ρ w eb hm hev=>?_,(fun _ k=>by cases k),(fun k=>by cases k),(fun k=>by cases k)⟩
    have hlen:b=.len:=by cases b<;>first|rfl|(cases k;done)
    have key:∀cs,OpPost P (OpOut w0 R0 ρ w m2 v m2) ((Go.builtin b ta ty cs (aa.map eb)).run P w):=fun cs=>by
     obtain⟨u,w',h3,h4⟩:=hsh hlen m2 hsh2 ty cs w0 R0 ρ w (aa.toList.map eb) hm (RepL.map ev eb _ fun x hx=>hev x (by simp[Op.operands,Call.operands]at hx ⊢;simp[hx]))
     have e1:ta.toList.toArray=ta:=by simp
     have e2:(aa.toList.map eb).toArray=aa.map eb:=by apply Array.ext';simp
     rw[e1,e2]at h3
     rw[h3]
     exact h4
    simp only[Go.execOp,resolve,pure_bind,invoke]
    exact key _
  ·rename_i f hf
   split at h
   ·rename_i k first cap hk
    obtain⟨v,p',m',h1,hq',h2⟩:=hcall _ _ _ _ _ _ h
    have key:∀m1 m1',SemCall P m1 v m1' k (first++(c.args.toList.map ev++cap))→SemOp P m1 v m1' ⟨dst,.call c,ty,pos,after,guard⟩ ev:=?key
    refine⟨v,p',m',h1,fun hQ _=>(hq' hQ).1,key _ _ h2,⟨(fun k=>by cases k),fun k=>?_,fun hQ _ m2 _=>key _ _ ((hq' hQ).2 m2),(fun k=>by cases k),(fun k=>by cases k)⟩⟩
    ·obtain⟨ca,aa,ta⟩:=c
     dsimp only at hf
     subst hf
     cases k
    intro m1 m1' h2 w0 R0 ρ w eb hm hev
    have h3:=hev f (by simp[Op.operands,Call.operands,hf])
    rw[hk]at h3
    obtain⟨vs,us,h4,h5,h6⟩:=h3
    have h7:=h2 w0 R0 ρ w (vs++(c.args.toList.map eb++us)) hm (h5.append ((RepL.map ev eb _ fun x hx=>hev x (by simp[Op.operands,Call.operands]at hx ⊢;simp[hx])).append h6))
    simp only[Go.execOp,resolve,hf,h4,Deferred.ofValue,pure_bind,invoke]
    have e:(vs++(c.args.toList.map eb++us)).toArray=(⟨vs⟩:Array Value)++c.args.map eb++⟨us⟩:=by apply Array.ext';simp
    rw[e]at h7
    exact h7
   ·exact h.elim
  ·exact h.elim
end
section
variable {P:Program} {E:Env} {α:Type}
def FRel(R:Nat→Prop)(ρ:Rho)(n:Nat)(w:World)(fr:Fr)(tmps:Array Value):Prop:=
 fr.size=tmps.size∧∀t,Rep R ρ n w (fr.get t) (tmps.getD t Go.undef)
theorem FRel.mono{R R':Nat→Prop}{ρ ρ':Rho}{n n':Nat}{w w':World}(e:Ext R ρ n w R' ρ' n' w'){fr:Fr}{tmps:Array Value}(h:FRel R ρ n w fr tmps):FRel R' ρ' n' w' fr tmps:=⟨h.1,fun t=>Rep.mono e _ _ (h.2 t)⟩
def FSet(fr:Fr)(d:Option Tmp)(v:SV)(fr':Fr):Prop:=
 fr'.size=fr.size∧(∀t,d=some t→t<fr.size)∧∀t,fr'.get t=if d=some t then v else fr.get t
theorem Fr.set_holds{fr:Fr}{t:Nat}{v:SV}{k:Fr→Tree α}{L:α→Prop}(h:(fr.set t v k).holds L):∃fr',FSet fr (some t) v fr'∧(k fr').holds L:=by
 unfold Fr.set at h
 split at h
 ·rename_i hlt
  obtain⟨tb,h1,h2⟩:=holds_setT _ _ _ _ _ h
  refine⟨⟨fr.size,tb⟩,⟨rfl,fun u hu=>?_,fun u=>?_⟩,h2⟩
  ·injection hu with hu;subst hu;exact Nat.le_of_ble_eq_true hlt
  ·unfold Fr.get
   rw[h1 u]
   by_cases hu:u=t
   ·subst hu;simp
   ·have:¬(some t=some u):=fun h=>hu (by injection h with h;exact h.symm)
    rw[if_neg hu,if_neg this]
 ·exact h.elim
theorem putK_holds{fr:Fr}{d:Option Tmp}{v:SV}{k:Fr→Tree α}{L:α→Prop}(h:(putK fr d v k).holds L):∃fr',FSet fr d v fr'∧(k fr').holds L:=by
 cases d with
 |none=>exact⟨fr,⟨rfl,fun t ht=>(by cases ht),fun t=>by simp⟩,h⟩
 |some t=>exact Fr.set_holds h
theorem FRel.put{R:Nat→Prop}{ρ:Rho}{n:Nat}{w:World}{fr fr':Fr}{a:Act}{d:Option Tmp}{v:SV}{u:Value}(h:FRel R ρ n w fr a.tmps)(hf:FSet fr d v fr')(hv:Rep R ρ n w v u):FRel R ρ n w fr' (a.put d u).tmps:=by
 obtain⟨f1,f2,f3⟩:=hf
 cases d with
 |none=>exact⟨f1.trans h.1,fun t=>by rw[f3 t];simpa[Act.put]using h.2 t⟩
 |some d=>
  refine⟨by simp[Act.put,f1,h.1],fun t=>?_⟩
  rw[f3 t]
  have hd:d<a.tmps.size:=by rw[←h.1];exact f2 d rfl
  by_cases ht:d=t
  ·subst ht
   simp[Act.put,Array.getElem?_setIfInBounds,hd];exact hv
  ·have:¬(some d=some t):=fun e=>ht (by injection e)
   rw[if_neg this]
   have h2:=h.2 t
   simpa[Act.put,Array.getElem?_setIfInBounds_ne ht]using h2
theorem FRel.eval{R:Nat→Prop}{ρ:Rho}{n:Nat}{w:World}{fr:Fr}{a:Act}(h:FRel R ρ n w fr a.tmps)(x:Operand):Rep R ρ n w (evalIn fr x) (a.eval x):=by
 cases x with
 |tmp t=>exact h.2 t
 |const v=>exact ofVal_rep v _ _ _ _
 |global g=>rfl
 |func f=>exact⟨[],[],rfl,rfl,rfl⟩
def gval(all:List Oper)(get:Nat→SV)(o:Oper):Option Bool:=
 match o.guard with
 |none=>some true
 |some (j,want)=>match(all[j]?).bind (·.dst)with
  |some d=>match get d with
   |.bool b=>some (b==want)
   |.undef=>some false
   |_=>none
  |none=>none
theorem yielded_of{R:Nat→Prop}{ρ:Rho}{n:Nat}{w:World}{all:List Oper}{get:Nat→SV}{tmps:Array Value}{o:Oper}{g:Bool}(h:∀j want d,o.guard=some (j,want)→(all[j]?).bind (·.dst)=some d→Rep R ρ n w (get d) (tmps.getD d Go.undef))(hg:gval all get o=some g):
  Region.wanted o (yielded all.toArray tmps)=g:=by
 unfold gval at hg
 unfold Region.wanted
 cases ho:o.guard with
 |none=>rw[ho]at hg;injection hg
 |some jw=>
  obtain⟨j,want⟩:=jw
  rw[ho]at hg
  dsimp only at hg ⊢
  cases hd:(all[j]?).bind (·.dst)with
  |none=>rw[hd]at hg;cases hg
  |some d=>
   rw[hd]at hg
   dsimp only at hg
   have hr:=h j want d ho hd
   have e:yielded all.toArray tmps j=match tmps[d]? with|some (.bool b)=>some b|_=>none:=by
    unfold yielded
    have:(all.toArray[j]?).bind (·.dst)=some d:=by simpa using hd
    rw[this];rfl
   rw[e]
   split at hg
   ·rename_i b hb
    injection hg with hg
    rw[hb]at hr
    have hr':tmps.getD d Go.undef=.bool b:=hr
    have:tmps[d]? =some (.bool b):=by
     rw[Array.getD_eq_getD_getElem?]at hr'
     cases ht:tmps[d]? with
     |none=>rw[ht]at hr';simp[Go.undef]at hr'
     |some x=>rw[ht]at hr';simpa using hr'
    rw[this,←hg]
    cases b<;>cases want<;>rfl
   ·rename_i hb
    injection hg with hg
    rw[hb]at hr
    have hr':tmps.getD d Go.undef=Go.undef:=hr
    have:(match tmps[d]? with|some (.bool b)=>some b|_=>none)=(none:Option Bool):=by
     rw[Array.getD_eq_getD_getElem?]at hr'
     cases ht:tmps[d]? with
     |none=>rfl
     |some x=>rw[ht]at hr';simp at hr';subst hr';rfl
    rw[this,←hg]
    rfl
   ·cases hg
theorem upon_of_post{o:Oper}{a:Act}{K:Act→World→Prop}{Q:Exit→Act→World→Prop}{Φ:Value→World→Prop}(h:∀u w',Φ u w'→K (a.put o.dst u) w'):∀{r:Result Next},OpPost P Φ r→o.upon P a K Q r
 |.ok (.value v) w,k=>h v w k
 |.ok .skip w,k=>h _ w k
 |.ok (.enter f args) w,k=>Calls.mono k fun e w' ⟨v,he,hv⟩=>by subst he;exact h v w' hv
def StepOK(P:Program)(all:List Oper)(o:Oper)(fr:Fr)(m:Mem)(v:SV)(m':Mem):Prop:=
 (gval all fr.get o=some true∧SemOp P m v m' o (evalIn fr))∨(gval all fr.get o=some false∧v=.undef∧m'=m)
inductive Chain (P:Program) (all:List Oper):List Oper→Fr→Mem→Fr→Mem→Prop where
 |nil (fr:Fr) (m:Mem):Chain P all [] fr m fr m
 |cons {o:Oper} {rest:List Oper} {fr fr1 fr':Fr} {m m1 m':Mem} {v:SV} (h:StepOK P all o fr m v m1) (hf:FSet fr o.dst v fr1) (k:Chain P all rest fr1 m1 fr' m'):Chain P all (o::rest) fr m fr' m'
 |weak {ops:List Oper} {fr fr2 fr':Fr} {m m':Mem} (hs:fr2.size=fr.size) (hg:∀t,fr2.get t=.top∨fr2.get t=fr.get t) (k:Chain P all ops fr2 m fr' m'):Chain P all ops fr m fr' m'
structure MoreOK (P:Program) (E:Env) (Q:Bool) (all:List Oper) (o:Oper) (fr:Fr) (m:Mem) (v:SV) (m':Mem):Prop where
 quiet:Q=true→quiet E o.op=true→m'=m
 more:gval all fr.get o=some true→Extra P Q m v m' o (evalIn fr)
 store:isStore o.op=true→Shape m m'∧Shape m' m
 alloc:isAlloc o.op=true→m.get m.next=none→Up m m'
theorem oneOp_holds(hE:EOK P E){Q:Bool}{call:CallK α}(hcall:CallOK P Q call){let_:Op→Bool}{all:List Oper}{o:Oper}{ih:OpsK α}{p:Plan}{fr:Fr}{m:Mem}{L:α→Prop}(h:(oneOp E let_ call all o ih p fr m).holds L):
  ∃p' v fr1 m1,(ih p' fr1 m1).holds L∧StepOK P all o fr m v m1∧FSet fr o.dst v fr1∧MoreOK P E Q all o fr m v m1:=by
 have run:∀ (p:Plan) (fr2:Fr),(∀t,fr2.get t=fr.get t)→fr2.size=fr.size→gval all fr.get o=some true→((match let_ o.op with
   |true=>execOp E call (evalIn fr2) o.op p m fun v p m=>putK fr2 o.dst v fun fr=>ih p fr m
   |false=>.fail 133:Tree α)).holds L→∃p' v fr1 m1,(ih p' fr1 m1).holds L∧StepOK P all o fr m v m1∧FSet fr o.dst v fr1∧MoreOK P E Q all o fr m v m1:=by
  intro p fr2 hg hs hgv h
  split at h
  ·rename_i hlo
   obtain⟨v,p',m1,h1,h2,h3⟩:=execOp_sound hE hcall h
   obtain⟨fr1,h4,h5⟩:=putK_holds h1
   have he:evalIn fr2=evalIn fr:=funext fun x=>by cases x<;>simp[evalIn,hg]
   rw[he]at h3
   exact⟨p',v,fr1,m1,h5,.inl ⟨hgv,h3.1⟩,⟨h4.1.trans hs,fun t ht=>by rw[←hs];exact h4.2.1 t ht,fun t=>by rw[h4.2.2 t,hg t]⟩,⟨h2,fun _=>h3.2,h3.2.store,h3.2.alloc⟩⟩
  ·exact h.elim
 have skip:∀ (p:Plan) (fr2:Fr),(∀t,fr2.get t=fr.get t)→fr2.size=fr.size→gval all fr.get o=some false→(putK fr2 o.dst .undef fun fr=>ih p fr m).holds L→∃p' v fr1 m1,(ih p' fr1 m1).holds L∧StepOK P all o fr m v m1∧FSet fr o.dst v fr1∧MoreOK P E Q all o fr m v m1:=by
  intro p fr2 hg hs hgv h
  obtain⟨fr1,h4,h5⟩:=putK_holds h
  exact⟨p,.undef,fr1,m,h5,.inr ⟨hgv,rfl,rfl⟩,⟨h4.1.trans hs,fun t ht=>by rw[←hs];exact h4.2.1 t ht,fun t=>by rw[h4.2.2 t,hg t]⟩,⟨fun _ _=>rfl,fun h=>(by rw[hgv]at h;cases h),fun _=>⟨Shape.refl m,Shape.refl m⟩,fun _ _=>Up.refl m⟩⟩
 unfold oneOp at h
 cases hg:o.guard with
 |none=>
  rw[hg]at h
  exact run p fr (fun _=>rfl) rfl (by simp[gval,hg]) h
 |some jw=>
  rw[hg]at h
  dsimp only at h
  rw[nth_eq]at h
  split at h
  ·rename_i oj hoj
   split at h
   ·rename_i d hd
    have hb:(all[jw.1]?).bind (·.dst)=some d:=by rw[hoj];exact hd
    split at h
    ·rename_i b hfr
     obtain⟨p',h⟩:=dec_holds h
     obtain⟨fr2,h1,h2⟩:=Fr.set_holds h
     have hget:∀t,fr2.get t=fr.get t:=fun t=>by
      rw[h1.2.2 t]
      by_cases ht:some d=some t
      ·injection ht with ht;subst ht;rw[if_pos rfl,hfr]
      ·rw[if_neg ht]
     split at h2
     ·rename_i hbw
      exact run p' fr2 hget h1.1 (by simp only[gval,hg,hb,hfr];rw[hbw]) h2
     ·rename_i hbw
      exact skip p' fr2 hget h1.1 (by simp only[gval,hg,hb,hfr];rw[hbw]) h2
    ·rename_i hfr
     exact skip p fr (fun _=>rfl) rfl (by simp only[gval,hg,hb,hfr]) h
    ·exact h.elim
   ·exact h.elim
  ·exact h.elim
def SRelD(ds:List Deferred)(w0:World)(R0:RSet)(ρ:Rho)(w:World)(fr:Fr)(m:Mem)(a:Act):Prop:=
 MRel w0 R0 ρ w m∧FRel (RO w0 R0 ρ w m) ρ m.next w fr a.tmps∧a.defers=ds
abbrev SRel(w0:World)(R0:RSet)(ρ:Rho)(w:World)(fr:Fr)(m:Mem)(a:Act):Prop:=SRelD [] w0 R0 ρ w fr m a
theorem put_defers(a:Act)(d:Option Tmp)(v:Value):(a.put d v).defers=a.defers:=by cases d<;>rfl
theorem step_state{ds:List Deferred}{w0:World}{R0:RSet}{ρ:Rho}{w:World}{fr fr1:Fr}{m m1:Mem}{a:Act}{all:List Oper}{o:Oper}{v:SV}(hs:SRelD ds w0 R0 ρ w fr m a)(h:StepOK P all o fr m v m1)(hf:FSet fr o.dst v fr1){K:Act→World→Prop}{Q:Exit→Act→World→Prop}
  (hK:∀ρ' w' a',SRelD ds w0 R0 ρ' w' fr1 m1 a'→MExt w0 R0 ρ w m ρ' w' m1→K a' w'):if Region.wanted o (yielded all.toArray a.tmps)then o.wp P a w K Q∨(o.asks P a w∧LetsOut Q)else K (a.put o.dst Go.undef) w:=by
 obtain⟨hm,hfr,hd⟩:=hs
 rcases h with⟨hg,hsem⟩|⟨hg,rfl,rfl⟩
 ·rw[yielded_of (fun j want d _ _=>hfr.2 d) hg]
  refine .inl (upon_of_post (fun u w' hu=>?_) (hsem w0 R0 ρ w a.eval hm (fun x _=>hfr.eval x)))
  obtain⟨ρ',g1,g2,g3⟩:=hu
  exact hK ρ' w' _ ⟨g1,(hfr.mono g2).put hf g3,by rw[put_defers];exact hd⟩ g2
 ·rw[yielded_of (fun j want d _ _=>hfr.2 d) hg]
  exact hK ρ w _ ⟨hm,hfr.put hf rfl,by rw[put_defers];exact hd⟩ (Ext.refl _ _ _ _)
theorem chain_wpOps{ds:List Deferred}{w0:World}{R0:RSet}{all:List Oper}{Q:Exit→Act→World→Prop}:∀{ops:List Oper} {fr fr':Fr} {m m':Mem},Chain P all ops fr m fr' m'→∀ (i:Nat),all.drop i=ops→∀ (ρ:Rho) (w:World) (a:Act),SRelD ds w0 R0 ρ w fr m a→
  (∀ρ' w' a',SRelD ds w0 R0 ρ' w' fr' m' a'→MExt w0 R0 ρ w m ρ' w' m'→Q .normal a' w')→wpOps P all.toArray Q (List.range' i ops.length) a w:=by
 intro ops fr fr' m m' h
 induction h with
 |nil fr m=>intro i hi ρ w a hs hQ;exact hQ ρ w a hs (Ext.refl _ _ _ _)
 |@cons o rest fr fr1 fr' m m1 m' v hst hf k ih=>
  intro i hi ρ w a hs hQ
  have hoi:all[i]? =some o:=by
   have:(all.drop i)[0]? =some o:=by rw[hi];rfl
   simpa using this
  have hrest:all.drop (i+1)=rest:=by
   have:(all.drop i).drop 1=rest:=by rw[hi];rfl
   rw[List.drop_drop]at this
   exact this
  rw[List.length_cons,List.range'_succ]
  unfold wpOps
  have hoi':all.toArray[i]? =some o:=by simpa using hoi
  rw[hoi']
  exact step_state hs hst hf fun ρ' w' a' hs' he=>ih (i+1) hrest ρ' w' a' hs' fun ρ2 w2 a2 hs2 he2=>hQ ρ2 w2 a2 hs2 (he.trans he2)
 |weak hsz hg k ih=>
  intro i hi ρ w a hs hQ
  exact ih i hi ρ w a ⟨hs.1,⟨hsz.trans hs.2.1.1,fun t=>by
   rcases hg t with e|e
   ·rw[e];trivial
   ·rw[e];exact hs.2.1.2 t⟩,hs.2.2⟩ hQ
def PanPost(P:Program)(Φ:Value→World→Prop):Result Next→Prop
 |.halt (.panic u) w=>Φ u w
 |.ok (.enter f args) w=>Calls P f args w fun e w'=>∃u,e=.panicked [{v:=u,recovered:=false}] ∧Φ u w'
 |_=>False
def SemPan(P:Program)(m:Mem)(v:SV)(m':Mem)(o:Oper)(ev:Operand→SV):Prop:=
 ∀w0 R0 ρ w (eb:Operand→Value),MRel w0 R0 ρ w m→(∀x∈o.op.operands,Rep (RO w0 R0 ρ w m) ρ m.next w (ev x) (eb x))→PanPost P (OpOut w0 R0 ρ w m v m') ((Go.execOp eb o).run P w)
def PanCall(P:Program)(m:Mem)(v:SV)(m':Mem)(f:FuncId)(args:List SV):Prop:=
 ∀w0 R0 ρ w (vs:List Value),MRel w0 R0 ρ w m→RepL (RO w0 R0 ρ w m) ρ m.next w args vs→PanPost P (OpOut w0 R0 ρ w m v m') ((Go.callFunc f vs.toArray).run P w)
def XCall(P:Program)(f:FuncId)(args:List SV)(m:Mem):Ex→Prop
 |.ok v m'=>SemCall P m v m' f args
 |.pan v m'=>PanCall P m v m' f args
inductive ChainP (P:Program) (all:List Oper):List Oper→Fr→Mem→SV→Fr→Mem→Prop where
 |here {o:Oper} {rest:List Oper} {fr:Fr} {m m':Mem} {v:SV} (hg:o.guard=none) (h:SemPan P m v m' o (evalIn fr)):ChainP P all (o::rest) fr m v fr m'
 |next {o:Oper} {rest:List Oper} {fr fr1 fr':Fr} {m m1 m':Mem} {v u:SV} (h:StepOK P all o fr m u m1) (hf:FSet fr o.dst u fr1) (k:ChainP P all rest fr1 m1 v fr' m'):ChainP P all (o::rest) fr m v fr' m'
theorem chainP_wpOps{ds:List Deferred}{w0:World}{R0:RSet}{all:List Oper}{Q:Exit→Act→World→Prop}:∀{ops:List Oper} {fr fr':Fr} {m m':Mem} {v:SV},ChainP P all ops fr m v fr' m'→∀ (i:Nat),all.drop i=ops→∀ (ρ:Rho) (w:World) (a:Act),SRelD ds w0 R0 ρ w fr m a→
  (∀ρ' w' a' u,SRelD ds w0 R0 ρ' w' fr' m' a'→MExt w0 R0 ρ w m ρ' w' m'→Rep (RO w0 R0 ρ' w' m') ρ' m'.next w' v u→Q (.panic [{v:=u,recovered:=false}]) a' w')→wpOps P all.toArray Q (List.range' i ops.length) a w:=by
 intro ops fr fr' m m' v h
 induction h with
 |@here o rest fr m m' v hg hsem=>
  intro i hi ρ w a hs hQ
  have hoi:all[i]? =some o:=by
   have:(all.drop i)[0]? =some o:=by rw[hi];rfl
   simpa using this
  rw[List.length_cons,List.range'_succ]
  unfold wpOps
  have hoi':all.toArray[i]? =some o:=by simpa using hoi
  rw[hoi']
  obtain⟨hm,hfr,hd⟩:=hs
  have hw:Region.wanted o (yielded all.toArray a.tmps)=true:=yielded_of (get:=fr.get) (fun j want d _ _=>hfr.2 d) (by simp[gval,hg])
  dsimp only
  rw[hw]
  refine .inl ?_
  have h1:=hsem w0 R0 ρ w a.eval hm fun x _=>hfr.eval x
  unfold Oper.wp
  generalize (Go.execOp a.eval o).run P w=r at h1
  have out:∀u w',OpOut w0 R0 ρ w m v m' u w'→Q (.panic [{v:=u,recovered:=false}]) a w':=fun u w' ⟨ρ',g1,g2,g3⟩=>hQ ρ' w' a u ⟨g1,hfr.mono g2,hd⟩ g2 g3
  match r,h1 with
  |.halt (.panic u) w',h1=>exact out u w' h1
  |.ok (.enter f args) w',h1=>
   rw[Oper.upon_enter]
   exact Calls.mono h1 fun e w'' ⟨u,he,hu⟩=>by subst he;exact out u w'' hu
 |@next o rest fr fr1 fr' m m1 m' v u hst hf k ih=>
  intro i hi ρ w a hs hQ
  have hoi:all[i]? =some o:=by
   have:(all.drop i)[0]? =some o:=by rw[hi];rfl
   simpa using this
  have hrest:all.drop (i+1)=rest:=by
   have:(all.drop i).drop 1=rest:=by rw[hi];rfl
   rw[List.drop_drop]at this
   exact this
  rw[List.length_cons,List.range'_succ]
  unfold wpOps
  have hoi':all.toArray[i]? =some o:=by simpa using hoi
  rw[hoi']
  exact step_state hs hst hf fun ρ' w' a' hs' he=>ih (i+1) hrest ρ' w' a' hs' fun ρ2 w2 a2 u2 hs2 he2 hr2=>hQ ρ2 w2 a2 u2 hs2 (he.trans he2) hr2
end
theorem beq_ff{a b:Nat}(h:Nat.beq a b=false):a≠b:=fun e=>by subst e;simp at h
mutual
theorem Rep.bound{R:Nat→Prop}{ρ:Rho}{n:Nat}{w:World}{k:Nat}:∀ (x:SV) (v:Value),Rep R ρ n w x v→ment k x=true→k<n
 |.undef,_,_,h=>by cases h
 |.top,_,_,h=>by cases h
 |.int _ _,_,_,h=>by cases h
 |.bool _,_,_,h=>by cases h
 |.str _,_,_,h=>by cases h
 |.nilS,_,_,h=>by cases h
 |.list _ _,_,_,h=>by cases h
 |.row id,_,hr,h=>by rw[←Nat.eq_of_beq_eq_true (show Nat.beq id k=true from h)];exact hr.1
 |.arr id _ _,_,hr,h=>by rw[←Nat.eq_of_beq_eq_true (show Nat.beq id k=true from h)];exact hr.1
 |.ptr id _,_,hr,h=>by rw[←Nat.eq_of_beq_eq_true (show Nat.beq id k=true from h)];exact hr.1
 |.nilP,_,_,h=>by cases h
 |.eptr _ _ _ _,_,_,h=>by cases h
 |.rptr id _ _ _,_,hr,h=>by rw[←Nat.eq_of_beq_eq_true (show Nat.beq id k=true from h)];exact hr.1
 |.agg cs,_,hr,h=>by
  obtain⟨vs,_,h2⟩:=hr
  exact RepL.bound cs vs h2 h
 |.tuple cs,_,hr,h=>by
  obtain⟨vs,_,h2⟩:=hr
  exact RepL.bound cs vs h2 h
 |.fn f a b,_,hr,h=>by
  obtain⟨vs,us,_,h2,h3⟩:=hr
  have h:(mentL k a||mentL k b)=true:=h
  rcases Bool.or_eq_true _ _▸h with h|h
  ·exact RepL.bound a vs h2 h
  ·exact RepL.bound b us h3 h
 |.raw _,_,_,h=>by cases h
 |.vsl id _ _ _ _ _,_,hr,h=>by rw[←Nat.eq_of_beq_eq_true (show Nat.beq id k=true from h)];exact hr.1
 |.vptr id _,_,hr,h=>by rw[←Nat.eq_of_beq_eq_true (show Nat.beq id k=true from h)];exact hr.1
 |.mp id,_,hr,h=>by rw[←Nat.eq_of_beq_eq_true (show Nat.beq id k=true from h)];exact hr.1
theorem RepL.bound{R:Nat→Prop}{ρ:Rho}{n:Nat}{w:World}{k:Nat}:∀ (xs:List SV) (vs:List Value),RepL R ρ n w xs vs→mentL k xs=true→k<n
 |[],_,_,h=>by cases h
 |x::xs,_,hr,h=>by
  obtain⟨u,us,_,h2,h3⟩:=hr
  have h:(ment k x||mentL k xs)=true:=h
  rcases Bool.or_eq_true _ _▸h with h|h
  ·exact Rep.bound x u h2 h
  ·exact RepL.bound xs us h3 h
end
mutual
theorem Rep.upd{R:Nat→Prop}{ρ:Rho}{n:Nat}{w:World}{k:Nat}{r:Nat×Nat×Nat}:∀ (x:SV) (v:Value),ment k x=false→Rep R ρ n w x v→Rep R (Go.Sx.upd ρ k r) n w x v
 |.undef,_,_,h=>h
 |.top,_,_,_=>trivial
 |.int _ _,_,_,h=>h
 |.bool _,_,_,h=>h
 |.str _,_,_,h=>h
 |.nilS,_,_,h=>h
 |.list _ _,_,_,h=>h
 |.row id,_,hm,h=>by
  have hne:=beq_ff (show Nat.beq id k=false from hm)
  exact⟨h.1,by rw[upd_other _ _ hne];exact h.2⟩
 |.arr id _ _,_,hm,h=>by
  have hne:=beq_ff (show Nat.beq id k=false from hm)
  exact⟨h.1,by rw[upd_other _ _ hne];exact h.2⟩
 |.ptr id _,_,hm,h=>by
  have hne:=beq_ff (show Nat.beq id k=false from hm)
  exact⟨h.1,by rw[upd_other _ _ hne];exact h.2⟩
 |.nilP,_,_,h=>h
 |.eptr _ _ _ _,_,_,h=>h
 |.rptr id _ _ _,_,hm,h=>by
  have hne:=beq_ff (show Nat.beq id k=false from hm)
  exact⟨h.1,by rw[upd_other _ _ hne];exact h.2⟩
 |.agg cs,_,hm,h=>by
  obtain⟨vs,h1,h2⟩:=h
  exact⟨vs,h1,RepL.upd cs vs hm h2⟩
 |.tuple cs,_,hm,h=>by
  obtain⟨vs,h1,h2⟩:=h
  exact⟨vs,h1,RepL.upd cs vs hm h2⟩
 |.fn f a b,_,hm,h=>by
  obtain⟨vs,us,h1,h2,h3⟩:=h
  have hm:(mentL k a||mentL k b)=false:=hm
  rw[Bool.or_eq_false_iff]at hm
  exact⟨vs,us,h1,RepL.upd a vs hm.1 h2,RepL.upd b us hm.2 h3⟩
 |.raw _,_,_,h=>h
 |.vsl id _ _ _ _ _,_,hm,h=>by
  have hne:=beq_ff (show Nat.beq id k=false from hm)
  exact⟨h.1,by rw[upd_other _ _ hne];exact h.2⟩
 |.vptr id _,_,hm,h=>by
  have hne:=beq_ff (show Nat.beq id k=false from hm)
  exact⟨h.1,by rw[upd_other _ _ hne];exact h.2⟩
 |.mp id,_,hm,h=>by
  have hne:=beq_ff (show Nat.beq id k=false from hm)
  exact⟨h.1,by rw[upd_other _ _ hne];exact h.2⟩
theorem RepL.upd{R:Nat→Prop}{ρ:Rho}{n:Nat}{w:World}{k:Nat}{r:Nat×Nat×Nat}:∀ (xs:List SV) (vs:List Value),mentL k xs=false→RepL R ρ n w xs vs→RepL R (Go.Sx.upd ρ k r) n w xs vs
 |[],_,_,h=>h
 |x::xs,_,hm,h=>by
  obtain⟨u,us,h1,h2,h3⟩:=h
  have hm:(ment k x||mentL k xs)=false:=hm
  rw[Bool.or_eq_false_iff]at hm
  exact⟨u,us,h1,Rep.upd x u hm.1 h2,RepL.upd xs us hm.2 h3⟩
end
theorem RepM.upd{R:Nat→Prop}{ρ:Rho}{n:Nat}{w:World}{k:Nat}{r:Nat×Nat×Nat}:∀ (xs:List (SV×SV×Nat)) (es:List MapEntry),(xs.any fun e=>ment k e.1||ment k e.2.1)=false→RepM R ρ n w xs es→RepM R (Go.Sx.upd ρ k r) n w xs es
 |[],_,_,h=>h
 |x::xs,_,hm,h=>by
  obtain⟨u,us,h1,h2,h3,h4,h5⟩:=h
  rw[List.any_cons,Bool.or_eq_false_iff,Bool.or_eq_false_iff]at hm
  exact⟨u,us,h1,Rep.upd _ _ hm.1.1 h2,Rep.upd _ _ hm.1.2 h3,h4,RepM.upd xs us hm.2 h5⟩
theorem BoxRel.upd{R:Nat→Prop}{ρ:Rho}{n:Nat}{w:World}{k:Nat}{r r':Nat×Nat×Nat}:∀ (B:Box),mentB k (some B)=false→BoxRel R ρ n w r B→BoxRel R (Go.Sx.upd ρ k r') n w r B
 |.cells cs,hm,h=>by
  obtain⟨arr,e,fr,h1,h2,h3⟩:=h
  exact⟨arr,e,fr,h1,h2,RepL.upd cs _ hm h3⟩
 |.rows _ _,_,h=>h
 |.iter _ _,_,h=>h
 |.obj t cs,hm,h=>by
  obtain⟨arr,h1,h3⟩:=h
  exact⟨arr,h1,RepL.upd cs _ hm h3⟩
 |.vec cs,hm,h=>by
  obtain⟨arr,e,fr,h1,h2,h3,h4,h5⟩:=h
  exact⟨arr,e,fr,h1,h2,h3,h4,RepL.upd cs _ hm h5⟩
 |.map es c,hm,h=>by
  obtain⟨arr,h1,h2⟩:=h
  exact⟨arr,h1,RepM.upd es _ hm h2⟩
 |.miter none since seen last,hm,h=>h
 |.miter (some id) since seen last,hm,h=>by
  obtain⟨h1,h2⟩:=h
  have hne:=beq_ff (show Nat.beq id k=false from hm)
  refine⟨?_,h2⟩
  rw[h1]
  simp only[Option.map_some,upd_other _ _ hne]
theorem MRel.allocAt{w0:World}{R0:RSet}{ρ:Rho}{w:World}{m m':Mem}(hm:MRel w0 R0 ρ w m){k:Nat}(hk:k<m.next)(hn:m.get k=none)(hB:∀id B,m.get id=some B→mentB k (some B)=false){cs:List SV}{arr:Array Value}{e:TypeId}
  (hg:∀id,m'.get id=if id=k then some (.cells cs)else m.get id) (hnx:m'.next=m.next) (hc:∀R ρ n w,RepL R ρ n w cs arr.toList):
  MRel w0 R0 (upd ρ k (w.heap.size,0,0)) (w.alloc (.cells arr e)) m'∧(∀b,RO w0 R0 ρ w m b→RO w0 R0 (upd ρ k (w.heap.size,0,0)) (w.alloc (.cells arr e)) m' b∧(w.alloc (.cells arr e)).heap[b]? =w.heap[b]?)∧
   ∀x v,ment k x=false→Rep (RO w0 R0 ρ w m) ρ m.next w x v→Rep (RO w0 R0 (upd ρ k (w.heap.size,0,0)) (w.alloc (.cells arr e)) m') (upd ρ k (w.heap.size,0,0)) m'.next (w.alloc (.cells arr e)) x v:=by
 have hle:=hm.size_le
 have hsz:(w.alloc (.cells arr e)).heap.size=w.heap.size+1:=by simp
 have hold:∀b,b<w.heap.size→(w.alloc (.cells arr e)).heap[b]? =w.heap[b]? :=fun b hb=>Below.heap_alloc w _ b hb
 have hG:∀id C,m'.get id=some C→(id=k∧C=.cells cs)∨(id≠k∧m.get id=some C):=fun id C hid=>by
  rw[hg id]at hid
  by_cases h:id=k
  ·rw[if_pos h]at hid;injection hid with hid;exact .inl ⟨h,hid.symm⟩
  ·rw[if_neg h]at hid;exact .inr ⟨h,hid⟩
 have hro:∀b,RO w0 R0 ρ w m b→RO w0 R0 (upd ρ k (w.heap.size,0,0)) (w.alloc (.cells arr e)) m' b:=fun b hb=>by
  have hlt:=hm.ro_lt hb
  rcases hb with hb|⟨h1,h2,h3,h4⟩
  ·exact .inl hb
  ·refine .inr ⟨h1,by omega,fun id C hid hsol=>?_,h4⟩
   rcases hG id C hid with⟨rfl,rfl⟩|⟨hne,hx⟩
   ·rw[upd_same];omega
   ·rw[upd_other _ _ hne]at hsol ⊢;exact h3 id C hx hsol
 have e1:Ext (RO w0 R0 ρ w m) (upd ρ k (w.heap.size,0,0)) m.next w (RO w0 R0 (upd ρ k (w.heap.size,0,0)) (w.alloc (.cells arr e)) m') (upd ρ k (w.heap.size,0,0)) m'.next (w.alloc (.cells arr e)):=
  ⟨by omega,fun _ _=>rfl,fun b hb=>⟨hro b hb,hold b (hm.ro_lt hb)⟩⟩
 refine⟨⟨hm.below.trans ⟨rfl,rfl,rfl,by omega,fun b hb=>hold b (by omega)⟩,fun id C hid=>?_,fun id C hid hsol=>?_,fun id C hid hsol=>?_,fun id id' C C' hid hid' hs1 hs2 he=>?_,fun id C hid=>?_,fun b hb=>⟨by have:=(hm.hid.1 b hb).1;omega,(hold b (hm.hid.1 b hb).1).trans (hm.hid.1 b hb).2⟩,fun id C hid hsol=>?_⟩,fun b hb=>⟨hro b hb,hold b (hm.ro_lt hb)⟩,fun x v hx hr=>Rep.mono e1 x v (Rep.upd x v hx hr)⟩
 ·rw[hnx]
  rcases hG id C hid with⟨rfl,_⟩|⟨_,hx⟩
  ·exact hk
  ·exact hm.lt id C hx
 ·rcases hG id C hid with⟨rfl,rfl⟩|⟨hne,hx⟩
  ·rw[upd_same];exact hle
  ·rw[upd_other _ _ hne]at hsol ⊢;exact hm.lo id C hx hsol
 ·rcases hG id C hid with⟨rfl,rfl⟩|⟨hne,hx⟩
  ·rw[upd_same];show w.heap.size<_;omega
  ·rw[upd_other _ _ hne]at hsol ⊢;have:=hm.hi id C hx hsol;omega
 ·rcases hG id C hid with⟨rfl,rfl⟩|⟨hne,hx⟩<;>rcases hG id' C' hid' with⟨rfl,rfl⟩|⟨hne',hx'⟩
  ·rfl
  ·rw[upd_same]at he;rw[upd_other _ _ hne']at hs2 he
   have:=hm.hi id' C' hx' hs2
   have he:w.heap.size=(ρ id').1:=he
   omega
  ·rw[upd_same]at he;rw[upd_other _ _ hne]at hs1 he
   have:=hm.hi id C hx hs1
   have he:(ρ id).1=w.heap.size:=he
   omega
  ·rw[upd_other _ _ hne]at hs1 he;rw[upd_other _ _ hne']at hs2 he
   exact hm.inj id id' C C' hx hx' hs1 hs2 he
 ·rcases hG id C hid with⟨rfl,rfl⟩|⟨hne,hx⟩
  ·rw[upd_same]
   exact⟨arr,e,(0,0),heap_alloc_new w _,unfrozen_zero _,hc _ _ _ _⟩
  ·rw[upd_other _ _ hne]
   exact BoxRel.mono e1 C (fun hsol=>hold _ (hm.hi id C hx hsol)) (BoxRel.upd C (hB id C hx) (hm.box id C hx))
 ·rcases hG id C hid with⟨rfl,rfl⟩|⟨hne,hx⟩
  ·rw[upd_same];exact fun hr=>by have:=(hm.hid.1 _ hr).1;exact Nat.lt_irrefl _ this
  ·rw[upd_other _ _ hne]at hsol ⊢;exact hm.hid.2 id C hx hsol
def AllocAt(P:Program)(o:Oper)(n0:Nat)(v:SV)(cur:Nat→SV)(m m':Mem):Prop:=
 ∃t k r,o.op=.alloc t∧o.guard=none∧RowOK P t r∧v=.ptr k 0∧n0≤k∧k<m.next∧m.get k=none∧(∀id,m'.get id=if id=k then some (.cells r.zero)else m.get id)∧m'.next=m.next∧(∀t,ment k (cur t)=false)∧∀id B,m.get id=some B→mentB k (some B)=false
section
variable {P:Program} {E:Env} {α:Type}
inductive ChainW (P:Program) (E:Env) (all:List Oper):List Oper→Fr→Mem→Fr→Mem→Prop where
 |nil (fr:Fr) (m:Mem):ChainW P E all [] fr m fr m
 |cons {o:Oper} {rest:List Oper} {fr fr1 fr':Fr} {m m1 m':Mem} {v:SV} (h:StepOK P all o fr m v m1) (hx:MoreOK P E true all o fr m v m1) (hf:FSet fr o.dst v fr1) (k:ChainW P E all rest fr1 m1 fr' m'):ChainW P E all (o::rest) fr m fr' m'
theorem execOps_chainW(hE:EOK P E){call:CallK α}(hcall:CallOK P true call){let_:Op→Bool}{all:List Oper}{k:OpsK α}{L:α→Prop}:∀ (ops:List Oper) (p:Plan) (fr:Fr) (m:Mem),(execOps E let_ call all ops k p fr m).holds L→
  ∃p' fr' m',(k p' fr' m').holds L∧ChainW P E all ops fr m fr' m'
 |[],p,fr,m,h=>⟨p,fr,m,h,.nil fr m⟩
 |o::rest,p,fr,m,h=>by
  change (oneOp E let_ call all o (execOps E let_ call all rest k) p fr m).holds L at h
  obtain⟨p1,v,fr1,m1,h1,h2,h3,h4⟩:=oneOp_holds hE hcall h
  obtain⟨p',fr',m',h5,h6⟩:=execOps_chainW hE hcall rest p1 fr1 m1 h1
  exact⟨p',fr',m',h5,.cons h2 h4 h3 h6⟩
structure WalkM (P:Program) (E:Env) (all:List Oper) (m m':Mem) (fr fr':Fr) (frs:Nat→Fr) (vals:Nat→SV) (ms:Nat→Mem):Prop where
 first:frs 0=fr
 last:frs all.length=fr'
 mfirst:ms 0=m
 mlast:ms all.length=m'
 step:∀i o,all[i]? =some o→StepOK P all o (frs i) (ms i) (vals i) (ms (i+1))
 more:∀i o,all[i]? =some o→MoreOK P E true all o (frs i) (ms i) (vals i) (ms (i+1))
 next:∀i o,all[i]? =some o→FSet (frs i) o.dst (vals i) (frs (i+1))
theorem ChainW.index{all:List Oper}:∀{ops:List Oper} {fr fr':Fr} {m m':Mem},ChainW P E all ops fr m fr' m'→∃ (frs:Nat→Fr) (vals:Nat→SV) (ms:Nat→Mem),frs 0=fr∧frs ops.length=fr'∧ms 0=m∧ms ops.length=m'∧
  (∀i o,ops[i]? =some o→StepOK P all o (frs i) (ms i) (vals i) (ms (i+1)))∧(∀i o,ops[i]? =some o→MoreOK P E true all o (frs i) (ms i) (vals i) (ms (i+1)))∧(∀i o,ops[i]? =some o→FSet (frs i) o.dst (vals i) (frs (i+1))):=by
 intro ops fr fr' m m' h
 induction h with
 |nil fr m=>exact⟨fun _=>fr,fun _=>.undef,fun _=>m,rfl,rfl,rfl,rfl,fun i o h=>by simp at h,fun i o h=>by simp at h,fun i o h=>by simp at h⟩
 |@cons o rest fr fr1 fr' m m1 m' v hst hx hf k ih=>
  obtain⟨frs,vals,ms,h1,h2,h1m,h2m,h3,hx3,h4⟩:=ih
  refine⟨fun i=>Nat.casesOn i fr frs,fun i=>Nat.casesOn i v vals,fun i=>Nat.casesOn i m ms,rfl,h2,rfl,h2m,fun i o' hi=>?_,fun i o' hi=>?_,fun i o' hi=>?_⟩
  ·cases i with
   |zero=>simp at hi;subst hi;dsimp only;rw[h1m];exact hst
   |succ i=>exact h3 i o' (by simpa using hi)
  ·cases i with
   |zero=>simp at hi;subst hi;dsimp only;rw[h1m];exact hx
   |succ i=>exact hx3 i o' (by simpa using hi)
  ·cases i with
   |zero=>simp at hi;subst hi;dsimp only;rw[h1];exact hf
   |succ i=>exact h4 i o' (by simpa using hi)
theorem ChainW.toWalk{all:List Oper}{m m':Mem}{fr fr':Fr}(h:ChainW P E all all fr m fr' m'):∃frs vals ms,WalkM P E all m m' fr fr' frs vals ms:=
 let ⟨frs,vals,ms,h1,h2,h3,h4,h5,h6,h7⟩:=h.index
 ⟨frs,vals,ms,h1,h2,h3,h4,h5,h6,h7⟩
structure Walk (all:List Oper) (fr fr':Fr) (frs:Nat→Fr) (vals:Nat→SV):Prop where
 first:frs 0=fr
 last:frs all.length=fr'
 next:∀i o,all[i]? =some o→FSet (frs i) o.dst (vals i) (frs (i+1))
noncomputable def cur(all:List Oper)(fr:Fr)(vals:Nat→SV)(S:Nat→Bool):Nat→Nat→SV
 |0,t=>fr.get t
 |n+1,t=>if S n=true∧(all[n]?).bind (·.dst)=some t then vals n else cur all fr vals S n t
theorem cur_walk{all:List Oper}{fr fr':Fr}{frs:Nat→Fr}{vals:Nat→SV}(hw:Walk all fr fr' frs vals):∀ (i:Nat),i≤all.length→∀t,(frs i).get t=cur all fr vals (fun _=>true) i t
 |0,_,t=>by rw[hw.first];rfl
 |i+1,hi,t=>by
  have hlt:i<all.length:=hi
  have ho:all[i]? =some all[i] :=List.getElem?_eq_getElem hlt
  rw[(hw.next i _ ho).2.2 t,cur_walk hw i (by omega) t]
  simp only[cur,ho,Option.bind_some,true_and]
theorem cur_same{all:List Oper}{fr:Fr}{vals:Nat→SV}{S S':Nat→Bool}{t:Nat}:∀ (i:Nat),(∀j,j<i→(all[j]?).bind (·.dst)=some t→S j=S' j)→cur all fr vals S i t=cur all fr vals S' i t
 |0,_=>rfl
 |i+1,h=>by
  have ih:=cur_same (fr:=fr) (vals:=vals) i (fun j hj=>h j (by omega))
  simp only[cur,ih]
  by_cases hd:(all[i]?).bind (·.dst)=some t
  ·rw[h i (by omega) hd]
  ·simp[hd]
theorem cur_past{all:List Oper}{fr:Fr}{vals:Nat→SV}{S:Nat→Bool}{t i:Nat}:∀ (n:Nat),i≤n→(∀j,i≤j→j<n→(all[j]?).bind (·.dst)=some t→S j=false)→cur all fr vals S n t=cur all fr vals S i t
 |0,hi,_=>by rw[show i=0 by omega]
 |n+1,hi,h=>by
  by_cases he:i=n+1
  ·rw[he]
  ·have ih:=cur_past (fr:=fr) (vals:=vals) n (by omega) (fun j h1 h2=>h j h1 (by omega))
   simp only[cur]
   by_cases hd:(all[n]?).bind (·.dst)=some t
   ·rw[h n (by omega) (by omega) hd];simpa using ih
   ·simp[hd];exact ih
structure Indep (all:List Oper):Prop where
 pair:∀i j oi oj,i<j→all[i]? =some oi→all[j]? =some oj→(∃e∈oj.after,Region.binds .any e=true∧e.on=i)∨oi.apart all.toArray oj=true
 back:∀j oj,all[j]? =some oj→∀e∈oj.after,Region.binds .any e=true→e.on<j
theorem onsOf_mem{o:Oper}{l:List Nat}{k:Nat}(h:k∈onsOf o l):k∈l∨∃e∈o.after,Region.binds .any e=true∧e.on=k:=by
 have key:∀es:List _,k∈(List.rec (motive:=fun _=>List Nat) l (fun e _ ih=>match Region.binds .any e with
   |true=>e.on::ih
   |false=>ih) es)→k∈l∨∃e∈es,Region.binds .any e=true∧e.on=k:=by
  intro es
  induction es with
  |nil=>intro h;exact .inl h
  |cons e es ih=>
   intro h
   dsimp only at h
   split at h
   ·rename_i hb
    rcases List.mem_cons.1 h with h|h
    ·exact .inr ⟨e,List.mem_cons_self,hb,h.symm⟩
    ·rcases ih h with h|⟨e',h1,h2⟩
     ·exact .inl h
     ·exact .inr ⟨e',List.mem_cons_of_mem _ h1,h2⟩
   ·rcases ih h with h|⟨e',h1,h2⟩
    ·exact .inl h
    ·exact .inr ⟨e',List.mem_cons_of_mem _ h1,h2⟩
 rcases key _ h with h|⟨e,h1,h2⟩
 ·exact .inl h
 ·exact .inr ⟨e,by simpa using h1,h2⟩
theorem memN_iff{k:Nat}:∀{l:List Nat},memN l k=true↔k∈l
 |[] =>⟨fun h=>(by cases h),fun h=>by simp at h⟩
 |x::l=>by
  have e:memN (x::l) k=match Nat.beq x k with
   |true=>true
   |false=>memN l k:=rfl
  rw[e]
  cases hx:Nat.beq x k with
  |true=>
   have:=Nat.eq_of_beq_eq_true hx
   subst this
   exact⟨fun _=>List.mem_cons_self,fun _=>rfl⟩
  |false=>
   have hne:k≠x:=fun h=>by subst h;simp at hx
   simp only[memN_iff (l:=l),List.mem_cons]
   exact⟨fun h=>.inr h,fun h=>h.resolve_left hne⟩
theorem memN_ff{k:Nat}{l:List Nat}(h:memN l k=false):k∉l:=fun hm=>by rw[memN_iff.2 hm]at h;cases h
theorem tmpsOf_eq(r:List Nat):∀ (l:List Operand),tmpsOf l r=(l.filterMap fun|.tmp t=>some t|_=>none)++r
 |[] =>rfl
 |x::l=>by
  have e:tmpsOf (x::l) r=match x with
   |.tmp t=>t::tmpsOf l r
   |_=>tmpsOf l r:=rfl
  rw[e,tmpsOf_eq r l]
  cases x<;>rfl
theorem rdsOf_eq(all:List Oper)(o:Oper):rdsOf all o=o.looksAt all.toArray:=by
 unfold rdsOf Oper.looksAt
 rw[tmpsOf_eq]
 congr 1
 cases hg:o.guard with
 |none=>rfl
 |some jw=>
  dsimp only
  rw[nth_eq]
  simp only[List.getElem?_toArray]
  cases ha:all[jw.1]? with
  |none=>rfl
  |some oj=>
   dsimp only[Option.bind_some]
   cases oj.dst<;>rfl
theorem apartN_spec{all:List Oper}{x y:Oper}(h:apartN x.dst (rdsOf all x) y.dst (rdsOf all y)=true):x.apart all.toArray y=true:=by
 unfold apartN at h
 unfold Oper.apart
 rw[rdsOf_eq,rdsOf_eq]at h
 cases hx:x.dst with
 |none=>
  cases hy:y.dst with
  |none=>simp
  |some d=>
   rw[hx,hy]at h
   dsimp only at h
   split at h
   ·cases h
   ·rename_i hm
    simpa using memN_ff hm
 |some d=>
  cases hy:y.dst with
  |none=>
   rw[hx,hy]at h
   dsimp only at h
   cases hm:memN (y.looksAt all.toArray) d with
   |true=>rw[hm]at h;cases h
   |false=>simpa using memN_ff hm
  |some e=>
   rw[hx,hy]at h
   dsimp only at h
   cases hm:memN (y.looksAt all.toArray) d with
   |true=>rw[hm]at h;cases h
   |false=>
    rw[hm]at h
    dsimp only at h
    cases hne:Nat.beq e d with
    |true=>rw[hne]at h;cases h
    |false=>
     rw[hne]at h
     dsimp only at h
     cases hm2:memN (x.looksAt all.toArray) e with
     |true=>rw[hm2]at h;cases h
     |false=>
      have h1:=memN_ff hm
      have h2:=memN_ff hm2
      have h3:e≠d:=fun hc=>by subst hc;simp at hne
      simp[h1,h2,h3]
theorem pairsN_spec{ons:List Nat}{dj:Option Nat}{rj:List Nat}:∀{acc:List (Nat×Option Nat×List Nat)},pairsN ons dj rj acc=true→∀x∈acc,x.1∈ons∨apartN x.2.1 x.2.2 dj rj=true
 |[],_,x,hx=>by simp at hx
 |y::acc,h,x,hx=>by
  have e:pairsN ons dj rj (y::acc)=match memN ons y.1 with
   |true=>pairsN ons dj rj acc
   |false=>match apartN y.2.1 y.2.2 dj rj with
    |true=>pairsN ons dj rj acc
    |false=>false:=rfl
  rw[e]at h
  split at h
  ·rename_i hm
   rcases List.mem_cons.1 hx with rfl|hx
   ·exact .inl (memN_iff.1 hm)
   ·exact pairsN_spec h x hx
  ·split at h
   ·rename_i ha
    rcases List.mem_cons.1 hx with rfl|hx
    ·exact .inr ha
    ·exact pairsN_spec h x hx
   ·cases h
theorem belowN_spec{j:Nat}:∀{l:List Nat},belowN j l=true→∀k∈l,k<j
 |[],_,k,hk=>by simp at hk
 |x::l,h,k,hk=>by
  have e:belowN j (x::l)=match Nat.blt x j with
   |true=>belowN j l
   |false=>false:=rfl
  rw[e]at h
  split at h
  ·rename_i hx
   rcases List.mem_cons.1 hk with rfl|hk
   ·simpa using hx
   ·exact belowN_spec h k hk
  ·cases h
theorem onsOf_of{o:Oper}{l:List Nat}{e:Edge}(he:e∈o.after)(hb:Region.binds .any e=true):e.on∈onsOf o l:=by
 have key:∀es:List Edge,e∈es→e.on∈(List.rec (motive:=fun _=>List Nat) l (fun e _ ih=>match Region.binds .any e with
   |true=>e.on::ih
   |false=>ih) es):=by
  intro es
  induction es with
  |nil=>intro h;simp at h
  |cons x es ih=>
   intro h
   dsimp only
   rcases List.mem_cons.1 h with rfl|h
   ·rw[hb];exact List.mem_cons_self
   ·split
    ·exact List.mem_cons_of_mem _ (ih h)
    ·exact ih h
 exact key _ (by simpa using he)
theorem lexGo_spec{all:List Oper}:∀ (ops:List Oper) (j:Nat) (acc:List (Nat×Option Nat×List Nat)),(∀i,ops[i]? =all[j+i]?)→lexGo all ops j acc=true→(∀i o,i<j→all[i]? =some o→(i,o.dst,rdsOf all o)∈acc)→
  (∀i o,j≤i→all[i]? =some o→(∀e∈o.after,Region.binds .any e=true→e.on<i)∧(∀i' o',i'<i→all[i']? =some o'→(∃e∈o.after,Region.binds .any e=true∧e.on=i')∨o'.apart all.toArray o=true)∧∀cs b,o.op≠.select cs b)
 |[],j,acc,hl,_,_,i,o,hi,ho=>by
  have:=hl (i-j)
  rw[show j+(i-j)=i by omega,ho]at this
  simp at this
 |x::ops,j,acc,hl,h,hacc,i,o,hi,ho=>by
  have e:lexGo all (x::ops) j acc=match belowN j (onsOf x [])with
   |true=>match pairsN (onsOf x []) x.dst (rdsOf all x) acc with
    |true=>match x.op with
     |.select .. =>false
     |_=>lexGo all ops (j+1) ((j,x.dst,rdsOf all x)::acc)
    |false=>false
   |false=>false:=rfl
  rw[e]at h
  have hx:all[j]? =some x:=by simpa using (hl 0).symm
  split at h
  ·rename_i hb
   split at h
   ·rename_i hp
    have hsel:(∀cs b,x.op≠.select cs b)∧lexGo all ops (j+1) ((j,x.dst,rdsOf all x)::acc)=true:=by
     split at h
     ·cases h
     ·rename_i hns
      exact⟨fun cs b hc=>hns _ _ hc,h⟩
    rcases Nat.lt_or_ge j i with hlt|hge
    ·refine lexGo_spec ops (j+1) _ (fun k=>?_) hsel.2 (fun i' o' hi' ho'=>?_) i o hlt ho
     ·have:=hl (k+1)
      rw[show j+1+k=j+(k+1) by omega,←this];simp
     ·rcases Nat.lt_or_ge i' j with h1|h1
      ·exact List.mem_cons_of_mem _ (hacc i' o' h1 ho')
      ·have:i'=j:=by omega
       subst this
       rw[hx]at ho';injection ho' with ho';subst ho'
       exact List.mem_cons_self
    ·have:i=j:=by omega
     subst this
     rw[hx]at ho;injection ho with ho;subst ho
     refine⟨fun e he hbe=>belowN_spec hb _ (onsOf_of he hbe),fun i' o' hi' ho'=>?_,hsel.1⟩
     rcases pairsN_spec hp _ (hacc i' o' hi' ho')with h1|h1
     ·rcases onsOf_mem h1 with h2|⟨e,h2,h3,h4⟩
      ·simp at h2
      ·exact .inl ⟨e,h2,h3,h4⟩
     ·exact .inr (apartN_spec h1)
   ·cases h
  ·cases h
theorem lexL_all{all:List Oper}(h:lexL all=true):∀i o,all[i]? =some o→(∀e∈o.after,Region.binds .any e=true→e.on<i)∧(∀i' o',i'<i→all[i']? =some o'→(∃e∈o.after,Region.binds .any e=true∧e.on=i')∨o'.apart all.toArray o=true)∧∀cs b,o.op≠.select cs b:=
 fun i o ho=>lexGo_spec all 0 [] (fun k=>by rw[Nat.zero_add]) h (fun i' o' h'=>absurd h' (Nat.not_lt_zero _)) i o (Nat.zero_le _) ho
theorem indep_of_lexL{all:List Oper}(h:lexL all=true):Indep all:=
 ⟨fun i j oi oj hij hi hj=>(lexL_all h j oj hj).2.1 i oi hij hi,fun j oj hj=>(lexL_all h j oj hj).1⟩
theorem noSelect_of_lexL{all:List Oper}(h:lexL all=true):Region.noSelect all.toArray=true:=by
 unfold Region.noSelect
 rw[Array.all_eq_true_iff_forall_mem]
 intro o ho
 obtain⟨i,hi⟩:=List.mem_iff_getElem?.1 (show o∈all by simpa using ho)
 have:=(lexL_all h i o hi).2.2
 split
 ·rename_i hc;exact absurd hc (this _ _)
 ·rfl
def unlisted(listed:Array Bool):Nat→Nat
 |0=>0
 |n+1=>unlisted listed n+if listed.getD n true=true then 0 else 1
theorem unlisted_set{listed:Array Bool}{i:Nat}:∀ (n:Nat),i<n→listed.getD i true=false→i<listed.size→unlisted (listed.setIfInBounds i true) n+1=unlisted listed n
 |0,h,_,_=>by omega
 |n+1,h,hf,hs=>by
  by_cases hin:i=n
  ·subst hin
   have h1:(listed.setIfInBounds i true).getD i true=true:=by simp[Array.getD_eq_getD_getElem?,Array.getElem?_setIfInBounds,hs]
   have h2:∀k,k≤i→unlisted (listed.setIfInBounds i true) k=unlisted listed k:=by
    intro k
    induction k with
    |zero=>intro _;rfl
    |succ k ih=>
     intro hk
     simp only[unlisted,ih (by omega)]
     rw[getD_set_ne true (by omega)]
   simp only[unlisted,h1,hf,h2 i (Nat.le_refl _)]
   simp
  ·have ih:=unlisted_set n (by omega) hf hs
   simp only[unlisted]
   rw[getD_set_ne true hin]
   omega
theorem unlisted_zero{listed:Array Bool}:∀ (n:Nat),unlisted listed n=0→∀i,i<n→listed.getD i true=true
 |0,_,i,hi=>by omega
 |n+1,h,i,hi=>by
  simp only[unlisted]at h
  by_cases hin:i=n
  ·subst hin
   by_cases hc:listed.getD i true=true
   ·exact hc
   ·rw[if_neg hc]at h;omega
  ·exact unlisted_zero n (by omega) i (by omega)
theorem looks_operand{ops:Array Oper}{o:Oper}{t:Tmp}(h: .tmp t∈o.op.operands):t∈o.looksAt ops:=
 List.mem_append_left _ (List.mem_filterMap.2 ⟨.tmp t,by simpa using h,rfl⟩)
theorem looks_guard{ops:Array Oper}{o:Oper}{g:Nat}{want:Bool}{t:Tmp}(h:o.guard=some (g,want))(hd:(ops[g]?).bind (·.dst)=some t):t∈o.looksAt ops:=
 List.mem_append_right _ (by rw[h];dsimp only;rw[hd];simp)
theorem any_order{ds:List Deferred}{w0:World}{R0:RSet}{all:List Oper}{fr fr':Fr}{frs:Nat→Fr}{vals:Nat→SV}(n0:Nat)(hw:Walk all fr fr' frs vals)(hi:Indep all){M:(Nat→Bool)→Mem}(hMc:∀S S',(∀k,k<all.length→S k=S' k)→M S=M S')
  (hstep:∀ (S:Nat→Bool) i o,all[i]? =some o→S i=false→(∀j oj,all[j]? =some oj→S j=true→∀e∈oj.after,Region.binds .any e=true→S e.on=true)→(∀e∈o.after,Region.binds .any e=true→S e.on=true)→StepOK P all o (frs i) (M S) (vals i) (M fun k=>if k=i then true else S k)∨AllocAt P o n0 (vals i) (cur all fr vals S all.length) (M S) (M fun k=>if k=i then true else S k))
  (hns:Region.noSelect all.toArray=true) {Q:Exit→Act→World→Prop} {Ψ:Rho→World→Mem→Prop}
  (hΨa:∀ρ w m k r w' m',n0≤k→Ψ ρ w m→m'.next=m.next→(∀b,RO w0 R0 ρ w m b→RO w0 R0 (upd ρ k r) w' m' b∧w'.heap[b]? =w.heap[b]?)→Ψ (upd ρ k r) w' m')
  (hΨ:∀ρ w m ρ' w' m',Ψ ρ w m→MExt w0 R0 ρ w m ρ' w' m'→Ψ ρ' w' m') (hQ:∀ρ w a,SRelD ds w0 R0 ρ w fr' (M fun _=>true) a→Ψ ρ w (M fun _=>true)→Q .normal a w):∀ (fuel:Nat) (listed:Array Bool) (ρ:Rho) (w:World) (a:Act),listed.size=all.length→unlisted listed all.length=fuel→
  (∀j oj,all[j]? =some oj→listed.getD j true=true→∀e∈oj.after,Region.binds .any e=true→listed.getD e.on false=true)→
  MRel w0 R0 ρ w (M fun k=>listed.getD k true)→fr.size=a.tmps.size→a.defers=ds→(∀t,Rep (RO w0 R0 ρ w (M fun k=>listed.getD k true)) ρ (M fun k=>listed.getD k true).next w (cur all fr vals (fun i=>listed.getD i true) all.length t) (a.tmps.getD t Go.undef))→Ψ ρ w (M fun k=>listed.getD k true)→
  wpAny P .any all.toArray Q fuel listed a w:=by
 have hsize:∀i,i≤all.length→(frs i).size=fr.size:=by
  intro i
  induction i with
  |zero=>intro _;rw[hw.first]
  |succ i ih=>intro h;rw[(hw.next i _ (List.getElem?_eq_getElem (by omega))).1];exact ih (by omega)
 have done:∀ (listed:Array Bool) (ρ:Rho) (w:World) (a:Act),listed.size=all.length→MRel w0 R0 ρ w (M fun k=>listed.getD k true)→fr.size=a.tmps.size→a.defers=ds→(∀t,Rep (RO w0 R0 ρ w (M fun k=>listed.getD k true)) ρ (M fun k=>listed.getD k true).next w (cur all fr vals (fun i=>listed.getD i true) all.length t) (a.tmps.getD t Go.undef))→Ψ ρ w (M fun k=>listed.getD k true)→(∀i,i<all.length→listed.getD i true=true)→Q .normal a w:=by
  intro listed ρ w a hsz hm hs hd hrep hps hall
  have eM:M (fun k=>listed.getD k true)=M fun _=>true:=hMc _ _ fun k hk=>hall k hk
  rw[eM]at hm hrep hps
  refine hQ ρ w a ⟨hm,⟨by rw[←hw.last,hsize _ (Nat.le_refl _)];exact hs,fun t=>?_⟩,hd⟩ hps
  have e:fr'.get t=cur all fr vals (fun i=>listed.getD i true) all.length t:=by
   rw[←hw.last,cur_walk hw _ (Nat.le_refl _)]
   exact cur_same _ fun j hj _=>(hall j hj).symm
  rw[e];exact hrep t
 -- where none is ready all are listed
 have none_ready:∀ (listed:Array Bool),listed.size=all.length→Region.ready .any all.toArray listed=[] →∀i,i<all.length→listed.getD i true=true:=by
  intro listed hsz hr i
  induction i using Nat.strongRecOn with
  |_ i ih=>
   intro hil
   rcases Bool.eq_false_or_eq_true (listed.getD i true)with h|h
   ·exact h
   ·have:i∈Region.ready .any all.toArray listed:=by
     rw[mem_ready]
     refine⟨h,all[i],by simp[hil],fun e he hb=>?_⟩
     have hlt:=hi.back i _ (List.getElem?_eq_getElem hil) e he hb
     have h1:=ih e.on hlt (by omega)
     rw[Array.getD_eq_getD_getElem?,Array.getElem?_eq_getElem (by omega)]at h1 ⊢
     simpa using h1
    rw[hr]at this
    cases this
 intro fuel
 induction fuel with
 |zero=>
  intro listed ρ w a hsz hun hcl hm hs hd hrep hps
  have hall:=unlisted_zero _ hun
  refine⟨?_,done listed ρ w a hsz hm hs hd hrep hps hall⟩
  apply List.eq_nil_iff_forall_not_mem.2
  intro i hir
  obtain⟨h1,o,ho,_⟩:=mem_ready.1 hir
  have hil:i<all.length:=by
   have:all[i]? =some o:=by simpa using ho
   exact(List.getElem?_eq_some_iff.1 this).1
  rw[hall i hil]at h1;cases h1
 |succ fuel ih=>
  intro listed ρ w a hsz hun hcl hm hs hd hrep hps
  refine⟨fun hr=>done listed ρ w a hsz hm hs hd hrep hps (none_ready listed hsz hr),fun i hir=>?_⟩
  obtain⟨hl,o,ho,hdeps⟩:=mem_ready.1 hir
  have hoi:all[i]? =some o:=by simpa using ho
  have hil:i<all.length:=(List.getElem?_eq_some_iff.1 hoi).1
  -- whoever writes a slot that i looks at, ahead of i, is listed; whoever writes it behind i is not
  have before:∀j oj,all[j]? =some oj→j<i→oj.apart all.toArray o=false→listed.getD j true=true:=by
   intro j oj hj hji hap
   rcases hi.pair j i oj o hji hj hoi with⟨e,he,hb,heq⟩|h
   ·have:=hdeps e he hb
    rw[heq,Array.getD_eq_getD_getElem?]at this
    have hjl:j<listed.size:=by rw[hsz];exact(List.getElem?_eq_some_iff.1 hj).1
    rw[Array.getElem?_eq_getElem hjl]at this
    rw[Array.getD_eq_getD_getElem?,Array.getElem?_eq_getElem hjl]
    simpa using this
   ·rw[hap]at h;cases h
  have behind:∀j oj,all[j]? =some oj→i<j→o.apart all.toArray oj=false→listed.getD j true=false:=by
   intro j oj hj hij hap
   rcases hi.pair i j o oj hij hoi hj with⟨e,he,hb,heq⟩|h
   ·rcases Bool.eq_false_or_eq_true (listed.getD j true)with hc|hc
    ·have:=hcl j oj hj hc e he hb
     rw[heq,Array.getD_eq_getD_getElem?]at this
     rw[Array.getD_eq_getD_getElem?]at hl
     rw[Array.getElem?_eq_getElem (by omega)]at this hl
     simp at this hl;rw[this]at hl;cases hl
    ·exact hc
   ·rw[hap]at h;cases h
  -- what i looks at
  have looks:∀t,t∈o.looksAt all.toArray→cur all fr vals (fun k=>listed.getD k true) all.length t=(frs i).get t:=by
   intro t ht
   rw[cur_walk hw i (by omega),cur_past (i:=i) all.length (by omega) (fun j h1 h2 hd'=>?_)]
   ·refine cur_same i fun j hj hd'=>?_
    have hjl:j<all.length:=by omega
    refine before j _ (List.getElem?_eq_getElem hjl) hj ?_
    have hd2:all[j].dst=some t:=by simpa[List.getElem?_eq_getElem hjl]using hd'
    simp[Oper.apart,hd2,ht]
   ·by_cases hji:j=i
    ·subst hji;exact hl
    ·have hjl:j<all.length:=h2
     refine behind j _ (List.getElem?_eq_getElem hjl) (by omega) ?_
     have hd2:all[j].dst=some t:=by simpa[List.getElem?_eq_getElem hjl]using hd'
     simp[Oper.apart,hd2,ht]
  -- behind i
  have hset:∀k,k<all.length→(listed.setIfInBounds i true).getD k true=if k=i then true else listed.getD k true:=by
   intro k hk
   by_cases hki:k=i
   ·subst hki;simp[Array.getD_eq_getD_getElem?,Array.getElem?_setIfInBounds,hsz,hil]
   ·rw[getD_set_ne true (Ne.symm hki),if_neg hki]
  have hcur:∀t,cur all fr vals (fun k=>(listed.setIfInBounds i true).getD k true) all.length t=if o.dst=some t then vals i else cur all fr vals (fun k=>listed.getD k true) all.length t:=by
   intro t
   by_cases ht:o.dst=some t
   ·rw[if_pos ht,cur_past (i:=i+1) all.length hil (fun j h1 h2 hd'=>?_)]
    ·simp only[cur,hoi,Option.bind_some]
     rw[if_pos ⟨by rw[hset i hil];simp,ht⟩]
    ·rw[hset j h2,if_neg (by omega)]
     refine behind j _ (List.getElem?_eq_getElem h2) (by omega) ?_
     have hd2:all[j].dst=some t:=by simpa[List.getElem?_eq_getElem h2]using hd'
     simp[Oper.apart,hd2,ht]
   ·rw[if_neg ht]
    refine cur_same _ fun j hj hd'=>?_
    rw[hset j hj]
    by_cases hji:j=i
    ·subst hji
     rw[hoi]at hd'
     exact absurd (by simpa using hd') ht
    ·rw[if_neg hji]
  have hun':unlisted (listed.setIfInBounds i true) all.length=fuel:=by
   have:=unlisted_set all.length hil hl (by omega)
   omega
  have hcl':∀j oj,all[j]? =some oj→(listed.setIfInBounds i true).getD j true=true→∀e∈oj.after,Region.binds .any e=true→(listed.setIfInBounds i true).getD e.on false=true:=by
   intro j oj hj hlj e he hb
   have hjl:j<all.length:=(List.getElem?_eq_some_iff.1 hj).1
   rw[hset j hjl]at hlj
   by_cases hji:j=i
   ·subst hji
    rw[hoi]at hj;injection hj with hj;subst hj
    exact getD_set_true (hdeps e he hb)
   ·rw[if_neg hji]at hlj
    exact getD_set_true (hcl j oj hj hlj e he hb)
  have hfs:=hw.next i o hoi
  -- the memory ahead of i and behind i
  have eM:M (fun k=>(listed.setIfInBounds i true).getD k true)=M fun k=>if k=i then true else listed.getD k true:=hMc _ _ fun k hk=>hset k hk
  have up:∀k,listed.getD k false=true→listed.getD k true=true:=fun k hk=>by
   rw[Array.getD_eq_getD_getElem?]at hk ⊢
   cases hx:listed[k]? with
   |none=>rfl
   |some b=>rw[hx]at hk;simpa using hk
  have hst:=hstep (fun k=>listed.getD k true) i o hoi hl (fun j oj hj hlj e he hb=>up _ (hcl j oj hj hlj e he hb)) (fun e he hb=>up _ (hdeps e he hb))
  rw[←eM]at hst
  generalize hm1:M (fun k=>listed.getD k true)=m at hst hm hrep hps
  generalize hm2:M (fun k=>(listed.setIfInBounds i true).getD k true)=m' at hst
  have putrep:∀ (ρ':Rho) (w':World) (u:Value),MExt w0 R0 ρ w m ρ' w' m'→Rep (RO w0 R0 ρ' w' m') ρ' m'.next w' (vals i) u→∀t,Rep (RO w0 R0 ρ' w' m') ρ' m'.next w' (cur all fr vals (fun k=>(listed.setIfInBounds i true).getD k true) all.length t) ((a.put o.dst u).tmps.getD t Go.undef):=by
   intro ρ' w' u he hu t
   rw[hcur t]
   have h1:∀d,o.dst=some d→d<a.tmps.size:=fun d hd'=>by rw[←hs,←hsize i (by omega)];exact hfs.2.1 d hd'
   cases hdst:o.dst with
   |none=>simpa[Act.put]using Rep.mono he _ _ (hrep t)
   |some d=>
    have hlt:=h1 d hdst
    by_cases ht:d=t
    ·subst ht
     simp[Act.put,Array.getElem?_setIfInBounds,hlt];exact hu
    ·have:¬(some d=some t):=fun e=>ht (by injection e)
     rw[if_neg this]
     have h2:=Rep.mono he _ _ (hrep t)
     simpa[Act.put,Array.getElem?_setIfInBounds_ne ht]using h2
  have putsize:∀u,fr.size=(a.put o.dst u).tmps.size:=fun u=>by rw[hs];cases o.dst<;>simp[Act.put]
  -- the operation itself
  unfold wpOp
  rw[ho]
  dsimp only
  have hyield:∀g,gval all (frs i).get o=some g→Region.wanted o (yielded all.toArray a.tmps)=g:=fun g hg=>
   yielded_of (R:=RO w0 R0 ρ w m) (ρ:=ρ) (n:=m.next) (w:=w) (fun j want d hgd hdd=>by rw[←looks d (looks_guard hgd (by simpa using hdd))];exact hrep d) hg
  rcases hst with(⟨hg,hsem⟩|⟨hg,hv,hmm⟩)|⟨t,k,r,hop,hgd,hrow,hvk,hk0,hk1,hk2,hk3,hk4,hk5,hk6⟩
  ·rw[hyield _ hg,if_pos rfl]
   -- its operands agree with the text's frame
   have heb2:∀x∈o.op.operands,Rep (RO w0 R0 ρ w m) ρ m.next w (evalIn (frs i) x) (a.eval x):=by
    intro x hx
    cases x with
    |tmp t=>
     show Rep _ _ _ _ ((frs i).get t) _
     rw[←looks t (looks_operand hx)]
     exact hrep t
    |const v=>exact ofVal_rep v _ _ _ _
    |global g=>exact rfl
    |func f=>exact⟨[],[],rfl,rfl,rfl⟩
   refine .inl ?_
   unfold Oper.wp
   refine upon_of_post (fun u w' hu=>?_) (hsem w0 R0 ρ w a.eval hm heb2)
   obtain⟨ρ',g1,g2,g3⟩:=hu
   exact ih _ ρ' w' _ (by simpa using hsz) hun' hcl' (by rw[hm2];exact g1) (putsize u) (by rw[put_defers];exact hd) (by rw[hm2];exact putrep ρ' w' u g2 g3) (by rw[hm2];exact hΨ _ _ _ _ _ _ hps g2)
  ·rw[hyield _ hg]
   subst hmm
   simp only[Bool.false_eq_true,if_false]
   exact ih _ ρ w _ (by simpa using hsz) hun' hcl' (by rw[hm2];exact hm) (putsize _) (by rw[put_defers];exact hd) (by rw[hm2];exact putrep ρ w Go.undef (Ext.refl _ _ _ _) (by rw[hv];rfl)) (by rw[hm2];exact hps)
  · -- a new variable
    rw[hyield true (by unfold gval;rw[hgd]),if_pos rfl]
    obtain⟨z,hz1,hz2,_⟩:=run_zero' hrow
    obtain⟨b1,b2,b3⟩:=hm.allocAt hk1 hk2 hk6 (arr:=z.cells) (e:=t) hk3 hk4 hz2
    refine .inl ?_
    unfold Oper.wp
    have hpost:OpPost P (fun u w'=>u=.pointer (some ⟨w.heap.size,0,none⟩)∧w'=w.alloc (.cells z.cells t)) ((Go.execOp a.eval o).run P w):=by
     obtain⟨dst,op,ty,pos,after,guard⟩:=o
     dsimp only at hop
     subst hop
     exact post_value (u:=.pointer (some ⟨w.heap.size,0,none⟩)) (w':=w.alloc (.cells z.cells t)) (by simp[Instr.alloc,hz1,newVar,newRow]) ⟨rfl,rfl⟩
    refine upon_of_post (fun u w' hu=>?_) hpost
    obtain⟨rfl,rfl⟩:=hu
    refine ih _ (upd ρ k (w.heap.size,0,0)) _ _ (by simpa using hsz) hun' hcl' (by rw[hm2];exact b1) (putsize _) (by rw[put_defers];exact hd) (fun t'=>?_) (by rw[hm2];exact hΨa _ _ _ _ _ _ _ hk0 hps hk4 b2)
    rw[hm2,hcur t']
    have h1:∀d,o.dst=some d→d<a.tmps.size:=fun d hd'=>by rw[←hs,←hsize i (by omega)];exact hfs.2.1 d hd'
    have old:=fun t'=>b3 _ _ (hk5 t') (hrep t')
    cases hdst:o.dst with
    |none=>simpa[Act.put]using old t'
    |some d=>
     have hlt:=h1 d hdst
     by_cases ht:d=t'
     ·subst ht
      simp[Act.put,Array.getElem?_setIfInBounds,hlt]
      rw[hvk]
      exact⟨by rw[hk4];exact hk1,by rw[upd_same]⟩
     ·have:¬(some d=some t'):=fun e=>ht (by injection e)
      rw[if_neg this]
      simpa[Act.put,Array.getElem?_setIfInBounds_ne ht]using old t'
theorem pure_quiet{o:Op}(h:pureOp o=true):quiet E o=true:=by cases o<;>first|rfl|(cases h;done)
theorem shape_quiet{o:Op}(h:shapeOp o=true):quiet E o=true:=by
 cases o<;>first
  |rfl
  |(cases h;done)
  |(rename_i c;obtain⟨ca,aa,ta⟩:=c;cases ca<;>first|(cases h;done)|(rename_i b;cases b<;>first|rfl|(cases h;done)))
theorem pure_writer{o:Op}(h:pureOp o=true):writer o=false:=by cases o<;>first|rfl|(cases h;done)
theorem shape_writer{o:Op}(h:shapeOp o=true):writer o=false:=by cases o<;>first|rfl|(cases h;done)
theorem store_writer{o:Op}(h:isStore o=true):writer o=true:=by simp[writer,h]
structure Wet (E:Env) (all:List Oper) (al:Bool) (a:Nat):Prop where
 pre:∀ (i:Nat) (o:Oper),i<a→all[i]? =some o→writer o.op=false∧wetPre E al o.op=true
 head:∀ (o:Oper),all[a]? =some o→writer o.op=true∧isAlloc o.op=al
 post:∀ (i:Nat) (o:Oper),a<i→all[i]? =some o→wetPost al o.op=true
 pairs:∀ (j:Nat) (oj:Oper),all[j]? =some oj→isStore oj.op=true→∀ (i:Nat) (oi:Oper),i<j→all[i]? =some oi→pureOp oi.op=true∨shapeOp oi.op=true∨boundTo all 3 oj i=true
theorem wetGo_spec{al:Bool}:∀ (l:List Oper),wetGo E al l=true→∃a,(∀ (i:Nat) (o:Oper),i<a→l[i]? =some o→writer o.op=false∧wetPre E al o.op=true)∧(∀ (o:Oper),l[a]? =some o→writer o.op=true∧isAlloc o.op=al)∧∀ (i:Nat) (o:Oper),a<i→l[i]? =some o→wetPost al o.op=true
 |[],_=>⟨0,fun i o h=>absurd h (Nat.not_lt_zero _),fun o h=>(by cases h),fun i o _ h=>(by cases h)⟩
 |o::os,h=>by
  change (match writer o.op with|true=>(isAlloc o.op==al)&&os.all fun o=>wetPost al o.op|false=>wetPre E al o.op&&wetGo E al os)=true at h
  split at h
  ·rename_i hw
   simp only[Bool.and_eq_true,beq_iff_eq,List.all_eq_true]at h
   refine⟨0,fun i o h=>absurd h (Nat.not_lt_zero _),fun o' h'=>?_,fun i o' hi h'=>?_⟩
   ·simp at h';subst h';exact⟨hw,h.1⟩
   ·cases i with
    |zero=>cases hi
    |succ i=>exact h.2 o' (List.mem_of_getElem? (by simpa using h'))
  ·rename_i hw
   simp only[Bool.and_eq_true]at h
   obtain⟨a,h1,h2,h3⟩:=wetGo_spec os h.2
   refine⟨a+1,fun i o' hi h'=>?_,fun o' h'=>h2 o' (by simpa using h'),fun i o' hi h'=>?_⟩
   ·cases i with
    |zero=>simp at h';subst h';exact⟨hw,h.1⟩
    |succ i=>exact h1 i o' (by omega) (by simpa using h')
   ·cases i with
    |zero=>omega
    |succ i=>exact h3 i o' (by omega) (by simpa using h')
theorem wetB_spec{all:List Oper}(h:wetB E all=true):∃al a,Wet E all al a:=by
 simp only[wetB,Bool.and_eq_true,Bool.or_eq_true]at h
 have hp:∀ (j:Nat) (oj:Oper),all[j]? =some oj→isStore oj.op=true→∀ (i:Nat) (oi:Oper),i<j→all[i]? =some oi→pureOp oi.op=true∨shapeOp oi.op=true∨boundTo all 3 oj i=true:=by
  intro j oj hj hs i oi hij hi
  have h2:=h.2
  simp only[wetPairs,List.all_eq_true]at h2
  have h3:=h2 (oj,j) (List.mem_zipIdx_iff_getElem?.2 hj)
  simp only[hs,Bool.not_true,Bool.false_or,List.all_eq_true]at h3
  have h4:=h3 (oi,i) (List.mem_zipIdx_iff_getElem?.2 hi)
  have hb:Nat.blt i j=true:=by rw[Nat.blt_eq];exact hij
  simp only[hb,Bool.not_true,Bool.false_or,Bool.or_eq_true]at h4
  rcases h4 with h4|h4|h4
  ·exact .inl h4
  ·exact .inr (.inl h4)
  ·exact .inr (.inr h4)
 rcases h.1 with h1|h1<;>obtain⟨a,g1,g2,g3⟩:=wetGo_spec all h1
 ·exact⟨false,a,g1,g2,g3,hp⟩
 ·exact⟨true,a,g1,g2,g3,hp⟩
noncomputable def curM(all:List Oper)(ms:Nat→Mem)(S:Nat→Bool):Nat→Mem
 |0=>ms 0
 |n+1=>if S n=true∧(all[n]?).any (fun o=>writer o.op)=true then ms (n+1)else curM all ms S n
theorem curM_congr{all:List Oper}{ms:Nat→Mem}{S S':Nat→Bool}:∀ (n:Nat),(∀k,k<n→(all[k]?).any (fun o=>writer o.op)=true→S k=S' k)→curM all ms S n=curM all ms S' n
 |0,_=>rfl
 |n+1,h=>by
  have ih:=curM_congr (ms:=ms) n (fun k hk=>h k (by omega))
  simp only[curM,ih]
  by_cases hw:(all[n]?).any (fun o=>writer o.op)=true
  ·rw[h n (by omega) hw]
  ·simp[hw]
theorem curM_past{all:List Oper}{ms:Nat→Mem}{S:Nat→Bool}{i:Nat}:∀ (n:Nat),i≤n→(∀k,i≤k→k<n→(all[k]?).any (fun o=>writer o.op)=true→S k=false)→curM all ms S n=curM all ms S i
 |0,h,_=>by rw[show i=0 by omega]
 |n+1,h,hk=>by
  by_cases he:i=n+1
  ·rw[he]
  ·have ih:=curM_past (ms:=ms) n (by omega) (fun k h1 h2=>hk k h1 (by omega))
   simp only[curM]
   by_cases hw:(all[n]?).any (fun o=>writer o.op)=true
   ·rw[hk n (by omega) (by omega) hw];simpa using ih
   ·simp[hw];exact ih
theorem curM_some{all:List Oper}{ms:Nat→Mem}{S:Nat→Bool}:∀ (n:Nat),n≤all.length→∃k,k≤n∧curM all ms S n=ms k∧(k=0∨∃j o,k=j+1∧S j=true∧all[j]? =some o∧writer o.op=true)
 |0,_=>⟨0,Nat.le_refl _,rfl,.inl rfl⟩
 |n+1,h=>by
  simp only[curM]
  split
  ·rename_i hc
   refine⟨n+1,Nat.le_refl _,rfl,.inr ⟨n,all[n],rfl,hc.1,List.getElem?_eq_getElem h,?_⟩⟩
   have:=hc.2
   rw[List.getElem?_eq_getElem h]at this
   simpa using this
  ·obtain⟨k,h1,h2,h3⟩:=curM_some (all:=all) (ms:=ms) (S:=S) n (by omega)
   exact⟨k,by omega,h2,h3⟩
theorem curM_all{all:List Oper}{ms:Nat→Mem}(hk:∀ (i:Nat) (o:Oper),all[i]? =some o→writer o.op=false→ms (i+1)=ms i){S:Nat→Bool}:∀ (n:Nat),n≤all.length→(∀k,k<n→(all[k]?).any (fun o=>writer o.op)=true→S k=true)→curM all ms S n=ms n
 |0,_,_=>rfl
 |n+1,h,hS=>by
  simp only[curM]
  have ho:all[n]? =some all[n] :=List.getElem?_eq_getElem h
  by_cases hw:writer all[n].op=true
  ·rw[if_pos ⟨hS n (by omega) (by rw[ho];simpa using hw),by rw[ho];simpa using hw⟩]
  ·rw[if_neg (fun hc=>hw (by have:=hc.2;rw[ho]at this;simpa using this)),curM_all (all:=all) hk n (by omega) (fun k hk=>hS k (by omega)),hk n _ ho (by simpa using hw)]
theorem closeN_in{all:List Oper}{S:Nat→Bool}{i:Nat}(hcl:∀ (j:Nat) (oj:Oper),all[j]? =some oj→S j=true→∀e∈oj.after,Region.binds .any e=true→S e.on=true):
  ∀ (n:Nat) (todo seen:List Nat),(∀j∈todo,S j=true)→closeN all i n todo seen=true→S i=true
 |0,_,_,_,h=>by cases h
 |n+1,[],_,_,h=>by cases h
 |n+1,j::todo,seen,ht,h=>by
  have hr:∀k∈todo,S k=true:=fun k hk=>ht k (List.mem_cons_of_mem _ hk)
  have h:(match Nat.beq j i with
   |true=>true
   |false=>match Nat.blt j i||seen.any fun x=>Nat.beq x j with
    |true=>closeN all i n todo seen
    |false=>match nth all j with
     |some o=>closeN all i n (onsOf o todo) (j::seen)
     |none=>closeN all i n todo seen)=true:=h
  split at h
  ·rename_i hb
   rw[←Nat.eq_of_beq_eq_true hb];exact ht j List.mem_cons_self
  ·split at h
   ·exact closeN_in hcl n todo seen hr h
   ·split at h
    ·rename_i o ho
     rw[nth_eq]at ho
     refine closeN_in hcl n _ _ (fun k hk=>?_) h
     rcases onsOf_mem hk with hk|⟨e,h1,h2,rfl⟩
     ·exact hr k hk
     ·exact hcl j o ho (ht j List.mem_cons_self) e h1 h2
    ·exact closeN_in hcl n todo seen hr h
theorem bound_in{all:List Oper}{S:Nat→Bool}(hcl:∀ (j:Nat) (oj:Oper),all[j]? =some oj→S j=true→∀e∈oj.after,Region.binds .any e=true→S e.on=true)
  (n:Nat) (o:Oper) (i:Nat) (ho:∀e∈o.after,Region.binds .any e=true→S e.on=true) (h:boundTo all n o i=true):S i=true:=
 closeN_in hcl 300 _ _ (fun k hk=>by
  rcases onsOf_mem hk with hk|⟨e,h1,h2,rfl⟩
  ·cases hk
  ·exact ho e h1 h2) h
theorem wet_keep{all:List Oper}{m m':Mem}{fr fr':Fr}{frs:Nat→Fr}{vals:Nat→SV}{ms:Nat→Mem}(hw:WalkM P E all m m' fr fr' frs vals ms){al:Bool}{a:Nat}(hwet:Wet E all al a)(k:Nat)(o:Oper)(ho:all[k]? =some o)(hwr:writer o.op=false):ms (k+1)=ms k:=by
 refine(hw.more k o ho).quiet rfl ?_
 rcases Nat.lt_trichotomy k a with h|h|h
 ·have:=(hwet.pre k o h ho).2
  simp only[wetPre,Bool.and_eq_true]at this;exact this.1
 ·subst h;rw[(hwet.head o ho).1]at hwr;cases hwr
 ·have:=hwet.post k o h ho
  simp only[wetPost,Bool.or_eq_true,Bool.and_eq_true]at this
  rcases this with h1|h1|h1
  ·exact pure_quiet h1
  ·rw[store_writer h1]at hwr;cases hwr
  ·exact shape_quiet h1.1
theorem wet_step{all:List Oper}{m m':Mem}{fr fr':Fr}{frs:Nat→Fr}{vals:Nat→SV}{ms:Nat→Mem}(hw:WalkM P E all m m' fr fr' frs vals ms){al:Bool}{a:Nat}(hwet:Wet E all al a)(hfresh:m.get m.next=none)
  (S:Nat→Bool) (i:Nat) (o:Oper) (hoi:all[i]? =some o) (hSi:S i=false) (hcl:∀ (j:Nat) (oj:Oper),all[j]? =some oj→S j=true→∀e∈oj.after,Region.binds .any e=true→S e.on=true) (hready:∀e∈o.after,Region.binds .any e=true→S e.on=true):
  StepOK P all o (frs i) (curM all ms S all.length) (vals i) (curM all ms (fun k=>if k=i then true else S k) all.length):=by
 have hil:i<all.length:=(List.getElem?_eq_some_iff.1 hoi).1
 have hkeep:∀ (k:Nat) (o:Oper),all[k]? =some o→writer o.op=false→ms (k+1)=ms k:=fun k o ho hwr=>wet_keep hw hwet k o ho hwr
 have hisw:∀{k:Nat} {o:Oper},all[k]? =some o→((all[k]?).any (fun o=>writer o.op)=true↔writer o.op=true):=fun {k o} ho=>by rw[ho];simp
 -- the memory ahead of the first writer is the first one
 have hms0:∀k,k≤a→k≤all.length→ms k=m:=by
  intro k
  induction k with
  |zero=>intro _ _;exact hw.mfirst
  |succ k ih=>
   intro h1 h2
   have ho:all[k]? =some all[k] :=List.getElem?_eq_getElem h2
   rw[hkeep k _ ho (hwet.pre k _ (by omega) ho).1]
   exact ih (by omega) (by omega)
 -- a writer behind the first is a store
 have hstore:∀ (k:Nat) (o:Oper),a<k→all[k]? =some o→writer o.op=true→isStore o.op=true:=by
  intro k o h ho hwr
  have:=hwet.post k o h ho
  simp only[wetPost,Bool.or_eq_true,Bool.and_eq_true]at this
  rcases this with h1|h1|h1
  ·rw[pure_writer h1]at hwr;cases hwr
  ·exact h1
  ·rw[shape_writer h1.1]at hwr;cases hwr
 have notps:∀{o:Oper},writer o.op=true→¬(pureOp o.op=true∨shapeOp o.op=true):=fun {o} hwr h=>by
  rcases h with h|h
  ·rw[pure_writer h]at hwr;cases hwr
  ·rw[shape_writer h]at hwr;cases hwr
 -- whatever is no reader of nothing waits ahead of a store that is listed
 have hwait:∀ (j:Nat) (oj:Oper) (k:Nat) (ok:Oper),all[j]? =some oj→isStore oj.op=true→S j=true→k<j→all[k]? =some ok→¬(pureOp ok.op=true∨shapeOp ok.op=true)→S k=true:=by
  intro j oj k ok hj hs hSj hkj hk hn
  rcases hwet.pairs j oj hj hs k ok hkj hk with h|h|h
  ·exact absurd (.inl h) hn
  ·exact absurd (.inr h) hn
  ·exact bound_in hcl 3 oj k (fun e he hb=>hcl j oj hj hSj e he hb) h
 by_cases hwr:writer o.op=true
 · -- a writer: those ahead of it are listed, those behind it are not
   have hahead:∀k,k<i→(all[k]?).any (fun o=>writer o.op)=true→S k=true:=by
    intro k hk hkw
    have hkl:k<all.length:=by omega
    have ho:all[k]? =some all[k] :=List.getElem?_eq_getElem hkl
    have hkw':=(hisw ho).1 hkw
    have hia:a<i:=by
     rcases Nat.lt_or_ge k a with h|h
     ·rw[(hwet.pre k _ h ho).1]at hkw';cases hkw'
     ·omega
    rcases hwet.pairs i o hoi (hstore i o hia hoi hwr) k _ hk ho with h|h|h
    ·exact absurd (.inl h) (notps hkw')
    ·exact absurd (.inr h) (notps hkw')
    ·exact bound_in hcl 3 o k hready h
   have hbehind:∀k,i<k→k<all.length→(all[k]?).any (fun o=>writer o.op)=true→S k=false:=by
    intro k hk hkl hkw
    have ho:all[k]? =some all[k] :=List.getElem?_eq_getElem hkl
    have hkw':=(hisw ho).1 hkw
    have hai:a≤i:=by
     rcases Nat.lt_or_ge i a with h|h
     ·rw[(hwet.pre i _ h hoi).1]at hwr;cases hwr
     ·exact h
    rcases Bool.eq_false_or_eq_true (S k)with h|h
    ·have:=hwait k _ i o ho (hstore k _ (by omega) ho hkw') h hk hoi (notps hwr)
     rw[hSi]at this;cases this
    ·exact h
   have e1:curM all ms S all.length=ms i:=by
    rw[curM_past (i:=i) all.length (by omega) (fun k h1 h2 h3=>?_),curM_all hkeep i (by omega) hahead]
    by_cases hki:k=i
    ·rw[hki];exact hSi
    ·exact hbehind k (by omega) h2 h3
   have e2:curM all ms (fun k=>if k=i then true else S k) all.length=ms (i+1):=by
    rw[curM_past (i:=i+1) all.length (by omega) (fun k h1 h2 h3=>?_),curM_all hkeep (i+1) (by omega) (fun k h1 h2=>?_)]
    ·by_cases hki:k=i
     ·rw[if_pos hki]
     ·rw[if_neg hki];exact hahead k (by omega) h2
    ·rw[if_neg (by omega)];exact hbehind k (by omega) h2 h3
   rw[e1,e2]
   exact hw.step i o hoi
 · -- no writer: the memory stays
   have hwr':writer o.op=false:=by simpa using hwr
   have e2:curM all ms (fun k=>if k=i then true else S k) all.length=curM all ms S all.length:=by
    refine curM_congr _ fun k hk hkw=>?_
    by_cases hki:k=i
    ·subst hki;exact absurd ((hisw hoi).1 hkw) hwr
    ·simp[hki]
   rw[e2]
   rcases hw.step i o hoi with⟨hg,hsem⟩|⟨hg,hv,_⟩
   ·refine .inl ⟨hg,?_⟩
    have hx:=(hw.more i o hoi).more hg
    obtain⟨k,hkl,hkm,hk0⟩:=curM_some (all:=all) (ms:=ms) (S:=S) all.length (Nat.le_refl _)
    rw[hkm]
    by_cases hp:pureOp o.op=true
    ·exact hx.pure hp _
    -- how the memories look
    have fwd:∀k,k≤all.length→Shape m (ms k):=by
     intro k
     induction k with
     |zero=>intro _;rw[hw.mfirst];exact Shape.refl m
     |succ k ih=>
      intro hk
      have ho:all[k]? =some all[k] :=List.getElem?_eq_getElem hk
      refine(ih (by omega)).trans ?_
      by_cases hkw:writer all[k].op=true
      ·by_cases hka:k=a
       ·subst hka
        by_cases hst:isStore all[k].op=true
        ·exact((hw.more k _ ho).store hst).1
        ·have hal:isAlloc all[k].op=true:=by
          simp only[writer,Bool.or_eq_true]at hkw
          exact hkw.resolve_left hst
         refine((hw.more k _ ho).alloc hal ?_).shape
         rw[hms0 k (Nat.le_refl _) (by omega)];exact hfresh
       ·have hak:a<k:=by
         rcases Nat.lt_or_ge k a with h|h
         ·rw[(hwet.pre k _ h ho).1]at hkw;cases hkw
         ·omega
        exact((hw.more k _ ho).store (hstore k _ hak ho hkw)).1
      ·rw[hkeep k _ ho (by simpa using hkw)];exact Shape.refl _
    by_cases hs:shapeOp o.op=true
    ·refine hx.shape hs _ ?_
     by_cases hia:i≤a
     ·rw[hms0 i hia (by omega)];exact fwd k hkl
     · -- behind the first writer there is no allocation
       have hpo:=hwet.post i o (by omega) hoi
       simp only[wetPost,Bool.or_eq_true,Bool.and_eq_true]at hpo
       have hal:al=false:=by
        rcases hpo with h1|h1|h1
        ·exact absurd h1 hp
        ·rw[store_writer h1]at hwr';cases hwr'
        ·simpa using h1.2
       have bwd:∀k,k≤all.length→Shape (ms k) m:=by
        intro k
        induction k with
        |zero=>intro _;rw[hw.mfirst];exact Shape.refl m
        |succ k ih=>
         intro hk
         have ho:all[k]? =some all[k] :=List.getElem?_eq_getElem hk
         refine Shape.trans ?_ (ih (by omega))
         by_cases hkw:writer all[k].op=true
         ·have hst:isStore all[k].op=true:=by
           rcases Nat.lt_trichotomy k a with h|h|h
           ·rw[(hwet.pre k _ h ho).1]at hkw;cases hkw
           ·subst h
            have:=(hwet.head _ ho).2
            rw[hal]at this
            simp only[writer,Bool.or_eq_true,this]at hkw
            exact hkw.resolve_right (by simp)
           ·exact hstore k _ h ho hkw
          exact((hw.more k _ ho).store hst).2
         ·rw[hkeep k _ ho (by simpa using hkw)];exact Shape.refl _
       exact(bwd i (by omega)).trans (fwd k hkl)
    -- a reader: no store is listed
    have hia:i<a:=by
     rcases Nat.lt_trichotomy i a with h|h|h
     ·exact h
     ·subst h;rw[(hwet.head o hoi).1]at hwr';cases hwr'
     ·have hpo:=hwet.post i o h hoi
      simp only[wetPost,Bool.or_eq_true,Bool.and_eq_true]at hpo
      rcases hpo with h1|h1|h1
      ·exact absurd h1 hp
      ·rw[store_writer h1]at hwr';cases hwr'
      ·exact absurd h1.1 hs
    have hmi:=hms0 i (by omega) (by omega)
    have nostore:∀ (j:Nat) (oj:Oper),all[j]? =some oj→S j=true→isStore oj.op=true→False:=by
     intro j oj hj hSj hst
     have hij:i<j:=by
      rcases Nat.lt_or_ge j a with h|h
      ·have h1:=(hwet.pre j oj h hj).1
       rw[store_writer hst]at h1;cases h1
      ·omega
     have:=hwait j oj i o hj hst hSj hij hoi (fun h=>h.elim hp hs)
     rw[hSi]at this;cases this
    rcases hk0 with rfl|⟨j,oj,rfl,hSj,hj,hjw⟩
    ·rw[hw.mfirst,←hmi]
     have hst2:ms (i+1)=ms i:=hkeep i o hoi hwr'
     rw[hst2]at hsem
     exact hsem
    ·have hja:j=a:=by
      rcases Nat.lt_trichotomy j a with h|h|h
      ·rw[(hwet.pre j oj h hj).1]at hjw;cases hjw
      ·exact h
      ·exact(nostore j oj hj hSj (hstore j oj h hj hjw)).elim
     subst hja
     have hal:isAlloc oj.op=true:=by
      simp only[writer,Bool.or_eq_true]at hjw
      exact hjw.resolve_left fun h=>nostore j oj hj hSj h
     have halt:al=true:=by rw[←(hwet.head oj hj).2];exact hal
     have hpre:=(hwet.pre i o hia hoi).2
     simp only[wetPre,halt,Bool.and_eq_true,Bool.not_true,Bool.false_or,Bool.or_eq_true]at hpre
     have hup:upOp o.op=true:=by
      rcases hpre.2 with h|h|h
      ·exact absurd h hp
      ·exact absurd h hs
      ·exact h
     refine hx.up rfl hup _ ?_
     have hmj:=hms0 j (Nat.le_refl _) (by omega)
     rw[hmi,←hmj]
     refine(hw.more j oj hj).alloc hal ?_
     rw[hmj];exact hfresh
   ·exact .inr ⟨hg,hv,rfl⟩
end
section
variable {P:Program} {E:Env} {α:Type}
theorem data_agg(cs:List SV):(SV.agg cs).data=dataL cs:=by
 induction cs with
 |nil=>rfl
 |cons x xs ih=>
  show(match x.data with|true=>(SV.agg xs).data|false=>false)=(match x.data with|true=>dataL xs|false=>false)
  rw[ih]
theorem data_tuple(cs:List SV):(SV.tuple cs).data=dataL cs:=data_agg cs
theorem data_fn(f:Nat)(a c:List SV):(SV.fn f a c).data=match dataL a with|true=>dataL c|false=>false:=by
 rw[←data_agg a,←data_agg c];rfl
theorem dataL_cons(x:SV)(xs:List SV):dataL (x::xs)=match x.data with|true=>dataL xs|false=>false:=rfl
mutual
theorem Rep.data{R R':Nat→Prop}{ρ ρ':Rho}{n n':Nat}{w:World}(hR:∀b,R b→R' b):∀ (x:SV) (v:Value),x.data=true→Rep R ρ n w x v→Rep R' ρ' n' w x v
 |.undef,_,_,h=>h
 |.top,_,_,_=>trivial
 |.int _ _,_,_,h=>h
 |.bool _,_,_,h=>h
 |.str _,_,_,h=>h
 |.nilS,_,_,h=>h
 |.list t l,v,_,h=>RepD.mono (fun b hb=>⟨hR b hb,rfl⟩) (.list t) l [v] h
 |.row _,_,hd,_=>by cases hd
 |.arr _ _ _,_,hd,_=>by cases hd
 |.ptr _ _,_,hd,_=>by cases hd
 |.nilP,_,_,h=>h
 |.eptr t l i off,v,_,h=>by
  obtain⟨b,o,h1,h2,h3⟩:=h
  exact⟨b,o,h1,h2,h3.mono fun b hb=>⟨hR b hb,rfl⟩⟩
 |.rptr _ _ _ _,_,hd,_=>by cases hd
 |.agg cs,v,hd,h=>by
  obtain⟨vs,h1,h2⟩:=h
  exact⟨vs,h1,RepL.data hR cs vs (by rw[←data_agg];exact hd) h2⟩
 |.tuple cs,v,hd,h=>by
  obtain⟨vs,h1,h2⟩:=h
  exact⟨vs,h1,RepL.data hR cs vs (by rw[←data_tuple];exact hd) h2⟩
 |.fn f first cap,v,hd,h=>by
  obtain⟨vs,us,h1,h2,h3⟩:=h
  rw[data_fn]at hd
  cases h4:dataL first with
  |false=>rw[h4]at hd;cases hd
  |true=>
   rw[h4]at hd
   exact⟨vs,us,h1,RepL.data hR first vs h4 h2,RepL.data hR cap us hd h3⟩
 |.raw _,_,_,h=>h
 |.vsl _ _ _ _ _ _,_,hd,_=>by cases hd
 |.vptr _ _,_,hd,_=>by cases hd
 |.mp _,_,hd,_=>by cases hd
theorem RepL.data{R R':Nat→Prop}{ρ ρ':Rho}{n n':Nat}{w:World}(hR:∀b,R b→R' b):∀ (xs:List SV) (vs:List Value),dataL xs=true→RepL R ρ n w xs vs→RepL R' ρ' n' w xs vs
 |[],_,_,h=>h
 |x::xs,vs,hd,h=>by
  obtain⟨u,us,h1,h2,h3⟩:=h
  rw[dataL_cons]at hd
  cases h4:x.data with
  |false=>rw[h4]at hd;cases hd
  |true=>
   rw[h4]at hd
   exact⟨u,us,h1,Rep.data hR x u h4 h2,RepL.data hR xs us hd h3⟩
end
theorem make_go_holds:∀ (args:List SV) (i:Nat) (fr:Fr) (k:Fr→Tree α) (L:α→Prop),(List.rec (motive:=fun _=>Nat→Fr→(Fr→Tree α)→Tree α) (fun _ fr k=>k fr) (fun x _ ih i fr k=>frc x fun x=>fr.set i x fun fr=>ih (i+1) fr k) args i fr k).holds L→
  ∃fr',(k fr').holds L∧fr'.size=fr.size∧(args=[] ∨i+args.length≤fr.size)∧∀t,fr'.get t=if i≤t∧t<i+args.length then args.getD (t-i) .undef else fr.get t
 |[],i,fr,k,L,h=>⟨fr,h,rfl,.inl rfl,fun t=>by rw[if_neg (by simp)]⟩
 |x::args,i,fr,k,L,h=>by
  change (frc x fun x=>fr.set i x fun fr=>List.rec (motive:=fun _=>Nat→Fr→(Fr→Tree α)→Tree α) (fun _ fr k=>k fr) (fun x _ ih i fr k=>frc x fun x=>fr.set i x fun fr=>ih (i+1) fr k) args (i+1) fr k).holds L at h
  rw[frc_eq]at h
  obtain⟨fr1,h1,h2⟩:=Fr.set_holds h
  obtain⟨fr',h3,h4,h5,h6⟩:=make_go_holds args (i+1) fr1 k L h2
  have hlt:=h1.2.1 i rfl
  refine⟨fr',h3,h4.trans h1.1,.inr ?_,fun t=>?_⟩
  ·rcases h5 with rfl|h5
   ·exact hlt
   ·rw[h1.1]at h5;simp only[List.length_cons];omega
  ·rw[h6 t]
   simp only[List.length_cons]
   by_cases h7:i+1≤t∧t<i+1+args.length
   ·rw[if_pos h7,if_pos ⟨by omega,by omega⟩,show t-i=(t-(i+1))+1 by omega,List.getD_cons_succ]
   ·rw[if_neg h7,h1.2.2 t]
    by_cases h8:i=t
    ·subst h8
     rw[if_pos rfl,if_pos ⟨by omega,by omega⟩];simp
    ·have:¬(some i=some t):=fun e=>h8 (by injection e)
     rw[if_neg this,if_neg (by omega)]
theorem make_holds{size:Nat}{args:List SV}{k:Fr→Tree α}{L:α→Prop}(h:(Fr.make size args k).holds L):∃fr,(k fr).holds L∧fr.size=size∧(args=[] ∨args.length≤size)∧∀t,fr.get t=args.getD t .undef:=by
 obtain⟨fr,h1,h2,h3,h4⟩:=make_go_holds args 0 ⟨size,.e⟩ k L h
 refine⟨fr,h1,h2,h3.imp id (fun h=>by simpa using h),fun t=>?_⟩
 rw[h4 t]
 by_cases ht:t<args.length
 ·rw[if_pos ⟨Nat.zero_le _,by omega⟩];simp
 ·rw[if_neg (by omega)]
  have:args.getD t .undef=.undef:=by simp[List.getD,List.getElem?_eq_none (show args.length≤t by omega)]
  rw[this];rfl
theorem frame_rel{R:Nat→Prop}{ρ:Rho}{n:Nat}{w:World}{size:Nat}{args:List SV}{vs:List Value}{fr:Fr}(h1:fr.size=size)(h2:args=[] ∨args.length≤size)(h3:∀t,fr.get t=args.getD t .undef)(h:RepL R ρ n w args vs):
  FRel R ρ n w fr (vs.toArray++Array.replicate (size-vs.toArray.size) Go.undef):=by
 have hl:=h.length
 have hle:args.length≤size:=by
  rcases h2 with rfl|h2
  ·simp
  ·exact h2
 refine⟨by rw[h1];simp;omega,fun t=>?_⟩
 rw[h3 t]
 by_cases ht:t<args.length
 ·obtain⟨c,hc⟩:∃c,args[t]? =some c:=⟨_,List.getElem?_eq_getElem ht⟩
  obtain⟨v,hv,hr⟩:=h.get hc
  have e1:args.getD t .undef=c:=by simp[List.getD,hc]
  have e2:(vs.toArray++Array.replicate (size-vs.toArray.size) Go.undef).getD t Go.undef=v:=by
   rw[Array.getD_eq_getD_getElem?,Array.getElem?_append_left (by simp;omega)]
   simp[hv]
  rw[e1,e2];exact hr
 ·have e1:args.getD t .undef=.undef:=by simp[List.getD,List.getElem?_eq_none (show args.length≤t by omega)]
  have e2:(vs.toArray++Array.replicate (size-vs.toArray.size) Go.undef).getD t Go.undef=Go.undef:=by
   rw[Array.getD_eq_getD_getElem?,Array.getElem?_append_right (by simp;omega),Array.getElem?_replicate]
   split<;>rfl
  rw[e1,e2];rfl
def resVal(tmps:Array Value):ResultVar→Sem Value
 |.tmp t=>pure (tmps.getD t Go.undef)
 |.cell a t=>do loadVar t (←asAddr (tmps.getD a Go.undef))
theorem results_eq(fn:Func)(tmps:Array Value):Go.results fn tmps=(do
  let vs ←fn.results.mapM (resVal tmps)
  pure (if h:vs.size=1 then vs[0]else .tuple vs)):=by
 unfold Go.results
 congr 1
theorem resOf_holds(hE:EOK P E){m:Mem}{fr:Fr}{r:ResultVar}{k:SV→Tree α}{L:α→Prop}(h:(resOf E m fr r k).holds L):∃v,(k v).holds L∧∀⦃ds:List Deferred⦄ w0 R0 ρ w a,SRelD ds w0 R0 ρ w fr m a→
  ∃u,(resVal a.tmps r).run P w=.ok u w∧Rep (RO w0 R0 ρ w m) ρ m.next w v u:=by
 cases r with
 |tmp t=>
  change (frc (fr.get t) k).holds L at h
  rw[frc_eq]at h
  exact⟨_,h,fun ds w0 R0 ρ w a hs=>⟨_,rfl,hs.2.1.2 t⟩⟩
 |cell a' t=>
  change (opLoad E t (fr.get a') .auto m fun v _ _=>k v).holds L at h
  obtain⟨v,h1,h2⟩:=opLoad_sound hE h
  refine⟨v,h1,fun ds w0 R0 ρ w a hs=>?_⟩
  obtain⟨u,h3,h4⟩:=h2 m (Up.refl m) w0 R0 ρ w _ hs.1 (hs.2.1.2 a')
  refine⟨u,?_,h4⟩
  show((do loadVar t (←asAddr (a.tmps.getD a' Go.undef)):Sem Value)).run P w=_
  generalize a.tmps.getD a' Go.undef=av at h3 ⊢
  cases av<;>try(simp[Instr.loadAt,Instr.sureAddr]at h3;done)
  rename_i o
  cases o with
  |none=>simp[Instr.loadAt,Instr.sureAddr]at h3
  |some ad=>simpa[Instr.loadAt,Instr.sureAddr,asAddr]using h3
theorem resList_holds(hE:EOK P E){m:Mem}{fr:Fr}:∀ (rs:List ResultVar) (k:List SV→Tree α) (L:α→Prop),(resList E m fr rs k).holds L→∃vs,(k vs).holds L∧vs.length=rs.length∧∀⦃ds:List Deferred⦄ w0 R0 ρ w a,SRelD ds w0 R0 ρ w fr m a→
  ∃us,(rs.mapM (resVal a.tmps)).run P w=.ok us w∧RepL (RO w0 R0 ρ w m) ρ m.next w vs us
 |[],k,L,h=>⟨[],h,rfl,fun ds w0 R0 ρ w a hs=>⟨[],rfl,rfl⟩⟩
 |r::rs,k,L,h=>by
  change (resOf E m fr r fun v=>resList E m fr rs fun vs=>k (v::vs)).holds L at h
  obtain⟨v,h1,h2⟩:=resOf_holds hE h
  obtain⟨vs,h3,h4,h5⟩:=resList_holds hE rs _ L h1
  refine⟨v::vs,h3,by simp[h4],fun ds w0 R0 ρ w a hs=>?_⟩
  obtain⟨u,h6,h7⟩:=h2 w0 R0 ρ w a hs
  obtain⟨us,h8,h9⟩:=h5 w0 R0 ρ w a hs
  refine⟨u::us,?_,u,us,rfl,h7,h9⟩
  rw[List.mapM_cons]
  simp only[Sem.run_bind,h6,h8,Result.andThen_ok,Sem.run_pure]
theorem results_holds(hE:EOK P E){fn:Func}{m:Mem}{fr:Fr}{k:SV→Tree α}{L:α→Prop}(h:(results E fn m fr k).holds L):∃v,(k v).holds L∧∀⦃ds:List Deferred⦄ w0 R0 ρ w a,SRelD ds w0 R0 ρ w fr m a→∃u,(Go.results fn a.tmps).run P w=.ok u w∧Rep (RO w0 R0 ρ w m) ρ m.next w v u:=by
 obtain⟨vs,h1,h2,h3⟩:=resList_holds hE fn.results.toList _ L h
 have run:∀ (a:Act) (w:World) (us:List Value),(fn.results.toList.mapM (resVal a.tmps)).run P w=.ok us w→(Go.results fn a.tmps).run P w=.ok (if h:us.toArray.size=1 then us.toArray[0]else .tuple us.toArray) w:=by
  intro a w us hu
  rw[results_eq,Array.mapM_eq_mapM_toList]
  simp only[Sem.run_bind,Sem.run_map,hu]
  rfl
 split at h1
 ·rename_i v
  refine⟨v,h1,fun ds w0 R0 ρ w a hs=>?_⟩
  obtain⟨us,h4,u,us',rfl,h5,h6⟩:=h3 w0 R0 ρ w a hs
  rw[show us'=[]from h6]at h4
  exact⟨u,by rw[run a w _ h4];rfl,h5⟩
 ·rename_i hne
  refine⟨_,h1,fun ds w0 R0 ρ w a hs=>?_⟩
  obtain⟨us,h4,h5⟩:=h3 w0 R0 ρ w a hs
  have hl:=h5.length
  refine⟨.tuple us.toArray,?_,us,rfl,h5⟩
  rw[run a w _ h4,dif_neg]
  intro h6
  have:vs.length=1:=by simp at h6;omega
  obtain⟨v,hv⟩:=List.length_eq_one_iff.1 this
  exact hne v hv
def Tree.says{β:Type}(Φ:β→Prop):Tree β→Prop
 |.leaf a=>Φ a
 |.node b t f=>(b=true→t.says Φ)∧(b=false→f.says Φ)
 |.req b t=>b=true→t.says Φ
 |.fail _=>True
theorem bindT_holds{Φ:SV→Prop}{m:Mem}{κ:Kont α}{L:α→Prop}:∀ (t:Tree SV) (p:Plan),(bindT m κ t p).holds L→t.says Φ→∃v p',(κ v p' m).holds L∧Φ v
 |.leaf v,p,h,hs=>⟨v,p,h,hs⟩
 |.node b t f,p,h,hs=>by
  obtain⟨p',h⟩:=dec_holds (k:=fun b p=>match b with
   |true=>bindT m κ t p
   |false=>bindT m κ f p) h
  cases b with
  |true=>exact bindT_holds t p' h (hs.1 rfl)
  |false=>exact bindT_holds f p' h (hs.2 rfl)
 |.req b t,p,h,hs=>bindT_holds t p h.2 (hs h.1)
 |.fail _,_,h,_=>h.elim
def SCall(P:Program)(f:FuncId)(args:List SV)(v:SV):Prop:=∀m,SemCall P m v m f args
def WCall(P:Program)(f:FuncId)(args:List SV)(m:Mem)(x:SV×Mem):Prop:=SemCall P m x.1 x.2 f args
def BCall(P:Program)(f:FuncId)(args:List SV)(B:Box)(x:Bool×SV×Box):Prop:=
 ∀m m' id,m.get id=some B→MSet m id (some x.2.2) m'→XCall P f (.ptr id 0::args) m (match x.1 with|true=>.pan x.2.1 m'|false=>.ok x.2.1 m')
def OwnCall(P:Program)(f:FuncId)(args:List SV)(x:SV×Mem):Prop:=
 ∀m v' m',(adopt x.1 x.2 m fun v m=>Tree.leaf (v,m)).holds (fun y=>y=(v',m'))→SemCall P m v' m' f args
def SumOK(P:Program)(E:Env):Prop:=(∀f s args t,E.sum f=some s→s args=some t→t.says (SCall P f args))∧(∀f s args m t,E.wr f=some s→s args m=some t→t.says (WCall P f args m))∧(∀f s args m t,E.pn f=some s→s args m=some t→t.says (XCall P f args m))∧(∀f s args B t,E.bx f=some s→s args B=some t→t.says (BCall P f args B))∧∀f s args t,E.ow f=some s→s args=some t→t.says (OwnCall P f args)
theorem bindM_holds{Φ:SV×Mem→Prop}{κ:Kont α}{L:α→Prop}:∀ (t:Tree (SV×Mem)) (p:Plan),(bindM κ t p).holds L→t.says Φ→∃x p',(κ x.1 p' x.2).holds L∧Φ x
 |.leaf x,p,h,hs=>⟨x,p,h,hs⟩
 |.node b t f,p,h,hs=>by
  unfold bindM at h
  obtain⟨p',h⟩:=dec_holds h
  cases b with
  |true=>exact bindM_holds t p' h (hs.1 rfl)
  |false=>exact bindM_holds f p' h (hs.2 rfl)
 |.req b t,p,h,hs=>bindM_holds t p h.2 (hs h.1)
 |.fail _,_,h,_=>h.elim
theorem bindB_holds{Φ:Bool×SV×Box→Prop}{κ:SV→Plan→Box→Tree α}{L:α→Prop}:∀ (t:Tree (Bool×SV×Box)) (p:Plan),(bindB κ t p).holds L→t.says Φ→∃v B p',(κ v p' B).holds L∧Φ (false,v,B)
 |.leaf (false,v,B),p,h,hs=>⟨v,B,p,h,hs⟩
 |.leaf (true,v,B),p,h,hs=>h.elim
 |.node b t f,p,h,hs=>by
  unfold bindB at h
  obtain⟨p',h⟩:=dec_holds h
  cases b with
  |true=>exact bindB_holds t p' h (hs.1 rfl)
  |false=>exact bindB_holds f p' h (hs.2 rfl)
 |.req b t,p,h,hs=>bindB_holds t p h.2 (hs h.1)
 |.fail _,_,h,_=>h.elim
theorem bindO_holds{Φ:SV×Mem→Prop}{m:Mem}{κ:Kont α}{L:α→Prop}:∀ (t:Tree (SV×Mem)) (p:Plan),(bindO m κ t p).holds L→t.says Φ→∃x p',(adopt x.1 x.2 m fun v m=>κ v p' m).holds L∧Φ x
 |.leaf x,p,h,hs=>⟨x,p,h,hs⟩
 |.node b t f,p,h,hs=>by
  unfold bindO at h
  obtain⟨p',h⟩:=dec_holds h
  cases b with
  |true=>exact bindO_holds t p' h (hs.1 rfl)
  |false=>exact bindO_holds f p' h (hs.2 rfl)
 |.req b t,p,h,hs=>bindO_holds t p h.2 (hs h.1)
 |.fail _,_,h,_=>h.elim
theorem bindX_holds{Φ:Ex→Prop}{κ:Kont α}{esc:SV→Mem→Tree α}{L:α→Prop}:∀ (t:Tree Ex) (p:Plan),(bindX κ esc t p).holds L→t.says Φ→(∃v m p',(κ v p' m).holds L∧Φ (.ok v m))∨∃v m,(esc v m).holds L∧Φ (.pan v m)
 |.leaf (.ok v m),p,h,hs=>.inl ⟨v,m,p,h,hs⟩
 |.leaf (.pan v m),p,h,hs=>.inr ⟨v,m,h,hs⟩
 |.node b t f,p,h,hs=>by
  unfold bindX at h
  obtain⟨p',h⟩:=dec_holds h
  cases b with
  |true=>exact bindX_holds t p' h (hs.1 rfl)
  |false=>exact bindX_holds f p' h (hs.2 rfl)
 |.req b t,p,h,hs=>bindX_holds t p h.2 (hs h.1)
 |.fail _,_,h,_=>h.elim
abbrev RR(w0:World)(R0:RSet)(ρ0:Rho)(w:World)(m0:Mem)(ρc:Rho)(mc0:Mem)(w':World)(b:Nat):Prop:=
 RO w0 R0 ρ0 w m0 b∨RO w (RS w0 R0 ρ0 w m0) ρc w' mc0 b
structure Hand (w0:World) (R0:RSet) (ρ0:Rho) (w:World) (m0:Mem) (ρc:Rho) (mc0:Mem) (w':World) (ρ:Rho) (m mc:Mem):Prop where
 le:m0.next≤m.next
 same:∀id,id<m0.next→ρ id=ρ0 id
 lt:∀id B,m.get id=some B→id<m.next
 lo:∀id B,m.get id=some B→solid (ρ id) B→w0.heap.size≤(ρ id).1
 hi:∀id B,m.get id=some B→solid (ρ id) B→(ρ id).1<w'.heap.size
 nh:∀id B,m.get id=some B→solid (ρ id) B→¬R0 (ρ id).1
 inj:∀id id' B B',m.get id=some B→m.get id'=some B'→solid (ρ id) B→solid (ρ id') B'→(ρ id).1=(ρ id').1→id=id'
 box:∀id B,m.get id=some B→BoxRel (RR w0 R0 ρ0 w m0 ρc mc0 w') ρ m.next w' (ρ id) B
 sub:∀k B,mc.get k=some B→mc0.get k=some B
 apart:∀k B,mc.get k=some B→solid (ρc k) B→∀id C,m.get id=some C→solid (ρ id) C→(ρ id).1≠(ρc k).1
 ro:∀b,RR w0 R0 ρ0 w m0 ρc mc0 w' b→RO w0 R0 ρ w' m b
theorem Hand.start{w0:World}{R0:RSet}{ρ0:Rho}{w:World}{m0:Mem}{ρc:Rho}{mc0:Mem}{w':World}(hm:MRel w0 R0 ρ0 w m0)(hc:MRel w (RS w0 R0 ρ0 w m0) ρc w' mc0):Hand w0 R0 ρ0 w m0 ρc mc0 w' ρ0 m0 mc0:=by
 have hsz:=hc.below.size
 have hkeep:∀b,RO w0 R0 ρ0 w m0 b→RO w0 R0 ρ0 w' m0 b:=fun b hb=>by
  rcases hb with hb|⟨h1,h2,h3⟩
  ·exact .inl hb
  ·exact .inr ⟨h1,by omega,h3⟩
 have e:Ext (RO w0 R0 ρ0 w m0) ρ0 m0.next w (RR w0 R0 ρ0 w m0 ρc mc0 w') ρ0 m0.next w':=⟨Nat.le_refl _,fun _ _=>rfl,fun b hb=>⟨.inl hb,hc.below.block b (hm.ro_lt hb)⟩⟩
 refine⟨Nat.le_refl _,fun _ _=>rfl,hm.lt,hm.lo,fun id B h1 h2=>?_,hm.hid.2,hm.inj,fun id B h1=>BoxRel.mono e B (fun hs=>hc.below.block _ (hm.hi id B h1 hs)) (hm.box id B h1),fun _ _ h=>h,fun k B h1 h2 id C h3 h4=>?_,fun b hb=>?_⟩
 ·have:=hm.hi id B h1 h2;omega
 ·have:=hm.hi id C h3 h4;have:=hc.lo k B h1 h2;omega
 ·rcases hb with hb|⟨hb,_⟩|⟨h1,h2,_⟩
  ·exact hkeep b hb
  ·exact hkeep b hb
  ·have:=hm.size_le
   exact .inr ⟨by omega,h2,fun id C h3 h4=>by have:=hm.hi id C h3 h4;omega,fun hr=>by have:=(hm.hid.1 b hr).1;omega⟩
theorem Hand.finish{w0:World}{R0:RSet}{ρ0:Rho}{w:World}{m0:Mem}{ρc:Rho}{mc0:Mem}{w':World}{ρ:Rho}{m mc:Mem}(hm:MRel w0 R0 ρ0 w m0)(hc:MRel w (RS w0 R0 ρ0 w m0) ρc w' mc0)(h:Hand w0 R0 ρ0 w m0 ρc mc0 w' ρ m mc):
  MRel w0 R0 ρ w' m∧MExt w0 R0 ρ0 w m0 ρ w' m:=by
 have e:Ext (RR w0 R0 ρ0 w m0 ρc mc0 w') ρ m.next w' (RO w0 R0 ρ w' m) ρ m.next w':=⟨Nat.le_refl _,fun _ _=>rfl,fun b hb=>⟨h.ro b hb,rfl⟩⟩
 refine⟨⟨hm.below.trans (hc.below.mono hm.size_le),h.lt,h.lo,h.hi,h.inj,fun id B h1=>BoxRel.mono e B (fun _=>rfl) (h.box id B h1),fun b hb=>⟨Nat.lt_of_lt_of_le (hm.hid.1 b hb).1 hc.below.size,(hc.below.block b (hm.hid.1 b hb).1).trans (hm.hid.1 b hb).2⟩,h.nh⟩,h.le,h.same,fun b hb=>⟨h.ro b (.inl hb),hc.below.block b (hm.ro_lt hb)⟩⟩
theorem adopt1_holds{v:SV}{mc m:Mem}{k:SV→Mem→Mem→Tree α}{L:α→Prop}(h:(adopt1 v mc m k).holds L):∃v' mc' m',(k v' mc' m').holds L∧∀w0 R0 ρ0 w m0 ρc mc0 w' ρ (u:Value),MRel w0 R0 ρ0 w m0→MRel w (RS w0 R0 ρ0 w m0) ρc w' mc0→Hand w0 R0 ρ0 w m0 ρc mc0 w' ρ m mc→Rep (RO w (RS w0 R0 ρ0 w m0) ρc w' mc0) ρc mc0.next w' v u→
  ∃ρ',Hand w0 R0 ρ0 w m0 ρc mc0 w' ρ' m' mc'∧Ext (RR w0 R0 ρ0 w m0 ρc mc0 w') ρ m.next w' (RR w0 R0 ρ0 w m0 ρc mc0 w') ρ' m'.next w'∧Rep (RR w0 R0 ρ0 w m0 ρc mc0 w') ρ' m'.next w' v' u:=by
 have plain:∀v:SV,v.data=true→(k v mc m).holds L→∃v' mc' m',(k v' mc' m').holds L∧∀w0 R0 ρ0 w m0 ρc mc0 w' ρ (u:Value),MRel w0 R0 ρ0 w m0→MRel w (RS w0 R0 ρ0 w m0) ρc w' mc0→Hand w0 R0 ρ0 w m0 ρc mc0 w' ρ m mc→Rep (RO w (RS w0 R0 ρ0 w m0) ρc w' mc0) ρc mc0.next w' v u→
   ∃ρ',Hand w0 R0 ρ0 w m0 ρc mc0 w' ρ' m' mc'∧Ext (RR w0 R0 ρ0 w m0 ρc mc0 w') ρ m.next w' (RR w0 R0 ρ0 w m0 ρc mc0 w') ρ' m'.next w'∧Rep (RR w0 R0 ρ0 w m0 ρc mc0 w') ρ' m'.next w' v' u:=
  fun v hd h=>⟨v,mc,m,h,fun w0 R0 ρ0 w m0 ρc mc0 w' ρ u hm hc hh hr=>⟨ρ,hh,Ext.refl _ _ _ _,Rep.data (fun b hb=>.inr hb) v u hd hr⟩⟩
 cases v with
 |row id=>
  dsimp only[adopt1]at h
  split at h
  ·rename_i t l hg
   obtain⟨mc',h1,h2⟩:=Mem.set_holds h
   obtain⟨m',h3,h4⟩:=Mem.push_holds h2
   refine⟨_,mc',m',h4,fun w0 R0 ρ0 w m0 ρc mc0 w' ρ u hm hc hh hr=>?_⟩
   have hg0:=hh.sub id _ hg
   have hmc':∀j B,mc'.get j=some B→j≠id∧mc.get j=some B:=fun j B hj=>by
    rw[h1.1 j]at hj
    by_cases e:j=id
    ·rw[if_pos e]at hj;cases hj
    ·rw[if_neg e]at hj;exact⟨e,hj⟩
   have hm':∀j B,m'.get j=some B→(j=m.next∧B=.rows t l)∨(j≠m.next∧m.get j=some B):=fun j B hj=>by
    rw[h3.1 j]at hj
    by_cases e:j=m.next
    ·rw[if_pos e]at hj;injection hj with hj;exact .inl ⟨e,hj.symm⟩
    ·rw[if_neg e]at hj;exact .inr ⟨e,hj⟩
   have hle:=hh.le
   have hwsz:=hm.size_le
   have e:Ext (RR w0 R0 ρ0 w m0 ρc mc0 w') ρ m.next w' (RR w0 R0 ρ0 w m0 ρc mc0 w') (upd ρ m.next (ρc id)) m'.next w':=⟨by rw[h3.2];omega,fun j hj=>upd_other _ _ (by omega),fun b hb=>⟨hb,rfl⟩⟩
   refine⟨upd ρ m.next (ρc id),⟨by rw[h3.2];omega,fun j hj=>by rw[upd_other _ _ (by omega)];exact hh.same j hj,fun j B hj=>?_,fun j B hj hs=>?_,fun j B hj hs=>?_,fun j B hj hs=>?_,fun j j' B B' hj hj' hs hs' he=>?_,fun j B hj=>?_,fun j B hj=>hh.sub j B (hmc' j B hj).2,fun j B hj hs id' C hid' hs'=>?_,fun b hb=>?_⟩,e,?_⟩
   ·rw[h3.2]
    rcases hm' j B hj with⟨rfl,_⟩|⟨_,n2⟩
    ·omega
    ·have:=hh.lt j B n2;omega
   ·rcases hm' j B hj with⟨rfl,rfl⟩|⟨n1,n2⟩
    ·rw[upd_same]at hs ⊢;have:=hc.lo id _ hg0 hs;omega
    ·rw[upd_other _ _ n1]at hs ⊢;exact hh.lo j B n2 hs
   ·rcases hm' j B hj with⟨rfl,rfl⟩|⟨n1,n2⟩
    ·rw[upd_same]at hs ⊢;exact hc.hi id _ hg0 hs
    ·rw[upd_other _ _ n1]at hs ⊢;exact hh.hi j B n2 hs
   ·rcases hm' j B hj with⟨rfl,rfl⟩|⟨n1,n2⟩
    ·rw[upd_same]at hs ⊢;exact fun hr=>by have:=(hm.hid.1 _ hr).1;have:=hc.lo id _ hg0 hs;omega
    ·rw[upd_other _ _ n1]at hs ⊢;exact hh.nh j B n2 hs
   ·rcases hm' j B hj with⟨rfl,rfl⟩|⟨n1,n2⟩<;>rcases hm' j' B' hj' with⟨rfl,rfl⟩|⟨n1',n2'⟩
    ·rfl
    ·rw[upd_same]at hs he;rw[upd_other _ _ n1']at hs' he
     exact absurd he.symm (hh.apart id _ hg hs j' B' n2' hs')
    ·rw[upd_same]at hs' he;rw[upd_other _ _ n1]at hs he
     exact absurd he (hh.apart id _ hg hs' j B n2 hs)
    ·rw[upd_other _ _ n1]at hs he;rw[upd_other _ _ n1']at hs' he
     exact hh.inj j j' B B' n2 n2' hs hs' he
   ·rcases hm' j B hj with⟨rfl,rfl⟩|⟨n1,n2⟩
    ·rw[upd_same]
     obtain⟨b1,b2,b3⟩:=hc.box id _ hg0
     refine⟨b1,b2,fun hp=>?_⟩
     obtain⟨arr,el,fr,q1,q2,q3,q4⟩:=b3 hp
     refine⟨arr,el,fr,q1,q2,q3,fun i hi=>?_⟩
     obtain⟨cs,c1,c2,c3⟩:=q4 i hi
     exact⟨cs,c1,c2,RepD.mono (fun b hb=>⟨.inr hb,rfl⟩) _ _ _ c3⟩
    ·rw[upd_other _ _ n1]
     exact BoxRel.mono e B (fun _=>rfl) (hh.box j B n2)
   ·obtain⟨n1,n2⟩:=hmc' j B hj
    rcases hm' id' C hid' with⟨rfl,rfl⟩|⟨k1,k2⟩
    ·rw[upd_same]at hs' ⊢
     exact fun he=>n1 (hc.inj id j _ B hg0 (hh.sub j B n2) hs' hs he).symm
    ·rw[upd_other _ _ k1]at hs' ⊢
     exact hh.apart j B n2 hs id' C k2 hs'
   ·have hne:solid (ρc id) (.rows t l)→(ρc id).1≠b:=fun hs=>by
     rcases hb with hb|hb
     ·have:=hm.ro_lt hb;have:=hc.lo id _ hg0 hs;omega
     ·exact hc.ro_ne hb hg0 hs
    rcases hh.ro b hb with hb|⟨g1,g2,g3,g4⟩
    ·exact .inl hb
    ·refine .inr ⟨g1,g2,fun j B hj hs=>?_,g4⟩
     rcases hm' j B hj with⟨rfl,rfl⟩|⟨n1,n2⟩
     ·rw[upd_same]at hs ⊢;exact hne hs
     ·rw[upd_other _ _ n1]at hs ⊢;exact g3 j B n2 hs
   ·obtain⟨_,a,hu,ha⟩:=hr
    exact⟨by rw[h3.2];omega,a,by rw[upd_same];exact hu,by rw[upd_same];exact ha⟩
  ·exact h.elim
 |undef=>exact plain _ rfl h
 |top=>exact h.elim
 |int a b=>exact plain _ rfl h
 |bool a=>exact plain _ rfl h
 |str a=>exact plain _ rfl h
 |nilS=>exact plain _ rfl h
 |list a b=>exact plain _ rfl h
 |arr a b c=>exact h.elim
 |ptr a b=>exact h.elim
 |nilP=>exact plain _ rfl h
 |eptr a b c d=>exact plain _ rfl h
 |rptr a b c d=>exact h.elim
 |agg cs=>
  dsimp only[adopt1]at h
  split at h
  ·rename_i hd;exact plain _ hd h
  ·exact h.elim
 |tuple cs=>
  dsimp only[adopt1]at h
  split at h
  ·rename_i hd;exact plain _ hd h
  ·exact h.elim
 |fn f a c=>
  dsimp only[adopt1]at h
  split at h
  ·rename_i hd;exact plain _ hd h
  ·exact h.elim
 |raw u=>exact plain _ rfl h
 |vsl=>exact h.elim
 |vptr=>exact h.elim
 |mp=>exact h.elim
theorem adoptL_holds:∀ (vs:List SV) (mc m:Mem) (k:List SV→Mem→Mem→Tree α) (L:α→Prop),(adoptL vs mc m k).holds L→∃vs' mc' m',(k vs' mc' m').holds L∧∀w0 R0 ρ0 w m0 ρc mc0 w' ρ (us:List Value),MRel w0 R0 ρ0 w m0→MRel w (RS w0 R0 ρ0 w m0) ρc w' mc0→Hand w0 R0 ρ0 w m0 ρc mc0 w' ρ m mc→RepL (RO w (RS w0 R0 ρ0 w m0) ρc w' mc0) ρc mc0.next w' vs us→
  ∃ρ',Hand w0 R0 ρ0 w m0 ρc mc0 w' ρ' m' mc'∧Ext (RR w0 R0 ρ0 w m0 ρc mc0 w') ρ m.next w' (RR w0 R0 ρ0 w m0 ρc mc0 w') ρ' m'.next w'∧RepL (RR w0 R0 ρ0 w m0 ρc mc0 w') ρ' m'.next w' vs' us
 |[],mc,m,k,L,h=>⟨[],mc,m,h,fun w0 R0 ρ0 w m0 ρc mc0 w' ρ us hm hc hh hr=>⟨ρ,hh,Ext.refl _ _ _ _,hr⟩⟩
 |v::vs,mc,m,k,L,h=>by
  change (adopt1 v mc m fun v mc m=>adoptL vs mc m fun vs mc m=>k (v::vs) mc m).holds L at h
  obtain⟨v',mc1,m1,h1,h2⟩:=adopt1_holds h
  obtain⟨vs',mc',m',h3,h4⟩:=adoptL_holds vs mc1 m1 _ L h1
  refine⟨v'::vs',mc',m',h3,fun w0 R0 ρ0 w m0 ρc mc0 w' ρ us hm hc hh hr=>?_⟩
  obtain⟨u,us',rfl,r1,r2⟩:=hr
  obtain⟨ρ1,g1,g2,g3⟩:=h2 w0 R0 ρ0 w m0 ρc mc0 w' ρ u hm hc hh r1
  obtain⟨ρ',g4,g5,g6⟩:=h4 w0 R0 ρ0 w m0 ρc mc0 w' ρ1 us' hm hc g1 r2
  exact⟨ρ',g4,g2.trans g5,u,us',rfl,Rep.mono g5 _ _ g3,g6⟩
theorem adopt_holds{v:SV}{mc m:Mem}{k:SV→Mem→Tree α}{L:α→Prop}(h:(adopt v mc m k).holds L):∃v' m',(k v' m').holds L∧∀w0 R0 ρ w ρc w' (u:Value),MRel w0 R0 ρ w m→MRel w (RS w0 R0 ρ w m) ρc w' mc→Rep (RO w (RS w0 R0 ρ w m) ρc w' mc) ρc mc.next w' v u→OpOut w0 R0 ρ w m v' m' u w':=by
 have one:∀v:SV,(adopt1 v mc m fun v _ m=>k v m).holds L→∃v' m',(k v' m').holds L∧∀w0 R0 ρ w ρc w' (u:Value),MRel w0 R0 ρ w m→MRel w (RS w0 R0 ρ w m) ρc w' mc→Rep (RO w (RS w0 R0 ρ w m) ρc w' mc) ρc mc.next w' v u→OpOut w0 R0 ρ w m v' m' u w':=by
  intro v h
  obtain⟨v',mc',m',h1,h2⟩:=adopt1_holds h
  refine⟨v',m',h1,fun w0 R0 ρ w ρc w' u hm hc hr=>?_⟩
  obtain⟨ρ',g1,g2,g3⟩:=h2 w0 R0 ρ w m ρc mc w' ρ u hm hc (Hand.start hm hc) hr
  obtain⟨g4,g5⟩:=g1.finish hm hc
  exact⟨ρ',g4,g5,Rep.mono ⟨Nat.le_refl _,fun _ _=>rfl,fun b hb=>⟨g1.ro b hb,rfl⟩⟩ _ _ g3⟩
 have many:∀ (vs:List SV) (mk:List SV→SV) (mkv:List Value→Value),(∀ (R:Nat→Prop) (ρ:Rho) (n:Nat) (w:World) cs u,Rep R ρ n w (mk cs) u↔∃us,u=mkv us∧RepL R ρ n w cs us)→(adoptL vs mc m fun vs _ m=>k (mk vs) m).holds L→∃v' m',(k v' m').holds L∧∀w0 R0 ρ w ρc w' (u:Value),MRel w0 R0 ρ w m→MRel w (RS w0 R0 ρ w m) ρc w' mc→Rep (RO w (RS w0 R0 ρ w m) ρc w' mc) ρc mc.next w' (mk vs) u→OpOut w0 R0 ρ w m v' m' u w':=by
  intro vs mk mkv hmk h
  obtain⟨vs',mc',m',h1,h2⟩:=adoptL_holds vs mc m _ L h
  refine⟨_,m',h1,fun w0 R0 ρ w ρc w' u hm hc hr=>?_⟩
  obtain⟨us,rfl,hr'⟩:=(hmk _ _ _ _ _ _).1 hr
  obtain⟨ρ',g1,g2,g3⟩:=h2 w0 R0 ρ w m ρc mc w' ρ us hm hc (Hand.start hm hc) hr'
  obtain⟨g4,g5⟩:=g1.finish hm hc
  exact⟨ρ',g4,g5,(hmk _ _ _ _ _ _).2 ⟨us,rfl,RepL.mono ⟨Nat.le_refl _,fun _ _=>rfl,fun b hb=>⟨g1.ro b hb,rfl⟩⟩ _ _ g3⟩⟩
 cases v with
 |tuple vs=>exact many vs .tuple (fun us=>.tuple ⟨us⟩) (fun _ _ _ _ _ _=>Iff.rfl) h
 |agg vs=>exact many vs .agg (fun us=>.agg ⟨us⟩) (fun _ _ _ _ _ _=>Iff.rfl) h
 |_=>exact one _ h
theorem own_mem{w0:World}{R0:RSet}{ρ:Rho}{w:World}{m:Mem}(hm:MRel w0 R0 ρ w m)(ρc:Rho):MRel w (RS w0 R0 ρ w m) ρc w ⟨0,.e⟩∧∀b,RO w0 R0 ρ w m b→RO w (RS w0 R0 ρ w m) ρc w ⟨0,.e⟩ b:=
 ⟨⟨⟨Below.refl _ _,hm.gnd⟩,fun id B h=>(by cases h),fun id B h=>(by cases h),fun id B h=>(by cases h),fun id id' B B' h=>(by cases h),fun id B h=>(by cases h),fun b hb=>⟨hm.ro_lt hb,rfl⟩,fun id B h=>(by cases h)⟩,fun b hb=>.inl ⟨hb,hm.ro_lt hb⟩⟩
end
theorem MRel.bare{w0:World}{R0:RSet}{ρ:Rho}{w:World}{m:Mem}(h:MRel w0 R0 ρ w m):MRel w0 R0 ρ w ⟨0,.e⟩∧∀b,RO w0 R0 ρ w m b→RO w0 R0 ρ w ⟨0,.e⟩ b:=
 ⟨⟨h.below,fun id B h=>(by cases h),fun id B h=>(by cases h),fun id B h=>(by cases h),fun id id' B B' h=>(by cases h),fun id B h=>(by cases h),h.hid.1,fun id B h=>(by cases h)⟩,fun b hb=>by
   rcases hb with hb|⟨k1,k2,_,k4⟩
   ·exact .inl hb
   ·exact .inr ⟨k1,k2,(fun id B hB=>by cases hB),k4⟩⟩
theorem arr_rep{w0:World}{R0:RSet}{ρ:Rho}{w:World}{m:Mem}(h:MRel w0 R0 ρ w m){id off n:Nat}{cs:List SV}(hg:m.get id=some (.cells cs)){u:Ty}{l:List u.T}(hl:unflatN u n ((cs.drop off).take (n*u.sz))=some l){v:Value}
  (hu:v=.slice (some ⟨(ρ id).1,off,none⟩) n n):Rep (RO w0 R0 ρ w ⟨0,.e⟩) ρ 0 w (.list u l) v:=by
 have hro:=h.bare.2
 obtain⟨arr,e,fr,k1,k2,k3⟩:=h.box id _ hg
 obtain⟨hd1,hlen⟩:=unflatN_repDL hl ((k3.drop off).take (n*u.sz))
 refine⟨some ⟨(ρ id).1,off,none⟩,n,by rw[hu,hlen],by omega,fun h0=>⟨(ρ id).1,off,rfl,.inr ⟨h.lo id _ hg trivial,h.hi id _ hg trivial,(fun id B hB=>by cases hB),h.hid.2 id _ hg trivial⟩,fun i hi=>?_⟩⟩
 obtain⟨ds,d1,d2,d3⟩:=hd1.elems i hi
 refine⟨ds,d1,fun j hj=>?_,RepD.mono (fun b hb=>⟨hro b hb,rfl⟩) _ _ _ d3⟩
 rw[cell_of_row w _ _ arr e fr k1,←d2 j hj]
 have hb:i*u.sz+j<n*u.sz:=by
  have:(i+1)*u.sz≤n*u.sz:=Nat.mul_le_mul_right _ (by omega)
  rw[Nat.succ_mul]at this;omega
 dsimp only
 rw[List.getElem?_take,if_pos hb,List.getElem?_drop]
 simp
theorem give1_rep{hint:Ty}{w0:World}{R0:RSet}{ρ:Rho}{w:World}{m:Mem}(h:MRel w0 R0 ρ w m){v:SV}{u:Value}(hv:Rep (RO w0 R0 ρ w m) ρ m.next w v u)(hd:(give1 hint m v).data=true):Rep (RO w0 R0 ρ w ⟨0,.e⟩) ρ 0 w (give1 hint m v) u:=by
 have hro:=h.bare.2
 unfold give1 at hd ⊢
 split at hd
 ·split at hd
  ·exact Rep.data hro _ _ hd hv
  ·exact⟨none,0,by rw[show u=_ from hv];rfl,Nat.le_refl _,fun h=>absurd h (Nat.lt_irrefl _)⟩
 ·rename_i id
  split at hd
  ·rename_i t l hg
   obtain⟨_,a,hu,ha⟩:=hv
   obtain⟨b1,b2,hp⟩:=h.box id _ hg
   refine⟨a,(ρ id).2.2,by rw[hu,b1],b2,fun h0=>?_⟩
   have h0:0< (ρ id).2.2:=Nat.lt_of_lt_of_le h0 b2
   obtain⟨arr,e,fr,k1,k2,k3,k4⟩:=hp h0
   refine⟨(ρ id).1,0,ha h0,.inr ⟨h.lo id _ hg h0,h.hi id _ hg h0,(fun id B hB=>by cases hB),h.hid.2 id _ hg h0⟩,fun i hi=>?_⟩
   obtain⟨cs,c1,c2,c3⟩:=k4 i hi
   refine⟨cs,c1,fun j hj=>?_,RepD.mono (fun b hb=>⟨hro b hb,rfl⟩) _ _ _ c3⟩
   rw[cell_of_row w _ _ arr e fr k1,Nat.zero_add]
   exact c2 j hj
  ·cases hd
 ·rename_i id off n
  split at hd
  ·rename_i cs hg
   split at hd
   ·rename_i l hl
    exact arr_rep h hg hl hv.2
   ·cases hd
  ·cases hd
 ·exact Rep.data hro _ _ hd hv
theorem giveL_rep{hint:Ty}{w0:World}{R0:RSet}{ρ:Rho}{w:World}{m:Mem}(h:MRel w0 R0 ρ w m):∀{cs:List SV} {us:List Value},RepL (RO w0 R0 ρ w m) ρ m.next w cs us→dataL (giveL hint m cs)=true→RepL (RO w0 R0 ρ w ⟨0,.e⟩) ρ 0 w (giveL hint m cs) us
 |[],_,hr,_=>hr
 |x::xs,us,hr,hd=>by
  obtain⟨u,us',rfl,h2,h3⟩:=hr
  unfold giveL at hd ⊢
  rw[dataL_cons]at hd
  cases h4:(give1 hint m x).data with
  |false=>rw[h4]at hd;cases hd
  |true=>rw[h4]at hd;exact⟨u,us',rfl,give1_rep h h2 h4,giveL_rep h h3 hd⟩
theorem giveA_rep{hint:Ty}{w0:World}{R0:RSet}{ρ:Rho}{w:World}{m:Mem}(h:MRel w0 R0 ρ w m){v:SV}{u:Value}(hv:Rep (RO w0 R0 ρ w m) ρ m.next w v u)(hd:(giveA hint m v).data=true):Rep (RO w0 R0 ρ w ⟨0,.e⟩) ρ 0 w (giveA hint m v) u:=by
 unfold giveA at hd ⊢
 split at hd
 ·obtain⟨vs,h1,h2⟩:=hv
  exact⟨vs,h1,giveL_rep h h2 (by rw[←data_agg];exact hd)⟩
 ·exact give1_rep h hv hd
theorem giveM_rep{hint:Ty}{w0:World}{R0:RSet}{ρ:Rho}{w:World}{m:Mem}(h:MRel w0 R0 ρ w m):∀{cs:List SV} {us:List Value},RepL (RO w0 R0 ρ w m) ρ m.next w cs us→dataL (giveM hint m cs)=true→RepL (RO w0 R0 ρ w ⟨0,.e⟩) ρ 0 w (giveM hint m cs) us
 |[],_,hr,_=>hr
 |x::xs,us,hr,hd=>by
  obtain⟨u,us',rfl,h2,h3⟩:=hr
  unfold giveM at hd ⊢
  rw[dataL_cons]at hd
  cases h4:(giveA hint m x).data with
  |false=>rw[h4]at hd;cases hd
  |true=>rw[h4]at hd;exact⟨u,us',rfl,giveA_rep h h2 h4,giveM_rep h h3 hd⟩
theorem give_rep{hint:Ty}{w0:World}{R0:RSet}{ρ:Rho}{w:World}{m:Mem}(h:MRel w0 R0 ρ w m){v:SV}{u:Value}(hv:Rep (RO w0 R0 ρ w m) ρ m.next w v u)(hd:(give hint m v).data=true):Rep (RO w0 R0 ρ w ⟨0,.e⟩) ρ 0 w (give hint m v) u:=by
 unfold give at hd ⊢
 split at hd
 ·obtain⟨vs,h1,h2⟩:=hv
  exact⟨vs,h1,giveM_rep h h2 (by rw[←data_tuple];exact hd)⟩
 ·exact giveA_rep h hv hd
section
variable {P:Program} {E:Env} {α:Type}
theorem dataL_mem{l:List SV}(h:dataL l=true):∀x∈l,x.data=true:=by
 induction l with
 |nil=>intro x hx;cases hx
 |cons y ys ih=>
  rw[dataL_cons]at h
  intro x hx
  cases hy:y.data with
  |false=>rw[hy]at h;cases h
  |true=>
   rw[hy]at h
   rcases List.mem_cons.1 hx with rfl|hx
   ·exact hy
   ·exact ih h x hx
theorem semOp_free{o:Oper}{ev:Operand→SV}{hint:Ty}{v:SV}{mc:Mem}(hd:dataL (o.op.operands.toList.map ev)=true)(hv:(give hint mc v).data=true)(h:SemOp P ⟨0,.e⟩ v mc o ev)(m:Mem):SemOp P m (give hint mc v) m o ev:=by
 intro w0 R0 ρ w eb hm hev
 obtain⟨o1,o2⟩:=own_mem hm ρ
 have h1:=h w (RS w0 R0 ρ w m) ρ w eb o1 fun x hx=>Rep.data o2 _ _ (dataL_mem hd _ (List.mem_map.2 ⟨x,by simpa using hx,rfl⟩)) (hev x hx)
 refine OpPost.mono (fun u w' ⟨ρ',g1,g2,g3⟩=>?_) h1
 have hst:=Hand.start hm g1.bare.1
 obtain⟨k1,k2⟩:=hst.finish hm g1.bare.1
 exact⟨ρ,k1,k2,Rep.data (fun b hb=>hst.ro b (.inr hb)) _ u hv (give_rep g1 g3 hv)⟩
def FreeOK(P:Program)(E:Env)(all:List Oper)(o:Oper)(fr:Fr)(m:Mem)(v:SV)(m':Mem):Prop:=
 isW E o.op=true∨(m'=m∧∀m2,StepOK P all o fr m2 v m2)
theorem oneOpF_holds(hE:EOK P E){call:CallK α}(hcall:CallOK P false call){all:List Oper}{o:Oper}{ih:OpsK α}{p:Plan}{fr:Fr}{m:Mem}{L:α→Prop}(h:(oneOpF E call o ih p fr m).holds L):
  ∃p' v fr1 m1,(ih p' fr1 m1).holds L∧StepOK P all o fr m v m1∧FSet fr o.dst v fr1∧FreeOK P E all o fr m v m1:=by
 unfold oneOpF at h
 split at h
 ·rename_i hg
  have hgv:gval all fr.get o=some true:=by unfold gval;rw[hg]
  split at h
  ·rename_i hw
   obtain⟨v,p',m1,h1,_,h3,h4⟩:=execOp_sound hE hcall h
   obtain⟨fr1,h5,h6⟩:=putK_holds h1
   exact⟨p',v,fr1,m1,h6,.inl ⟨hgv,h3⟩,h5,.inl hw⟩
  ·split at h
   ·rename_i hp
    obtain⟨v,p',m1,h1,_,h3,h4⟩:=execOp_sound hE hcall h
    obtain⟨fr1,h5,h6⟩:=putK_holds h1
    exact⟨p',v,fr1,m,h6,.inl ⟨hgv,h4.pure hp m⟩,h5,.inr ⟨rfl,fun m2=>.inl ⟨hgv,h4.pure hp m2⟩⟩⟩
   ·split at h
    ·rename_i hd
     obtain⟨v,p',mc,h1,_,h3,h4⟩:=execOp_sound hE hcall h
     split at h1
     ·rename_i hv
      rw[frc_eq]at h1
      obtain⟨fr1,h5,h6⟩:=putK_holds h1
      have key:=semOp_free hd hv h3
      exact⟨p',_,fr1,m,h6,.inl ⟨hgv,key m⟩,h5,.inr ⟨rfl,fun m2=>.inl ⟨hgv,key m2⟩⟩⟩
     ·exact h1.elim
    ·exact h.elim
 ·exact h.elim
inductive ChainF (P:Program) (E:Env) (all:List Oper):List Oper→Fr→Mem→Fr→Mem→Prop where
 |nil (fr:Fr) (m:Mem):ChainF P E all [] fr m fr m
 |cons {o:Oper} {rest:List Oper} {fr fr1 fr':Fr} {m m1 m':Mem} {v:SV} (h:StepOK P all o fr m v m1) (hx:FreeOK P E all o fr m v m1) (hf:FSet fr o.dst v fr1) (k:ChainF P E all rest fr1 m1 fr' m'):ChainF P E all (o::rest) fr m fr' m'
theorem execOpsF_chain(hE:EOK P E){call:CallK α}(hcall:CallOK P false call){all:List Oper}{k:OpsK α}{L:α→Prop}:∀ (ops:List Oper) (p:Plan) (fr:Fr) (m:Mem),(execOpsF E call ops k p fr m).holds L→
  ∃p' fr' m',(k p' fr' m').holds L∧ChainF P E all ops fr m fr' m'
 |[],p,fr,m,h=>⟨p,fr,m,h,.nil fr m⟩
 |o::rest,p,fr,m,h=>by
  change (oneOpF E call o (execOpsF E call rest k) p fr m).holds L at h
  obtain⟨p1,v,fr1,m1,h1,h2,h3,h4⟩:=oneOpF_holds (all:=all) hE hcall h
  obtain⟨p',fr',m',h5,h6⟩:=execOpsF_chain hE hcall rest p1 fr1 m1 h1
  exact⟨p',fr',m',h5,.cons h2 h4 h3 h6⟩
structure WalkF (P:Program) (E:Env) (all:List Oper) (m m':Mem) (fr fr':Fr) (frs:Nat→Fr) (vals:Nat→SV) (ms:Nat→Mem):Prop where
 first:frs 0=fr
 last:frs all.length=fr'
 mfirst:ms 0=m
 mlast:ms all.length=m'
 step:∀i o,all[i]? =some o→StepOK P all o (frs i) (ms i) (vals i) (ms (i+1))
 more:∀i o,all[i]? =some o→FreeOK P E all o (frs i) (ms i) (vals i) (ms (i+1))
 next:∀i o,all[i]? =some o→FSet (frs i) o.dst (vals i) (frs (i+1))
theorem ChainF.index{all:List Oper}:∀{ops:List Oper} {fr fr':Fr} {m m':Mem},ChainF P E all ops fr m fr' m'→∃ (frs:Nat→Fr) (vals:Nat→SV) (ms:Nat→Mem),frs 0=fr∧frs ops.length=fr'∧ms 0=m∧ms ops.length=m'∧
  (∀i o,ops[i]? =some o→StepOK P all o (frs i) (ms i) (vals i) (ms (i+1)))∧(∀i o,ops[i]? =some o→FreeOK P E all o (frs i) (ms i) (vals i) (ms (i+1)))∧(∀i o,ops[i]? =some o→FSet (frs i) o.dst (vals i) (frs (i+1))):=by
 intro ops fr fr' m m' h
 induction h with
 |nil fr m=>exact⟨fun _=>fr,fun _=>.undef,fun _=>m,rfl,rfl,rfl,rfl,fun i o h=>by simp at h,fun i o h=>by simp at h,fun i o h=>by simp at h⟩
 |@cons o rest fr fr1 fr' m m1 m' v hst hx hf k ih=>
  obtain⟨frs,vals,ms,h1,h2,h1m,h2m,h3,hx3,h4⟩:=ih
  refine⟨fun i=>Nat.casesOn i fr frs,fun i=>Nat.casesOn i v vals,fun i=>Nat.casesOn i m ms,rfl,h2,rfl,h2m,fun i o' hi=>?_,fun i o' hi=>?_,fun i o' hi=>?_⟩
  ·cases i with
   |zero=>simp at hi;subst hi;dsimp only;rw[h1m];exact hst
   |succ i=>exact h3 i o' (by simpa using hi)
  ·cases i with
   |zero=>simp at hi;subst hi;dsimp only;rw[h1m];exact hx
   |succ i=>exact hx3 i o' (by simpa using hi)
  ·cases i with
   |zero=>simp at hi;subst hi;dsimp only;rw[h1];exact hf
   |succ i=>exact h4 i o' (by simpa using hi)
theorem ChainF.toWalk{all:List Oper}{m m':Mem}{fr fr':Fr}(h:ChainF P E all all fr m fr' m'):∃frs vals ms,WalkF P E all m m' fr fr' frs vals ms:=
 let ⟨frs,vals,ms,h1,h2,h3,h4,h5,h6,h7⟩:=h.index
 ⟨frs,vals,ms,h1,h2,h3,h4,h5,h6,h7⟩
noncomputable def curF(E:Env)(all:List Oper)(ms:Nat→Mem)(S:Nat→Bool):Nat→Mem
 |0=>ms 0
 |n+1=>if S n=true∧(all[n]?).any (fun o=>isW E o.op)=true then ms (n+1)else curF E all ms S n
theorem curF_congr{all:List Oper}{ms:Nat→Mem}{S S':Nat→Bool}:∀ (n:Nat),(∀k,k<n→(all[k]?).any (fun o=>isW E o.op)=true→S k=S' k)→curF E all ms S n=curF E all ms S' n
 |0,_=>rfl
 |n+1,h=>by
  simp only[curF]
  rw[curF_congr n fun k hk=>h k (by omega)]
  by_cases hw:(all[n]?).any (fun o=>isW E o.op)=true
  ·rw[h n (by omega) hw]
  ·rw[if_neg (fun c=>hw c.2),if_neg (fun c=>hw c.2)]
theorem curF_past{all:List Oper}{ms:Nat→Mem}{S:Nat→Bool}{i:Nat}:∀ (n:Nat),i≤n→(∀k,i≤k→k<n→(all[k]?).any (fun o=>isW E o.op)=true→S k=false)→curF E all ms S n=curF E all ms S i
 |0,hi,_=>by rw[Nat.le_zero.1 hi]
 |n+1,hi,h=>by
  rcases Nat.lt_or_ge n i with h1|h1
  ·rw[show i=n+1 by omega]
  ·simp only[curF]
   rw[if_neg (fun c=>by have:=h n h1 (by omega) c.2;rw[c.1]at this;cases this),curF_past n h1 fun k h1 h2=>h k h1 (by omega)]
theorem curF_all{all:List Oper}{ms:Nat→Mem}(hk:∀ (i:Nat) (o:Oper),all[i]? =some o→isW E o.op=false→ms (i+1)=ms i){S:Nat→Bool}:∀ (n:Nat),n≤all.length→(∀k,k<n→(all[k]?).any (fun o=>isW E o.op)=true→S k=true)→curF E all ms S n=ms n
 |0,_,_=>rfl
 |n+1,hn,h=>by
  simp only[curF]
  have ho:all[n]? =some all[n] :=List.getElem?_eq_getElem (by omega)
  by_cases hw:(all[n]?).any (fun o=>isW E o.op)=true
  ·rw[if_pos ⟨h n (by omega) hw,hw⟩]
  ·rw[if_neg (fun c=>hw c.2),curF_all hk n (by omega) fun k h1=>h k (by omega)]
   refine(hk n _ ho ?_).symm
   rw[ho]at hw;simpa using hw
theorem chain_pairs{all:List Oper}(h:chainB E all=true):∀ (j:Nat) (oj:Oper),all[j]? =some oj→isW E oj.op=true→∀ (i:Nat) (oi:Oper),i<j→all[i]? =some oi→isW E oi.op=true→boundTo all 3 oj i=true:=by
 intro j oj hj hs i oi hij hi hwi
 simp only[chainB,List.all_eq_true]at h
 have h3:=h (oj,j) (List.mem_zipIdx_iff_getElem?.2 hj)
 simp only[hs,Bool.not_true,Bool.false_or,List.all_eq_true]at h3
 have h4:=h3 (oi,i) (List.mem_zipIdx_iff_getElem?.2 hi)
 have hb:Nat.blt i j=true:=by rw[Nat.blt_eq];exact hij
 simpa only[hb,hwi,Bool.not_true,Bool.false_or]using h4
theorem free_keep{all:List Oper}{m m':Mem}{fr fr':Fr}{frs:Nat→Fr}{vals:Nat→SV}{ms:Nat→Mem}(hw:WalkF P E all m m' fr fr' frs vals ms)(k:Nat)(o:Oper)(ho:all[k]? =some o)(hwr:isW E o.op=false):ms (k+1)=ms k:=by
 rcases hw.more k o ho with h|h
 ·rw[hwr]at h;cases h
 ·exact h.1
theorem free_step{all:List Oper}{m m':Mem}{fr fr':Fr}{frs:Nat→Fr}{vals:Nat→SV}{ms:Nat→Mem}(hw:WalkF P E all m m' fr fr' frs vals ms)(hch:chainB E all=true)
  (S:Nat→Bool) (i:Nat) (o:Oper) (hoi:all[i]? =some o) (hSi:S i=false) (hcl:∀ (j:Nat) (oj:Oper),all[j]? =some oj→S j=true→∀e∈oj.after,Region.binds .any e=true→S e.on=true) (hready:∀e∈o.after,Region.binds .any e=true→S e.on=true):
  StepOK P all o (frs i) (curF E all ms S all.length) (vals i) (curF E all ms (fun k=>if k=i then true else S k) all.length):=by
 have hil:i<all.length:=(List.getElem?_eq_some_iff.1 hoi).1
 have hkeep:∀ (k:Nat) (o:Oper),all[k]? =some o→isW E o.op=false→ms (k+1)=ms k:=fun k o ho hwr=>free_keep hw k o ho hwr
 have hisw:∀{k:Nat} {o:Oper},all[k]? =some o→((all[k]?).any (fun o=>isW E o.op)=true↔isW E o.op=true):=fun {k o} ho=>by rw[ho];simp
 by_cases hwr:isW E o.op=true
 ·have hahead:∀k,k<i→(all[k]?).any (fun o=>isW E o.op)=true→S k=true:=by
   intro k hk hkw
   have ho:all[k]? =some all[k] :=List.getElem?_eq_getElem (by omega)
   exact bound_in hcl 3 o k hready (chain_pairs hch i o hoi hwr k _ hk ho ((hisw ho).1 hkw))
  have hbehind:∀k,i<k→k<all.length→(all[k]?).any (fun o=>isW E o.op)=true→S k=false:=by
   intro k hk hkl hkw
   have ho:all[k]? =some all[k] :=List.getElem?_eq_getElem hkl
   rcases Bool.eq_false_or_eq_true (S k)with h|h
   ·have:=bound_in hcl 3 _ i (fun e he hb=>hcl k _ ho h e he hb) (chain_pairs hch k _ ho ((hisw ho).1 hkw) i o hk hoi hwr)
    rw[hSi]at this;cases this
   ·exact h
  have e1:curF E all ms S all.length=ms i:=by
   rw[curF_past (i:=i) all.length (by omega) (fun k h1 h2 h3=>?_),curF_all hkeep i (by omega) hahead]
   by_cases hki:k=i
   ·rw[hki];exact hSi
   ·exact hbehind k (by omega) h2 h3
  have e2:curF E all ms (fun k=>if k=i then true else S k) all.length=ms (i+1):=by
   rw[curF_past (i:=i+1) all.length (by omega) (fun k h1 h2 h3=>?_),curF_all hkeep (i+1) (by omega) (fun k h1 h2=>?_)]
   ·by_cases hki:k=i
    ·rw[if_pos hki]
    ·rw[if_neg hki];exact hahead k (by omega) h2
   ·rw[if_neg (by omega)];exact hbehind k (by omega) h2 h3
  rw[e1,e2]
  exact hw.step i o hoi
 ·have e2:curF E all ms (fun k=>if k=i then true else S k) all.length=curF E all ms S all.length:=by
   refine curF_congr _ fun k hk hkw=>?_
   by_cases hki:k=i
   ·subst hki;exact absurd ((hisw hoi).1 hkw) hwr
   ·simp[hki]
  rw[e2]
  rcases hw.more i o hoi with h|h
  ·exact absurd h hwr
  ·exact h.2 _
end
end Go.Sx
