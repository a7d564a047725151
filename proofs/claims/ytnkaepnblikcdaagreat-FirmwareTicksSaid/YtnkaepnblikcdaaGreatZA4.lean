/-
  What the statement needs: an evaluator of the model, contracts of the functions that it reaches, and the plain law.
-/
import Derived.Test.YtnkaepnblikcdaaGreatZA3
set_option maxRecDepth 100000
set_option linter.unusedVariables false
set_option linter.unusedSimpArgs false
open Go.IntKind (i64 u64)
namespace Go.Proofs.YtnkaepnblikcdaaGreat
open Go.Sx
theorem s_szC(n:Int)(hn:inR n (-4611686018427387904) 4611686018427387904=true):SCall Tryz.prog 295 [I64 n] (I64 (sz n)):=
 scall_v mix [] trivial 1000 (.all)
  (t:=.leaf (SV.int IntKind.i64 (if i64.wrap (0-n)>n then i64.wrap (0-n)else n)))
  (by kernel_rfl) (by
   rw[inR_iff]at hn
   have e:i64.wrap (0-n)= -n:=by rw[w64 (by omega) (by omega)];omega
   simp only[Tree.holds,sL,ne_eq,beq_iff_eq,bne_iff_ne,eq_self,beq_eq_false_iff_ne,bne_eq_false_iff_eq,implies_true];(repeat' (first|apply And.intro|intro _));all_goals((try simp only[e]);refine sv_int ?_;unfold sz;(repeat' split)<;>omega)) (by kernel_rfl) (by kernel_rfl)
theorem o_szC:(fSz 295).ok Tryz.prog:=factI_ok fun n h=>s_szC n h
def rg0_p:Plan:=.all
noncomputable def rg0_t(l:List Bk)(caps:List Int)(e:Int):Tree Stop:= .leaf (.at (loopOf Tryz.prog 264 0) 85 (slotsS 85 [(0,.list tyBk l),(1,.list (Ty.int IntKind.i64) caps),(2,.int .i64 e),(7,.int .i64 (↑l.length:Int)),(8,SV.arr 0 0 1),(9,.int .i64 1),(10,SV.undef),(11,SV.undef)]) [some (.cells [.int .i64 e])])
theorem rg0(l:List Bk)(caps:List Int)(e:Int):segR (Env.of Tryz.prog (sumOf [fReaR])) 1000 (fnOf Tryz.prog 264) .unit (keepS 85 [0,1,2,7,8,9,10,11]) (codeS Tryz.prog 264) rg0_p (startS Tryz.prog 264 [LB l,LI caps,I64 e]) [] =rg0_t l caps e:=by kernel_rfl
def rg1a_p:Plan:=.fork (.lit (.all)) (.lit (.all))
noncomputable def rg1a_t(l:List Bk)(caps:List Int)(e n:Int)(i:Int):Tree Stop:=let y0:=l.getD (i64.wrap (i-1)).toNat dBk;let y1:=l.getD i.toNat dBk;let y2:=Ty.int IntKind.i64; .node (decide (i<n)) (.req (decide (0≤i)&&decide (i< (↑caps.length:Int))) (.req (decide (0≤i64.wrap (i-1))&&decide (i64.wrap (i-1)< (↑l.length:Int))) (.req (decide (0≤i)&&decide (i< (↑l.length:Int))) (.req (decide (([e].length+ [if y1.2.2.2.1<if y0.2.2.2.1<caps.getD i.toNat 0 then y0.2.2.2.1 else caps.getD i.toNat 0 then y1.2.2.2.1 else if y0.2.2.2.1<caps.getD i.toNat 0 then y0.2.2.2.1 else caps.getD i.toNat 0].length)*8≤140737488355328)) (.leaf (.at (loopOf Tryz.prog 264 0) 85 (slotsS 85 [(0,.list tyBk l),(1,.list y2 caps),(2,.int .i64 e),(7,.int .i64 n),(8,SV.row 0),(9,.int .i64 (i64.wrap (i+1))),(10,SV.undef),(11,SV.undef)]) [some (.rows y2 ([e] ++[if y1.2.2.2.1<if y0.2.2.2.1<caps.getD i.toNat 0 then y0.2.2.2.1 else caps.getD i.toNat 0 then y1.2.2.2.1 else if y0.2.2.2.1<caps.getD i.toNat 0 then y0.2.2.2.1 else caps.getD i.toNat 0]))])))))) (.req (decide (([e].length+1)*8≤140737488355328)) (.leaf (.at (loopOf Tryz.prog 264 1) 85 (slotsS 85 [(0,.list tyBk l),(1,.list y2 caps),(2,.int .i64 e),(7,.int .i64 n),(8,SV.row 0),(9,.int .i64 i),(10,.bool true),(11,SV.undef)]) [some (.rows y2 ([e] ++[0]))])))
theorem rg1a(l:List Bk)(caps:List Int)(e n:Int)(i:Int):segR (Env.of Tryz.prog (sumOf [fReaR])) 1000 (fnOf Tryz.prog 264) .unit (keepS 85 [0,1,2,7,8,9,10,11]) (loopOf Tryz.prog 264 0) rg1a_p (slotsS 85 [(0,LB l),(1,LI caps),(2,I64 e),(7,I64 n),(8,.arr 0 0 1),(9,I64 i),(10,.undef),(11,.undef)]) [some (.cells [I64 e])] =rg1a_t l caps e n i:=by kernel_rfl
def rg1_p:Plan:=.fork (.all) (.all)
noncomputable def rg1_t(l:List Bk)(caps:List Int)(e n:Int)(s:List Int)(i:Int):Tree Stop:=let y0:=l.getD (i64.wrap (i-1)).toNat dBk;let y1:=l.getD i.toNat dBk;let y2:=Ty.int IntKind.i64; .node (decide (i<n)) (.req (decide (0≤i)&&decide (i< (↑caps.length:Int))) (.req (decide (0≤i64.wrap (i-1))&&decide (i64.wrap (i-1)< (↑l.length:Int))) (.req (decide (0≤i)&&decide (i< (↑l.length:Int))) (.req (decide ((s.length+ [if y1.2.2.2.1<if y0.2.2.2.1<caps.getD i.toNat 0 then y0.2.2.2.1 else caps.getD i.toNat 0 then y1.2.2.2.1 else if y0.2.2.2.1<caps.getD i.toNat 0 then y0.2.2.2.1 else caps.getD i.toNat 0].length)*8≤140737488355328)) (.leaf (.at (loopOf Tryz.prog 264 0) 85 (slotsS 85 [(0,.list tyBk l),(1,.list y2 caps),(2,.int .i64 e),(7,.int .i64 n),(8,SV.row 0),(9,.int .i64 (i64.wrap (i+1))),(10,SV.undef),(11,SV.undef)]) [some (.rows y2 (s++[if y1.2.2.2.1<if y0.2.2.2.1<caps.getD i.toNat 0 then y0.2.2.2.1 else caps.getD i.toNat 0 then y1.2.2.2.1 else if y0.2.2.2.1<caps.getD i.toNat 0 then y0.2.2.2.1 else caps.getD i.toNat 0]))])))))) (.req (decide ((s.length+1)*8≤140737488355328)) (.leaf (.at (loopOf Tryz.prog 264 1) 85 (slotsS 85 [(0,.list tyBk l),(1,.list y2 caps),(2,.int .i64 e),(7,.int .i64 n),(8,SV.row 0),(9,.int .i64 i),(10,.bool true),(11,SV.undef)]) [some (.rows y2 (s++[0]))])))
theorem rg1(l:List Bk)(caps:List Int)(e n:Int)(s:List Int)(i:Int):segR (Env.of Tryz.prog (sumOf [fReaR])) 1000 (fnOf Tryz.prog 264) .unit (keepS 85 [0,1,2,7,8,9,10,11]) (loopOf Tryz.prog 264 0) rg1_p (slotsS 85 [(0,LB l),(1,LI caps),(2,I64 e),(7,I64 n),(8,.row 0),(9,I64 i),(10,.undef),(11,.undef)]) [some (.rows (.int .i64) s)] =rg1_t l caps e n s i:=by kernel_rfl
def rg2a_p:Plan:=.fork (.all) (.all)
noncomputable def rg2a_t(l:List Bk)(caps:List Int)(e n:Int)(s:List Int)(i:Int)(b:Bool):Tree Stop:= .node (b) (.leaf (.at (loopOf Tryz.prog 264 2) 85 (slotsS 85 [(0,.list tyBk l),(1,.list (Ty.int IntKind.i64) caps),(2,.int .i64 e),(7,.int .i64 n),(8,SV.row 0),(9,.int .i64 i),(10,.bool false),(11,.int .i64 1)]) [some (.rows (Ty.int IntKind.i64) s)])) (.leaf (.done (.list (Ty.int IntKind.i64) s)))
theorem rg2a(l:List Bk)(caps:List Int)(e n:Int)(s:List Int)(i:Int)(b:Bool):segR (Env.of Tryz.prog (sumOf [fReaR])) 1000 (fnOf Tryz.prog 264) .unit (keepS 85 [0,1,2,7,8,9,10,11]) (loopOf Tryz.prog 264 1) rg2a_p (slotsS 85 [(0,LB l),(1,LI caps),(2,I64 e),(7,I64 n),(8,.row 0),(9,I64 i),(10,.bool b),(11,.undef)]) [some (.rows (.int .i64) s)] =rg2a_t l caps e n s i b:=by kernel_rfl
def rg2_p:Plan:=.fork (.all) (.all)
noncomputable def rg2_t(l:List Bk)(caps:List Int)(e n:Int)(s:List Int)(i j:Int)(b:Bool):Tree Stop:= .node (b) (.leaf (.at (loopOf Tryz.prog 264 2) 85 (slotsS 85 [(0,.list tyBk l),(1,.list (Ty.int IntKind.i64) caps),(2,.int .i64 e),(7,.int .i64 n),(8,SV.row 0),(9,.int .i64 i),(10,.bool false),(11,.int .i64 1)]) [some (.rows (Ty.int IntKind.i64) s)])) (.leaf (.done (.list (Ty.int IntKind.i64) s)))
theorem rg2(l:List Bk)(caps:List Int)(e n:Int)(s:List Int)(i j:Int)(b:Bool):segR (Env.of Tryz.prog (sumOf [fReaR])) 1000 (fnOf Tryz.prog 264) .unit (keepS 85 [0,1,2,7,8,9,10,11]) (loopOf Tryz.prog 264 1) rg2_p (slotsS 85 [(0,LB l),(1,LI caps),(2,I64 e),(7,I64 n),(8,.row 0),(9,I64 i),(10,.bool b),(11,I64 j)]) [some (.rows (.int .i64) s)] =rg2_t l caps e n s i j b:=by kernel_rfl
def rg3_p:Plan:=.fork (.fork (.all) (.all)) (.all)
noncomputable def rg3_t(l:List Bk)(caps:List Int)(e n:Int)(s:List Int)(i j:Int)(b:Bool):Tree Stop:=let y2:=Ty.int IntKind.i64;let y3:=i64.wrap (j-1);let y0:=s.getD y3.toNat 0+rea (l.getD y3.toNat dBk);let y4:=i64.wrap (j+1);let y1:=s.getD y4.toNat 0+rea (l.getD j.toNat dBk); .node (decide (j<n)) (.req (decide (0≤i64.wrap (j-1))&&decide (i64.wrap (j-1)< (↑s.length:Int))) (.req (decide (y3.toNat<s.length)) (.req (decide (0≤i64.wrap (j-1))&&decide (i64.wrap (j-1)< (↑l.length:Int))) (.req (soundB (l.getD y3.toNat dBk)) (.req (decide (0≤i64.wrap (j+1))&&decide (i64.wrap (j+1)< (↑s.length:Int))) (.req (decide (y4.toNat<s.length)) (.req (decide (0≤j)&&decide (j< (↑l.length:Int))) (.req (soundB (l.getD j.toNat dBk)) (.req (decide (0≤j)&&decide (j< (↑s.length:Int))) (.req (decide (j.toNat<s.length)) (.node (decide (s.getD j.toNat 0>if i64.wrap y1<i64.wrap y0 then i64.wrap y1 else i64.wrap y0)) (.req (decide (0≤j)&&decide (j< (↑s.length:Int))) (.req (decide (j.toNat<s.length)) (.leaf (.at (loopOf Tryz.prog 264 2) 85 (slotsS 85 [(0,.list tyBk l),(1,.list y2 caps),(2,.int .i64 e),(7,.int .i64 n),(8,SV.row 0),(9,.int .i64 i),(10,.bool true),(11,.int .i64 y4)]) [some (.rows y2 (s.set j.toNat (if i64.wrap y1<i64.wrap y0 then i64.wrap y1 else i64.wrap y0)))])))) (.leaf (.at (loopOf Tryz.prog 264 2) 85 (slotsS 85 [(0,.list tyBk l),(1,.list y2 caps),(2,.int .i64 e),(7,.int .i64 n),(8,SV.row 0),(9,.int .i64 i),(10,.bool b),(11,.int .i64 y4)]) [some (.rows y2 s)]))))))))))))) (.leaf (.at (loopOf Tryz.prog 264 1) 85 (slotsS 85 [(0,.list tyBk l),(1,.list y2 caps),(2,.int .i64 e),(7,.int .i64 n),(8,SV.row 0),(9,.int .i64 i),(10,.bool b),(11,.int .i64 j)]) [some (.rows y2 s)]))
theorem rg3(l:List Bk)(caps:List Int)(e n:Int)(s:List Int)(i j:Int)(b:Bool):segR (Env.of Tryz.prog (sumOf [fReaR])) 1000 (fnOf Tryz.prog 264) .unit (keepS 85 [0,1,2,7,8,9,10,11]) (loopOf Tryz.prog 264 2) rg3_p (slotsS 85 [(0,LB l),(1,LI caps),(2,I64 e),(7,I64 n),(8,.row 0),(9,I64 i),(10,.bool b),(11,I64 j)]) [some (.rows (.int .i64) s)] =rg3_t l caps e n s i j b:=by kernel_rfl
def rc0_p:Plan:=.fork (.ln 5 (.lit .all)) (.ln 5 (.fork .all .all))
noncomputable def rc0_t(l:List Bk)(caps:List Int)(e:Int)(s:List Int):Tree Stop:= .req (decide (0< (↑s.length:Int))) (.node (s.getD 0 0 != e) (.leaf (.done (.bool false))) (.req (decide (0≤(↑l.length:Int))&&decide ((↑l.length:Int)< (↑s.length:Int))) (.node (s.getD (↑l.length:Int).toNat 0 != 0) (.leaf (.done (.bool false))) (.leaf (.at (loopOf Tryz.prog 265 0) 111 (slotsS 111 [(0,.list tyBk l),(1,.list (Ty.int IntKind.i64) caps),(2,.int .i64 e),(3,.list (Ty.int IntKind.i64) s),(9,.int .i64 (↑l.length:Int)),(10,.int .i64 0)]) [])))))
theorem rc0(l:List Bk)(caps:List Int)(e:Int)(s:List Int):segR (Env.of Tryz.prog (sumOf [fReaR,fSz 295])) 1000 (fnOf Tryz.prog 265) .unit (keepS 111 [0,1,2,3,9,10]) (codeS Tryz.prog 265) rc0_p (startS Tryz.prog 265 [LB l,LI caps,I64 e,LI s]) [] =rc0_t l caps e s:=by kernel_rfl
def rc1_p:Plan:=.fork (.fork (.ln 17 (.lit .all)) (.ln 3 (.fork (.ln 12 (.fork (.ln 11 (.lit .all)) (.lit (.lit (.fork (.ln 13 (.fork (.ln 6 (.lit .all)) (.lit (.lit (.fork (.ln 5 (.fork (.ln 11 (.fork .all (.fork (.ln 17 (.fork .all .all)) (.ln 17 (.lit .all))))) (.ln 12 (.fork (.ln 17 (.fork .all .all)) (.ln 17 (.lit .all)))))) (.ln 18 (.fork (.ln 17 (.fork .all .all)) (.ln 17 (.lit .all))))))))) (.ln 16 (.fork (.ln 5 (.fork (.ln 11 (.fork .all (.fork (.ln 17 (.fork .all .all)) (.ln 17 (.lit .all))))) (.ln 12 (.fork (.ln 17 (.fork .all .all)) (.ln 17 (.lit .all)))))) (.ln 18 (.fork (.ln 17 (.fork .all .all)) (.ln 17 (.lit .all))))))))))) (.ln 15 (.fork (.ln 13 (.fork (.ln 6 (.lit .all)) (.lit (.lit (.fork (.ln 5 (.fork (.ln 11 (.fork .all (.fork (.ln 17 (.fork .all .all)) (.ln 17 (.lit .all))))) (.ln 12 (.fork (.ln 17 (.fork .all .all)) (.ln 17 (.lit .all)))))) (.ln 18 (.fork (.ln 17 (.fork .all .all)) (.ln 17 (.lit .all))))))))) (.ln 16 (.fork (.ln 5 (.fork (.ln 11 (.fork .all (.fork (.ln 17 (.fork .all .all)) (.ln 17 (.lit .all))))) (.ln 12 (.fork (.ln 17 (.fork .all .all)) (.ln 17 (.lit .all)))))) (.ln 18 (.fork (.ln 17 (.fork .all .all)) (.ln 17 (.lit .all))))))))))) .all
noncomputable def rc1_t(l:List Bk)(caps:List Int)(e:Int)(s:List Int)(n i:Int):Tree Stop:=let y3:Tree Stop:=.leaf (.at (loopOf Tryz.prog 265 0) 111 (slotsS 111 [(0,.list tyBk l),(1,.list (Ty.int IntKind.i64) caps),(2,.int .i64 e),(3,.list (Ty.int IntKind.i64) s),(9,.int .i64 n),(10,.int .i64 (i64.wrap (i+1)))]) []);let y4:=decide (0≤i)&&decide (i< (↑s.length:Int));let y5:Tree Stop:=.leaf (.done (.bool false));let y6:=i64.wrap (s.getD (i64.wrap (i+1)).toNat 0-s.getD i.toNat 0);let y0:Tree Stop:=.node (decide (i<n)) (.req (decide (0≤i64.wrap (i+1))&&decide (i64.wrap (i+1)< (↑s.length:Int))) (.req y4 (.req (inR y6 (-4611686018427387904) 4611686018427387904) (.req (decide (0≤i)&&decide (i< (↑l.length:Int))) (.req (soundB (l.getD i.toNat dBk)) (.node (decide (sz y6>rea (l.getD i.toNat dBk))) y5 y3)))))) y3;let y2:Tree Stop:=.node (decide (i>0)) (.node (decide (i<n)) (.req y4 (.req (decide (0≤i)&&decide (i< (↑caps.length:Int))) (.node (decide (s.getD i.toNat 0>caps.getD i.toNat 0)) y5 y0))) y0) y0;let y1:Tree Stop:=.node (decide (i>0)) (.req y4 (.req (decide (0≤i64.wrap (i-1))&&decide (i64.wrap (i-1)< (↑l.length:Int))) (.node (decide (s.getD i.toNat 0> (l.getD (i64.wrap (i-1)).toNat dBk).2.2.2.1)) y5 y2))) y2; .node (decide (i≤n)) (.req y4 (.node (decide (s.getD i.toNat 0<0)) y5 (.node (decide (i<n)) (.req y4 (.req (decide (0≤i)&&decide (i< (↑l.length:Int))) (.node (decide (s.getD i.toNat 0> (l.getD i.toNat dBk).2.2.2.1)) y5 y1))) y1))) (.leaf (.done (.bool true)))
theorem rc1(l:List Bk)(caps:List Int)(e:Int)(s:List Int)(n i:Int):segR (Env.of Tryz.prog (sumOf [fReaR,fSz 295])) 1000 (fnOf Tryz.prog 265) .unit (keepS 111 [0,1,2,3,9,10]) (loopOf Tryz.prog 265 0) rc1_p (slotsS 111 [(0,LB l),(1,LI caps),(2,I64 e),(3,LI s),(9,I64 n),(10,I64 i)]) [] =rc1_t l caps e s n i:=by kernel_rfl
def msum:List Int→Nat
 |[] =>0
 |x::l=>x.toNat+msum l
theorem msum_set:∀{s:List Int} {j:Nat} {v:Int},j<s.length→0≤v→v<s.getD j 0→msum (s.set j v)+1≤msum s
 |x::l,0,v,_,h0,h=>by
  have h:v<x:=h
  simp only[List.set,msum];omega
 |x::l,j+1,v,hj,h0,h=>by
  have:=msum_set (s:=l) (j:=j) (v:=v) (by simpa using hj) h0 (by simpa using h)
  simp only[List.set,msum];omega
section
variable {l:List Bk} {caps:List Int} {e:Int}
abbrev atL(s:List Int)(i:Nat):Int:=s.getD i 0
structure IsGr (l:List Bk) (caps:List Int) (e:Int) (s:List Int):Prop where
 len:s.length=l.length+1
 sol:Sol (uL l caps) (reL l) e l.length (atL s)
 top:∀x,Sol (uL l caps) (reL l) e l.length x→∀i,i≤l.length→x i≤atL s i
theorem IsGr.unique{s s':List Int}(h:IsGr l caps e s)(k:IsGr l caps e s'):s=s':=by
 rw[list_eq_map (n:=l.length+1) (g:=atL s') h.len fun j hj=>?_,←list_eq_map (n:=l.length+1) (g:=atL s') k.len fun j hj=>rfl]
 have h1:=h.top _ k.sol j (by omega)
 have h2:=k.top _ h.sol j (by omega)
 show atL s j=atL s' j
 omega
open Classical in
noncomputable def rgL(l:List Bk)(caps:List Int)(e:Int):List Int:=if h:∃s,IsGr l caps e s then h.choose else []
theorem rgL_eq{s:List Int}(h:IsGr l caps e s):rgL l caps e=s:=by
 have hx:∃s,IsGr l caps e s:=⟨s,h⟩
 unfold rgL
 rw[dif_pos hx]
 exact IsGr.unique hx.choose_spec h
structure Dn (l:List Bk) (caps:List Int) (e:Int) (s:List Int):Prop where
 len:s.length=l.length+1
 first:atL s 0=e
 last:atL s l.length=0
 cap:∀i,0<i→i<l.length→atL s i≤uL l caps i
 top:∀x,Sol (uL l caps) (reL l) e l.length x→∀i,i≤l.length→x i≤atL s i
theorem Dn.rng(h:PlOk l caps e){s:List Int}(d:Dn l caps e s){i:Nat}(hi:i≤l.length):0≤atL s i∧atL s i≤1099511627776:=by
 have z:=d.top _ (sol_zero h.lim) i hi
 have he:=h.ent
 rcases Nat.eq_zero_or_pos i with rfl|hp
 ·rw[d.first];exact he
 ·rw[if_neg (by omega)]at z
  rcases Nat.lt_or_ge i l.length with k|k
  ·have:=d.cap i hp k
   have:=uL_le h i;omega
  ·rw[show i=l.length by omega,d.last];omega
def mostL(l:List Bk)(s:List Int)(j:Nat):Int:=min (atL s (j-1)+reL l (j-1)) (atL s (j+1)+reL l j)
theorem Dn.isGr{s:List Int}(d:Dn l caps e s)(h:∀j,0<j→j<l.length→atL s j≤mostL l s j):IsGr l caps e s:=by
 refine⟨d.len,⟨d.first,d.last,d.cap,fun i hi=>?_,fun i h0 hi=>?_⟩,d.top⟩
 ·have:=h (i+1) (by omega) hi
  unfold mostL at this
  rw[Nat.add_sub_cancel]at this
  omega
 ·have:=h i h0 hi
  unfold mostL at this
  omega
theorem Dn.lower(h:PlOk l caps e){s:List Int}(d:Dn l caps e s){j:Nat}(h0:0<j)(hj:j<l.length)(hm:mostL l s j<atL s j):Dn l caps e (s.set j (mostL l s j)):=by
 have hl:=d.len
 have g:∀i,atL (s.set j (mostL l s j)) i=if j=i then mostL l s j else atL s i:=fun i=>set_getD (by omega)
 refine⟨by simpa using hl,?_,?_,fun i hi hn=>?_,fun x hx i hi=>?_⟩
 ·rw[g,if_neg (by omega)];exact d.first
 ·rw[g,if_neg (by omega)];exact d.last
 ·rw[g]
  have:=d.cap i hi hn
  split
  ·rename_i hji;subst hji;omega
  ·exact this
 ·rw[g]
  split
  ·rename_i hji
   subst hji
   have h1:=d.top x hx (j-1) (by omega)
   have h2:=d.top x hx (j+1) (by omega)
   have h3:=hx.up (j-1) (by omega)
   have h4:=hx.down j h0 hj
   rw[show j-1+1=j by omega]at h3
   unfold mostL;omega
  ·exact d.top x hx i hi
noncomputable def slG(l:List Bk)(caps:List Int)(e:Int)(i:Int)(b:Bool)(v:SV):List SV:=slotsS 85 [(0,LB l),(1,LI caps),(2,I64 e),(7,I64 l.length),(8,.row 0),(9,I64 i),(10,.bool b),(11,v)]
noncomputable abbrev RG(l:List Bk)(caps:List Int)(e:Int)(k:Nat)(i:Int)(b:Bool)(v:SV)(s:List Int):Prop:=RunsR Tryz.prog (fnOf Tryz.prog 264) (LI (rgL l caps e)) (loopOf Tryz.prog 264 k) (slG l caps e i b v) [some (.rows (.int .i64) s)]
theorem fsG:allOk Tryz.prog [fReaR] :=⟨o_reaR,trivial⟩
theorem rg2_exit{s:List Int}(i j:Int)(h:IsGr l caps e s):RG l caps e 1 i false (I64 j) s:=by
 unfold RG slG
 refine runsR_seg (kW fsG) (n:=1000) (hint:=.unit) (keep:=keepS 85 [0,1,2,7,8,9,10,11]) (p:=rg2_p) rfl ?_
 erw [rg2 l caps e l.length s i j false]
 unfold rg2_t
 refine⟨fun c=>(by cases c),fun _=>?_⟩
 show LI s=_
 rw[rgL_eq h]
theorem rg2_enter{s:List Int}(i j:Int)(h:RG l caps e 2 i false (I64 1) s):RG l caps e 1 i true (I64 j) s:=by
 unfold RG slG at h ⊢
 refine runsR_seg (kW fsG) (n:=1000) (hint:=.unit) (keep:=keepS 85 [0,1,2,7,8,9,10,11]) (p:=rg2_p) rfl ?_
 erw [rg2 l caps e l.length s i j true]
 unfold rg2_t
 exact⟨fun _=>⟨slotsS_len _ _,h⟩,fun c=>(by cases c)⟩
theorem rg2_enterA{s:List Int}(i:Int)(h:RG l caps e 2 i false (I64 1) s):RG l caps e 1 i true .undef s:=by
 unfold RG slG at h ⊢
 refine runsR_seg (kW fsG) (n:=1000) (hint:=.unit) (keep:=keepS 85 [0,1,2,7,8,9,10,11]) (p:=rg2a_p) rfl ?_
 erw [rg2a l caps e l.length s i true]
 unfold rg2a_t
 exact⟨fun _=>⟨slotsS_len _ _,h⟩,fun c=>(by cases c)⟩
theorem rg3_loop(h:PlOk l caps e)(hlen:l.length≤1000000)(i:Int)(m:Nat)(ih:∀ (s:List Int) (j:Int),Dn l caps e s→msum s+1≤m→RG l caps e 1 i true (I64 j) s):
  ∀ (k j:Nat) (s:List Int) (b:Bool),j+k=l.length→1≤j→Dn l caps e s→(b=false→msum s≤m∧∀t,0<t→t<j→atL s t≤mostL l s t)→(b=true→msum s+1≤m)→RG l caps e 2 i b (I64 j) s
 |0,j,s,b,hj,h1,d,hf,ht=>by
  have key:RG l caps e 1 i b (I64 j) s:=by
   cases b with
   |true=>exact ih s j d (ht rfl)
   |false=>exact rg2_exit i j (d.isGr fun t h0 h2=>(hf rfl).2 t h0 (by omega))
  unfold RG slG at key ⊢
  refine runsR_seg (kW fsG) (n:=1000) (hint:=.unit) (keep:=keepS 85 [0,1,2,7,8,9,10,11]) (p:=rg3_p) rfl ?_
  erw [rg3 l caps e l.length s i j b]
  unfold rg3_t
  exact⟨fun c=>absurd (of_decide_eq_true c) (by omega),fun _=>⟨slotsS_len _ _,key⟩⟩
 |k+1,j,s,b,hj,h1,d,hf,ht=>by
  have hl:=d.len
  have w1:i64.wrap ((j:Int)-1)=((j-1:Nat):Int):=by rw[w64 (by omega) (by omega)];omega
  have w2:i64.wrap ((j:Int)+1)=((j+1:Nat):Int):=by rw[w64 (by omega) (by omega)];omega
  have t0:(j:Int).toNat=j:=by omega
  have t1:((j-1:Nat):Int).toNat=j-1:=by omega
  have t2:((j+1:Nat):Int).toNat=j+1:=by omega
  have sb1:soundB (l.getD (j-1) dBk)=true:=getD_in (p:=fun b=>soundB b=true) h.snd (by omega)
  have sb2:soundB (l.getD j dBk)=true:=getD_in (p:=fun b=>soundB b=true) h.snd (by omega)
  have r1:=d.rng h (i:=j-1) (by omega)
  have r2:=d.rng h (i:=j+1) (by omega)
  have r0:=d.rng h (i:=j) (by omega)
  have q1:=h.reR (j-1)
  have q2:=h.reR j
  have w3:i64.wrap (s.getD (j+1) 0+rea (l.getD j dBk))=atL s (j+1)+reL l j:=by
   show i64.wrap (atL s (j+1)+reL l j)=_
   exact w64 (by omega) (by omega)
  have w4:i64.wrap (s.getD (j-1) 0+rea (l.getD (j-1) dBk))=atL s (j-1)+reL l (j-1):=by
   show i64.wrap (atL s (j-1)+reL l (j-1))=_
   exact w64 (by omega) (by omega)
  have hm:(if atL s (j+1)+reL l j<atL s (j-1)+reL l (j-1)then atL s (j+1)+reL l j else atL s (j-1)+reL l (j-1))=mostL l s j:=by unfold mostL;split<;>omega
  have hm0:0≤mostL l s j:=by unfold mostL;omega
  have hj2:(j:Int)<l.length:=by omega
  have yes:mostL l s j<atL s j→RG l caps e 2 i true (I64 ((j+1:Nat):Int)) (s.set j (mostL l s j)):=fun hc=>by
   have d':=d.lower h (by omega) (by omega) hc
   have ms:=msum_set (s:=s) (j:=j) (v:=mostL l s j) (by omega) hm0 hc
   refine rg3_loop h hlen i m ih k (j+1) _ true (by omega) (by omega) d' (fun c=>by cases c) fun _=>?_
   cases b with
   |true=>have:=ht rfl;omega
   |false=>have:=(hf rfl).1;omega
  have no:¬mostL l s j<atL s j→RG l caps e 2 i b (I64 ((j+1:Nat):Int)) s:=fun hc=>by
   refine rg3_loop h hlen i m ih k (j+1) s b (by omega) (by omega) d (fun c=>⟨(hf c).1,fun t h0 h2=>?_⟩) ht
   rcases Nat.lt_or_ge t j with k1|k1
   ·exact(hf c).2 t h0 k1
   ·rw[show t=j by omega];omega
  unfold RG slG at yes no ⊢
  refine runsR_seg (kW fsG) (n:=1000) (hint:=.unit) (keep:=keepS 85 [0,1,2,7,8,9,10,11]) (p:=rg3_p) rfl ?_
  erw [rg3 l caps e l.length s i j b]
  unfold rg3_t
  refine⟨fun _=>?_,fun c=>absurd (of_decide_eq_false c) (by omega)⟩
  simp only[w1,w2,t0,t1,t2,sb1,sb2,w3,w4,hm,Tree.holds,Bool.and_eq_true,decide_eq_true_eq,decide_eq_false_iff_not]
  refine⟨by omega,by omega,by omega,trivial,by omega,by omega,by omega,trivial,by omega,by omega,fun c=>⟨by omega,by omega,slotsS_len _ _,yes c⟩,fun c=>⟨slotsS_len _ _,no c⟩⟩
theorem rg2_loop(h:PlOk l caps e)(hlen:l.length≤1000000)(i:Int):∀ (m:Nat) (s:List Int) (j:Int),Dn l caps e s→msum s≤m→RG l caps e 1 i true (I64 j) s
 |0,s,j,d,hm=>rg2_enter i j (rg3_loop h hlen i 0 (fun _ _ _ k=>by omega) (l.length-1) 1 s false (by have:=h.ne;omega) (Nat.le_refl _) d (fun _=>⟨hm,fun t h0 h1=>by omega⟩) fun c=>by cases c)
 |m+1,s,j,d,hm=>rg2_enter i j (rg3_loop h hlen i (m+1) (fun s' j' d' k=>rg2_loop h hlen i m s' j' d' (by omega)) (l.length-1) 1 s false (by have:=h.ne;omega) (Nat.le_refl _) d (fun _=>⟨hm,fun t h0 h1=>by omega⟩) fun c=>by cases c)
end
section
variable {l:List Bk} {caps:List Int} {e:Int}
def iv(l:List Bk)(caps:List Int)(e:Int)(t:Nat):Int:=if t=0 then e else uL l caps t
def ivL(l:List Bk)(caps:List Int)(e:Int)(i:Nat):List Int:=(List.range i).map (iv l caps e)
theorem ivL_succ(i:Nat):ivL l caps e (i+1)=ivL l caps e i++[iv l caps e i] :=by unfold ivL;rw[List.range_succ,List.map_append];rfl
theorem ivL_len(i:Nat):(ivL l caps e i).length=i:=by simp[ivL]
theorem ivL_get{i t:Nat}(h:t<i):(ivL l caps e i).getD t 0=iv l caps e t:=by
 unfold ivL
 rw[List.getD_eq_getElem?_getD,List.getElem?_map,List.getElem?_range h]
 rfl
theorem ivL_one:ivL l caps e 1=[e] :=rfl
theorem ivL_last(h:PlOk l caps e):ivL l caps e l.length++[0] =ivL l caps e (l.length+1):=by
 have hn:=h.ne
 rw[ivL_succ]
 unfold iv
 rw[if_neg (by omega),uL_n]
theorem iv_dn(h:PlOk l caps e):Dn l caps e (ivL l caps e (l.length+1)):=by
 have hn:=h.ne
 have g:∀t,t≤l.length→atL (ivL l caps e (l.length+1)) t=iv l caps e t:=fun t ht=>ivL_get (by omega)
 refine⟨ivL_len _,?_,?_,fun i h0 hi=>?_,fun x hx i hi=>?_⟩
 ·rw[g 0 (by omega)];rfl
 ·rw[g _ (Nat.le_refl _)];unfold iv;rw[if_neg (by omega),uL_n]
 ·rw[g i (by omega)];unfold iv;rw[if_neg (by omega)];omega
 ·rw[g i hi]
  unfold iv
  split
  ·rename_i h0;subst h0;rw[hx.first];omega
  ·rename_i h0
   rcases Nat.lt_or_ge i l.length with k|k
   ·exact hx.cap i (by omega) k
   ·rw[show i=l.length by omega,hx.last,uL_n];omega
theorem rg1_exit(h:PlOk l caps e)(hlen:l.length≤1000000)(i:Int):RG l caps e 1 i true .undef (ivL l caps e (l.length+1)):=by
 refine rg2_enterA i ?_
 refine rg3_loop h hlen i (msum (ivL l caps e (l.length+1))) (fun s j d k=>rg2_loop h hlen i _ s j d (Nat.le_refl _)) (l.length-1) 1 _ false (by have:=h.ne;omega) (Nat.le_refl _) (iv_dn h) (fun _=>⟨Nat.le_refl _,fun t h0 h1=>by omega⟩) fun c=>by cases c
theorem min3(a b c:Int):(if b< (if a<c then a else c)then b else if a<c then a else c)=min c (min a b):=by(repeat' split)<;>omega
theorem rg1_loop(h:PlOk l caps e)(hlen:l.length≤1000000):∀ (k i:Nat),i+k=l.length→1≤i→
  RunsR Tryz.prog (fnOf Tryz.prog 264) (LI (rgL l caps e)) (loopOf Tryz.prog 264 0) (slotsS 85 [(0,LB l),(1,LI caps),(2,I64 e),(7,I64 l.length),(8,.row 0),(9,I64 i),(10,.undef),(11,.undef)]) [some (.rows (.int .i64) (ivL l caps e i))]
 |0,i,hi,h1=>by
  have hin:i=l.length:=by omega
  subst hin
  have ex:=rg1_exit h hlen (l.length:Int)
  unfold RG slG at ex
  refine runsR_seg (kW fsG) (n:=1000) (hint:=.unit) (keep:=keepS 85 [0,1,2,7,8,9,10,11]) (p:=rg1_p) rfl ?_
  erw [rg1 l caps e l.length (ivL l caps e l.length) l.length]
  unfold rg1_t
  refine⟨fun c=>absurd (of_decide_eq_true c) (by omega),fun _=>?_⟩
  rw[←ivL_last h]at ex
  exact⟨decide_eq_true (by rw[ivL_len];omega),slotsS_len _ _,ex⟩
 |k+1,i,hi,h1=>by
  have hl:=h.len
  have e1:i64.wrap ((i:Int)-1)=((i-1:Nat):Int):=by rw[w64 (by omega) (by omega)];omega
  have w2:i64.wrap ((i:Int)+1)=((i+1:Nat):Int):=by rw[w64 (by omega) (by omega)];omega
  have t0:(i:Int).toNat=i:=by omega
  have t1:((i-1:Nat):Int).toNat=i-1:=by omega
  have hx:min (caps.getD i 0) (min (l.getD (i-1) dBk).2.2.2.1 (l.getD i dBk).2.2.2.1)=iv l caps e i:=by
   unfold iv;rw[if_neg (by omega),uL_in (by omega) (by omega)];rfl
  have nx:=rg1_loop h hlen k (i+1) (by omega) (by omega)
  refine runsR_seg (kW fsG) (n:=1000) (hint:=.unit) (keep:=keepS 85 [0,1,2,7,8,9,10,11]) (p:=rg1_p) rfl ?_
  erw [rg1 l caps e l.length (ivL l caps e i) i]
  unfold rg1_t
  refine⟨fun _=>?_,fun c=>absurd (of_decide_eq_false c) (by omega)⟩
  simp only[e1,w2,t0,t1,min3,hx,←ivL_succ,ivL_len,Tree.holds,Bool.and_eq_true,decide_eq_true_eq,List.length_cons,List.length_nil]
  exact⟨by omega,by omega,by omega,by omega,slotsS_len _ _,nx⟩
theorem s_greR(h:PlOk l caps e)(hlen:l.length≤1000000):SCall Tryz.prog 264 [LB l,LI caps,I64 e] (LI (rgL l caps e)):=by
 have hn:=h.ne
 have hl:=h.len
 refine scallR_loops rfl rfl (by kernel_rfl) (runsR_seg (kW fsG) (n:=1000) (hint:=.unit) (keep:=keepS 85 [0,1,2,7,8,9,10,11]) (p:=rg0_p) (boxes:=[]) rfl ?_)
 have q:=rg0 l caps e
 unfold startS codeS at q
 erw [q]
 unfold rg0_t
 refine⟨slotsS_len _ _,?_⟩
 refine runsR_seg (kW fsG) (n:=1000) (hint:=.unit) (keep:=keepS 85 [0,1,2,7,8,9,10,11]) (p:=rg1a_p) rfl ?_
 erw [rg1a l caps e l.length 1]
 unfold rg1a_t
 by_cases h2:l.length=1
 ·have ex:=rg1_exit h hlen 1
  rw[←ivL_last h,h2,ivL_one]at ex
  unfold RG slG at ex
  refine⟨fun c=>absurd (of_decide_eq_true c) (by omega),fun _=>?_⟩
  rw[h2]at ex ⊢
  exact⟨rfl,slotsS_len _ _,ex⟩
 ·have e1:i64.wrap ((1:Int)-1)=((0:Nat):Int):=by decide
  have w2:i64.wrap ((1:Int)+1)=((2:Nat):Int):=by decide
  have t0:(1:Int).toNat=1:=rfl
  have t1:((0:Nat):Int).toNat=0:=rfl
  have hx:min (caps.getD 1 0) (min (l.getD 0 dBk).2.2.2.1 (l.getD 1 dBk).2.2.2.1)=iv l caps e 1:=by
   unfold iv;rw[if_neg (by omega),uL_in (by omega) (by omega)];rfl
  have nx:=rg1_loop h hlen (l.length-2) 2 (by omega) (by omega)
  have e2:[e] ++[iv l caps e 1] =ivL l caps e 2:=by rw[ivL_succ,ivL_one]
  refine⟨fun _=>?_,fun c=>absurd (of_decide_eq_false c) (by omega)⟩
  simp only[e1,w2,t0,t1,min3,hx,e2,Tree.holds,Bool.and_eq_true,decide_eq_true_eq,List.length_cons,List.length_nil]
  exact⟨by omega,by omega,by omega,by omega,slotsS_len _ _,nx⟩
theorem rgL_gr(h:PlOk l caps e):∃s,IsGr l caps e s:=by
 -- by descent
 have go:∀ (m:Nat) (s:List Int),msum s≤m→Dn l caps e s→∃s,IsGr l caps e s:=by
  intro m
  induction m with
  |zero=>
   intro s hm d
   refine⟨s,d.isGr fun j h0 hj=>?_⟩
   by_cases hc:mostL l s j<atL s j
   ·have r1:=d.rng h (i:=j-1) (by omega)
    have r2:=d.rng h (i:=j+1) (by omega)
    have q1:=h.reR (j-1)
    have q2:=h.reR j
    have ms:=msum_set (s:=s) (j:=j) (v:=mostL l s j) (by have:=d.len;omega) (by unfold mostL;omega) hc
    omega
   ·omega
  |succ m ih=>
   intro s hm d
   by_cases hx:∀j,0<j→j<l.length→atL s j≤mostL l s j
   ·exact⟨s,d.isGr hx⟩
   ·obtain⟨j,hj⟩:=Classical.not_forall.1 hx
    have h0:0<j:=Classical.byContradiction fun c=>hj fun a=>absurd a c
    have h1:j<l.length:=Classical.byContradiction fun c=>hj fun _ a=>absurd a c
    have hc:mostL l s j<atL s j:=by
     have:¬atL s j≤mostL l s j:=fun c=>hj fun _ _=>c
     omega
    have r1:=d.rng h (i:=j-1) (by omega)
    have r2:=d.rng h (i:=j+1) (by omega)
    have q1:=h.reR (j-1)
    have q2:=h.reR j
    have ms:=msum_set (s:=s) (j:=j) (v:=mostL l s j) (by have:=d.len;omega) (by unfold mostL;omega) hc
    exact ih _ (by omega) (d.lower h h0 h1 hc)
 exact go _ _ (Nat.le_refl _) (iv_dn h)
theorem rgL_is(h:PlOk l caps e):IsGr l caps e (rgL l caps e):=by
 obtain⟨s,hs⟩:=rgL_gr h
 rw[rgL_eq hs];exact hs
noncomputable def fGreR:Fact:=factPl 264 fun l caps e=>.req (okPl l caps e) (.leaf (LI (rgL l caps e)))
theorem o_greR:fGreR.ok Tryz.prog:=factPl_ok fun l caps e h=>s_greR (okPl_iff.1 h).2 (okPl_iff.1 h).1
end
section
variable {l:List Bk} {caps:List Int} {e:Int} {s:List Int}
def stepOK(l:List Bk)(caps:List Int)(s:List Int)(i:Nat):Prop:=0≤atL s i∧(i<l.length→atL s i≤crL l i)∧(0<i→atL s i≤crL l (i-1))∧(0<i→i<l.length→atL s i≤capL caps i)∧(i<l.length→atL s (i+1)-atL s i≤reL l i∧atL s i-atL s (i+1)≤reL l i)
def PickL(l:List Bk)(caps:List Int)(e:Int)(s:List Int):Prop:=Pick (crL l) (capL caps) (reL l) e l.length (atL s)
theorem pickL_iff:PickL l caps e s↔atL s 0=e∧atL s l.length=0∧∀i,i≤l.length→stepOK l caps s i:=Iff.rfl
noncomputable def chB(l:List Bk)(caps:List Int)(e:Int)(s:List Int):Bool:=@decide (PickL l caps e s) (Classical.propDecidable _)
theorem chB_yes(h:PickL l caps e s):chB l caps e s=true:=by unfold chB;exact @decide_eq_true _ (Classical.propDecidable _) h
theorem chB_no(h:¬PickL l caps e s):chB l caps e s=false:=by unfold chB;exact @decide_eq_false _ (Classical.propDecidable _) h
structure SOk (l:List Bk) (s:List Int):Prop where
 len:s.length=l.length+1
 rng:∀c∈s,0≤c∧c≤1099511627776
theorem SOk.get(h:SOk l s)(i:Nat):0≤atL s i∧atL s i≤1099511627776:=getD_all (p:=fun c:Int=>0≤c∧c≤1099511627776) h.rng (by decide) i
theorem sz_le{x r:Int}:sz x≤r↔x≤r∧-x≤r:=by unfold sz;split<;>omega
theorem fsC:allOk Tryz.prog [fReaR,fSz 295] :=⟨o_reaR,o_szC,trivial⟩
noncomputable abbrev RCh(l:List Bk)(caps:List Int)(e:Int)(s:List Int)(i:Nat):Prop:=RunsR Tryz.prog (fnOf Tryz.prog 265) (.bool (chB l caps e s)) (loopOf Tryz.prog 265 0) (slotsS 111 [(0,LB l),(1,LI caps),(2,I64 e),(3,LI s),(9,I64 l.length),(10,I64 i)]) []
theorem rc_zero(h:PlOk l caps e)(hlen:l.length≤1000000)(hs:SOk l s)(i:Nat)(hin:i<l.length)(hz:i=0)(nx:stepOK l caps s i→RCh l caps e s (i+1))(bad:¬stepOK l caps s i→chB l caps e s=false):RCh l caps e s i:=by
 have hl:=h.len
 have hsl:=hs.len
 have r0:=hs.get i
 have r2:=hs.get (i+1)
 have q1:=h.reR i
 have w2:i64.wrap ((i:Int)+1)=((i+1:Nat):Int):=by rw[w64 (by omega) (by omega)];omega
 have t0:(i:Int).toNat=i:=by omega
 have t1:((i-1:Nat):Int).toNat=i-1:=by omega
 have t2:((i+1:Nat):Int).toNat=i+1:=by omega
 have w3:i64.wrap (s.getD (i+1) 0-s.getD i 0)=atL s (i+1)-atL s i:=w64 (by unfold atL at r0 r2;omega) (by unfold atL at r0 r2;omega)
 have iR:inR (atL s (i+1)-atL s i) (-4611686018427387904) 4611686018427387904=true:=inR_iff.2 (by omega)
 have c1:(l.getD i dBk).2.2.2.1=crL l i:=rfl
 have c2:(l.getD (i-1) dBk).2.2.2.1=crL l (i-1):=rfl
 have c3:caps.getD i 0=capL caps i:=rfl
 have c4:rea (l.getD i dBk)=reL l i:=rfl
 have c5:s.getD i 0=atL s i:=rfl
 have dle:decide ((i:Int)≤l.length)=true:=decide_eq_true (by omega)
 unfold RCh at nx ⊢
 refine runsR_seg (kW fsC) (n:=1000) (hint:=.unit) (keep:=keepS 111 [0,1,2,3,9,10]) (p:=rc1_p) rfl ?_
 erw [rc1 l caps e s l.length i]
 unfold rc1_t
 have szz:=@sz_le (atL s (i+1)-atL s i) (reL l i)
 have sb:soundB (l.getD i dBk)=true:=getD_in (p:=fun b=>soundB b=true) h.snd hin
 have d1:decide ((i:Int)<l.length)=true:=decide_eq_true (by omega)
 have d2:decide ((i:Int)>0)=false:=decide_eq_false (by omega)
 simp only[dle,d1,d2,w2,t0,t2,w3,iR,sb,c1,c3,c4,c5,Tree.holds,Bool.and_eq_true,decide_eq_true_eq,decide_eq_false_iff_not,Bool.true_eq_false,Bool.false_eq_true,false_implies,true_implies,true_and,and_true,not_false_eq_true]
 (repeat' (first|exact⟨slotsS_len _ _,nx (by unfold stepOK;omega)⟩|apply And.intro|intro _))
 all_goals first
  |omega
  |(rw[bad (by unfold stepOK;omega)])
theorem rc_pos(h:PlOk l caps e)(hlen:l.length≤1000000)(hs:SOk l s)(i:Nat)(hin:i<l.length)(hz:0<i)(nx:stepOK l caps s i→RCh l caps e s (i+1))(bad:¬stepOK l caps s i→chB l caps e s=false):RCh l caps e s i:=by
 have hl:=h.len
 have hsl:=hs.len
 have r0:=hs.get i
 have r2:=hs.get (i+1)
 have q1:=h.reR i
 have w2:i64.wrap ((i:Int)+1)=((i+1:Nat):Int):=by rw[w64 (by omega) (by omega)];omega
 have t0:(i:Int).toNat=i:=by omega
 have t1:((i-1:Nat):Int).toNat=i-1:=by omega
 have t2:((i+1:Nat):Int).toNat=i+1:=by omega
 have w3:i64.wrap (s.getD (i+1) 0-s.getD i 0)=atL s (i+1)-atL s i:=w64 (by unfold atL at r0 r2;omega) (by unfold atL at r0 r2;omega)
 have iR:inR (atL s (i+1)-atL s i) (-4611686018427387904) 4611686018427387904=true:=inR_iff.2 (by omega)
 have c1:(l.getD i dBk).2.2.2.1=crL l i:=rfl
 have c2:(l.getD (i-1) dBk).2.2.2.1=crL l (i-1):=rfl
 have c3:caps.getD i 0=capL caps i:=rfl
 have c4:rea (l.getD i dBk)=reL l i:=rfl
 have c5:s.getD i 0=atL s i:=rfl
 have dle:decide ((i:Int)≤l.length)=true:=decide_eq_true (by omega)
 unfold RCh at nx ⊢
 refine runsR_seg (kW fsC) (n:=1000) (hint:=.unit) (keep:=keepS 111 [0,1,2,3,9,10]) (p:=rc1_p) rfl ?_
 erw [rc1 l caps e s l.length i]
 unfold rc1_t
 have szz:=@sz_le (atL s (i+1)-atL s i) (reL l i)
 have sb:soundB (l.getD i dBk)=true:=getD_in (p:=fun b=>soundB b=true) h.snd hin
 have d1:decide ((i:Int)<l.length)=true:=decide_eq_true (by omega)
 have w1:i64.wrap ((i:Int)-1)=((i-1:Nat):Int):=by rw[w64 (by omega) (by omega)];omega
 have d2:decide ((i:Int)>0)=true:=decide_eq_true (by omega)
 simp only[dle,d1,d2,w1,w2,t0,t1,t2,w3,iR,sb,c1,c2,c3,c4,c5,Tree.holds,Bool.and_eq_true,decide_eq_true_eq,decide_eq_false_iff_not,Bool.true_eq_false,Bool.false_eq_true,false_implies,true_implies,true_and,and_true,not_false_eq_true]
 (repeat' (first|exact⟨slotsS_len _ _,nx (by unfold stepOK;omega)⟩|apply And.intro|intro _))
 all_goals first
  |omega
  |(rw[bad (by unfold stepOK;omega)])
theorem rc_end(h:PlOk l caps e)(hlen:l.length≤1000000)(hs:SOk l s)(i:Nat)(hin:l.length≤i)(hle:i≤l.length)(nx:stepOK l caps s i→RCh l caps e s (i+1))(bad:¬stepOK l caps s i→chB l caps e s=false):RCh l caps e s i:=by
 have hl:=h.len
 have hsl:=hs.len
 have r0:=hs.get i
 have r2:=hs.get (i+1)
 have q1:=h.reR i
 have w2:i64.wrap ((i:Int)+1)=((i+1:Nat):Int):=by rw[w64 (by omega) (by omega)];omega
 have t0:(i:Int).toNat=i:=by omega
 have t1:((i-1:Nat):Int).toNat=i-1:=by omega
 have t2:((i+1:Nat):Int).toNat=i+1:=by omega
 have w3:i64.wrap (s.getD (i+1) 0-s.getD i 0)=atL s (i+1)-atL s i:=w64 (by unfold atL at r0 r2;omega) (by unfold atL at r0 r2;omega)
 have iR:inR (atL s (i+1)-atL s i) (-4611686018427387904) 4611686018427387904=true:=inR_iff.2 (by omega)
 have c1:(l.getD i dBk).2.2.2.1=crL l i:=rfl
 have c2:(l.getD (i-1) dBk).2.2.2.1=crL l (i-1):=rfl
 have c3:caps.getD i 0=capL caps i:=rfl
 have c4:rea (l.getD i dBk)=reL l i:=rfl
 have c5:s.getD i 0=atL s i:=rfl
 have dle:decide ((i:Int)≤l.length)=true:=decide_eq_true (by omega)
 unfold RCh at nx ⊢
 refine runsR_seg (kW fsC) (n:=1000) (hint:=.unit) (keep:=keepS 111 [0,1,2,3,9,10]) (p:=rc1_p) rfl ?_
 erw [rc1 l caps e s l.length i]
 unfold rc1_t
 have szz:=@sz_le (atL s (i+1)-atL s i) (reL l i)
 have d1:decide ((i:Int)<l.length)=false:=decide_eq_false (by omega)
 have hne:=h.ne
 have w1:i64.wrap ((i:Int)-1)=((i-1:Nat):Int):=by rw[w64 (by omega) (by omega)];omega
 have d2:decide ((i:Int)>0)=true:=decide_eq_true (by omega)
 simp only[dle,d1,d2,w1,w2,t0,t1,t2,w3,iR,c1,c2,c3,c4,c5,Tree.holds,Bool.and_eq_true,decide_eq_true_eq,decide_eq_false_iff_not,Bool.true_eq_false,Bool.false_eq_true,false_implies,true_implies,true_and,and_true,not_false_eq_true]
 (repeat' (first|exact⟨slotsS_len _ _,nx (by unfold stepOK;omega)⟩|apply And.intro|intro _))
 all_goals first
  |omega
  |(rw[bad (by unfold stepOK;omega)])
theorem rc_loop(h:PlOk l caps e)(hlen:l.length≤1000000)(hs:SOk l s)(h0:atL s 0=e)(hn:atL s l.length=0):∀ (k i:Nat),i+k=l.length+1→(∀t,t<i→stepOK l caps s t)→RCh l caps e s i
 |0,i,hi,hp=>by
  unfold RCh
  refine runsR_seg (kW fsC) (n:=1000) (hint:=.unit) (keep:=keepS 111 [0,1,2,3,9,10]) (p:=rc1_p) rfl ?_
  erw [rc1 l caps e s l.length i]
  unfold rc1_t
  refine⟨fun c=>absurd (of_decide_eq_true c) (by omega),fun _=>?_⟩
  rw[chB_yes (pickL_iff.2 ⟨h0,hn,fun t ht=>hp t (by omega)⟩)]
  exact rfl
 |k+1,i,hi,hp=>by
  have nx:stepOK l caps s i→RCh l caps e s (i+1):=fun ok=>rc_loop h hlen hs h0 hn k (i+1) (by omega) fun t ht=>by
   rcases Nat.lt_or_ge t i with c|c
   ·exact hp t c
   ·rw[show t=i by omega];exact ok
  have bad:¬stepOK l caps s i→chB l caps e s=false:=fun c=>chB_no fun q=>c ((pickL_iff.1 q).2.2 i (by omega))
  rcases Nat.lt_or_ge i l.length with hin|hin
  ·rcases Nat.eq_zero_or_pos i with hz|hz
   ·exact rc_zero h hlen hs i hin hz nx bad
   ·exact rc_pos h hlen hs i hin hz nx bad
  ·exact rc_end h hlen hs i hin (by omega) nx bad
theorem s_cho(h:PlOk l caps e)(hlen:l.length≤1000000)(hs:SOk l s):SCall Tryz.prog 265 [LB l,LI caps,I64 e,LI s] (.bool (chB l caps e s)):=by
 have hsl:=hs.len
 refine scallR_loops rfl rfl (by kernel_rfl) (runsR_seg (kW fsC) (n:=1000) (hint:=.unit) (keep:=keepS 111 [0,1,2,3,9,10]) (p:=rc0_p) (boxes:=[]) rfl ?_)
 have q:=rc0 l caps e s
 unfold startS codeS at q
 erw [q]
 unfold rc0_t
 have t0:(l.length:Int).toNat=l.length:=by omega
 have no0:¬atL s 0=e→chB l caps e s=false:=fun c=>chB_no fun k=>c k.1
 have non:¬atL s l.length=0→chB l caps e s=false:=fun c=>chB_no fun k=>c k.2.1
 simp only[t0,Tree.holds,Bool.and_eq_true,decide_eq_true_eq,bne_iff_ne,bne_eq_false_iff_eq,ne_eq]
 exact⟨by omega,fun c=>by rw[no0 c],fun c=>⟨by omega,fun d=>by rw[non d],fun d=>⟨slotsS_len _ _,rc_loop h hlen hs c d (l.length+1) 0 (by omega) fun t ht=>absurd ht (Nat.not_lt_zero _)⟩⟩⟩
def okCh(l:List Bk)(caps:List Int)(e:Int)(s:List Int):Bool:=okPl l caps e&& (decide (s.length=l.length+1)&&s.all fun c=>inR c 0 1099511627776)
theorem okCh_iff:okCh l caps e s=true↔(l.length≤1000000∧PlOk l caps e)∧SOk l s:=by
 simp only[okCh,Bool.and_eq_true,okPl_iff,decide_eq_true_eq,List.all_eq_true,inR_iff]
 exact⟨fun⟨h1,h2,h3⟩=>⟨h1,h2,h3⟩,fun⟨h1,h2,h3⟩=>⟨h1,h2,h3⟩⟩
noncomputable def fCho:Fact:=⟨265,fun args=>match args with
 |[.list (.pair (.pair (.int .i64) (.pair (.int .i64) (.pair (.int .i64) (.int .i64)))) (.pair (.int .i64) (.pair (.int .i64) (.pair (.int .i64) (.int .i64))))) l,.list (.int .i64) caps,.int .i64 e,.list (.int .i64) s] =>some (.req (okCh l caps e s) (.leaf (.bool (chB l caps e s))))
 |_=>none⟩
theorem o_cho:fCho.ok Tryz.prog:=fun args t ht=>by
 simp only[fCho]at ht
 split at ht
 ·injection ht with ht;subst ht
  intro h
  have k:=okCh_iff.1 h
  exact s_cho k.1.2 k.1.1 k.2
 ·cases ht
end
def pr0_p:Plan:=.all
noncomputable def pr0_t(l:List Bk)(caps:List Int)(e:Int):Tree Stop:= .leaf (.at (loopOf Tryz.prog 199 0) 85 (slotsS 85 [(0,.list tyBk l),(1,.list (Ty.int IntKind.i64) caps),(2,.int .i64 e),(10,SV.undef),(11,SV.undef),(13,.list tyBk l),(14,.int .i64 (↑l.length:Int)),(15,.int .i64 0),(62,SV.undef),(63,SV.undef)]) [])
theorem pr0(l:List Bk)(caps:List Int)(e:Int):segR (Env.of Tryz.prog (sumOf [fSndR,fGreR,fCho])) 1000 (fnOf Tryz.prog 199) tyBk (keepS 85 [0,1,2,10,11,13,14,15,62,63]) (codeS Tryz.prog 199) pr0_p (startS Tryz.prog 199 [LB l,LI caps,I64 e]) [] =pr0_t l caps e:=by kernel_rfl
def pr1_p:Plan:=.fork (.fork .all .all) (.fork (.ln 5 (.lit .all)) (.ln 3 (.fork (.lit (.lit (.fork (.ln 10 (.lit .all)) (.ln 10 (.fork .all (.fork .all (.fork .all (.fork .all .all)))))))) (.ln 7 (.fork .all (.fork .all (.fork .all .all)))))))
noncomputable def pr1_t(l:List Bk)(caps:List Int)(e i:Int):Tree Stop:=let y1:Tree Stop:=.leaf (.done (.tuple [.list tyBk [],.int .i64 1]));let y2:=(↑l.length:Int);let y3:=Ty.int IntKind.i64;let y0:Tree Stop:=.node (y2==0) (.leaf (.done (.tuple [.list tyBk [],.int .i64 0]))) (.req (okPl l caps e) (.req (okCh l caps e (rgL l caps e)) (.node (!chB l caps e (rgL l caps e)) (.leaf (.done (.tuple [.list tyBk [],.int .i64 8]))) (.node (l.isEmpty) (.leaf (.at (loopOf Tryz.prog 199 1) 85 (slotsS 85 [(0,.list tyBk l),(1,.list y3 caps),(2,.int .i64 e),(10,.list y3 (rgL l caps e)),(11,SV.arr 0 0 0),(13,.list tyBk l),(14,.int .i64 y2),(15,.int .i64 i),(62,.int .i64 0),(63,.int .i64 0)]) [some (.cells [])])) (.req (decide ((0+l.length)*64≤140737488355328)) (.leaf (.at (loopOf Tryz.prog 199 1) 85 (slotsS 85 [(0,.list tyBk l),(1,.list y3 caps),(2,.int .i64 e),(10,.list y3 (rgL l caps e)),(11,SV.row 0),(13,.list tyBk l),(14,.int .i64 y2),(15,.int .i64 i),(62,.int .i64 y2),(63,.int .i64 0)]) [some (.rows tyBk l)]))))))); .node (decide (i<y2)) (.req (decide (0≤i)&&decide (i<y2)) (.node (!soundB (l.getD i.toNat dBk)) y1 (.leaf (.at (loopOf Tryz.prog 199 0) 85 (slotsS 85 [(0,.list tyBk l),(1,.list y3 caps),(2,.int .i64 e),(10,SV.undef),(11,SV.undef),(13,.list tyBk l),(14,.int .i64 y2),(15,.int .i64 (i64.wrap (i+1))),(62,SV.undef),(63,SV.undef)]) [])))) (.node ((↑caps.length:Int) != y2) y1 (.node (decide (y2>0)) (.node (decide (e<0)) y1 (.req (decide (0<y2)) (.node (decide (e> (l.getD 0 dBk).2.2.2.1)) y1 y0))) y0))
theorem pr1(l:List Bk)(caps:List Int)(e i:Int):segR (Env.of Tryz.prog (sumOf [fSndR,fGreR,fCho])) 1000 (fnOf Tryz.prog 199) tyBk (keepS 85 [0,1,2,10,11,13,14,15,62,63]) (loopOf Tryz.prog 199 0) pr1_p (slotsS 85 [(0,LB l),(1,LI caps),(2,I64 e),(10,.undef),(11,.undef),(13,LB l),(14,I64 l.length),(15,I64 i),(62,.undef),(63,.undef)]) [] =pr1_t l caps e i:=by kernel_rfl
def pr2_p:Plan:=.fork (.all) (.all)
noncomputable def pr2_t(l:List Bk)(caps:List Int)(e:Int)(s:List Int)(o:List Bk)(i j k:Int):Tree Stop:=let y0:=o.set i.toNat ((o.getD i.toNat dBk).1,(o.getD i.toNat dBk).2.1,s.getD i.toNat 0,(o.getD i.toNat dBk).2.2.2);let y1:=y0.getD i.toNat dBk; .node (decide (i< (↑l.length:Int))) (.req (decide (0≤i)&&decide (i< (↑s.length:Int))) (.req (decide (0≤i)&&decide (i< (↑o.length:Int))) (.req (decide (i.toNat<o.length)) (.req (decide (0≤i64.wrap (i+1))&&decide (i64.wrap (i+1)< (↑s.length:Int))) (.req (decide (0≤i)&&decide (i< (↑y0.length:Int))) (.req (decide (i.toNat<y0.length)) (.leaf (.at (loopOf Tryz.prog 199 1) 85 (slotsS 85 [(0,.list tyBk l),(1,.list (Ty.int IntKind.i64) caps),(2,.int .i64 e),(10,.list (Ty.int IntKind.i64) s),(11,SV.row 0),(13,.list tyBk l),(14,.int .i64 j),(15,.int .i64 k),(62,.int .i64 (↑l.length:Int)),(63,.int .i64 (i64.wrap (i+1)))]) [some (.rows tyBk (y0.set i.toNat (y1.1,y1.2.1,y1.2.2.1,y1.2.2.2.1,s.getD (i64.wrap (i+1)).toNat 0)))])))))))) (.leaf (.done (.tuple [.list tyBk o,.int .i64 0])))
theorem pr2(l:List Bk)(caps:List Int)(e:Int)(s:List Int)(o:List Bk)(i j k:Int):segR (Env.of Tryz.prog (sumOf [fSndR,fGreR,fCho])) 1000 (fnOf Tryz.prog 199) tyBk (keepS 85 [0,1,2,10,11,13,14,15,62,63]) (loopOf Tryz.prog 199 1) pr2_p (slotsS 85 [(0,LB l),(1,LI caps),(2,I64 e),(10,LI s),(11,.row 0),(13,LB l),(14,I64 j),(15,I64 k),(62,I64 l.length),(63,I64 i)]) [some (.rows tyBk o)] =pr2_t l caps e s o i j k:=by kernel_rfl
section
variable {l:List Bk} {caps:List Int} {e:Int}
theorem IsGr.dn{s:List Int}(g:IsGr l caps e s):Dn l caps e s:=⟨g.len,g.sol.first,g.sol.last,g.sol.cap,g.top⟩
theorem rgL_sok(h:PlOk l caps e):SOk l (rgL l caps e):=by
 have g:=rgL_is h
 refine⟨g.len,fun c hc=>?_⟩
 obtain⟨t,ht,rfl⟩:=List.getElem_of_mem hc
 have hl:=g.len
 have:=g.dn.rng h (i:=t) (by omega)
 unfold atL at this
 rw[List.getD_eq_getElem?_getD,List.getElem?_eq_getElem ht]at this
 exact this
theorem pick_rgL(h:PlOk l caps e)(he:e≤crL l 0):(PickL l caps e (rgL l caps e)↔gL l caps e 0=e)∧(gL l caps e 0=e→∀i,i≤l.length→atL (rgL l caps e) i=gL l caps e i):=
 pick_iff h.lim he (fun i=>(h.crR i).1) (rgL_is h).sol (rgL_is h).top
theorem fsPR:allOk Tryz.prog [fSndR,fGreR,fCho] :=⟨o_sndR,o_greR,o_cho,trivial⟩
theorem pr2_loop(h:PlOk l caps e)(hlen:l.length≤1000000){s:List Int}(hs:s.length=l.length+1)(hg:∀t,t≤l.length→s.getD t 0=gL l caps e t):∀ (k i:Nat) (o:List Bk) (j m:Int),i+k=l.length→o.length=l.length→(∀t,t<i→o.getD t dBk=setEE (l.getD t dBk) (gL l caps e t) (gL l caps e (t+1)))→(∀t,i≤t→o.getD t dBk=l.getD t dBk)→
  RunsR Tryz.prog (fnOf Tryz.prog 199) (.tuple [LB (plB l (gL l caps e)),I64 0]) (loopOf Tryz.prog 199 1) (slotsS 85 [(0,LB l),(1,LI caps),(2,I64 e),(10,LI s),(11,.row 0),(13,LB l),(14,I64 j),(15,I64 m),(62,I64 l.length),(63,I64 i)]) [some (.rows tyBk o)]
 |0,i,o,j,m,hi,ho,h1,h2=>by
  refine runsR_seg (kW fsPR) (n:=1000) (hint:=tyBk) (keep:=keepS 85 [0,1,2,10,11,13,14,15,62,63]) (p:=pr2_p) rfl ?_
  erw [pr2 l caps e s o i j m]
  unfold pr2_t
  refine⟨fun c=>absurd (of_decide_eq_true c) (by omega),fun _=>?_⟩
  show SV.tuple [LB o,I64 0] =_
  rw[list_eq_mapa (d:=dBk) ho fun t ht=>h1 t (by omega)]
  rfl
 |k+1,i,o,j,m,hi,ho,h1,h2=>by
  refine runsR_seg (kW fsPR) (n:=1000) (hint:=tyBk) (keep:=keepS 85 [0,1,2,10,11,13,14,15,62,63]) (p:=pr2_p) rfl ?_
  erw [pr2 l caps e s o i j m]
  unfold pr2_t
  have t0:(i:Int).toNat=i:=by omega
  have w1:i64.wrap ((i:Int)+1)=((i+1:Nat):Int):=by rw[w64 (by omega) (by omega)];omega
  have t1:((i+1:Nat):Int).toNat=i+1:=by omega
  refine⟨fun _=>?_,fun c=>absurd (of_decide_eq_false c) (by omega)⟩
  simp only[t0,w1,t1,hg i (by omega),hg (i+1) (by omega),hs,Tree.holds,Bool.and_eq_true,decide_eq_true_eq,decide_eq_false_iff_not,List.length_set]
  refine⟨by omega,by omega,by omega,by omega,by omega,by omega,slotsS_len _ _,?_⟩
  refine pr2_loop h hlen hs hg k (i+1) _ j m (by omega) (by simpa using ho) (fun t ht=>?_) (fun t ht=>?_)
  ·rw[set_getDa (by simp;omega)]
   split
   ·rename_i hit
    subst hit
    rw[set_getDa (by omega),if_pos rfl,h2 i (by omega)]
    rfl
   ·rename_i hit
    rw[set_getDa (by omega),if_neg hit]
    exact h1 t (by omega)
  ·rw[set_getDa (by simp;omega),if_neg (by omega),set_getDa (by omega),if_neg (by omega)]
   exact h2 t (by omega)
theorem pr1_loop(h:PlOk l caps e)(hlen:l.length≤1000000):∀ (k i:Nat),i+k=l.length→
  RunsR Tryz.prog (fnOf Tryz.prog 199) (plS l caps e) (loopOf Tryz.prog 199 0) (slotsS 85 [(0,LB l),(1,LI caps),(2,I64 e),(10,.undef),(11,.undef),(13,LB l),(14,I64 l.length),(15,I64 i),(62,.undef),(63,.undef)]) []
 |k,i,hi=>by
  have hd:(plS l caps e).data=true:=by unfold plS;(repeat' split)<;>rfl
  refine runsR_seg (kW fsPR) (n:=1000) (hint:=tyBk) (keep:=keepS 85 [0,1,2,10,11,13,14,15,62,63]) (p:=pr1_p) hd ?_
  erw [pr1 l caps e i]
  unfold pr1_t
  have t0:(i:Int).toNat=i:=by omega
  match k,hi with
  |k+1,hi=>
   have w1:i64.wrap ((i:Int)+1)=((i+1:Nat):Int):=by rw[w64 (by omega) (by omega)];omega
   have hsb:soundB (l.getD i dBk)=true:=getD_in (p:=fun b=>soundB b=true) h.snd (by omega)
   have hi2:(i:Int)<l.length:=by omega
   have:=pr1_loop h hlen k (i+1) (by omega)
   simp only[t0,w1,hsb,hi2,Tree.holds,Bool.and_eq_true,decide_eq_true_eq,decide_eq_false_iff_not,Bool.not_true,Bool.false_eq_true,false_implies,true_and,not_true_eq_false,and_true,true_implies]
   exact⟨by omega,slotsS_len _ _,this⟩
  |0,hi=>
   have hi2:¬((i:Int)<l.length):=by omega
   have hne:=h.ne
   have hl:=h.len
   have he:=h.ent
   have ok:okPl l caps e=true:=okPl_iff.2 ⟨hlen,h⟩
   have sok:=rgL_sok h
   have oc:okCh l caps e (rgL l caps e)=true:=okCh_iff.2 ⟨⟨hlen,h⟩,sok⟩
   have lz:((l.length:Int)==0)=false:=beq_eq_false_iff_ne.2 (by omega)
   have le:l.isEmpty=false:=by cases l with
    |nil=>simp at hne
    |cons=>rfl
   have lc:((caps.length:Int) !=(l.length:Int))=false:=bne_eq_false_iff_eq.2 (by omega)
   have hc:crL l 0=(l.getD 0 dBk).2.2.2.1:=rfl
   have no:¬¬True:=fun c=>c trivial
   unfold plS
   simp only[t0,hi2,lc,lz,le,ok,oc,Tree.holds,Bool.and_eq_true,decide_eq_true_eq,decide_eq_false_iff_not,Bool.false_eq_true,false_implies,true_and,true_implies,not_false_eq_true,bne_iff_ne,bne_eq_false_iff_eq,ne_eq,beq_self_eq_true,Bool.not_eq_true',Bool.not_eq_false']
   refine⟨fun _=>⟨fun a=>absurd a (by omega),fun _=>⟨by omega,fun a=>?_,fun a=>⟨fun b=>?_,fun b=>⟨by omega,slotsS_len _ _,?_⟩⟩⟩⟩,fun a=>absurd a (by omega)⟩
   ·rw[if_neg (by omega)];rfl
   ·have p:=pick_rgL h (show e≤crL l 0 by omega)
    have:¬gL l caps e 0=e:=fun c=>by
     rw[chB_yes (p.1.2 c)]at b;cases b
    rw[if_pos (by omega),if_neg this];rfl
   ·have p:=pick_rgL h (show e≤crL l 0 by omega)
    have g0:gL l caps e 0=e:=by
     refine p.1.1 ?_
     refine Classical.byContradiction fun c=>?_
     rw[chB_no c]at b;cases b
    rw[if_pos (by omega),if_pos g0]
    exact pr2_loop h hlen sok.len (p.2 g0) l.length 0 l (l.length:Int) (i:Int) (by omega) rfl (fun t ht=>absurd ht (Nat.not_lt_zero _)) (fun t _=>rfl)
theorem s_plaR(h:PlOk l caps e)(hlen:l.length≤1000000):SCall Tryz.prog 199 [LB l,LI caps,I64 e] (plS l caps e):=by
 have hd:(plS l caps e).data=true:=by unfold plS;(repeat' split)<;>rfl
 refine scallR_loops rfl hd (by kernel_rfl) (runsR_seg (kW fsPR) (n:=1000) (hint:=tyBk) (keep:=keepS 85 [0,1,2,10,11,13,14,15,62,63]) (p:=pr0_p) (boxes:=[]) hd ?_)
 have q:=pr0 l caps e
 unfold startS codeS at q
 erw [q]
 unfold pr0_t
 exact⟨slotsS_len _ _,pr1_loop h hlen l.length 0 (by omega)⟩
end
def fPlaR:Fact:=factPl 199 plT
theorem o_plaR:fPlaR.ok Tryz.prog:=factPl_ok fun l caps e=>plT_says fun ok=>s_plaR (okPl_iff.1 ok).2 (okPl_iff.1 ok).1
def mn(a b:Int):Int:=if b<a then b else a
def sqv(b:Bk)(i:Int):Int:=match validB b&&inR i 1 (dom b.1)with
 |true=>mn (mn b.2.2.2.1 (b.2.2.1+2*b.2.1*i)) (b.2.2.2.2+2*b.2.1*(dom b.1+1-i))
 |false=>0
theorem sqv_no{b:Bk}{i:Int}(h:¬(validB b=true∧1≤i∧i≤dom b.1)):sqv b i=0:=by
 unfold sqv
 cases q:validB b&&inR i 1 (dom b.1)with
 |false=>rfl
 |true=>rw[Bool.and_eq_true,inR_iff]at q;exact absurd q h
theorem sqv_yes{b:Bk}{i:Int}(h:validB b=true∧1≤i∧i≤dom b.1):sqv b i=mn (mn b.2.2.2.1 (b.2.2.1+2*b.2.1*i)) (b.2.2.2.2+2*b.2.1*(dom b.1+1-i)):=by
 unfold sqv;rw[show(validB b&&inR i 1 (dom b.1))=true by rw[Bool.and_eq_true,inR_iff];exact h]
theorem acc_bnd{a j:Int}(ha:1≤a∧a≤16777216)(hj:1≤j∧j≤16777217):2≤2*a*j∧2*a*j≤562949986975744:=by
 have e:2*a*j=2*(a*j):=Int.mul_assoc _ _ _
 have h1:1*1≤a*j:=Int.mul_le_mul ha.1 hj.1 (by omega) (by omega)
 have h2:a*j≤16777216*16777217:=Int.mul_le_mul ha.2 hj.2 (by omega) (by omega)
 omega
theorem sqv_bnd{b:Bk}{i:Int}(h:validB b=true∧1≤i∧i≤dom b.1):1≤sqv b i∧sqv b i≤1099511627776:=by
 have v:=validB_iff.1 h.1
 have d:=dom_range b.1
 have p:=acc_bnd v.1.2.1 (j:=i) (by omega)
 have q:=acc_bnd v.1.2.1 (j:=dom b.1+1-i) (by omega)
 rw[sqv_yes h];unfold mn;(repeat' split)<;>omega
theorem sqv_all(b:Bk)(i:Int):0≤sqv b i∧sqv b i≤1099511627776:=by
 by_cases h:validB b=true∧1≤i∧i≤dom b.1
 ·have:=sqv_bnd h;omega
 ·rw[sqv_no h];omega
theorem s_sqv(b:Bk)(i:Int):SCall Tryz.prog 245 [Bk.sv b,I64 i] (I64 (sqv b i)):=
 scall_vE (hB (l:=[fVld,fDom]) (k:=[]) (j:=[]) (i:=[]) ([] :List Nat) ([277] :List Nat) ([] :List Nat) ([] :List Nat) (⟨o_vld,o_dom,trivial⟩) noneOk noneOk noneOk) 1000 (.fork .all (.fork (.ln 3 (.lit .all)) (.ln 3 (.fork .all .all))))
  (t:=.node (!validB b) (.leaf (.int .i64 0)) (.node (decide (i<1)) (.leaf (.int .i64 0)) (.node (decide (i>dom b.1)) (.leaf (.int .i64 0)) (.leaf (.int .i64 (if i64.wrap (b.2.2.2.2+i64.wrap (i64.wrap (2*b.2.1)*i64.wrap (i64.wrap (dom b.1+1)-i)))<if i64.wrap (b.2.2.1+i64.wrap (i64.wrap (2*b.2.1)*i))<b.2.2.2.1 then i64.wrap (b.2.2.1+i64.wrap (i64.wrap (2*b.2.1)*i))else b.2.2.2.1 then i64.wrap (b.2.2.2.2+i64.wrap (i64.wrap (2*b.2.1)*i64.wrap (i64.wrap (dom b.1+1)-i)))else if i64.wrap (b.2.2.1+i64.wrap (i64.wrap (2*b.2.1)*i))<b.2.2.2.1 then i64.wrap (b.2.2.1+i64.wrap (i64.wrap (2*b.2.1)*i))else b.2.2.2.1))))))
  (by kernel_rfl) (by
   have d:=dom_range b.1
   simp only[Tree.holds,sL,ne_eq,beq_iff_eq,bne_iff_ne,eq_self,beq_eq_false_iff_ne,bne_eq_false_iff_eq,implies_true]
   (repeat' (first|apply And.intro|intro _))
   all_goals first
    |(rw[sqv_no (by first|omega|grind)];rfl)
    |(have hv:validB b=true∧1≤i∧i≤dom b.1:=by first|grind|omega
      have v:=validB_iff.1 hv.1
      have p:=acc_bnd v.1.2.1 (j:=i) (by omega)
      have q:=acc_bnd v.1.2.1 (j:=dom b.1+1-i) (by omega)
      refine sv_int ?_
      rw[w64 (x:=2*b.2.1) (by omega) (by omega),w64 (x:=2*b.2.1*i) (by omega) (by omega),w64 (x:=b.2.2.1+2*b.2.1*i) (by omega) (by omega),w64 (x:=dom b.1+1) (by omega) (by omega),w64 (x:=dom b.1+1-i) (by omega) (by omega),w64 (x:=2*b.2.1*(dom b.1+1-i)) (by omega) (by omega),w64 (x:=b.2.2.2.2+2*b.2.1*(dom b.1+1-i)) (by omega) (by omega),sqv_yes hv]
      rfl)) (by kernel_rfl) (by kernel_rfl)
theorem s_sqvR(b:Bk)(i:Int):SCall Tryz.prog 239 [Bk.sv b,I64 i] (I64 (sqv b i)):=
 scall_v mix [fVldR,fDomR] ⟨o_vldR,o_domR,trivial⟩ 1000 (.fork .all (.fork (.ln 3 (.lit .all)) (.ln 3 (.fork .all .all))))
  (t:=.node (!validB b) (.leaf (.int .i64 0)) (.node (decide (i<1)) (.leaf (.int .i64 0)) (.node (decide (i>dom b.1)) (.leaf (.int .i64 0)) (.leaf (.int .i64 (if i64.wrap (b.2.2.2.2+i64.wrap (i64.wrap (2*b.2.1)*i64.wrap (i64.wrap (dom b.1+1)-i)))<if i64.wrap (b.2.2.1+i64.wrap (i64.wrap (2*b.2.1)*i))<b.2.2.2.1 then i64.wrap (b.2.2.1+i64.wrap (i64.wrap (2*b.2.1)*i))else b.2.2.2.1 then i64.wrap (b.2.2.2.2+i64.wrap (i64.wrap (2*b.2.1)*i64.wrap (i64.wrap (dom b.1+1)-i)))else if i64.wrap (b.2.2.1+i64.wrap (i64.wrap (2*b.2.1)*i))<b.2.2.2.1 then i64.wrap (b.2.2.1+i64.wrap (i64.wrap (2*b.2.1)*i))else b.2.2.2.1))))))
  (by kernel_rfl) (by
   have d:=dom_range b.1
   simp only[Tree.holds,sL,ne_eq,beq_iff_eq,bne_iff_ne,eq_self,beq_eq_false_iff_ne,bne_eq_false_iff_eq,implies_true]
   (repeat' (first|apply And.intro|intro _))
   all_goals first
    |(rw[sqv_no (by first|omega|grind)];rfl)
    |(have hv:validB b=true∧1≤i∧i≤dom b.1:=by first|grind|omega
      have v:=validB_iff.1 hv.1
      have p:=acc_bnd v.1.2.1 (j:=i) (by omega)
      have q:=acc_bnd v.1.2.1 (j:=dom b.1+1-i) (by omega)
      refine sv_int ?_
      rw[w64 (x:=2*b.2.1) (by omega) (by omega),w64 (x:=2*b.2.1*i) (by omega) (by omega),w64 (x:=b.2.2.1+2*b.2.1*i) (by omega) (by omega),w64 (x:=dom b.1+1) (by omega) (by omega),w64 (x:=dom b.1+1-i) (by omega) (by omega),w64 (x:=2*b.2.1*(dom b.1+1-i)) (by omega) (by omega),w64 (x:=b.2.2.2.2+2*b.2.1*(dom b.1+1-i)) (by omega) (by omega),sqv_yes hv]
      rfl)) (by kernel_rfl) (by kernel_rfl)
def fSqv:Fact:=factBI 245 fun b i=>.leaf (I64 (sqv b i))
def fSqvR:Fact:=factBI 239 fun b i=>.leaf (I64 (sqv b i))
theorem o_sqv:fSqv.ok Tryz.prog:=factBI_ok (s_sqv)
theorem o_sqvR:fSqvR.ok Tryz.prog:=factBI_ok (s_sqvR)
def ivl(b:Bk)(i t:Int):Int:=if 1≤sqv b i∧1≤t∧t≤1048576 then(t+isq (sqv b i)-1) / isq (sqv b i)else 0
theorem s_ivl(b:Bk)(i t:Int):SCall Tryz.prog 183 [Bk.sv b,I64 i,I64 t] (I64 (ivl b i t)):=
 scall_v mix [fSqv,fIsq] ⟨o_sqv,o_isq,trivial⟩ 1000 (.fork (.ln 5 (.lit .all)) (.lit (.lit (.fork (.lit (.lit (.lit .all))) (.lit (.lit (.fork .all .all)))))))
  (t:=.node (sqv b i==0) (.leaf (.int .i64 0)) (.node (decide (t<1)) (.leaf (.int .i64 0)) (.node (decide (t>1048576)) (.leaf (.int .i64 0)) (.req (inR (sqv b i) 0 9223372036854775807) (.req (!isq (sqv b i)==0) (.leaf (.int .i64 (i64.wrap ((i64.wrap (i64.wrap (t+isq (sqv b i))-1)).tdiv (isq (sqv b i)))))))))))
  (by kernel_rfl) (by
   have s:=sqv_all b i
   simp only[Tree.holds,inR_iff,sL,ne_eq,beq_iff_eq,bne_iff_ne,eq_self,beq_eq_false_iff_ne,bne_eq_false_iff_eq,implies_true]
   (repeat' (first|apply And.intro|intro _))
   all_goals first
    |omega
    |(refine sv_int ?_;unfold ivl;rw[if_neg (by omega)])
    |(have p:=isq_pos (n:=sqv b i) (by omega)
      have q:=isq_lt (sqv b i)
      first
      |omega
      |(refine sv_int ?_
        unfold ivl
        rw[if_pos (by omega),w64 (x:=t+isq (sqv b i)) (by omega) (by omega),w64 (x:=t+isq (sqv b i)-1) (by omega) (by omega),tdiv_bnd (by omega) (by omega) (by omega),Int.tdiv_eq_ediv_of_nonneg (by omega)]))) (by kernel_rfl) (by kernel_rfl)
theorem s_ivlR(b:Bk)(i t:Int):SCall Tryz.prog 178 [Bk.sv b,I64 i,I64 t] (I64 (ivl b i t)):=
 scall_v mix [fSqvR,fIsqR] ⟨o_sqvR,o_isqR,trivial⟩ 1000 (.fork (.ln 5 (.lit .all)) (.lit (.lit (.fork (.lit (.lit (.lit .all))) (.lit (.lit (.fork .all .all)))))))
  (t:=.node (decide (sqv b i<1)) (.leaf (.int .i64 0)) (.node (decide (t<1)) (.leaf (.int .i64 0)) (.node (decide (t>1048576)) (.leaf (.int .i64 0)) (.req (inR (sqv b i) 0 9223372036854775807) (.req (!isq (sqv b i)==0) (.leaf (.int .i64 (i64.wrap ((i64.wrap (i64.wrap (t+isq (sqv b i))-1)).tdiv (isq (sqv b i)))))))))))
  (by kernel_rfl) (by
   have s:=sqv_all b i
   simp only[Tree.holds,inR_iff,sL,ne_eq,beq_iff_eq,bne_iff_ne,eq_self,beq_eq_false_iff_ne,bne_eq_false_iff_eq,implies_true]
   (repeat' (first|apply And.intro|intro _))
   all_goals first
    |omega
    |(refine sv_int ?_;unfold ivl;rw[if_neg (by omega)])
    |(have p:=isq_pos (n:=sqv b i) (by omega)
      have q:=isq_lt (sqv b i)
      first
      |omega
      |(refine sv_int ?_
        unfold ivl
        rw[if_pos (by omega),w64 (x:=t+isq (sqv b i)) (by omega) (by omega),w64 (x:=t+isq (sqv b i)-1) (by omega) (by omega),tdiv_bnd (by omega) (by omega) (by omega),Int.tdiv_eq_ediv_of_nonneg (by omega)]))) (by kernel_rfl) (by kernel_rfl)
end Go.Proofs.YtnkaepnblikcdaaGreat
namespace Go.Sx
open Go.RowKit
noncomputable def cap1(m:Mem)(v:SV):SV:=match v with
 |.ptr id off=>match m.get id with
  |some (.cells cs)=>match cs with
   |[.int k n] =>.eptr (.int k) [n] 0 off
   |_=>.ptr id off
  |_=>.ptr id off
 |v=>v
noncomputable def capL(m:Mem):List SV→List SV
 |[] =>[]
 |x::xs=>cap1 m x::capL m xs
noncomputable def capF(m:Mem)(v:SV):SV:=match v with
 |.fn f a b=>.fn f (capL m a) (capL m b)
 |v=>cap1 m v
noncomputable def capFL(m:Mem):List SV→List SV
 |[] =>[]
 |x::xs=>capF m x::capFL m xs
noncomputable def capA(m:Mem)(v:SV):SV:=match v with
 |.agg cs=>.agg (capFL m cs)
 |.tuple cs=>.tuple (capFL m cs)
 |v=>capF m v
section
variable {w0:World} {R0:RSet} {ρ:Rho} {w:World} {m:Mem}
theorem cap1_rep(h:MRel w0 R0 ρ w m){v:SV}{u:Value}(hv:Rep (RO w0 R0 ρ w m) ρ m.next w v u)(hd:(cap1 m v).data=true):Rep (RO w0 R0 ρ w ⟨0,.e⟩) ρ 0 w (cap1 m v) u:=by
 have hro:=h.bare.2
 unfold cap1 at hd ⊢
 split at hd
 ·rename_i id off
  split at hd
  ·rename_i cs hg
   split at hd
   ·rename_i k n
    obtain⟨arr,e,fr,k1,k2,k3⟩:=h.box id _ hg
    obtain⟨c,us,hc,h1,h2⟩:=k3
    refine⟨(ρ id).1,0,?_,Nat.zero_lt_one,.inr ⟨h.lo id _ hg trivial,h.hi id _ hg trivial,(fun id B hB=>by cases hB),h.hid.2 id _ hg trivial⟩,fun i hi=>?_⟩
    ·rw[hv.2]
     show _=Value.pointer (some ⟨_,0+(0*1+off),none⟩)
     rw[Nat.zero_mul,Nat.zero_add,Nat.zero_add]
    have hi0:i<1:=hi
    obtain rfl:i=0:=by omega
    refine⟨[.int k n],rfl,fun j hj=>?_,rfl⟩
    have hj0:j<1:=hj
    obtain rfl:j=0:=by omega
    have h2:us=[] :=h2
    have h1:c=.int k n:=h1
    subst h1 h2
    rw[cell_of_row w _ _ arr e fr k1]
    have:arr=#[.int k n] :=by
     apply Array.ext'
     rw[hc]
    rw[this];rfl
   ·cases hd
  ·cases hd
 ·exact Rep.data hro _ _ hd hv
theorem capL_rep(h:MRel w0 R0 ρ w m):∀{cs:List SV} {us:List Value},RepL (RO w0 R0 ρ w m) ρ m.next w cs us→dataL (capL m cs)=true→RepL (RO w0 R0 ρ w ⟨0,.e⟩) ρ 0 w (capL m cs) us
 |[],_,hr,_=>hr
 |x::xs,us,hr,hd=>by
  obtain⟨u,us',rfl,h2,h3⟩:=hr
  unfold capL at hd ⊢
  rw[dataL_cons]at hd
  cases h4:(cap1 m x).data with
  |false=>rw[h4]at hd;cases hd
  |true=>rw[h4]at hd;exact⟨u,us',rfl,cap1_rep h h2 h4,capL_rep h h3 hd⟩
theorem capF_rep(h:MRel w0 R0 ρ w m){v:SV}{u:Value}(hv:Rep (RO w0 R0 ρ w m) ρ m.next w v u)(hd:(capF m v).data=true):Rep (RO w0 R0 ρ w ⟨0,.e⟩) ρ 0 w (capF m v) u:=by
 unfold capF at hd ⊢
 split at hd
 ·rename_i f a b
  obtain⟨vs,us,h1,h2,h3⟩:=hv
  rw[data_fn]at hd
  cases h4:dataL (capL m a)with
  |false=>rw[h4]at hd;cases hd
  |true=>rw[h4]at hd;exact⟨vs,us,h1,capL_rep h h2 h4,capL_rep h h3 hd⟩
 ·exact cap1_rep h hv hd
theorem capFL_rep(h:MRel w0 R0 ρ w m):∀{cs:List SV} {us:List Value},RepL (RO w0 R0 ρ w m) ρ m.next w cs us→dataL (capFL m cs)=true→RepL (RO w0 R0 ρ w ⟨0,.e⟩) ρ 0 w (capFL m cs) us
 |[],_,hr,_=>hr
 |x::xs,us,hr,hd=>by
  obtain⟨u,us',rfl,h2,h3⟩:=hr
  unfold capFL at hd ⊢
  rw[dataL_cons]at hd
  cases h4:(capF m x).data with
  |false=>rw[h4]at hd;cases hd
  |true=>rw[h4]at hd;exact⟨u,us',rfl,capF_rep h h2 h4,capFL_rep h h3 hd⟩
theorem capA_rep(h:MRel w0 R0 ρ w m){v:SV}{u:Value}(hv:Rep (RO w0 R0 ρ w m) ρ m.next w v u)(hd:(capA m v).data=true):Rep (RO w0 R0 ρ w ⟨0,.e⟩) ρ 0 w (capA m v) u:=by
 unfold capA at hd ⊢
 split at hd
 ·obtain⟨vs,h1,h2⟩:=hv
  exact⟨vs,h1,capFL_rep h h2 (by rw[←data_agg];exact hd)⟩
 ·obtain⟨vs,h1,h2⟩:=hv
  exact⟨vs,h1,capFL_rep h h2 (by rw[←data_tuple];exact hd)⟩
 ·exact capF_rep h hv hd
end
theorem scall_cap{P:Program}{E:Env}(hK:Known P E){n:Nat}{f:FuncId}{args:List SV}{p:Plan}{v:SV}(hd:dataL args=true)(hvd:v.data=true)(h:(execFn E n f args p).holds fun x=>capA x.2 x.1=v):SCall P f args v:=by
 intro m w0 R0 ρ w vs hm hvs
 unfold execFn at h
 split at h
 ·rename_i fn hfn
  have hf:=hK.e.fn f fn hfn
  split at h
  ·rename_i body hb
   split at h
   ·rename_i hn
    obtain⟨fr,h1,h2,h3,h4⟩:=make_holds h
    obtain⟨out,h5,h6⟩:=exec_ok hK.e hK.s hK.mix n _ _ _ _ _ _ h1
    cases out with
    |stop it fr' m'=>exact h5.elim
    |pan v fr' m'=>exact h5.elim
    |ret p' fr' mc=>
     dsimp only at h5
     obtain⟨v',h7,h8⟩:=results_holds hK.e h5
     have h7:capA mc v'=v:=h7
     subst h7
     rw[callFunc_enter hf hb hn]
     obtain⟨o1,o2⟩:=own_mem hm ρ
     have hfr:=frame_rel h2 h3 h4 (RepL.data (R':=RO w (RS w0 R0 ρ w m) ρ w ⟨0,.e⟩) (ρ':=ρ) (n':=0) o2 args vs hd hvs)
     refine Calls.mono (calls_of_reach hf hb h6 h8 o1 hfr) fun e w' ⟨u,he,ρ',g1,g2,g3⟩=>⟨u,he,?_⟩
     have hst:=Hand.start hm g1.bare.1
     obtain⟨k1,k2⟩:=hst.finish hm g1.bare.1
     exact⟨ρ,k1,k2,Rep.data (fun b hb=>hst.ro b (.inr hb)) _ u hvd (capA_rep g1 g3 hvd)⟩
   ·exact h.elim
  ·exact h.elim
 ·exact h.elim
noncomputable def Tree.capT:Tree (SV×Mem)→Tree SV
 |.leaf x=>.leaf (capA x.2 x.1)
 |.node b t f=>.node b t.capT f.capT
 |.req b t=>.req b t.capT
 |.fail n=>.fail n
theorem Tree.capT_holds{L:SV→Prop}:∀t:Tree (SV×Mem),t.capT.holds L→t.holds fun x=>L (capA x.2 x.1)
 |.leaf _,h=>h
 |.node _ t f,h=>⟨fun hb=>capT_holds t (h.1 hb),fun hb=>capT_holds f (h.2 hb)⟩
 |.req _ t,h=>⟨h.1,capT_holds t h.2⟩
 |.fail _,h=>h.elim
theorem scall_cE{P:Program}{E:Env}(hK:Known P E)(n:Nat)(p:Plan){f:FuncId}{args:List SV}{v:SV}{t:Tree SV}
  (ht:(execFn E n f args p).capT=t) (h:t.holds fun x=>x=v) (hd:dataL args=true) (hv:v.data=true):SCall P f args v:=
 scall_cap (n:=n) (p:=p) hK hd hv (Tree.capT_holds _ (by rw[ht];exact h))
end Go.Sx
namespace Go.Proofs.YtnkaepnblikcdaaGreat
open Go.Sx
def fIvl:Fact:=factBII 183 fun b i t=>.leaf (I64 (ivl b i t))
def fIvlR:Fact:=factBII 178 fun b i t=>.leaf (I64 (ivl b i t))
theorem o_ivl:fIvl.ok Tryz.prog:=factBII_ok (s_ivl)
theorem o_ivlR:fIvlR.ok Tryz.prog:=factBII_ok (s_ivlR)
def madeM(m:Mo):V4:=match validB m.1&&inR m.2.1 0 (dom m.1.1)with
 |true=>at4 m.1.1 m.2.1
 |false=>z4
def endedM(m:Mo):Bool:=validB m.1&&decide (m.2.1=dom m.1.1)
theorem madeM_yes{m:Mo}(h:validB m.1=true∧0≤m.2.1∧m.2.1≤dom m.1.1):madeM m=at4 m.1.1 m.2.1:=by
 unfold madeM;rw[show(validB m.1&&inR m.2.1 0 (dom m.1.1))=true by rw[Bool.and_eq_true,inR_iff];exact h]
theorem madeM_no{m:Mo}(h:¬(validB m.1=true∧0≤m.2.1∧m.2.1≤dom m.1.1)):madeM m=z4:=by
 unfold madeM
 cases q:validB m.1&&inR m.2.1 0 (dom m.1.1)with
 |false=>rfl
 |true=>rw[Bool.and_eq_true,inR_iff]at q;exact absurd q h
theorem endedM_iff{m:Mo}:endedM m=true↔validB m.1=true∧m.2.1=dom m.1.1:=by simp only[endedM,Bool.and_eq_true,decide_eq_true_eq]
def startM(b:Bk)(t:Int):Mo:=(b,0,ivl b 1 t)
def m0:Mo:=(((0,0,0,0),0,0,0,0),0,0)
def okS(b:Bk)(t:Int):Bool:=validB b&&inR t 1 1048576
theorem okS_iff{b:Bk}{t:Int}:okS b t=true↔validB b=true∧1≤t∧t≤1048576:=by simp only[okS,Bool.and_eq_true,inR_iff]
def startV(b:Bk)(t:Int):SV:=match okS b t with
 |true=>.tuple [Mo.sv (startM b t),I64 0]
 |false=>.tuple [Mo.sv m0,I64 1]
theorem startV_yes{b:Bk}{t:Int}(h:okS b t=true):startV b t=.tuple [Mo.sv (startM b t),I64 0] :=by unfold startV;rw[h]
theorem startV_no{b:Bk}{t:Int}(h:okS b t=false):startV b t=.tuple [Mo.sv m0,I64 1] :=by unfold startV;rw[h]
def runsM(m:Mo)(t:Int):Bool:=validB m.1&& (inR m.2.1 0 (dom m.1.1-1)&&inR m.2.2 1 (ivl m.1 (m.2.1+1) t))
theorem runsM_iff{m:Mo}{t:Int}:runsM m t=true↔validB m.1=true∧(0≤m.2.1∧m.2.1≤dom m.1.1-1)∧1≤m.2.2∧m.2.2≤ivl m.1 (m.2.1+1) t:=by simp only[runsM,Bool.and_eq_true,inR_iff]
def tickM(m:Mo)(t:Int):Mo:=match runsM m t with
 |true=>if 1<m.2.2 then(m.1,m.2.1,m.2.2-1)else(m.1,m.2.1+1,if m.2.1+1=dom m.1.1 then 0 else ivl m.1 (m.2.1+2) t)
 |false=>m
def tickP(m:Mo)(t:Int):V4:=match runsM m t with
 |true=>if 1<m.2.2 then z4 else pul m.1.1 (m.2.1+1)
 |false=>z4
def tickS(m:Mo)(t:Int):SV:=.tuple [Mo.sv (tickM m t),V4.sv (tickP m t)]
theorem tickS_no{m:Mo}{t:Int}(h:runsM m t=false):tickS m t=.tuple [Mo.sv m,V4.sv z4] :=by unfold tickS tickM tickP;rw[h]
theorem tickS_one{m:Mo}{t:Int}(h:runsM m t=true)(h1:1<m.2.2):tickS m t=.tuple [Mo.sv (m.1,m.2.1,m.2.2-1),V4.sv z4] :=by unfold tickS tickM tickP;rw[h];simp only[if_pos h1]
theorem tickS_two{m:Mo}{t:Int}(h:runsM m t=true)(h1:¬1<m.2.2):tickS m t=.tuple [Mo.sv (m.1,m.2.1+1,if m.2.1+1=dom m.1.1 then 0 else ivl m.1 (m.2.1+2) t),V4.sv (pul m.1.1 (m.2.1+1))] :=by unfold tickS tickM tickP;rw[h];simp only[if_neg h1]
theorem ivl_bnd(b:Bk)(i t:Int):0≤ivl b i t∧ivl b i t≤4296015872:=by
 unfold ivl
 split
 ·rename_i c
  have p:=isq_pos (n:=sqv b i) c.1
  have q:=isq_lt (sqv b i)
  have h0:0≤(t+isq (sqv b i)-1) / isq (sqv b i):=Int.ediv_nonneg (by omega) (by omega)
  have h1:(t+isq (sqv b i)-1) / isq (sqv b i)≤t+isq (sqv b i)-1:=Int.ediv_le_self _ (by omega)
  omega
 ·omega
theorem valid_dom{b:Bk}(h:validB b=true):1≤dom b.1∧dom b.1≤16777216:=⟨dom_pos (validB_iff.1 h).1.1,(dom_range _).2⟩
theorem ivl_pos{b:Bk}{i t:Int}(h:1≤ivl b i t):1≤t∧t≤1048576:=by
 unfold ivl at h
 split at h
 ·rename_i c;exact c.2
 ·omega
theorem s_made(m:Mo):SCall Tryz.prog 205 [Mo.sv m] (V4.sv (madeM m)):=
 scall_v mix [fVld,fDom,fAt] ⟨o_vld,o_dom,o_at,trivial⟩ 1000 (.fork (.ln 11 (.lit .all)) (.ln 3 (.fork (.ln 7 (.lit .all)) (.ln 7 (.fork .all .all)))))
  (t:=.node (!validB m.1) (.leaf (.agg [.int .i64 0,.int .i64 0,.int .i64 0,.int .i64 0])) (.node (decide (m.2.1<0)) (.leaf (.agg [.int .i64 0,.int .i64 0,.int .i64 0,.int .i64 0])) (.node (decide (m.2.1>dom m.1.1)) (.leaf (.agg [.int .i64 0,.int .i64 0,.int .i64 0,.int .i64 0])) (.leaf (.agg [.int .i64 (at4 m.1.1 m.2.1).1,.int .i64 (at4 m.1.1 m.2.1).2.1,.int .i64 (at4 m.1.1 m.2.1).2.2.1,.int .i64 (at4 m.1.1 m.2.1).2.2.2])))))
  (by kernel_rfl) (by simp only[Tree.holds,sL,ne_eq,beq_iff_eq,bne_iff_ne,eq_self,beq_eq_false_iff_ne,bne_eq_false_iff_eq,implies_true];(repeat' (first|apply And.intro|intro _));all_goals first|(rw[madeM_no (by first|omega|grind)];rfl)|(rw[madeM_yes (by first|omega|grind)];rfl)) (by kernel_rfl) (by rfl)
theorem s_madeR(m:Mo):SCall Tryz.prog 132 [Mo.sv m] (V4.sv (madeM m)):=
 scall_v mix [fVldR,fDomR,fAtR] ⟨o_vldR,o_domR,o_atR,trivial⟩ 1000 (.fork (.ln 11 (.lit .all)) (.ln 3 (.fork (.ln 7 (.lit .all)) (.ln 7 (.fork .all .all)))))
  (t:=.node (!validB m.1) (.leaf (.agg [.int .i64 0,.int .i64 0,.int .i64 0,.int .i64 0])) (.node (decide (m.2.1<0)) (.leaf (.agg [.int .i64 0,.int .i64 0,.int .i64 0,.int .i64 0])) (.node (decide (m.2.1>dom m.1.1)) (.leaf (.agg [.int .i64 0,.int .i64 0,.int .i64 0,.int .i64 0])) (.leaf (.agg [.int .i64 (at4 m.1.1 m.2.1).1,.int .i64 (at4 m.1.1 m.2.1).2.1,.int .i64 (at4 m.1.1 m.2.1).2.2.1,.int .i64 (at4 m.1.1 m.2.1).2.2.2])))))
  (by kernel_rfl) (by simp only[Tree.holds,sL,ne_eq,beq_iff_eq,bne_iff_ne,eq_self,beq_eq_false_iff_ne,bne_eq_false_iff_eq,implies_true];(repeat' (first|apply And.intro|intro _));all_goals first|(rw[madeM_no (by first|omega|grind)];rfl)|(rw[madeM_yes (by first|omega|grind)];rfl)) (by kernel_rfl) (by rfl)
theorem s_ended(m:Mo):SCall Tryz.prog 166 [Mo.sv m] (.bool (endedM m)):=
 scall_v mix [fVld,fDom] ⟨o_vld,o_dom,trivial⟩ 1000 (.fork (.ln 6 (.lit .all)) (.ln 6 (.lit .all)))
  (t:=.node (validB m.fst)
 (.leaf (SV.bool (m.snd.fst==dom m.fst.fst)))
 (.leaf (SV.bool false)))
   (by kernel_rfl) (by simp only[Tree.holds,sL,ne_eq,beq_iff_eq,bne_iff_ne,eq_self,beq_eq_false_iff_ne,bne_eq_false_iff_eq,implies_true];(repeat' (first|apply And.intro|intro _));all_goals(refine holds_bool ?_;rw[endedM_iff];(try simp only[sL,ne_eq,beq_iff_eq,bne_iff_ne,eq_self,beq_eq_false_iff_ne,bne_eq_false_iff_eq,implies_true]); first|omega|grind)) (by kernel_rfl) (by kernel_rfl)
theorem s_endedR(m:Mo):SCall Tryz.prog 173 [Mo.sv m] (.bool (endedM m)):=
 scall_v mix [fVldR,fDomR] ⟨o_vldR,o_domR,trivial⟩ 1000 (.fork (.ln 6 (.lit .all)) (.ln 6 (.lit .all)))
  (t:=.node (validB m.fst)
 (.leaf (SV.bool (m.snd.fst==dom m.fst.fst)))
 (.leaf (SV.bool false)))
   (by kernel_rfl) (by simp only[Tree.holds,sL,ne_eq,beq_iff_eq,bne_iff_ne,eq_self,beq_eq_false_iff_ne,bne_eq_false_iff_eq,implies_true];(repeat' (first|apply And.intro|intro _));all_goals(refine holds_bool ?_;rw[endedM_iff];(try simp only[sL,ne_eq,beq_iff_eq,bne_iff_ne,eq_self,beq_eq_false_iff_ne,bne_eq_false_iff_eq,implies_true]); first|omega|grind)) (by kernel_rfl) (by kernel_rfl)
theorem s_at1(t:Int):SCall Tryz.prog 229 [I64 t] (.agg [.fn 276 [] [.eptr (.int .i64) [t] 0 0]]):=
 scall_cE (hB (l:=[]) (k:=[]) (j:=[]) (i:=[]) ([] :List Nat) ([] :List Nat) ([] :List Nat) ([] :List Nat) (trivial) noneOk noneOk noneOk) 1000 (.all)
  (t:=.leaf (SV.agg [SV.fn 276 [] [SV.eptr (Ty.int IntKind.i64) [t] 0 0]]))
  (by kernel_rfl) (by exact rfl) (by kernel_rfl) (by kernel_rfl)
def fAt1:Fact:=factI 229 fun t=>.leaf (.agg [.fn 276 [] [.eptr (.int .i64) [t] 0 0]])
theorem o_at1:fAt1.ok Tryz.prog:=factI_ok s_at1
theorem s_start(b:Bk)(t:Int):SCall Tryz.prog 174 [Bk.sv b,I64 t] (startV b t):=
 scall_v mix [fVld,fDom,fIvl,fAt1] ⟨o_vld,o_dom,o_ivl,o_at1,trivial⟩ 1000 (.fork (.ln 3 (.lit .all)) (.lit (.fork (.ln 4 (.fork .all (.fork .all .all))) (.ln 4 (.lit .all)))))
  (t:=let y0:Tree SV:=.leaf (.tuple [.agg [.int .i64 0,.int .i64 0,.int .i64 0,.int .i64 0,.int .i64 0,.int .i64 0,.int .i64 0,.int .i64 0,.int .i64 0,.int .i64 0],.int .i64 1]);.node (!validB b) y0 (.node (decide (t≥1)) (.node (!decide (t≤1048576)) y0 (.node (0==dom b.1) (.leaf (.tuple [.agg [.int .i64 b.1.1,.int .i64 b.1.2.1,.int .i64 b.1.2.2.1,.int .i64 b.1.2.2.2,.int .i64 b.2.1,.int .i64 b.2.2.1,.int .i64 b.2.2.2.1,.int .i64 b.2.2.2.2,.int .i64 0,.int .i64 0],.int .i64 0])) (.leaf (.tuple [.agg [.int .i64 b.1.1,.int .i64 b.1.2.1,.int .i64 b.1.2.2.1,.int .i64 b.1.2.2.2,.int .i64 b.2.1,.int .i64 b.2.2.1,.int .i64 b.2.2.2.1,.int .i64 b.2.2.2.2,.int .i64 0,.int .i64 (ivl b 1 t)],.int .i64 0])))) y0))
  (by kernel_rfl) (by
   have dp:∀b:Bk,validB b=true→1≤dom b.1∧dom b.1≤16777216:=fun _ h=>valid_dom h
   simp only[Tree.holds,sL,ne_eq,beq_iff_eq,bne_iff_ne,eq_self,beq_eq_false_iff_ne,bne_eq_false_iff_eq,implies_true];(repeat' (first|apply And.intro|intro _));
   all_goals first
    |(rw[startV_no (Bool.eq_false_iff.2 (by rw[ne_eq,okS_iff];first|omega|grind))];rfl)
    |(rw[startV_yes (okS_iff.2 (by first|omega|grind))];rfl)
    |(exfalso;grind)) (by kernel_rfl) (by unfold startV;split<;>rfl)
theorem s_startR(b:Bk)(t:Int):SCall Tryz.prog 85 [Bk.sv b,I64 t] (startV b t):=
 scall_v mix [fVldR,fDomR,fIvlR] ⟨o_vldR,o_domR,o_ivlR,trivial⟩ 1000 (.fork (.ln 6 (.lit .all)) (.lit (.lit (.fork (.ln 3 (.lit .all)) (.ln 3 (.fork .all .all))))))
  (t:=let y0:Tree SV:=.leaf (.tuple [.agg [.int .i64 0,.int .i64 0,.int .i64 0,.int .i64 0,.int .i64 0,.int .i64 0,.int .i64 0,.int .i64 0,.int .i64 0,.int .i64 0],.int .i64 1]);.node (decide (t<1)) y0 (.node (decide (t>1048576)) y0 (.node (!validB b) y0 (.leaf (.tuple [.agg [.int .i64 b.1.1,.int .i64 b.1.2.1,.int .i64 b.1.2.2.1,.int .i64 b.1.2.2.2,.int .i64 b.2.1,.int .i64 b.2.2.1,.int .i64 b.2.2.2.1,.int .i64 b.2.2.2.2,.int .i64 0,.int .i64 (ivl b 1 t)],.int .i64 0])))))
  (by kernel_rfl) (by
   have dp:∀b:Bk,validB b=true→1≤dom b.1∧dom b.1≤16777216:=fun _ h=>valid_dom h
   simp only[Tree.holds,sL,ne_eq,beq_iff_eq,bne_iff_ne,eq_self,beq_eq_false_iff_ne,bne_eq_false_iff_eq,implies_true];(repeat' (first|apply And.intro|intro _));
   all_goals first
    |(rw[startV_no (Bool.eq_false_iff.2 (by rw[ne_eq,okS_iff];first|omega|grind))];rfl)
    |(rw[startV_yes (okS_iff.2 (by first|omega|grind))];rfl)
    |(exfalso;grind)) (by kernel_rfl) (by unfold startV;split<;>rfl)
theorem s_tick(m:Mo)(t:Int):SCall Tryz.prog 165 [Mo.sv m,I64 t] (tickS m t):=
 scall_v mix [fVld,fDom,fIvl,fPul,fAt1] ⟨o_vld,o_dom,o_ivl,o_pul,o_at1,trivial⟩ 1000 (.fork (.lit (.lit (.fork (.ln 4 (.lit .all)) (.lit (.lit (.fork (.ln 14 (.lit .all)) (.ln 3 (.fork (.ln 10 (.lit .all)) (.ln 7 (.fork (.lit (.lit (.lit .all))) (.fork (.ln 13 (.fork .all (.fork .all (.fork .all .all)))) (.ln 13 (.lit .all))))))))))))) (.ln 7 (.lit .all)))
  (t:=let y0:Tree SV:=.leaf (.tuple [.agg [.int .i64 m.1.1.1,.int .i64 m.1.1.2.1,.int .i64 m.1.1.2.2.1,.int .i64 m.1.1.2.2.2,.int .i64 m.1.2.1,.int .i64 m.1.2.2.1,.int .i64 m.1.2.2.2.1,.int .i64 m.1.2.2.2.2,.int .i64 m.2.1,.int .i64 m.2.2],.agg [.int .i64 0,.int .i64 0,.int .i64 0,.int .i64 0]]);let y1:=i64.wrap (m.2.1+1);let y2:=pul m.1.1 y1;.node (decide (t≥1)) (.node (!decide (t≤1048576)) y0 (.node (!validB m.1) y0 (.node (decide (m.2.1<0)) y0 (.node (decide (m.2.1≥dom m.1.1)) y0 (.node (decide (m.2.2≥1)) (.node (!decide (m.2.2≤ivl m.1 y1 t)) y0 (.node (decide (i64.wrap (m.2.2-1)>0)) (.leaf (.tuple [.agg [.int .i64 m.1.1.1,.int .i64 m.1.1.2.1,.int .i64 m.1.1.2.2.1,.int .i64 m.1.1.2.2.2,.int .i64 m.1.2.1,.int .i64 m.1.2.2.1,.int .i64 m.1.2.2.2.1,.int .i64 m.1.2.2.2.2,.int .i64 m.2.1,.int .i64 (i64.wrap (m.2.2-1))],.agg [.int .i64 0,.int .i64 0,.int .i64 0,.int .i64 0]])) (.node (i64.wrap (m.2.1+1)==dom m.1.1) (.leaf (.tuple [.agg [.int .i64 m.1.1.1,.int .i64 m.1.1.2.1,.int .i64 m.1.1.2.2.1,.int .i64 m.1.1.2.2.2,.int .i64 m.1.2.1,.int .i64 m.1.2.2.1,.int .i64 m.1.2.2.2.1,.int .i64 m.1.2.2.2.2,.int .i64 y1,.int .i64 0],.agg [.int .i64 y2.1,.int .i64 y2.2.1,.int .i64 y2.2.2.1,.int .i64 y2.2.2.2]])) (.leaf (.tuple [.agg [.int .i64 m.1.1.1,.int .i64 m.1.1.2.1,.int .i64 m.1.1.2.2.1,.int .i64 m.1.1.2.2.2,.int .i64 m.1.2.1,.int .i64 m.1.2.2.1,.int .i64 m.1.2.2.2.1,.int .i64 m.1.2.2.2.2,.int .i64 y1,.int .i64 (ivl m.1 (i64.wrap (i64.wrap (m.2.1+1)+1)) t)],.agg [.int .i64 y2.1,.int .i64 y2.2.1,.int .i64 y2.2.2.1,.int .i64 y2.2.2.2]]))))) y0))))) y0)
  (by kernel_rfl) (by
   have dp:∀b:Bk,validB b=true→1≤dom b.1∧dom b.1≤16777216:=fun _ h=>valid_dom h
   have iv:=ivl_bnd m.1 (m.2.1+1) t
   have ip:=ivl_pos (b:=m.1) (i:=m.2.1+1) (t:=t)
   have dr:=dom_range m.1.1
   have hw1:0≤m.2.1∧m.2.1≤dom m.1.1-1→i64.wrap (m.2.1+1)=m.2.1+1:=fun h=>w64 (by omega) (by omega)
   have hw2:1≤m.2.2∧m.2.2≤4296015872→i64.wrap (m.2.2-1)=m.2.2-1:=fun h=>w64 (by omega) (by omega)
   have hw3:0≤m.2.1∧m.2.1≤dom m.1.1-1→i64.wrap (m.2.1+1+1)=m.2.1+2:=fun h=>(w64 (x:=m.2.1+1+1) (by omega) (by omega)).trans (by omega)
   simp only[Tree.holds,sL,ne_eq,beq_iff_eq,bne_iff_ne,eq_self,beq_eq_false_iff_ne,bne_eq_false_iff_eq,implies_true];(repeat' (first|apply And.intro|intro _));
   all_goals first
    |(rw[tickS_no (Bool.eq_false_iff.2 (by rw[ne_eq,runsM_iff];grind))];rfl)
    |(rw[tickS_one (runsM_iff.2 (by grind)) (by grind)]
      simp only[Mo.sv,V4.sv,I64,z4,SV.tuple.injEq,SV.agg.injEq,List.cons.injEq,SV.int.injEq,SV.bool.injEq,true_and,and_true,eq_self]
      (repeat' apply And.intro)<;>first|rfl|grind)
    |(have r:runsM m t=true:=runsM_iff.2 (by grind)
      have r2:¬1<m.2.2:=by grind
      have r3:=hw1 (runsM_iff.1 r).2.1
      rw[tickS_two r r2]
      simp only[r3,hw3 (runsM_iff.1 r).2.1,Mo.sv,V4.sv,I64,SV.tuple.injEq,SV.agg.injEq,List.cons.injEq,SV.int.injEq,SV.bool.injEq,true_and,and_true,eq_self]
      (repeat' apply And.intro)<;>first|rfl|grind)
    |(exfalso;grind)) (by kernel_rfl) (by rfl)
theorem s_tickR(m:Mo)(t:Int):SCall Tryz.prog 171 [Mo.sv m,I64 t] (tickS m t):=
 scall_v mix [fVldR,fDomR,fIvlR,fPulR] ⟨o_vldR,o_domR,o_ivlR,o_pulR,trivial⟩ 1000 (.fork (.ln 11 (.lit .all)) (.lit (.lit (.fork (.ln 8 (.lit .all)) (.ln 4 (.fork (.ln 3 (.lit .all)) (.fork (.fork (.lit (.lit (.lit .all))) (.lit (.fork (.ln 8 (.fork .all (.fork .all (.fork (.ln 7 (.fork .all .all)) (.ln 7 (.lit .all)))))) (.ln 9 (.fork .all (.fork (.ln 7 (.fork .all .all)) (.ln 7 (.lit .all)))))))) (.fork (.ln 4 (.fork (.ln 3 (.fork (.ln 10 (.fork (.lit (.lit (.lit .all))) (.lit (.fork (.ln 8 (.fork .all (.fork .all (.fork (.ln 7 (.fork .all .all)) (.ln 7 (.lit .all)))))) (.ln 9 (.fork .all (.fork (.ln 7 (.fork .all .all)) (.ln 7 (.lit .all))))))))) (.ln 13 (.lit .all)))) (.ln 17 (.lit .all)))) (.ln 22 (.lit .all))))))))))
  (t:=let y1:Tree SV:=.leaf (.tuple [.agg [.int .i64 m.1.1.1,.int .i64 m.1.1.2.1,.int .i64 m.1.1.2.2.1,.int .i64 m.1.1.2.2.2,.int .i64 m.1.2.1,.int .i64 m.1.2.2.1,.int .i64 m.1.2.2.2.1,.int .i64 m.1.2.2.2.2,.int .i64 m.2.1,.int .i64 m.2.2],.agg [.int .i64 0,.int .i64 0,.int .i64 0,.int .i64 0]]);let y3:=i64.wrap (m.2.1+1);let y4:=pul m.1.1 y3;let y2:Tree SV:=.leaf (.tuple [.agg [.int .i64 m.1.1.1,.int .i64 m.1.1.2.1,.int .i64 m.1.1.2.2.1,.int .i64 m.1.1.2.2.2,.int .i64 m.1.2.1,.int .i64 m.1.2.2.1,.int .i64 m.1.2.2.2.1,.int .i64 m.1.2.2.2.2,.int .i64 y3,.int .i64 (ivl m.1 (i64.wrap (i64.wrap (m.2.1+1)+1)) t)],.agg [.int .i64 y4.1,.int .i64 y4.2.1,.int .i64 y4.2.2.1,.int .i64 y4.2.2.2]]);let y0:Tree SV:=.node (decide (i64.wrap (m.2.2-1)>0)) (.leaf (.tuple [.agg [.int .i64 m.1.1.1,.int .i64 m.1.1.2.1,.int .i64 m.1.1.2.2.1,.int .i64 m.1.1.2.2.2,.int .i64 m.1.2.1,.int .i64 m.1.2.2.1,.int .i64 m.1.2.2.2.1,.int .i64 m.1.2.2.2.2,.int .i64 m.2.1,.int .i64 (i64.wrap (m.2.2-1))],.agg [.int .i64 0,.int .i64 0,.int .i64 0,.int .i64 0]])) (.node (validB m.1) (.node (!i64.wrap (m.2.1+1)==dom m.1.1) y2 (.leaf (.tuple [.agg [.int .i64 m.1.1.1,.int .i64 m.1.1.2.1,.int .i64 m.1.1.2.2.1,.int .i64 m.1.1.2.2.2,.int .i64 m.1.2.1,.int .i64 m.1.2.2.1,.int .i64 m.1.2.2.2.1,.int .i64 m.1.2.2.2.2,.int .i64 y3,.int .i64 (i64.wrap (m.2.2-1))],.agg [.int .i64 y4.1,.int .i64 y4.2.1,.int .i64 y4.2.2.1,.int .i64 y4.2.2.2]]))) y2);.node (decide (t<1)) y1 (.node (decide (t>1048576)) y1 (.node (!validB m.1) y1 (.node (m.2.1==dom m.1.1) (.node (!m.2.2==0) y1 (.node (validB m.1) (.node (m.2.1==dom m.1.1) y1 y0) y0)) (.node (decide (m.2.1≥0)) (.node (decide (m.2.1<dom m.1.1)) (.node (decide (m.2.2≥1)) (.node (!decide (m.2.2≤ivl m.1 y3 t)) y1 (.node (validB m.1) (.node (m.2.1==dom m.1.1) y1 y0) y0)) y1) y1) y1)))))
  (by kernel_rfl) (by
   have dp:∀b:Bk,validB b=true→1≤dom b.1∧dom b.1≤16777216:=fun _ h=>valid_dom h
   have iv:=ivl_bnd m.1 (m.2.1+1) t
   have ip:=ivl_pos (b:=m.1) (i:=m.2.1+1) (t:=t)
   have dr:=dom_range m.1.1
   have hw1:0≤m.2.1∧m.2.1≤dom m.1.1-1→i64.wrap (m.2.1+1)=m.2.1+1:=fun h=>w64 (by omega) (by omega)
   have hw2:1≤m.2.2∧m.2.2≤4296015872→i64.wrap (m.2.2-1)=m.2.2-1:=fun h=>w64 (by omega) (by omega)
   have hw3:0≤m.2.1∧m.2.1≤dom m.1.1-1→i64.wrap (m.2.1+1+1)=m.2.1+2:=fun h=>(w64 (x:=m.2.1+1+1) (by omega) (by omega)).trans (by omega)
   simp only[Tree.holds,sL,ne_eq,beq_iff_eq,bne_iff_ne,eq_self,beq_eq_false_iff_ne,bne_eq_false_iff_eq,implies_true];(repeat' (first|apply And.intro|intro _));
   all_goals first
    |(rw[tickS_no (Bool.eq_false_iff.2 (by rw[ne_eq,runsM_iff];grind))];rfl)
    |(rw[tickS_one (runsM_iff.2 (by grind)) (by grind)]
      simp only[Mo.sv,V4.sv,I64,z4,SV.tuple.injEq,SV.agg.injEq,List.cons.injEq,SV.int.injEq,SV.bool.injEq,true_and,and_true,eq_self]
      (repeat' apply And.intro)<;>first|rfl|grind)
    |(have r:runsM m t=true:=runsM_iff.2 (by grind)
      have r2:¬1<m.2.2:=by grind
      have r3:=hw1 (runsM_iff.1 r).2.1
      rw[tickS_two r r2]
      simp only[r3,hw3 (runsM_iff.1 r).2.1,Mo.sv,V4.sv,I64,SV.tuple.injEq,SV.agg.injEq,List.cons.injEq,SV.int.injEq,SV.bool.injEq,true_and,and_true,eq_self]
      (repeat' apply And.intro)<;>first|rfl|grind)
    |(exfalso;grind)) (by kernel_rfl) (by rfl)
def fMade:Fact:=factMo 205 fun m=>.leaf (V4.sv (madeM m))
def fMadeR:Fact:=factMo 132 fun m=>.leaf (V4.sv (madeM m))
theorem o_made:fMade.ok Tryz.prog:=factMo_ok (s_made)
theorem o_madeR:fMadeR.ok Tryz.prog:=factMo_ok (s_madeR)
def fEnded:Fact:=factMo 166 fun m=>.leaf (.bool (endedM m))
def fEndedR:Fact:=factMo 173 fun m=>.leaf (.bool (endedM m))
theorem o_ended:fEnded.ok Tryz.prog:=factMo_ok (s_ended)
theorem o_endedR:fEndedR.ok Tryz.prog:=factMo_ok (s_endedR)
def fTick:Fact:=factMoI 165 fun m t=>.leaf (tickS m t)
def fTickR:Fact:=factMoI 171 fun m t=>.leaf (tickS m t)
theorem o_tick:fTick.ok Tryz.prog:=factMoI_ok (s_tick)
theorem o_tickR:fTickR.ok Tryz.prog:=factMoI_ok (s_tickR)
def fStart:Fact:=factBI 174 fun b t=>.node (okS b t) (.leaf (.tuple [Mo.sv (startM b t),I64 0])) (.leaf (.tuple [Mo.sv m0,I64 1]))
def fStartR:Fact:=factBI 85 fun b t=>.node (okS b t) (.leaf (.tuple [Mo.sv (startM b t),I64 0])) (.leaf (.tuple [Mo.sv m0,I64 1]))
theorem o_start:fStart.ok Tryz.prog:=factBI_ok (fun b t=>⟨fun h=>startV_yes h▸s_start b t,fun h=>startV_no h▸s_start b t⟩)
theorem o_startR:fStartR.ok Tryz.prog:=factBI_ok (fun b t=>⟨fun h=>startV_yes h▸s_startR b t,fun h=>startV_no h▸s_startR b t⟩)
theorem ediv_rng{a b M:Int}(hb:1≤b)(hM:0≤M)(h: -M≤a∧a≤M): -M≤a / b∧a / b≤M:=by
 constructor
 ·refine Int.le_ediv_of_mul_le (by omega) ?_
  have:M*1≤M*b:=Int.mul_le_mul_of_nonneg_left hb hM
  rw[Int.neg_mul];omega
 ·by_cases ha:0≤a
  ·have:=Int.ediv_le_self b ha;omega
  ·have:=Int.ediv_neg_of_neg_of_pos (a:=a) (b:=b) (by omega) (by omega);omega
theorem fl_tdiv{a b:Int}(hb:1≤b):a.tdiv b=if a<0∧a.tmod b≠0 then a / b+1 else a / b:=by
 rw[Int.tdiv_eq_ediv]
 have hs:b.sign=1:=Int.sign_eq_one_of_pos (by omega)
 have hd:b ∣ a↔a.tmod b=0:=⟨Int.tmod_eq_zero_of_dvd,Int.dvd_of_tmod_eq_zero⟩
 rw[hs]
 by_cases h1:0≤a∨b ∣ a
 ·rw[if_pos h1,if_neg (by rw[hd]at h1;omega)];omega
 ·rw[if_neg h1,if_pos (by rw[hd]at h1;omega)]
def rnd(a b:Int):Int:=if b-a % b≤a % b then a / b+1 else a / b
theorem rnd_rng{a b M:Int}(hb:1≤b)(hM:0≤M)(h: -M≤a∧a≤M): -M≤rnd a b∧rnd a b≤M+1:=by
 have:=ediv_rng hb hM h
 unfold rnd;split<;>omega
theorem mod_rng{a b:Int}(hb:1≤b):0≤a % b∧a % b<b:=⟨Int.emod_nonneg _ (by omega),Int.emod_lt_of_pos _ (by omega)⟩
theorem sub_mul{a b:Int}:a-a / b*b=a % b:=by rw[Int.emod_def,Int.mul_comm]
def cla(n lo hi:Int):Int:=if n<lo then lo else if n>hi then hi else n
theorem cla_rng{n lo hi:Int}(h:lo≤hi):lo≤cla n lo hi∧cla n lo hi≤hi:=by unfold cla;(repeat' split)<;>omega
theorem wu64{x:Int}(h0:0≤x)(h1:x≤9223372036854775807):u64.wrap x=x:=by
 have h2:IntKind.wrap .u64 x=if false&&decide (x % 18446744073709551616≥9223372036854775808)then x % 18446744073709551616-18446744073709551616 else x % 18446744073709551616:=rfl
 rw[h2]
 simp only[Bool.false_and,Bool.false_eq_true,if_false]
 omega
theorem s_flo(a b:Int)(h:(inR b 1 4611686018427387904&&inR a (-4611686018427387904) 4611686018427387904)=true):SCall Tryz.prog 225 [I64 a,I64 b] (.tuple [I64 (a / b),I64 0]):=
 scall_v mix [] trivial 1000 (.fork .all (.fork (.lit (.lit (.fork .all (.fork (.ln 5 (.fork .all .all)) (.ln 5 (.lit .all)))))) (.ln 3 (.fork (.ln 5 (.fork .all .all)) (.ln 5 (.lit .all))))))
  (t:=let y1:Tree SV:=.leaf (.tuple [.int .i64 (i64.wrap (a.tdiv b)),.int .i64 0]);let y0:Tree SV:=.req (!b==0) (.req (!b==0) (.node (a.tmod b != 0) (.node (!decide (a<0)==decide (b<0)) (.leaf (.tuple [.int .i64 (i64.wrap (i64.wrap (a.tdiv b)-1)),.int .i64 0])) y1) y1));.node (b==0) (.leaf (.tuple [.int .i64 0,.int .i64 4])) (.node (a== -9223372036854775808) (.node (b== -1) (.leaf (.tuple [.int .i64 0,.int .i64 3])) y0) y0))
  (by kernel_rfl) (by
   rw[Bool.and_eq_true,inR_iff,inR_iff]at h
   have r:=ediv_rng h.1.1 (by omega) h.2
   have e:=fl_tdiv (a:=a) h.1.1
   have k1:i64.wrap (a / b)=a / b:=w64 (by omega) (by omega)
   have k2:i64.wrap (a / b+1)=a / b+1:=w64 (by omega) (by omega)
   have k3:i64.wrap (a / b+1-1)=a / b:=(w64 (by omega) (by omega)).trans (by omega)
   have hb0:decide (b<0)=false:=decide_eq_false (by omega)
   have hb1:(b==0)=false:=by simp;omega
   have hb2:(b== -1)=false:=by simp;omega
   have ha0:(a== -9223372036854775808)=false:=by simp;omega
   by_cases ha:a<0<;>by_cases hm:a.tmod b=0
   all_goals simp only[Tree.holds,hb0,hb1,hb2,ha0,ha,hm,decide_true,decide_false,Bool.true_eq_false,Bool.false_eq_true,false_implies,true_implies,true_and,and_true,Bool.not_false,bne_self_eq_false,bne_iff_ne,ne_eq,not_true_eq_false,not_false_eq_true,bne_eq_false_iff_eq,eq_self,beq_self_eq_true,Bool.not_true,show(false==false)=true from rfl,show(true==false)=false from rfl,false_and,and_false]at e ⊢
   all_goals simp only[e,if_true,if_false,k1,k2,k3,I64]
) (by kernel_rfl) (by kernel_rfl)
theorem s_floR(a b:Int)(h:(inR b 1 4611686018427387904&&inR a (-4611686018427387904) 4611686018427387904)=true):SCall Tryz.prog 235 [I64 a,I64 b] (.tuple [I64 (a / b),I64 0]):=
 scall_v mix [] trivial 1000 (.fork .all (.fork (.lit (.lit (.fork .all (.fork (.ln 5 (.fork .all .all)) (.ln 5 (.lit .all)))))) (.ln 3 (.fork (.ln 5 (.fork .all .all)) (.ln 5 (.lit .all))))))
  (t:=let y1:Tree SV:=.leaf (.tuple [.int .i64 (i64.wrap (a.tdiv b)),.int .i64 0]);let y0:Tree SV:=.req (!b==0) (.req (!b==0) (.node (a.tmod b != 0) (.node (!decide (a<0)==decide (b<0)) (.leaf (.tuple [.int .i64 (i64.wrap (i64.wrap (a.tdiv b)-1)),.int .i64 0])) y1) y1));.node (b==0) (.leaf (.tuple [.int .i64 0,.int .i64 4])) (.node (a== -9223372036854775808) (.node (b== -1) (.leaf (.tuple [.int .i64 0,.int .i64 3])) y0) y0))
  (by kernel_rfl) (by
   rw[Bool.and_eq_true,inR_iff,inR_iff]at h
   have r:=ediv_rng h.1.1 (by omega) h.2
   have e:=fl_tdiv (a:=a) h.1.1
   have k1:i64.wrap (a / b)=a / b:=w64 (by omega) (by omega)
   have k2:i64.wrap (a / b+1)=a / b+1:=w64 (by omega) (by omega)
   have k3:i64.wrap (a / b+1-1)=a / b:=(w64 (by omega) (by omega)).trans (by omega)
   have hb0:decide (b<0)=false:=decide_eq_false (by omega)
   have hb1:(b==0)=false:=by simp;omega
   have hb2:(b== -1)=false:=by simp;omega
   have ha0:(a== -9223372036854775808)=false:=by simp;omega
   by_cases ha:a<0<;>by_cases hm:a.tmod b=0
   all_goals simp only[Tree.holds,hb0,hb1,hb2,ha0,ha,hm,decide_true,decide_false,Bool.true_eq_false,Bool.false_eq_true,false_implies,true_implies,true_and,and_true,Bool.not_false,bne_self_eq_false,bne_iff_ne,ne_eq,not_true_eq_false,not_false_eq_true,bne_eq_false_iff_eq,eq_self,beq_self_eq_true,Bool.not_true,show(false==false)=true from rfl,show(true==false)=false from rfl,false_and,and_false]at e ⊢
   all_goals simp only[e,if_true,if_false,k1,k2,k3,I64]
) (by kernel_rfl) (by kernel_rfl)
def fFlo:Fact:=factII 225 fun a b=>.req (inR b 1 4611686018427387904&&inR a (-4611686018427387904) 4611686018427387904) (.leaf (.tuple [I64 (a / b),I64 0]))
def fFloR:Fact:=factII 235 fun a b=>.req (inR b 1 4611686018427387904&&inR a (-4611686018427387904) 4611686018427387904) (.leaf (.tuple [I64 (a / b),I64 0]))
theorem o_flo:fFlo.ok Tryz.prog:=factII_ok (fun a b h=>s_flo a b h)
theorem o_floR:fFloR.ok Tryz.prog:=factII_ok (fun a b h=>s_floR a b h)
theorem s_rnd(a b:Int)(h:(inR b 1 4611686018427387904&&inR a (-4611686018427387904) 4611686018427387904)=true):SCall Tryz.prog 208 [I64 a,I64 b] (.tuple [I64 (rnd a b),I64 0]):=
 scall_v mix [fFlo] ⟨o_flo,trivial⟩ 1000 (.lit (.fork (.ln 5 (.fork (.ln 4 (.lit .all)) (.lit (.lit (.fork (.ln 7 (.fork .all .all)) (.ln 7 (.lit .all))))))) (.ln 8 (.fork (.ln 7 (.fork .all .all)) (.ln 7 (.lit .all))))))
  (t:=let y1:=a-i64.wrap (a / b*b);let y2:Tree SV:=.leaf (.tuple [.int .i64 (i64.wrap (a / b+1)),.int .i64 0]);let y0:Tree SV:=.node (decide (b<0)) (.node (decide (i64.wrap y1≤i64.wrap (b-i64.wrap y1))) y2 (.leaf (.tuple [.int .i64 (a / b),.int .i64 0]))) (.leaf (.tuple [.int .i64 (a / b),.int .i64 0]));.req (inR b 1 4611686018427387904&&inR a (-4611686018427387904) 4611686018427387904) (.node (decide (b>0)) (.node (decide (i64.wrap y1≥i64.wrap (b-i64.wrap y1))) y2 y0) y0))
  (by kernel_rfl) (by
   rw[Bool.and_eq_true,inR_iff,inR_iff]at h
   have r:=ediv_rng h.1.1 (by omega) h.2
   have q:=mod_rng (a:=a) h.1.1
   have e:=sub_mul (a:=a) (b:=b)
   have k0:i64.wrap (a / b*b)=a / b*b:=w64 (by omega) (by omega)
   have k1:i64.wrap (a % b)=a % b:=w64 (by omega) (by omega)
   have k2:i64.wrap (a / b+1)=a / b+1:=w64 (by omega) (by omega)
   have k3:i64.wrap (b-a % b)=b-a % b:=w64 (by omega) (by omega)
   have k4:u64.wrap (a % b)=a % b:=wu64 (by omega) (by omega)
   have k5:u64.wrap b=b:=wu64 (by omega) (by omega)
   have k6:u64.wrap (b-a % b)=b-a % b:=wu64 (by omega) (by omega)
   have hh:(inR b 1 4611686018427387904&&inR a (-4611686018427387904) 4611686018427387904)=true:=by rw[Bool.and_eq_true,inR_iff,inR_iff];exact h
   simp only[hh,k0,e,k1,k2,k3,k4,k5,k6,Tree.holds,ge_iff_le,sL,ne_eq,beq_iff_eq,bne_iff_ne,eq_self,beq_eq_false_iff_ne,bne_eq_false_iff_eq,implies_true];(repeat' (first|apply And.intro|intro _));
   all_goals first
    |omega
    |(exfalso;omega)
    |(unfold rnd;rw[if_pos (by omega)];rfl)
    |(unfold rnd;rw[if_neg (by omega)];rfl)) (by kernel_rfl) (by kernel_rfl)
theorem s_rndR(a b:Int)(h:(inR b 1 4611686018427387904&&inR a (-4611686018427387904) 4611686018427387904)=true):SCall Tryz.prog 197 [I64 a,I64 b] (.tuple [I64 (rnd a b),I64 0]):=
 scall_v mix [fFloR] ⟨o_floR,trivial⟩ 1000 (.lit (.fork (.fork (.fork (.all) (.all)) (.fork (.all) (.all))) (.fork (.fork (.all) (.all)) (.fork (.all) (.all)))))
  (t:=let y0:=i64.wrap (a-i64.wrap (a / b*b));let y1:Tree SV:=.leaf (.tuple [.int .i64 (i64.wrap (a / b+1)),.int .i64 0]);let y2:Tree SV:=.leaf (.tuple [.int .i64 (a / b),.int .i64 0]);let y3:=0-u64.wrap y0;.req (inR b 1 4611686018427387904&&inR a (-4611686018427387904) 4611686018427387904) (.node (decide (i64.wrap (a-i64.wrap (a / b*b))<0)) (.node (decide (b<0)) (.node (decide (u64.wrap y3≥u64.wrap (u64.wrap (0-u64.wrap b)-u64.wrap y3))) y1 y2) (.node (decide (u64.wrap y3≥u64.wrap (u64.wrap b-u64.wrap y3))) y1 y2)) (.node (decide (b<0)) (.node (decide (u64.wrap y0≥u64.wrap (u64.wrap (0-u64.wrap b)-u64.wrap y0))) y1 y2) (.node (decide (u64.wrap y0≥u64.wrap (u64.wrap b-u64.wrap y0))) y1 y2))))
  (by kernel_rfl) (by
   rw[Bool.and_eq_true,inR_iff,inR_iff]at h
   have r:=ediv_rng h.1.1 (by omega) h.2
   have q:=mod_rng (a:=a) h.1.1
   have e:=sub_mul (a:=a) (b:=b)
   have k0:i64.wrap (a / b*b)=a / b*b:=w64 (by omega) (by omega)
   have k1:i64.wrap (a % b)=a % b:=w64 (by omega) (by omega)
   have k2:i64.wrap (a / b+1)=a / b+1:=w64 (by omega) (by omega)
   have k3:i64.wrap (b-a % b)=b-a % b:=w64 (by omega) (by omega)
   have k4:u64.wrap (a % b)=a % b:=wu64 (by omega) (by omega)
   have k5:u64.wrap b=b:=wu64 (by omega) (by omega)
   have k6:u64.wrap (b-a % b)=b-a % b:=wu64 (by omega) (by omega)
   have hh:(inR b 1 4611686018427387904&&inR a (-4611686018427387904) 4611686018427387904)=true:=by rw[Bool.and_eq_true,inR_iff,inR_iff];exact h
   simp only[hh,k0,e,k1,k2,k3,k4,k5,k6,Tree.holds,ge_iff_le,sL,ne_eq,beq_iff_eq,bne_iff_ne,eq_self,beq_eq_false_iff_ne,bne_eq_false_iff_eq,implies_true];(repeat' (first|apply And.intro|intro _));
   all_goals first
    |omega
    |(exfalso;omega)
    |(unfold rnd;rw[if_pos (by omega)];rfl)
    |(unfold rnd;rw[if_neg (by omega)];rfl)) (by kernel_rfl) (by kernel_rfl)
def fRnd:Fact:=factII 208 fun a b=>.req (inR b 1 4611686018427387904&&inR a (-4611686018427387904) 4611686018427387904) (.leaf (.tuple [I64 (rnd a b),I64 0]))
def fRndR:Fact:=factII 197 fun a b=>.req (inR b 1 4611686018427387904&&inR a (-4611686018427387904) 4611686018427387904) (.leaf (.tuple [I64 (rnd a b),I64 0]))
theorem o_rnd:fRnd.ok Tryz.prog:=factII_ok (fun a b h=>s_rnd a b h)
theorem o_rndR:fRndR.ok Tryz.prog:=factII_ok (fun a b h=>s_rndR a b h)
theorem s_cla(a b c:Int)(h:decide (b≤c)=true):SCall Tryz.prog 224 [I64 a,I64 b,I64 c] (I64 (cla a b c)):=
 scall_v mix [] trivial 1000 (.all)
  (t:=.leaf (SV.int IntKind.i64 (if(if c<a then c else a)>b then if c<a then c else a else b)))
  (by kernel_rfl) (by
   rw[decide_eq_true_eq]at h
   refine sv_int ?_
   unfold cla;(repeat' split)<;>omega) (by kernel_rfl) (by kernel_rfl)
theorem s_claR(a b c:Int)(h:decide (b≤c)=true):SCall Tryz.prog 234 [I64 a,I64 b,I64 c] (I64 (cla a b c)):=
 scall_v mix [] trivial 1000 (.all)
  (t:=.leaf (SV.int IntKind.i64 (if(if c<a then c else a)>b then if c<a then c else a else b)))
  (by kernel_rfl) (by
   rw[decide_eq_true_eq]at h
   refine sv_int ?_
   unfold cla;(repeat' split)<;>omega) (by kernel_rfl) (by kernel_rfl)
def fCla:Fact:=factIII 224 fun a b c=>.req (decide (b≤c)) (.leaf (I64 (cla a b c)))
def fClaR:Fact:=factIII 234 fun a b c=>.req (decide (b≤c)) (.leaf (I64 (cla a b c)))
theorem o_cla:fCla.ok Tryz.prog:=factIII_ok (fun a b c h=>s_cla a b c h)
theorem o_claR:fClaR.ok Tryz.prog:=factIII_ok (fun a b c h=>s_claR a b c h)
theorem s_claG(a b c:Int):SCall Tryz.prog 236 [I64 a,I64 b,I64 c] (I64 (cla a b c)):=
 scall_v mix [] trivial 1000 (.fork (.all) (.fork (.all) (.all)))
  (t:=.node (decide (a<b))
 (.leaf (SV.int IntKind.i64 b))
 (.node (decide (a>c))
  (.leaf (SV.int IntKind.i64 c))
  (.leaf (SV.int IntKind.i64 a))))
   (by kernel_rfl) (by
    simp only[Tree.holds,cla,I64];grind) (by kernel_rfl) (by kernel_rfl)
def fClaG:Fact:=factIII 236 fun a b c=>.leaf (I64 (cla a b c))
theorem o_claG:fClaG.ok Tryz.prog:=factIII_ok s_claG
abbrev V3:=Int×Int×Int
def V3.sv(v:V3):SV:=.agg [I64 v.1,I64 v.2.1,I64 v.2.2]
def axM(m:Ma)(i:Int):Ax:=if i=0 then m.x else if i=1 then m.y else if i=2 then m.z else m.e
def stOk(m:Ma)(p:Int):Bool:=m.ok&&inR p (-1073741824) 1073741824
theorem stOk_iff{m:Ma}{p:Int}:stOk m p=true↔m.ok=true∧-1073741824≤p∧p≤1073741824:=by simp only[stOk,Bool.and_eq_true,inR_iff]
def unOk(m:Ma)(p:Int):Bool:=m.ok&&inR p (-70368744177664) 70368744177664
theorem unOk_iff{m:Ma}{p:Int}:unOk m p=true↔m.ok=true∧-70368744177664≤p∧p≤70368744177664:=by simp only[unOk,Bool.and_eq_true,inR_iff]
def stepsN(a:Ax)(p:Int):Int:=rnd (p*a.num) a.den
def unitsN(a:Ax)(p:Int):Int:=rnd (p*a.den) a.num
def errI(b:Bool)(n:Int):SV:=match b with
 |true=>.tuple [I64 n,I64 0]
 |false=>.tuple [I64 0,I64 1]
theorem errI_yes{b:Bool}{n:Int}(h:b=true):errI b n=.tuple [I64 n,I64 0] :=by rw[h];rfl
theorem errI_no{b:Bool}{n:Int}(h:b=false):errI b n=.tuple [I64 0,I64 1] :=by rw[h];rfl
theorem mul_rng{p n A B:Int}(hA:0≤A)(hp: -A≤p∧p≤A)(hn:0≤n∧n≤B): -(A*B)≤p*n∧p*n≤A*B:=by
 have h1:p*n≤A*n:=Int.mul_le_mul_of_nonneg_right hp.2 hn.1
 have h2:A*n≤A*B:=Int.mul_le_mul_of_nonneg_left hn.2 hA
 have h3:(-A)*n≤p*n:=Int.mul_le_mul_of_nonneg_right hp.1 hn.1
 rw[Int.neg_mul]at h3
 omega
theorem st_rng{a:Ax}{p:Int}(h:a.ok=true)(hp: -1073741824≤p∧p≤1073741824):(-70368744177664≤p*a.num∧p*a.num≤70368744177664)∧-70368744177664≤stepsN a p∧stepsN a p≤70368744177665:=by
 rw[Ax.ok_iff]at h
 have:=mul_rng (A:=1073741824) (B:=65536) (by omega) hp (n:=a.num) (by omega)
 exact⟨this,rnd_rng (M:=70368744177664) (by omega) (by omega) this⟩
theorem un_rng{a:Ax}{p M:Int}(h:a.ok=true)(hM:0≤M)(hp: -M≤p∧p≤M):(-(M*65536)≤p*a.den∧p*a.den≤M*65536)∧-(M*65536)≤unitsN a p∧unitsN a p≤M*65536+1:=by
 rw[Ax.ok_iff]at h
 have:=mul_rng (A:=M) (B:=65536) (by omega) hp (n:=a.den) (by omega)
 exact⟨this,rnd_rng (M:=M*65536) (by omega) (by omega) this⟩
def core(xy:Bool)(c:V4):V4:=match xy with
 |true=>(c.1+c.2.1,c.1-c.2.1,c.2.2.1,c.2.2.2)
 |false=>c
def motV(m:Ma)(v:V3)(e:Int):V4:=core m.xy (stepsN m.x v.1,stepsN m.y v.2.1,stepsN m.z v.2.2,stepsN m.e e)
def motOk(m:Ma)(v:V3)(e:Int):Bool:=stOk m v.1&& (stOk m v.2.1&& (stOk m v.2.2&&stOk m e))
theorem motOk_iff{m:Ma}{v:V3}{e:Int}:motOk m v e=true↔stOk m v.1=true∧stOk m v.2.1=true∧stOk m v.2.2=true∧stOk m e=true:=by simp only[motOk,Bool.and_eq_true]
def insB(m:Ma)(v:V3):Bool:=m.ok&& (inR v.1 m.x.min m.x.max&& (inR v.2.1 m.y.min m.y.max&&inR v.2.2 m.z.min m.z.max))
theorem insB_iff{m:Ma}{v:V3}:insB m v=true↔m.ok=true∧(m.x.min≤v.1∧v.1≤m.x.max)∧(m.y.min≤v.2.1∧v.2.1≤m.y.max)∧m.z.min≤v.2.2∧v.2.2≤m.z.max:=by simp only[insB,Bool.and_eq_true,inR_iff]
def unco(xy:Bool)(p:V4):V4:=match xy with
 |true=>((p.1+p.2.1) / 2,(p.1-p.2.1) / 2,p.2.2.1,p.2.2.2)
 |false=>p
def posV(m:Ma)(p:V4):V4:=(unitsN m.x (unco m.xy p).1,unitsN m.y (unco m.xy p).2.1,unitsN m.z (unco m.xy p).2.2.1,unitsN m.e (unco m.xy p).2.2.2)
def motS(m:Ma)(v:V3)(e:Int):SV:=match motOk m v e with
 |true=>.tuple [V4.sv (motV m v e),I64 0]
 |false=>.tuple [V4.sv z4,I64 1]
theorem motS_yes{m:Ma}{v:V3}{e:Int}(h:motOk m v e=true):motS m v e=.tuple [V4.sv (motV m v e),I64 0] :=by unfold motS;rw[h]
theorem motS_no{m:Ma}{v:V3}{e:Int}(h:motOk m v e=false):motS m v e=.tuple [V4.sv z4,I64 1] :=by unfold motS;rw[h]
def factMII(f:FuncId)(h:Ma→Int→Int→Tree SV):Fact:=⟨f,fun args=>match args with
 |[.agg [.int .i64 a0,.int .i64 a1,.int .i64 a2,.int .i64 a3,.int .i64 a4,.int .i64 a5,.int .i64 a6,.int .i64 b0,.int .i64 b1,.int .i64 b2,.int .i64 b3,.int .i64 b4,.int .i64 b5,.int .i64 b6,.int .i64 c0,.int .i64 c1,.int .i64 c2,.int .i64 c3,.int .i64 c4,.int .i64 c5,.int .i64 c6,.int .i64 d0,.int .i64 d1,.int .i64 d2,.int .i64 d3,.int .i64 d4,.int .i64 d5,.int .i64 d6,.bool xy,.int .i64 t],.int .i64 i,.int .i64 p] =>some (h ⟨⟨a0,a1,a2,a3,a4,a5,a6⟩,⟨b0,b1,b2,b3,b4,b5,b6⟩,⟨c0,c1,c2,c3,c4,c5,c6⟩,⟨d0,d1,d2,d3,d4,d5,d6⟩,xy,t⟩ i p)
 |_=>none⟩
theorem factMII_ok{P:Program}{f:FuncId}{h:Ma→Int→Int→Tree SV}(k:∀m i p,(h m i p).says (SCall P f [m.sv,I64 i,I64 p])):(factMII f h).ok P:=fun args t ht=>by
 simp only[factMII]at ht
 split at ht
 ·injection ht with ht;subst ht;exact k ⟨⟨_,_,_,_,_,_,_⟩,⟨_,_,_,_,_,_,_⟩,⟨_,_,_,_,_,_,_⟩,⟨_,_,_,_,_,_,_⟩,_,_⟩ _ _
 ·cases ht
def factMV(f:FuncId)(h:Ma→V3→Tree SV):Fact:=⟨f,fun args=>match args with
 |[.agg [.int .i64 a0,.int .i64 a1,.int .i64 a2,.int .i64 a3,.int .i64 a4,.int .i64 a5,.int .i64 a6,.int .i64 b0,.int .i64 b1,.int .i64 b2,.int .i64 b3,.int .i64 b4,.int .i64 b5,.int .i64 b6,.int .i64 c0,.int .i64 c1,.int .i64 c2,.int .i64 c3,.int .i64 c4,.int .i64 c5,.int .i64 c6,.int .i64 d0,.int .i64 d1,.int .i64 d2,.int .i64 d3,.int .i64 d4,.int .i64 d5,.int .i64 d6,.bool xy,.int .i64 t],.agg [.int .i64 x,.int .i64 y,.int .i64 z]] =>some (h ⟨⟨a0,a1,a2,a3,a4,a5,a6⟩,⟨b0,b1,b2,b3,b4,b5,b6⟩,⟨c0,c1,c2,c3,c4,c5,c6⟩,⟨d0,d1,d2,d3,d4,d5,d6⟩,xy,t⟩ (x,y,z))
 |_=>none⟩
theorem factMV_ok{P:Program}{f:FuncId}{h:Ma→V3→Tree SV}(k:∀m v,(h m v).says (SCall P f [m.sv,V3.sv v])):(factMV f h).ok P:=fun args t ht=>by
 simp only[factMV]at ht
 split at ht
 ·injection ht with ht;subst ht;exact k ⟨⟨_,_,_,_,_,_,_⟩,⟨_,_,_,_,_,_,_⟩,⟨_,_,_,_,_,_,_⟩,⟨_,_,_,_,_,_,_⟩,_,_⟩ (_,_,_)
 ·cases ht
def factMVI(f:FuncId)(h:Ma→V3→Int→Tree SV):Fact:=⟨f,fun args=>match args with
 |[.agg [.int .i64 a0,.int .i64 a1,.int .i64 a2,.int .i64 a3,.int .i64 a4,.int .i64 a5,.int .i64 a6,.int .i64 b0,.int .i64 b1,.int .i64 b2,.int .i64 b3,.int .i64 b4,.int .i64 b5,.int .i64 b6,.int .i64 c0,.int .i64 c1,.int .i64 c2,.int .i64 c3,.int .i64 c4,.int .i64 c5,.int .i64 c6,.int .i64 d0,.int .i64 d1,.int .i64 d2,.int .i64 d3,.int .i64 d4,.int .i64 d5,.int .i64 d6,.bool xy,.int .i64 t],.agg [.int .i64 x,.int .i64 y,.int .i64 z],.int .i64 e] =>some (h ⟨⟨a0,a1,a2,a3,a4,a5,a6⟩,⟨b0,b1,b2,b3,b4,b5,b6⟩,⟨c0,c1,c2,c3,c4,c5,c6⟩,⟨d0,d1,d2,d3,d4,d5,d6⟩,xy,t⟩ (x,y,z) e)
 |_=>none⟩
theorem factMVI_ok{P:Program}{f:FuncId}{h:Ma→V3→Int→Tree SV}(k:∀m v e,(h m v e).says (SCall P f [m.sv,V3.sv v,I64 e])):(factMVI f h).ok P:=fun args t ht=>by
 simp only[factMVI]at ht
 split at ht
 ·injection ht with ht;subst ht;exact k ⟨⟨_,_,_,_,_,_,_⟩,⟨_,_,_,_,_,_,_⟩,⟨_,_,_,_,_,_,_⟩,⟨_,_,_,_,_,_,_⟩,_,_⟩ (_,_,_) _
 ·cases ht
def factMV4(f:FuncId)(h:Ma→V4→Tree SV):Fact:=⟨f,fun args=>match args with
 |[.agg [.int .i64 a0,.int .i64 a1,.int .i64 a2,.int .i64 a3,.int .i64 a4,.int .i64 a5,.int .i64 a6,.int .i64 b0,.int .i64 b1,.int .i64 b2,.int .i64 b3,.int .i64 b4,.int .i64 b5,.int .i64 b6,.int .i64 c0,.int .i64 c1,.int .i64 c2,.int .i64 c3,.int .i64 c4,.int .i64 c5,.int .i64 c6,.int .i64 d0,.int .i64 d1,.int .i64 d2,.int .i64 d3,.int .i64 d4,.int .i64 d5,.int .i64 d6,.bool xy,.int .i64 t],.agg [.int .i64 x,.int .i64 y,.int .i64 z,.int .i64 w]] =>some (h ⟨⟨a0,a1,a2,a3,a4,a5,a6⟩,⟨b0,b1,b2,b3,b4,b5,b6⟩,⟨c0,c1,c2,c3,c4,c5,c6⟩,⟨d0,d1,d2,d3,d4,d5,d6⟩,xy,t⟩ (x,y,z,w))
 |_=>none⟩
theorem factMV4_ok{P:Program}{f:FuncId}{h:Ma→V4→Tree SV}(k:∀m v,(h m v).says (SCall P f [m.sv,V4.sv v])):(factMV4 f h).ok P:=fun args t ht=>by
 simp only[factMV4]at ht
 split at ht
 ·injection ht with ht;subst ht;exact k ⟨⟨_,_,_,_,_,_,_⟩,⟨_,_,_,_,_,_,_⟩,⟨_,_,_,_,_,_,_⟩,⟨_,_,_,_,_,_,_⟩,_,_⟩ (_,_,_,_)
 ·cases ht
theorem s_st0(m:Ma)(p:Int):SCall Tryz.prog 135 [m.sv,I64 0,I64 p] (errI (stOk m p) (stepsN m.x p)):=
 scall_v mix [fMaOk,fRnd] ⟨o_maOk,o_rnd,trivial⟩ 1000 (.fork (.ln 9 (.lit .all)) (.ln 7 (.fork (.ln 5 (.fork .all .all)) (.ln 5 (.lit .all)))))
  (t:=.node (!m.ok) (.leaf (.tuple [.int .i64 0,.int .i64 1])) (.node (decide (p≥-1073741824)) (.node (!decide (p≤1073741824)) (.leaf (.tuple [.int .i64 0,.int .i64 1])) (.req true (.req (true) (.req (inR m.x.den 1 4611686018427387904&&inR (i64.wrap (p*m.x.num)) (-4611686018427387904) 4611686018427387904) (.leaf (.tuple [.int .i64 (rnd (i64.wrap (p*m.x.num)) m.x.den),.int .i64 0])))))) (.leaf (.tuple [.int .i64 0,.int .i64 1]))))
  (by kernel_rfl) (by
   simp only[Tree.holds,sL,ne_eq,beq_iff_eq,bne_iff_ne,eq_self,beq_eq_false_iff_ne,bne_eq_false_iff_eq,implies_true];(repeat' (first|apply And.intro|intro _));
   all_goals first
    |(rw[errI_no (Bool.eq_false_iff.2 (by rw[ne_eq,stOk_iff];first|omega|grind))];rfl)
    |(have hk:=stOk_iff.1 (show stOk m p=true by rw[stOk_iff];first|omega|grind)
      have hx:m.x.ok=true:=by have:=Ma.ok_iff m;grind
      have r:=st_rng hx hk.2
      have ho:=(Ax.ok_iff _).1 hx
      have w:=w64 (x:=p*m.x.num) (by omega) (by omega)
      first
      |(rw[errI_yes (stOk_iff.2 hk),w];rfl)
      |(rw[w,inR_iff];omega)
      |(rw[inR_iff];omega))) (by kernel_rfl) (by unfold errI;split<;>rfl)
theorem s_st0R(m:Ma)(p:Int):SCall Tryz.prog 303 [m.sv,I64 0,I64 p] (errI (stOk m p) (stepsN m.x p)):=
 scall_v mix [fMaOkR,fRndR] ⟨o_maOkR,o_rndR,trivial⟩ 1000 (.fork (.ln 11 (.lit .all)) (.ln 8 (.fork (.lit (.lit (.lit .all))) (.lit (.lit (.fork .all .all))))))
  (t:=.node (!m.ok) (.leaf (.tuple [.int .i64 0,.int .i64 1])) (.node (decide (p < -1073741824)) (.leaf (.tuple [.int .i64 0,.int .i64 1])) (.node (decide (p>1073741824)) (.leaf (.tuple [.int .i64 0,.int .i64 1])) (.req true (.req (true) (.req (inR m.x.den 1 4611686018427387904&&inR (i64.wrap (p*m.x.num)) (-4611686018427387904) 4611686018427387904) (.leaf (.tuple [.int .i64 (rnd (i64.wrap (p*m.x.num)) m.x.den),.int .i64 0]))))))))
  (by kernel_rfl) (by
   simp only[Tree.holds,sL,ne_eq,beq_iff_eq,bne_iff_ne,eq_self,beq_eq_false_iff_ne,bne_eq_false_iff_eq,implies_true];(repeat' (first|apply And.intro|intro _));
   all_goals first
    |(rw[errI_no (Bool.eq_false_iff.2 (by rw[ne_eq,stOk_iff];first|omega|grind))];rfl)
    |(have hk:=stOk_iff.1 (show stOk m p=true by rw[stOk_iff];first|omega|grind)
      have hx:m.x.ok=true:=by have:=Ma.ok_iff m;grind
      have r:=st_rng hx hk.2
      have ho:=(Ax.ok_iff _).1 hx
      have w:=w64 (x:=p*m.x.num) (by omega) (by omega)
      first
      |(rw[errI_yes (stOk_iff.2 hk),w];rfl)
      |(rw[w,inR_iff];omega)
      |(rw[inR_iff];omega))) (by kernel_rfl) (by unfold errI;split<;>rfl)
theorem s_un0(m:Ma)(p:Int):SCall Tryz.prog 192 [m.sv,I64 0,I64 p] (errI (unOk m p) (unitsN m.x p)):=
 scall_v mix [fMaOk,fRnd] ⟨o_maOk,o_rnd,trivial⟩ 1000 (.fork (.ln 9 (.lit .all)) (.ln 7 (.fork (.ln 5 (.fork .all .all)) (.ln 5 (.lit .all)))))
  (t:=.node (!m.ok) (.leaf (.tuple [.int .i64 0,.int .i64 1])) (.node (decide (p≥-70368744177664)) (.node (!decide (p≤70368744177664)) (.leaf (.tuple [.int .i64 0,.int .i64 1])) (.req true (.req (true) (.req (inR m.x.num 1 4611686018427387904&&inR (i64.wrap (p*m.x.den)) (-4611686018427387904) 4611686018427387904) (.leaf (.tuple [.int .i64 (rnd (i64.wrap (p*m.x.den)) m.x.num),.int .i64 0])))))) (.leaf (.tuple [.int .i64 0,.int .i64 1]))))
  (by kernel_rfl) (by
   simp only[Tree.holds,sL,ne_eq,beq_iff_eq,bne_iff_ne,eq_self,beq_eq_false_iff_ne,bne_eq_false_iff_eq,implies_true];(repeat' (first|apply And.intro|intro _));
   all_goals first
    |(rw[errI_no (Bool.eq_false_iff.2 (by rw[ne_eq,unOk_iff];first|omega|grind))];rfl)
    |(have hk:=unOk_iff.1 (show unOk m p=true by rw[unOk_iff];first|omega|grind)
      have hx:m.x.ok=true:=by have:=Ma.ok_iff m;grind
      have r:=un_rng hx (by omega) hk.2
      have ho:=(Ax.ok_iff _).1 hx
      have w:=w64 (x:=p*m.x.den) (by omega) (by omega)
      first
      |(rw[errI_yes (unOk_iff.2 hk),w];rfl)
      |(rw[w,inR_iff];omega)
      |(rw[inR_iff];omega))) (by kernel_rfl) (by unfold errI;split<;>rfl)
theorem s_un0R(m:Ma)(p:Int):SCall Tryz.prog 112 [m.sv,I64 0,I64 p] (errI (unOk m p) (unitsN m.x p)):=
 scall_v mix [fMaOkR,fRndR] ⟨o_maOkR,o_rndR,trivial⟩ 1000 (.fork (.ln 11 (.lit .all)) (.ln 8 (.fork (.lit (.lit (.lit .all))) (.lit (.lit (.fork .all .all))))))
  (t:=.node (!m.ok) (.leaf (.tuple [.int .i64 0,.int .i64 1])) (.node (decide (p < -70368744177664)) (.leaf (.tuple [.int .i64 0,.int .i64 1])) (.node (decide (p>70368744177664)) (.leaf (.tuple [.int .i64 0,.int .i64 1])) (.req true (.req (true) (.req (inR m.x.num 1 4611686018427387904&&inR (i64.wrap (p*m.x.den)) (-4611686018427387904) 4611686018427387904) (.leaf (.tuple [.int .i64 (rnd (i64.wrap (p*m.x.den)) m.x.num),.int .i64 0]))))))))
  (by kernel_rfl) (by
   simp only[Tree.holds,sL,ne_eq,beq_iff_eq,bne_iff_ne,eq_self,beq_eq_false_iff_ne,bne_eq_false_iff_eq,implies_true];(repeat' (first|apply And.intro|intro _));
   all_goals first
    |(rw[errI_no (Bool.eq_false_iff.2 (by rw[ne_eq,unOk_iff];first|omega|grind))];rfl)
    |(have hk:=unOk_iff.1 (show unOk m p=true by rw[unOk_iff];first|omega|grind)
      have hx:m.x.ok=true:=by have:=Ma.ok_iff m;grind
      have r:=un_rng hx (by omega) hk.2
      have ho:=(Ax.ok_iff _).1 hx
      have w:=w64 (x:=p*m.x.den) (by omega) (by omega)
      first
      |(rw[errI_yes (unOk_iff.2 hk),w];rfl)
      |(rw[w,inR_iff];omega)
      |(rw[inR_iff];omega))) (by kernel_rfl) (by unfold errI;split<;>rfl)
theorem s_st1(m:Ma)(p:Int):SCall Tryz.prog 135 [m.sv,I64 1,I64 p] (errI (stOk m p) (stepsN m.y p)):=
 scall_v mix [fMaOk,fRnd] ⟨o_maOk,o_rnd,trivial⟩ 1000 (.fork (.ln 9 (.lit .all)) (.ln 7 (.fork (.ln 5 (.fork .all .all)) (.ln 5 (.lit .all)))))
  (t:=.node (!m.ok) (.leaf (.tuple [.int .i64 0,.int .i64 1])) (.node (decide (p≥-1073741824)) (.node (!decide (p≤1073741824)) (.leaf (.tuple [.int .i64 0,.int .i64 1])) (.req true (.req (true) (.req (inR m.y.den 1 4611686018427387904&&inR (i64.wrap (p*m.y.num)) (-4611686018427387904) 4611686018427387904) (.leaf (.tuple [.int .i64 (rnd (i64.wrap (p*m.y.num)) m.y.den),.int .i64 0])))))) (.leaf (.tuple [.int .i64 0,.int .i64 1]))))
  (by kernel_rfl) (by
   simp only[Tree.holds,sL,ne_eq,beq_iff_eq,bne_iff_ne,eq_self,beq_eq_false_iff_ne,bne_eq_false_iff_eq,implies_true];(repeat' (first|apply And.intro|intro _));
   all_goals first
    |(rw[errI_no (Bool.eq_false_iff.2 (by rw[ne_eq,stOk_iff];first|omega|grind))];rfl)
    |(have hk:=stOk_iff.1 (show stOk m p=true by rw[stOk_iff];first|omega|grind)
      have hx:m.y.ok=true:=by have:=Ma.ok_iff m;grind
      have r:=st_rng hx hk.2
      have ho:=(Ax.ok_iff _).1 hx
      have w:=w64 (x:=p*m.y.num) (by omega) (by omega)
      first
      |(rw[errI_yes (stOk_iff.2 hk),w];rfl)
      |(rw[w,inR_iff];omega)
      |(rw[inR_iff];omega))) (by kernel_rfl) (by unfold errI;split<;>rfl)
theorem s_st1R(m:Ma)(p:Int):SCall Tryz.prog 303 [m.sv,I64 1,I64 p] (errI (stOk m p) (stepsN m.y p)):=
 scall_v mix [fMaOkR,fRndR] ⟨o_maOkR,o_rndR,trivial⟩ 1000 (.fork (.ln 11 (.lit .all)) (.ln 8 (.fork (.lit (.lit (.lit .all))) (.lit (.lit (.fork .all .all))))))
  (t:=.node (!m.ok) (.leaf (.tuple [.int .i64 0,.int .i64 1])) (.node (decide (p < -1073741824)) (.leaf (.tuple [.int .i64 0,.int .i64 1])) (.node (decide (p>1073741824)) (.leaf (.tuple [.int .i64 0,.int .i64 1])) (.req true (.req (true) (.req (inR m.y.den 1 4611686018427387904&&inR (i64.wrap (p*m.y.num)) (-4611686018427387904) 4611686018427387904) (.leaf (.tuple [.int .i64 (rnd (i64.wrap (p*m.y.num)) m.y.den),.int .i64 0]))))))))
  (by kernel_rfl) (by
   simp only[Tree.holds,sL,ne_eq,beq_iff_eq,bne_iff_ne,eq_self,beq_eq_false_iff_ne,bne_eq_false_iff_eq,implies_true];(repeat' (first|apply And.intro|intro _));
   all_goals first
    |(rw[errI_no (Bool.eq_false_iff.2 (by rw[ne_eq,stOk_iff];first|omega|grind))];rfl)
    |(have hk:=stOk_iff.1 (show stOk m p=true by rw[stOk_iff];first|omega|grind)
      have hx:m.y.ok=true:=by have:=Ma.ok_iff m;grind
      have r:=st_rng hx hk.2
      have ho:=(Ax.ok_iff _).1 hx
      have w:=w64 (x:=p*m.y.num) (by omega) (by omega)
      first
      |(rw[errI_yes (stOk_iff.2 hk),w];rfl)
      |(rw[w,inR_iff];omega)
      |(rw[inR_iff];omega))) (by kernel_rfl) (by unfold errI;split<;>rfl)
theorem s_un1(m:Ma)(p:Int):SCall Tryz.prog 192 [m.sv,I64 1,I64 p] (errI (unOk m p) (unitsN m.y p)):=
 scall_v mix [fMaOk,fRnd] ⟨o_maOk,o_rnd,trivial⟩ 1000 (.fork (.ln 9 (.lit .all)) (.ln 7 (.fork (.ln 5 (.fork .all .all)) (.ln 5 (.lit .all)))))
  (t:=.node (!m.ok) (.leaf (.tuple [.int .i64 0,.int .i64 1])) (.node (decide (p≥-70368744177664)) (.node (!decide (p≤70368744177664)) (.leaf (.tuple [.int .i64 0,.int .i64 1])) (.req true (.req (true) (.req (inR m.y.num 1 4611686018427387904&&inR (i64.wrap (p*m.y.den)) (-4611686018427387904) 4611686018427387904) (.leaf (.tuple [.int .i64 (rnd (i64.wrap (p*m.y.den)) m.y.num),.int .i64 0])))))) (.leaf (.tuple [.int .i64 0,.int .i64 1]))))
  (by kernel_rfl) (by
   simp only[Tree.holds,sL,ne_eq,beq_iff_eq,bne_iff_ne,eq_self,beq_eq_false_iff_ne,bne_eq_false_iff_eq,implies_true];(repeat' (first|apply And.intro|intro _));
   all_goals first
    |(rw[errI_no (Bool.eq_false_iff.2 (by rw[ne_eq,unOk_iff];first|omega|grind))];rfl)
    |(have hk:=unOk_iff.1 (show unOk m p=true by rw[unOk_iff];first|omega|grind)
      have hx:m.y.ok=true:=by have:=Ma.ok_iff m;grind
      have r:=un_rng hx (by omega) hk.2
      have ho:=(Ax.ok_iff _).1 hx
      have w:=w64 (x:=p*m.y.den) (by omega) (by omega)
      first
      |(rw[errI_yes (unOk_iff.2 hk),w];rfl)
      |(rw[w,inR_iff];omega)
      |(rw[inR_iff];omega))) (by kernel_rfl) (by unfold errI;split<;>rfl)
theorem s_un1R(m:Ma)(p:Int):SCall Tryz.prog 112 [m.sv,I64 1,I64 p] (errI (unOk m p) (unitsN m.y p)):=
 scall_v mix [fMaOkR,fRndR] ⟨o_maOkR,o_rndR,trivial⟩ 1000 (.fork (.ln 11 (.lit .all)) (.ln 8 (.fork (.lit (.lit (.lit .all))) (.lit (.lit (.fork .all .all))))))
  (t:=.node (!m.ok) (.leaf (.tuple [.int .i64 0,.int .i64 1])) (.node (decide (p < -70368744177664)) (.leaf (.tuple [.int .i64 0,.int .i64 1])) (.node (decide (p>70368744177664)) (.leaf (.tuple [.int .i64 0,.int .i64 1])) (.req true (.req (true) (.req (inR m.y.num 1 4611686018427387904&&inR (i64.wrap (p*m.y.den)) (-4611686018427387904) 4611686018427387904) (.leaf (.tuple [.int .i64 (rnd (i64.wrap (p*m.y.den)) m.y.num),.int .i64 0]))))))))
  (by kernel_rfl) (by
   simp only[Tree.holds,sL,ne_eq,beq_iff_eq,bne_iff_ne,eq_self,beq_eq_false_iff_ne,bne_eq_false_iff_eq,implies_true];(repeat' (first|apply And.intro|intro _));
   all_goals first
    |(rw[errI_no (Bool.eq_false_iff.2 (by rw[ne_eq,unOk_iff];first|omega|grind))];rfl)
    |(have hk:=unOk_iff.1 (show unOk m p=true by rw[unOk_iff];first|omega|grind)
      have hx:m.y.ok=true:=by have:=Ma.ok_iff m;grind
      have r:=un_rng hx (by omega) hk.2
      have ho:=(Ax.ok_iff _).1 hx
      have w:=w64 (x:=p*m.y.den) (by omega) (by omega)
      first
      |(rw[errI_yes (unOk_iff.2 hk),w];rfl)
      |(rw[w,inR_iff];omega)
      |(rw[inR_iff];omega))) (by kernel_rfl) (by unfold errI;split<;>rfl)
theorem s_st2(m:Ma)(p:Int):SCall Tryz.prog 135 [m.sv,I64 2,I64 p] (errI (stOk m p) (stepsN m.z p)):=
 scall_v mix [fMaOk,fRnd] ⟨o_maOk,o_rnd,trivial⟩ 1000 (.fork (.ln 9 (.lit .all)) (.ln 7 (.fork (.ln 5 (.fork .all .all)) (.ln 5 (.lit .all)))))
  (t:=.node (!m.ok) (.leaf (.tuple [.int .i64 0,.int .i64 1])) (.node (decide (p≥-1073741824)) (.node (!decide (p≤1073741824)) (.leaf (.tuple [.int .i64 0,.int .i64 1])) (.req true (.req (true) (.req (inR m.z.den 1 4611686018427387904&&inR (i64.wrap (p*m.z.num)) (-4611686018427387904) 4611686018427387904) (.leaf (.tuple [.int .i64 (rnd (i64.wrap (p*m.z.num)) m.z.den),.int .i64 0])))))) (.leaf (.tuple [.int .i64 0,.int .i64 1]))))
  (by kernel_rfl) (by
   simp only[Tree.holds,sL,ne_eq,beq_iff_eq,bne_iff_ne,eq_self,beq_eq_false_iff_ne,bne_eq_false_iff_eq,implies_true];(repeat' (first|apply And.intro|intro _));
   all_goals first
    |(rw[errI_no (Bool.eq_false_iff.2 (by rw[ne_eq,stOk_iff];first|omega|grind))];rfl)
    |(have hk:=stOk_iff.1 (show stOk m p=true by rw[stOk_iff];first|omega|grind)
      have hx:m.z.ok=true:=by have:=Ma.ok_iff m;grind
      have r:=st_rng hx hk.2
      have ho:=(Ax.ok_iff _).1 hx
      have w:=w64 (x:=p*m.z.num) (by omega) (by omega)
      first
      |(rw[errI_yes (stOk_iff.2 hk),w];rfl)
      |(rw[w,inR_iff];omega)
      |(rw[inR_iff];omega))) (by kernel_rfl) (by unfold errI;split<;>rfl)
theorem s_st2R(m:Ma)(p:Int):SCall Tryz.prog 303 [m.sv,I64 2,I64 p] (errI (stOk m p) (stepsN m.z p)):=
 scall_v mix [fMaOkR,fRndR] ⟨o_maOkR,o_rndR,trivial⟩ 1000 (.fork (.ln 11 (.lit .all)) (.ln 8 (.fork (.lit (.lit (.lit .all))) (.lit (.lit (.fork .all .all))))))
  (t:=.node (!m.ok) (.leaf (.tuple [.int .i64 0,.int .i64 1])) (.node (decide (p < -1073741824)) (.leaf (.tuple [.int .i64 0,.int .i64 1])) (.node (decide (p>1073741824)) (.leaf (.tuple [.int .i64 0,.int .i64 1])) (.req true (.req (true) (.req (inR m.z.den 1 4611686018427387904&&inR (i64.wrap (p*m.z.num)) (-4611686018427387904) 4611686018427387904) (.leaf (.tuple [.int .i64 (rnd (i64.wrap (p*m.z.num)) m.z.den),.int .i64 0]))))))))
  (by kernel_rfl) (by
   simp only[Tree.holds,sL,ne_eq,beq_iff_eq,bne_iff_ne,eq_self,beq_eq_false_iff_ne,bne_eq_false_iff_eq,implies_true];(repeat' (first|apply And.intro|intro _));
   all_goals first
    |(rw[errI_no (Bool.eq_false_iff.2 (by rw[ne_eq,stOk_iff];first|omega|grind))];rfl)
    |(have hk:=stOk_iff.1 (show stOk m p=true by rw[stOk_iff];first|omega|grind)
      have hx:m.z.ok=true:=by have:=Ma.ok_iff m;grind
      have r:=st_rng hx hk.2
      have ho:=(Ax.ok_iff _).1 hx
      have w:=w64 (x:=p*m.z.num) (by omega) (by omega)
      first
      |(rw[errI_yes (stOk_iff.2 hk),w];rfl)
      |(rw[w,inR_iff];omega)
      |(rw[inR_iff];omega))) (by kernel_rfl) (by unfold errI;split<;>rfl)
theorem s_un2(m:Ma)(p:Int):SCall Tryz.prog 192 [m.sv,I64 2,I64 p] (errI (unOk m p) (unitsN m.z p)):=
 scall_v mix [fMaOk,fRnd] ⟨o_maOk,o_rnd,trivial⟩ 1000 (.fork (.ln 9 (.lit .all)) (.ln 7 (.fork (.ln 5 (.fork .all .all)) (.ln 5 (.lit .all)))))
  (t:=.node (!m.ok) (.leaf (.tuple [.int .i64 0,.int .i64 1])) (.node (decide (p≥-70368744177664)) (.node (!decide (p≤70368744177664)) (.leaf (.tuple [.int .i64 0,.int .i64 1])) (.req true (.req (true) (.req (inR m.z.num 1 4611686018427387904&&inR (i64.wrap (p*m.z.den)) (-4611686018427387904) 4611686018427387904) (.leaf (.tuple [.int .i64 (rnd (i64.wrap (p*m.z.den)) m.z.num),.int .i64 0])))))) (.leaf (.tuple [.int .i64 0,.int .i64 1]))))
  (by kernel_rfl) (by
   simp only[Tree.holds,sL,ne_eq,beq_iff_eq,bne_iff_ne,eq_self,beq_eq_false_iff_ne,bne_eq_false_iff_eq,implies_true];(repeat' (first|apply And.intro|intro _));
   all_goals first
    |(rw[errI_no (Bool.eq_false_iff.2 (by rw[ne_eq,unOk_iff];first|omega|grind))];rfl)
    |(have hk:=unOk_iff.1 (show unOk m p=true by rw[unOk_iff];first|omega|grind)
      have hx:m.z.ok=true:=by have:=Ma.ok_iff m;grind
      have r:=un_rng hx (by omega) hk.2
      have ho:=(Ax.ok_iff _).1 hx
      have w:=w64 (x:=p*m.z.den) (by omega) (by omega)
      first
      |(rw[errI_yes (unOk_iff.2 hk),w];rfl)
      |(rw[w,inR_iff];omega)
      |(rw[inR_iff];omega))) (by kernel_rfl) (by unfold errI;split<;>rfl)
theorem s_un2R(m:Ma)(p:Int):SCall Tryz.prog 112 [m.sv,I64 2,I64 p] (errI (unOk m p) (unitsN m.z p)):=
 scall_v mix [fMaOkR,fRndR] ⟨o_maOkR,o_rndR,trivial⟩ 1000 (.fork (.ln 11 (.lit .all)) (.ln 8 (.fork (.lit (.lit (.lit .all))) (.lit (.lit (.fork .all .all))))))
  (t:=.node (!m.ok) (.leaf (.tuple [.int .i64 0,.int .i64 1])) (.node (decide (p < -70368744177664)) (.leaf (.tuple [.int .i64 0,.int .i64 1])) (.node (decide (p>70368744177664)) (.leaf (.tuple [.int .i64 0,.int .i64 1])) (.req true (.req (true) (.req (inR m.z.num 1 4611686018427387904&&inR (i64.wrap (p*m.z.den)) (-4611686018427387904) 4611686018427387904) (.leaf (.tuple [.int .i64 (rnd (i64.wrap (p*m.z.den)) m.z.num),.int .i64 0]))))))))
  (by kernel_rfl) (by
   simp only[Tree.holds,sL,ne_eq,beq_iff_eq,bne_iff_ne,eq_self,beq_eq_false_iff_ne,bne_eq_false_iff_eq,implies_true];(repeat' (first|apply And.intro|intro _));
   all_goals first
    |(rw[errI_no (Bool.eq_false_iff.2 (by rw[ne_eq,unOk_iff];first|omega|grind))];rfl)
    |(have hk:=unOk_iff.1 (show unOk m p=true by rw[unOk_iff];first|omega|grind)
      have hx:m.z.ok=true:=by have:=Ma.ok_iff m;grind
      have r:=un_rng hx (by omega) hk.2
      have ho:=(Ax.ok_iff _).1 hx
      have w:=w64 (x:=p*m.z.den) (by omega) (by omega)
      first
      |(rw[errI_yes (unOk_iff.2 hk),w];rfl)
      |(rw[w,inR_iff];omega)
      |(rw[inR_iff];omega))) (by kernel_rfl) (by unfold errI;split<;>rfl)
theorem s_st3(m:Ma)(p:Int):SCall Tryz.prog 135 [m.sv,I64 3,I64 p] (errI (stOk m p) (stepsN m.e p)):=
 scall_v mix [fMaOk,fRnd] ⟨o_maOk,o_rnd,trivial⟩ 1000 (.fork (.ln 9 (.lit .all)) (.ln 7 (.fork (.ln 5 (.fork .all .all)) (.ln 5 (.lit .all)))))
  (t:=.node (!m.ok) (.leaf (.tuple [.int .i64 0,.int .i64 1])) (.node (decide (p≥-1073741824)) (.node (!decide (p≤1073741824)) (.leaf (.tuple [.int .i64 0,.int .i64 1])) (.req true (.req (true) (.req (inR m.e.den 1 4611686018427387904&&inR (i64.wrap (p*m.e.num)) (-4611686018427387904) 4611686018427387904) (.leaf (.tuple [.int .i64 (rnd (i64.wrap (p*m.e.num)) m.e.den),.int .i64 0])))))) (.leaf (.tuple [.int .i64 0,.int .i64 1]))))
  (by kernel_rfl) (by
   simp only[Tree.holds,sL,ne_eq,beq_iff_eq,bne_iff_ne,eq_self,beq_eq_false_iff_ne,bne_eq_false_iff_eq,implies_true];(repeat' (first|apply And.intro|intro _));
   all_goals first
    |(rw[errI_no (Bool.eq_false_iff.2 (by rw[ne_eq,stOk_iff];first|omega|grind))];rfl)
    |(have hk:=stOk_iff.1 (show stOk m p=true by rw[stOk_iff];first|omega|grind)
      have hx:m.e.ok=true:=by have:=Ma.ok_iff m;grind
      have r:=st_rng hx hk.2
      have ho:=(Ax.ok_iff _).1 hx
      have w:=w64 (x:=p*m.e.num) (by omega) (by omega)
      first
      |(rw[errI_yes (stOk_iff.2 hk),w];rfl)
      |(rw[w,inR_iff];omega)
      |(rw[inR_iff];omega))) (by kernel_rfl) (by unfold errI;split<;>rfl)
theorem s_st3R(m:Ma)(p:Int):SCall Tryz.prog 303 [m.sv,I64 3,I64 p] (errI (stOk m p) (stepsN m.e p)):=
 scall_v mix [fMaOkR,fRndR] ⟨o_maOkR,o_rndR,trivial⟩ 1000 (.fork (.ln 11 (.lit .all)) (.ln 8 (.fork (.lit (.lit (.lit .all))) (.lit (.lit (.fork .all .all))))))
  (t:=.node (!m.ok) (.leaf (.tuple [.int .i64 0,.int .i64 1])) (.node (decide (p < -1073741824)) (.leaf (.tuple [.int .i64 0,.int .i64 1])) (.node (decide (p>1073741824)) (.leaf (.tuple [.int .i64 0,.int .i64 1])) (.req true (.req (true) (.req (inR m.e.den 1 4611686018427387904&&inR (i64.wrap (p*m.e.num)) (-4611686018427387904) 4611686018427387904) (.leaf (.tuple [.int .i64 (rnd (i64.wrap (p*m.e.num)) m.e.den),.int .i64 0]))))))))
  (by kernel_rfl) (by
   simp only[Tree.holds,sL,ne_eq,beq_iff_eq,bne_iff_ne,eq_self,beq_eq_false_iff_ne,bne_eq_false_iff_eq,implies_true];(repeat' (first|apply And.intro|intro _));
   all_goals first
    |(rw[errI_no (Bool.eq_false_iff.2 (by rw[ne_eq,stOk_iff];first|omega|grind))];rfl)
    |(have hk:=stOk_iff.1 (show stOk m p=true by rw[stOk_iff];first|omega|grind)
      have hx:m.e.ok=true:=by have:=Ma.ok_iff m;grind
      have r:=st_rng hx hk.2
      have ho:=(Ax.ok_iff _).1 hx
      have w:=w64 (x:=p*m.e.num) (by omega) (by omega)
      first
      |(rw[errI_yes (stOk_iff.2 hk),w];rfl)
      |(rw[w,inR_iff];omega)
      |(rw[inR_iff];omega))) (by kernel_rfl) (by unfold errI;split<;>rfl)
theorem s_un3(m:Ma)(p:Int):SCall Tryz.prog 192 [m.sv,I64 3,I64 p] (errI (unOk m p) (unitsN m.e p)):=
 scall_v mix [fMaOk,fRnd] ⟨o_maOk,o_rnd,trivial⟩ 1000 (.fork (.ln 9 (.lit .all)) (.ln 7 (.fork (.ln 5 (.fork .all .all)) (.ln 5 (.lit .all)))))
  (t:=.node (!m.ok) (.leaf (.tuple [.int .i64 0,.int .i64 1])) (.node (decide (p≥-70368744177664)) (.node (!decide (p≤70368744177664)) (.leaf (.tuple [.int .i64 0,.int .i64 1])) (.req true (.req (true) (.req (inR m.e.num 1 4611686018427387904&&inR (i64.wrap (p*m.e.den)) (-4611686018427387904) 4611686018427387904) (.leaf (.tuple [.int .i64 (rnd (i64.wrap (p*m.e.den)) m.e.num),.int .i64 0])))))) (.leaf (.tuple [.int .i64 0,.int .i64 1]))))
  (by kernel_rfl) (by
   simp only[Tree.holds,sL,ne_eq,beq_iff_eq,bne_iff_ne,eq_self,beq_eq_false_iff_ne,bne_eq_false_iff_eq,implies_true];(repeat' (first|apply And.intro|intro _));
   all_goals first
    |(rw[errI_no (Bool.eq_false_iff.2 (by rw[ne_eq,unOk_iff];first|omega|grind))];rfl)
    |(have hk:=unOk_iff.1 (show unOk m p=true by rw[unOk_iff];first|omega|grind)
      have hx:m.e.ok=true:=by have:=Ma.ok_iff m;grind
      have r:=un_rng hx (by omega) hk.2
      have ho:=(Ax.ok_iff _).1 hx
      have w:=w64 (x:=p*m.e.den) (by omega) (by omega)
      first
      |(rw[errI_yes (unOk_iff.2 hk),w];rfl)
      |(rw[w,inR_iff];omega)
      |(rw[inR_iff];omega))) (by kernel_rfl) (by unfold errI;split<;>rfl)
theorem s_un3R(m:Ma)(p:Int):SCall Tryz.prog 112 [m.sv,I64 3,I64 p] (errI (unOk m p) (unitsN m.e p)):=
 scall_v mix [fMaOkR,fRndR] ⟨o_maOkR,o_rndR,trivial⟩ 1000 (.fork (.ln 11 (.lit .all)) (.ln 8 (.fork (.lit (.lit (.lit .all))) (.lit (.lit (.fork .all .all))))))
  (t:=.node (!m.ok) (.leaf (.tuple [.int .i64 0,.int .i64 1])) (.node (decide (p < -70368744177664)) (.leaf (.tuple [.int .i64 0,.int .i64 1])) (.node (decide (p>70368744177664)) (.leaf (.tuple [.int .i64 0,.int .i64 1])) (.req true (.req (true) (.req (inR m.e.num 1 4611686018427387904&&inR (i64.wrap (p*m.e.den)) (-4611686018427387904) 4611686018427387904) (.leaf (.tuple [.int .i64 (rnd (i64.wrap (p*m.e.den)) m.e.num),.int .i64 0]))))))))
  (by kernel_rfl) (by
   simp only[Tree.holds,sL,ne_eq,beq_iff_eq,bne_iff_ne,eq_self,beq_eq_false_iff_ne,bne_eq_false_iff_eq,implies_true];(repeat' (first|apply And.intro|intro _));
   all_goals first
    |(rw[errI_no (Bool.eq_false_iff.2 (by rw[ne_eq,unOk_iff];first|omega|grind))];rfl)
    |(have hk:=unOk_iff.1 (show unOk m p=true by rw[unOk_iff];first|omega|grind)
      have hx:m.e.ok=true:=by have:=Ma.ok_iff m;grind
      have r:=un_rng hx (by omega) hk.2
      have ho:=(Ax.ok_iff _).1 hx
      have w:=w64 (x:=p*m.e.den) (by omega) (by omega)
      first
      |(rw[errI_yes (unOk_iff.2 hk),w];rfl)
      |(rw[w,inR_iff];omega)
      |(rw[inR_iff];omega))) (by kernel_rfl) (by unfold errI;split<;>rfl)
def factCoI(f:FuncId)(h:Co→Int→Tree SV):Fact:=⟨f,fun args=>match args with
 |[.agg [.int .i64 a0,.int .i64 a1,.int .i64 a2,.int .i64 a3,.int .i64 a4,.int .i64 a5],.int .i64 i] =>some (h ⟨a0,a1,a2,a3,a4,a5⟩ i)
 |_=>none⟩
theorem factCoI_ok{P:Program}{f:FuncId}{h:Co→Int→Tree SV}(k:∀c i,(h c i).says (SCall P f [c.sv,I64 i])):(factCoI f h).ok P:=fun args t ht=>by
 simp only[factCoI]at ht
 split at ht
 ·injection ht with ht;subst ht;exact k ⟨_,_,_,_,_,_⟩ _
 ·cases ht
def factGuT(f:FuncId)(h:Gu→Tree SV):Fact:=⟨f,fun args=>match args with
 |[.agg [.int .i64 a0,.int .i64 a1,.int .i64 a2,.int .i64 a3,.int .i64 a4,.int .i64 a5,.int .i64 a6,.int .i64 a7,.int .i64 a8,.int .i64 a9,.bool d]] =>some (h ⟨a0,a1,a2,a3,a4,a5,a6,a7,a8,a9,d⟩)
 |_=>none⟩
theorem factGuT_ok{P:Program}{f:FuncId}{h:Gu→Tree SV}(k:∀g,(h g).says (SCall P f [g.sv])):(factGuT f h).ok P:=fun args t ht=>by
 simp only[factGuT]at ht
 split at ht
 ·injection ht with ht;subst ht;exact k ⟨_,_,_,_,_,_,_,_,_,_,_⟩
 ·cases ht
def factGuI(f:FuncId)(h:Gu→Int→Tree SV):Fact:=⟨f,fun args=>match args with
 |[.agg [.int .i64 a0,.int .i64 a1,.int .i64 a2,.int .i64 a3,.int .i64 a4,.int .i64 a5,.int .i64 a6,.int .i64 a7,.int .i64 a8,.int .i64 a9,.bool d],.int .i64 i] =>some (h ⟨a0,a1,a2,a3,a4,a5,a6,a7,a8,a9,d⟩ i)
 |_=>none⟩
theorem factGuI_ok{P:Program}{f:FuncId}{h:Gu→Int→Tree SV}(k:∀g i,(h g i).says (SCall P f [g.sv,I64 i])):(factGuI f h).ok P:=fun args t ht=>by
 simp only[factGuI]at ht
 split at ht
 ·injection ht with ht;subst ht;exact k ⟨_,_,_,_,_,_,_,_,_,_,_⟩ _
 ·cases ht
def factGu3(f:FuncId)(h:Gu→Int→Int→Int→Tree SV):Fact:=⟨f,fun args=>match args with
 |[.agg [.int .i64 a0,.int .i64 a1,.int .i64 a2,.int .i64 a3,.int .i64 a4,.int .i64 a5,.int .i64 a6,.int .i64 a7,.int .i64 a8,.int .i64 a9,.bool d],.int .i64 r,.int .i64 t,.int .i64 u] =>some (h ⟨a0,a1,a2,a3,a4,a5,a6,a7,a8,a9,d⟩ r t u)
 |_=>none⟩
theorem factGu3_ok{P:Program}{f:FuncId}{h:Gu→Int→Int→Int→Tree SV}(k:∀g r t u,(h g r t u).says (SCall P f [g.sv,I64 r,I64 t,I64 u])):(factGu3 f h).ok P:=fun args t ht=>by
 simp only[factGu3]at ht
 split at ht
 ·injection ht with ht;subst ht;exact k ⟨_,_,_,_,_,_,_,_,_,_,_⟩ _ _ _
 ·cases ht
def Co.zero:Co:=⟨0,0,0,0,0,0⟩
def aimOk(c:Co)(t:Int):Bool:=c.ok&&inR t 0 400000
theorem aimOk_iff{c:Co}{t:Int}:aimOk c t=true↔c.ok=true∧0≤t∧t≤400000:=by simp only[aimOk,Bool.and_eq_true,inR_iff]
def Co.aim(c:Co)(t:Int):Co:=⟨t,c.kp,c.ki,c.scale,0,c.limit⟩
def aimS(c:Co)(t:Int):SV:=match aimOk c t with
 |true=>.tuple [Co.sv (c.aim t),I64 0]
 |false=>.tuple [Co.sv Co.zero,I64 1]
theorem aimS_yes{c:Co}{t:Int}(h:aimOk c t=true):aimS c t=.tuple [Co.sv (c.aim t),I64 0] :=by unfold aimS;rw[h]
theorem aimS_no{c:Co}{t:Int}(h:aimOk c t=false):aimS c t=.tuple [Co.sv Co.zero,I64 1] :=by unfold aimS;rw[h]
def Co.acc(c:Co)(r:Int):Int:=cla (c.sum+c.ki*(c.target-r)) 0 c.limit
def coLive(c:Co)(r:Int):Bool:=c.ok&&inR r (-1073741824) 1073741824
theorem coLive_iff{c:Co}{r:Int}:coLive c r=true↔c.ok=true∧-1073741824≤r∧r≤1073741824:=by simp only[coLive,Bool.and_eq_true,inR_iff]
def Co.step(c:Co)(r:Int):Co:=match coLive c r with
 |true=>⟨c.target,c.kp,c.ki,c.scale,if c.target=0 then 0 else c.acc r,c.limit⟩
 |false=>c
def Co.duty(c:Co)(r:Int):Int:=match coLive c r with
 |true=>if c.target=0 then 0 else cla ((c.kp*(c.target-r)+c.acc r) / c.scale) 0 255
 |false=>0
def coS(c:Co)(r:Int):SV:=.tuple [Co.sv (c.step r),I64 (c.duty r)]
theorem coS_no{c:Co}{r:Int}(h:coLive c r=false):coS c r=.tuple [Co.sv c,I64 0] :=by unfold coS Co.step Co.duty;rw[h]
theorem coS_off{c:Co}{r:Int}(h:coLive c r=true)(h0:c.target=0):coS c r=.tuple [Co.sv ⟨c.target,c.kp,c.ki,c.scale,0,c.limit⟩,I64 0] :=by unfold coS Co.step Co.duty;rw[h];simp only[if_pos h0]
theorem coS_on{c:Co}{r:Int}(h:coLive c r=true)(h0:¬c.target=0):coS c r=.tuple [Co.sv ⟨c.target,c.kp,c.ki,c.scale,c.acc r,c.limit⟩,I64 (cla ((c.kp*(c.target-r)+c.acc r) / c.scale) 0 255)] :=by unfold coS Co.step Co.duty;rw[h];simp only[if_neg h0]
theorem co_rng{c:Co}{r:Int}(h:coLive c r=true):(-1125899906842624*2≤c.ki*(c.target-r)∧c.ki*(c.target-r)≤1125899906842624*2)∧(-1125899906842624*2≤c.kp*(c.target-r)∧c.kp*(c.target-r)≤1125899906842624*2)∧0≤c.acc r∧c.acc r≤1099511627776:=by
 rw[coLive_iff,Co.ok_iff]at h
 have e:∀k:Int,0≤k∧k≤1048576→-1125899906842624*2≤k*(c.target-r)∧k*(c.target-r)≤1125899906842624*2:=fun k hk=>by
  have h1:k*(c.target-r)≤k*2147483648:=Int.mul_le_mul_of_nonneg_left (by omega) hk.1
  have h3:k*(-2147483648)≤k*(c.target-r):=Int.mul_le_mul_of_nonneg_left (by omega) hk.1
  omega
 refine⟨e _ h.1.2.2.1,e _ h.1.2.1,?_⟩
 have:=cla_rng (n:=c.sum+c.ki*(c.target-r)) (lo:=0) (hi:=c.limit) (by omega)
 unfold Co.acc;omega
def Gu.zero:Gu:=⟨0,0,0,0,0,0,0,0,0,0,false⟩
def Gu.touch(g:Gu):Gu:=match g.ok with
 |true=>{g with quiet:=0}
 |false=>g
def Gu.stop(g:Gu):Gu:=match g.ok with
 |true=>{g with fault:=4}
 |false=>g
theorem Gu.touch_yes{g:Gu}(h:g.ok=true):g.touch={g with quiet:=0}:=by unfold Gu.touch;rw[h]
theorem Gu.touch_no{g:Gu}(h:g.ok=false):g.touch=g:=by unfold Gu.touch;rw[h]
theorem Gu.stop_yes{g:Gu}(h:g.ok=true):g.stop={g with fault:=4}:=by unfold Gu.stop;rw[h]
theorem Gu.stop_no{g:Gu}(h:g.ok=false):g.stop=g:=by unfold Gu.stop;rw[h]
def Gu.resE(g:Gu)(r:Int):Int:=match g.ok with
 |true=>if g.fault=0 then 14 else if r<g.low then 16 else if g.high<r then 16 else 0
 |false=>1
def Gu.rest(g:Gu)(r:Int):Gu:=⟨g.low,g.high,g.watch,g.rise,g.band,r,0,g.idle,0,0,g.door⟩
def Gu.cnt(g:Gu)(r:Int):Int:=if g.base+g.rise≤r then 1 else g.count+1
def Gu.bas(g:Gu)(r:Int):Int:=if g.base+g.rise≤r then r else g.base
def Gu.way(g:Gu)(r t u:Int):Nat:=match g.ok with
 |false=>0
 |true=>if g.fault=0 then
   if r<g.low then 1 else if g.high<r then 2 else if g.idle≤g.quiet+1 then 3 else if g.door=true then 4
   else if cla u 0 255=0 then 5 else if cla t (-1073741824) 1073741824-g.band≤r then 5 else if g.watch≤g.cnt r then 6 else 7
  else 0
def Gu.step(g:Gu)(r t u:Int):Gu:=match g.way r t u with
 |0=>g
 |1=>{g with fault:=1}
 |2=>{g with fault:=2}
 |3=>{g with quiet:=g.idle,base:=r,count:=0}
 |4=>{g with quiet:=g.quiet+1,base:=r,count:=0}
 |5=>{g with quiet:=g.quiet+1,base:=r,count:=0}
 |6=>{g with quiet:=g.quiet+1,base:=g.bas r,count:=g.watch,fault:=3}
 |_=>{g with quiet:=g.quiet+1,base:=g.bas r,count:=g.cnt r}
def Gu.duty(g:Gu)(r t u:Int):Int:=match g.way r t u with
 |5=>cla u 0 255
 |7=>cla u 0 255
 |_=>0
def guS(g:Gu)(r t u:Int):SV:=.tuple [Gu.sv (g.step r t u),I64 (g.duty r t u)]
theorem s_aim(c:Co)(t:Int):SCall Tryz.prog 217 [c.sv,I64 t] (aimS c t):=
 scall_v mix [fCoOk] ⟨o_coOk,trivial⟩ 1000 (.fork (.ln 5 (.lit .all)) (.lit (.lit (.fork (.lit (.lit (.lit .all))) (.lit (.lit (.fork .all .all)))))))
  (t:=.node (!c.ok) (.leaf (.tuple [.agg [.int .i64 0,.int .i64 0,.int .i64 0,.int .i64 0,.int .i64 0,.int .i64 0],.int .i64 1])) (.node (decide (t<0)) (.leaf (.tuple [.agg [.int .i64 0,.int .i64 0,.int .i64 0,.int .i64 0,.int .i64 0,.int .i64 0],.int .i64 1])) (.node (decide (t>400000)) (.leaf (.tuple [.agg [.int .i64 0,.int .i64 0,.int .i64 0,.int .i64 0,.int .i64 0,.int .i64 0],.int .i64 1])) (.leaf (.tuple [.agg [.int .i64 t,.int .i64 c.kp,.int .i64 c.ki,.int .i64 c.scale,.int .i64 0,.int .i64 c.limit],.int .i64 0])))))
  (by kernel_rfl) (by
   simp only[Tree.holds,sL,ne_eq,beq_iff_eq,bne_iff_ne,eq_self,beq_eq_false_iff_ne,bne_eq_false_iff_eq,implies_true];(repeat' (first|apply And.intro|intro _));
   all_goals first
    |(rw[aimS_no (Bool.eq_false_iff.2 (by rw[ne_eq,aimOk_iff];first|omega|grind))];rfl)
    |(rw[aimS_yes (aimOk_iff.2 (by first|omega|grind))];rfl)) (by kernel_rfl) (by unfold aimS;split<;>rfl)
theorem s_aimR(c:Co)(t:Int):SCall Tryz.prog 275 [c.sv,I64 t] (aimS c t):=
 scall_v mix [fCoOkR] ⟨o_coOkR,trivial⟩ 1000 (.fork (.ln 5 (.lit .all)) (.lit (.lit (.fork (.lit (.lit (.lit .all))) (.lit (.lit (.fork .all .all)))))))
  (t:=.node (!c.ok) (.leaf (.tuple [.agg [.int .i64 0,.int .i64 0,.int .i64 0,.int .i64 0,.int .i64 0,.int .i64 0],.int .i64 1])) (.node (decide (t<0)) (.leaf (.tuple [.agg [.int .i64 0,.int .i64 0,.int .i64 0,.int .i64 0,.int .i64 0,.int .i64 0],.int .i64 1])) (.node (decide (t>400000)) (.leaf (.tuple [.agg [.int .i64 0,.int .i64 0,.int .i64 0,.int .i64 0,.int .i64 0,.int .i64 0],.int .i64 1])) (.leaf (.tuple [.agg [.int .i64 t,.int .i64 c.kp,.int .i64 c.ki,.int .i64 c.scale,.int .i64 0,.int .i64 c.limit],.int .i64 0])))))
  (by kernel_rfl) (by
   simp only[Tree.holds,sL,ne_eq,beq_iff_eq,bne_iff_ne,eq_self,beq_eq_false_iff_ne,bne_eq_false_iff_eq,implies_true];(repeat' (first|apply And.intro|intro _));
   all_goals first
    |(rw[aimS_no (Bool.eq_false_iff.2 (by rw[ne_eq,aimOk_iff];first|omega|grind))];rfl)
    |(rw[aimS_yes (aimOk_iff.2 (by first|omega|grind))];rfl)) (by kernel_rfl) (by unfold aimS;split<;>rfl)
def fAim:Fact:=factCoI 217 fun c t=>.node (aimOk c t) (.leaf (.tuple [Co.sv (c.aim t),I64 0])) (.leaf (.tuple [Co.sv Co.zero,I64 1]))
def fAimR:Fact:=factCoI 275 fun c t=>.node (aimOk c t) (.leaf (.tuple [Co.sv (c.aim t),I64 0])) (.leaf (.tuple [Co.sv Co.zero,I64 1]))
theorem o_aim:fAim.ok Tryz.prog:=factCoI_ok (fun c t=>⟨fun hk=>aimS_yes hk▸s_aim c t,fun hk=>aimS_no hk▸s_aim c t⟩)
theorem o_aimR:fAimR.ok Tryz.prog:=factCoI_ok (fun c t=>⟨fun hk=>aimS_yes hk▸s_aimR c t,fun hk=>aimS_no hk▸s_aimR c t⟩)
theorem s_coS(c:Co)(r:Int):SCall Tryz.prog 162 [c.sv,I64 r] (coS c r):=
 scall_v mix [fCoOk,fCla,fFlo] ⟨o_coOk,o_cla,o_flo,trivial⟩ 1000 (.fork (.ln 5 (.lit .all)) (.lit (.lit (.fork (.lit (.lit (.lit .all))) (.lit (.lit (.fork .all (.fork .all .all))))))))
  (t:=let y0:Tree SV:=.leaf (.tuple [.agg [.int .i64 c.target,.int .i64 c.kp,.int .i64 c.ki,.int .i64 c.scale,.int .i64 c.sum,.int .i64 c.limit],.int .i64 0]);let y1:=i64.wrap (c.sum+i64.wrap (c.ki*i64.wrap (c.target-r)));let y2:=i64.wrap (c.kp*i64.wrap (c.target-r))+cla y1 0 c.limit;.node (!c.ok) y0 (.node (decide (r < -1073741824)) y0 (.node (decide (r>1073741824)) y0 (.node (c.target==0) (.leaf (.tuple [.agg [.int .i64 c.target,.int .i64 c.kp,.int .i64 c.ki,.int .i64 c.scale,.int .i64 0,.int .i64 c.limit],.int .i64 0])) (.req (decide (0≤c.limit)) (.req (inR c.scale 1 4611686018427387904&&inR (i64.wrap y2) (-4611686018427387904) 4611686018427387904) (.req true (.leaf (.tuple [.agg [.int .i64 c.target,.int .i64 c.kp,.int .i64 c.ki,.int .i64 c.scale,.int .i64 (cla y1 0 c.limit),.int .i64 c.limit],.int .i64 (cla (i64.wrap y2 / c.scale) 0 255)])))))))))
  (by kernel_rfl) (by
   have z:=co_rng (c:=c) (r:=r)
   have li:=coLive_iff (c:=c) (r:=r)
   have ci:=Co.ok_iff c
   simp only[Tree.holds,sL,ne_eq,beq_iff_eq,bne_iff_ne,eq_self,beq_eq_false_iff_ne,bne_eq_false_iff_eq,implies_true];(repeat' (first|apply And.intro|intro _));
   all_goals first
    |(rw[coS_no (Bool.eq_false_iff.2 (by rw[ne_eq,coLive_iff];first|omega|grind))];rfl)
    |(have hl:coLive c r=true:=coLive_iff.2 (by first|omega|grind)
      have hc:=ci.1 (li.1 hl).1
      have hr:=li.1 hl
      have z:=z hl
      have w1:=w64 (x:=c.target-r) (by omega) (by omega)
      have w2:=w64 (x:=c.ki*(c.target-r)) (by omega) (by omega)
      have w3:=w64 (x:=c.kp*(c.target-r)) (by omega) (by omega)
      have w4:=w64 (x:=c.sum+c.ki*(c.target-r)) (by omega) (by omega)
      have w5:=w64 (x:=c.kp*(c.target-r)+c.acc r) (by omega) (by omega)
      have e:cla (c.sum+c.ki*(c.target-r)) 0 c.limit=c.acc r:=rfl
      (try simp only[w1,w2,w3,w4,e,w5])
      first
      |(rw[inR_iff];omega)
      |omega
      |(rw[coS_off hl (by assumption)];rfl)
      |(rw[coS_on hl (by assumption)];rfl))) (by kernel_rfl) (by kernel_rfl)
theorem s_coSR(c:Co)(r:Int):SCall Tryz.prog 167 [c.sv,I64 r] (coS c r):=
 scall_v mix [fCoOkR,fClaR,fFloR] ⟨o_coOkR,o_claR,o_floR,trivial⟩ 1000 (.fork (.ln 5 (.lit .all)) (.lit (.lit (.fork (.lit (.lit (.lit .all))) (.lit (.lit (.fork .all (.fork .all .all))))))))
  (t:=let y0:Tree SV:=.leaf (.tuple [.agg [.int .i64 c.target,.int .i64 c.kp,.int .i64 c.ki,.int .i64 c.scale,.int .i64 c.sum,.int .i64 c.limit],.int .i64 0]);let y1:=i64.wrap (c.sum+i64.wrap (c.ki*i64.wrap (c.target-r)));let y2:=i64.wrap (c.kp*i64.wrap (c.target-r))+cla y1 0 c.limit;.node (!c.ok) y0 (.node (decide (r < -1073741824)) y0 (.node (decide (r>1073741824)) y0 (.node (c.target==0) (.leaf (.tuple [.agg [.int .i64 c.target,.int .i64 c.kp,.int .i64 c.ki,.int .i64 c.scale,.int .i64 0,.int .i64 c.limit],.int .i64 0])) (.req (decide (0≤c.limit)) (.req (inR c.scale 1 4611686018427387904&&inR (i64.wrap y2) (-4611686018427387904) 4611686018427387904) (.req true (.leaf (.tuple [.agg [.int .i64 c.target,.int .i64 c.kp,.int .i64 c.ki,.int .i64 c.scale,.int .i64 (cla y1 0 c.limit),.int .i64 c.limit],.int .i64 (cla (i64.wrap y2 / c.scale) 0 255)])))))))))
  (by kernel_rfl) (by
   have z:=co_rng (c:=c) (r:=r)
   have li:=coLive_iff (c:=c) (r:=r)
   have ci:=Co.ok_iff c
   simp only[Tree.holds,sL,ne_eq,beq_iff_eq,bne_iff_ne,eq_self,beq_eq_false_iff_ne,bne_eq_false_iff_eq,implies_true];(repeat' (first|apply And.intro|intro _));
   all_goals first
    |(rw[coS_no (Bool.eq_false_iff.2 (by rw[ne_eq,coLive_iff];first|omega|grind))];rfl)
    |(have hl:coLive c r=true:=coLive_iff.2 (by first|omega|grind)
      have hc:=ci.1 (li.1 hl).1
      have hr:=li.1 hl
      have z:=z hl
      have w1:=w64 (x:=c.target-r) (by omega) (by omega)
      have w2:=w64 (x:=c.ki*(c.target-r)) (by omega) (by omega)
      have w3:=w64 (x:=c.kp*(c.target-r)) (by omega) (by omega)
      have w4:=w64 (x:=c.sum+c.ki*(c.target-r)) (by omega) (by omega)
      have w5:=w64 (x:=c.kp*(c.target-r)+c.acc r) (by omega) (by omega)
      have e:cla (c.sum+c.ki*(c.target-r)) 0 c.limit=c.acc r:=rfl
      (try simp only[w1,w2,w3,w4,e,w5])
      first
      |(rw[inR_iff];omega)
      |omega
      |(rw[coS_off hl (by assumption)];rfl)
      |(rw[coS_on hl (by assumption)];rfl))) (by kernel_rfl) (by kernel_rfl)
theorem s_touch(g:Gu):SCall Tryz.prog 73 [g.sv] (g.touch.sv):=
 scall_v mix [fGuOk] ⟨o_guOk,trivial⟩ 1000 (.fork (.all) (.all))
  (t:=.node (g.ok) (.leaf (.agg [.int .i64 g.low,.int .i64 g.high,.int .i64 g.watch,.int .i64 g.rise,.int .i64 g.band,.int .i64 g.base,.int .i64 g.count,.int .i64 g.idle,.int .i64 0,.int .i64 g.fault,.bool g.door])) (.leaf (.agg [.int .i64 g.low,.int .i64 g.high,.int .i64 g.watch,.int .i64 g.rise,.int .i64 g.band,.int .i64 g.base,.int .i64 g.count,.int .i64 g.idle,.int .i64 g.quiet,.int .i64 g.fault,.bool g.door])))
  (by kernel_rfl) (by simp only[Tree.holds,sL,ne_eq,beq_iff_eq,bne_iff_ne,eq_self,beq_eq_false_iff_ne,bne_eq_false_iff_eq,implies_true];(repeat' (first|apply And.intro|intro _));all_goals first|(rw[Gu.touch_yes (by assumption)];rfl)|(rw[Gu.touch_no (by assumption)];rfl)) (by kernel_rfl) (by kernel_rfl)
theorem s_touchR(g:Gu):SCall Tryz.prog 157 [g.sv] (g.touch.sv):=
 scall_v mix [fGuOkR] ⟨o_guOkR,trivial⟩ 1000 (.fork (.all) (.all))
  (t:=.node (g.ok) (.leaf (.agg [.int .i64 g.low,.int .i64 g.high,.int .i64 g.watch,.int .i64 g.rise,.int .i64 g.band,.int .i64 g.base,.int .i64 g.count,.int .i64 g.idle,.int .i64 0,.int .i64 g.fault,.bool g.door])) (.leaf (.agg [.int .i64 g.low,.int .i64 g.high,.int .i64 g.watch,.int .i64 g.rise,.int .i64 g.band,.int .i64 g.base,.int .i64 g.count,.int .i64 g.idle,.int .i64 g.quiet,.int .i64 g.fault,.bool g.door])))
  (by kernel_rfl) (by simp only[Tree.holds,sL,ne_eq,beq_iff_eq,bne_iff_ne,eq_self,beq_eq_false_iff_ne,bne_eq_false_iff_eq,implies_true];(repeat' (first|apply And.intro|intro _));all_goals first|(rw[Gu.touch_yes (by assumption)];rfl)|(rw[Gu.touch_no (by assumption)];rfl)) (by kernel_rfl) (by kernel_rfl)
def fTouch:Fact:=factGuT 73 fun g=>.leaf g.touch.sv
def fTouchR:Fact:=factGuT 157 fun g=>.leaf g.touch.sv
theorem o_touch:fTouch.ok Tryz.prog:=factGuT_ok (s_touch)
theorem o_touchR:fTouchR.ok Tryz.prog:=factGuT_ok (s_touchR)
theorem s_stop(g:Gu):SCall Tryz.prog 211 [g.sv] (g.stop.sv):=
 scall_v mix [fGuOk] ⟨o_guOk,trivial⟩ 1000 (.fork (.all) (.all))
  (t:=.node (g.ok) (.leaf (.agg [.int .i64 g.low,.int .i64 g.high,.int .i64 g.watch,.int .i64 g.rise,.int .i64 g.band,.int .i64 g.base,.int .i64 g.count,.int .i64 g.idle,.int .i64 g.quiet,.int .i64 4,.bool g.door])) (.leaf (.agg [.int .i64 g.low,.int .i64 g.high,.int .i64 g.watch,.int .i64 g.rise,.int .i64 g.band,.int .i64 g.base,.int .i64 g.count,.int .i64 g.idle,.int .i64 g.quiet,.int .i64 g.fault,.bool g.door])))
  (by kernel_rfl) (by simp only[Tree.holds,sL,ne_eq,beq_iff_eq,bne_iff_ne,eq_self,beq_eq_false_iff_ne,bne_eq_false_iff_eq,implies_true];(repeat' (first|apply And.intro|intro _));all_goals first|(rw[Gu.stop_yes (by assumption)];rfl)|(rw[Gu.stop_no (by assumption)];rfl)) (by kernel_rfl) (by kernel_rfl)
theorem s_stopR(g:Gu):SCall Tryz.prog 158 [g.sv] (g.stop.sv):=
 scall_v mix [fGuOkR] ⟨o_guOkR,trivial⟩ 1000 (.fork (.all) (.all))
  (t:=.node (g.ok) (.leaf (.agg [.int .i64 g.low,.int .i64 g.high,.int .i64 g.watch,.int .i64 g.rise,.int .i64 g.band,.int .i64 g.base,.int .i64 g.count,.int .i64 g.idle,.int .i64 g.quiet,.int .i64 4,.bool g.door])) (.leaf (.agg [.int .i64 g.low,.int .i64 g.high,.int .i64 g.watch,.int .i64 g.rise,.int .i64 g.band,.int .i64 g.base,.int .i64 g.count,.int .i64 g.idle,.int .i64 g.quiet,.int .i64 g.fault,.bool g.door])))
  (by kernel_rfl) (by simp only[Tree.holds,sL,ne_eq,beq_iff_eq,bne_iff_ne,eq_self,beq_eq_false_iff_ne,bne_eq_false_iff_eq,implies_true];(repeat' (first|apply And.intro|intro _));all_goals first|(rw[Gu.stop_yes (by assumption)];rfl)|(rw[Gu.stop_no (by assumption)];rfl)) (by kernel_rfl) (by kernel_rfl)
def fStop:Fact:=factGuT 211 fun g=>.leaf g.stop.sv
def fStopR:Fact:=factGuT 158 fun g=>.leaf g.stop.sv
theorem o_stop:fStop.ok Tryz.prog:=factGuT_ok (s_stop)
theorem o_stopR:fStopR.ok Tryz.prog:=factGuT_ok (s_stopR)
theorem s_reset(g:Gu)(r:Int):SCall Tryz.prog 212 [g.sv,I64 r] (.tuple [if g.resE r=0 then(g.rest r).sv else Gu.zero.sv,I64 (g.resE r)]):=
 scall_v mix [fGuOk] ⟨o_guOk,trivial⟩ 1000 (.fork .all (.fork .all (.fork (.ln 4 (.lit .all)) (.ln 4 (.fork .all .all)))))
  (t:=.node (!g.ok) (.leaf (.tuple [.agg [.int .i64 0,.int .i64 0,.int .i64 0,.int .i64 0,.int .i64 0,.int .i64 0,.int .i64 0,.int .i64 0,.int .i64 0,.int .i64 0,.bool false],.int .i64 1])) (.node (g.fault==0) (.leaf (.tuple [.agg [.int .i64 0,.int .i64 0,.int .i64 0,.int .i64 0,.int .i64 0,.int .i64 0,.int .i64 0,.int .i64 0,.int .i64 0,.int .i64 0,.bool false],.int .i64 14])) (.node (decide (r<g.low)) (.leaf (.tuple [.agg [.int .i64 0,.int .i64 0,.int .i64 0,.int .i64 0,.int .i64 0,.int .i64 0,.int .i64 0,.int .i64 0,.int .i64 0,.int .i64 0,.bool false],.int .i64 16])) (.node (decide (r>g.high)) (.leaf (.tuple [.agg [.int .i64 0,.int .i64 0,.int .i64 0,.int .i64 0,.int .i64 0,.int .i64 0,.int .i64 0,.int .i64 0,.int .i64 0,.int .i64 0,.bool false],.int .i64 16])) (.leaf (.tuple [.agg [.int .i64 g.low,.int .i64 g.high,.int .i64 g.watch,.int .i64 g.rise,.int .i64 g.band,.int .i64 r,.int .i64 0,.int .i64 g.idle,.int .i64 0,.int .i64 0,.bool g.door],.int .i64 0]))))))
  (by kernel_rfl) (by
   simp only[Tree.holds,sL,ne_eq,beq_iff_eq,bne_iff_ne,eq_self,beq_eq_false_iff_ne,bne_eq_false_iff_eq,implies_true];(repeat' (first|apply And.intro|intro _));
   all_goals(unfold Gu.resE;simp_all only[];grind[Gu.rest,Gu.zero,Gu.sv,Gu.cells,I64])) (by kernel_rfl) (by split<;>rfl)
theorem s_resetR(g:Gu)(r:Int):SCall Tryz.prog 220 [g.sv,I64 r] (.tuple [if g.resE r=0 then(g.rest r).sv else Gu.zero.sv,I64 (g.resE r)]):=
 scall_v mix [fGuOkR] ⟨o_guOkR,trivial⟩ 1000 (.fork .all (.fork .all (.fork (.ln 4 (.lit .all)) (.ln 4 (.fork .all .all)))))
  (t:=.node (!g.ok) (.leaf (.tuple [.agg [.int .i64 0,.int .i64 0,.int .i64 0,.int .i64 0,.int .i64 0,.int .i64 0,.int .i64 0,.int .i64 0,.int .i64 0,.int .i64 0,.bool false],.int .i64 1])) (.node (g.fault==0) (.leaf (.tuple [.agg [.int .i64 0,.int .i64 0,.int .i64 0,.int .i64 0,.int .i64 0,.int .i64 0,.int .i64 0,.int .i64 0,.int .i64 0,.int .i64 0,.bool false],.int .i64 14])) (.node (decide (r<g.low)) (.leaf (.tuple [.agg [.int .i64 0,.int .i64 0,.int .i64 0,.int .i64 0,.int .i64 0,.int .i64 0,.int .i64 0,.int .i64 0,.int .i64 0,.int .i64 0,.bool false],.int .i64 16])) (.node (decide (r>g.high)) (.leaf (.tuple [.agg [.int .i64 0,.int .i64 0,.int .i64 0,.int .i64 0,.int .i64 0,.int .i64 0,.int .i64 0,.int .i64 0,.int .i64 0,.int .i64 0,.bool false],.int .i64 16])) (.leaf (.tuple [.agg [.int .i64 g.low,.int .i64 g.high,.int .i64 g.watch,.int .i64 g.rise,.int .i64 g.band,.int .i64 r,.int .i64 0,.int .i64 g.idle,.int .i64 0,.int .i64 0,.bool g.door],.int .i64 0]))))))
  (by kernel_rfl) (by
   simp only[Tree.holds,sL,ne_eq,beq_iff_eq,bne_iff_ne,eq_self,beq_eq_false_iff_ne,bne_eq_false_iff_eq,implies_true];(repeat' (first|apply And.intro|intro _));
   all_goals(unfold Gu.resE;simp_all only[];grind[Gu.rest,Gu.zero,Gu.sv,Gu.cells,I64])) (by kernel_rfl) (by split<;>rfl)
theorem s_gstep(g:Gu)(r t u:Int):SCall Tryz.prog 163 [g.sv,I64 r,I64 t,I64 u] (guS g r t u):=
 scall_v mix [fGuOk,fCla] ⟨o_guOk,o_cla,trivial⟩ 1000 (.fork (.ln 3 (.lit .all)) (.ln 3 (.fork .all (.fork (.lit .all) (.fork (.fork .all .all) (.fork .all (.fork .all (.fork (.ln 6 (.lit .all)) (.ln 6 (.fork .all (.fork (.fork .all .all) (.fork .all .all))))))))))))
  (t:=let y0:Tree SV:=.leaf (.tuple [.agg [.int .i64 g.low,.int .i64 g.high,.int .i64 g.watch,.int .i64 g.rise,.int .i64 g.band,.int .i64 g.base,.int .i64 g.count,.int .i64 g.idle,.int .i64 g.quiet,.int .i64 g.fault,.bool g.door],.int .i64 0]);let y2:=i64.wrap (g.quiet+1);let y1:Tree SV:=.leaf (.tuple [.agg [.int .i64 g.low,.int .i64 g.high,.int .i64 g.watch,.int .i64 g.rise,.int .i64 g.band,.int .i64 r,.int .i64 0,.int .i64 g.idle,.int .i64 y2,.int .i64 g.fault,.bool g.door],.int .i64 (cla u 0 255)]);.node (!g.ok) y0 (.node (g.fault != 0) y0 (.node (decide (r<g.low)) (.leaf (.tuple [.agg [.int .i64 g.low,.int .i64 g.high,.int .i64 g.watch,.int .i64 g.rise,.int .i64 g.band,.int .i64 g.base,.int .i64 g.count,.int .i64 g.idle,.int .i64 g.quiet,.int .i64 1,.bool g.door],.int .i64 0])) (.node (decide (r>g.high)) (.node (g.fault==0) (.leaf (.tuple [.agg [.int .i64 g.low,.int .i64 g.high,.int .i64 g.watch,.int .i64 g.rise,.int .i64 g.band,.int .i64 g.base,.int .i64 g.count,.int .i64 g.idle,.int .i64 g.quiet,.int .i64 2,.bool g.door],.int .i64 0])) y0) (.node (decide (i64.wrap (g.quiet+1)≥g.idle)) (.leaf (.tuple [.agg [.int .i64 g.low,.int .i64 g.high,.int .i64 g.watch,.int .i64 g.rise,.int .i64 g.band,.int .i64 r,.int .i64 0,.int .i64 g.idle,.int .i64 g.idle,.int .i64 g.fault,.bool g.door],.int .i64 0])) (.req true (.req (true) (.node (g.door) (.leaf (.tuple [.agg [.int .i64 g.low,.int .i64 g.high,.int .i64 g.watch,.int .i64 g.rise,.int .i64 g.band,.int .i64 r,.int .i64 0,.int .i64 g.idle,.int .i64 y2,.int .i64 g.fault,.bool g.door],.int .i64 0])) (.node (cla u 0 255==0) y1 (.node (decide (r≥i64.wrap (cla t (-1073741824) 1073741824-g.band))) y1 (.node (decide (r≥i64.wrap (g.base+g.rise))) (.node (decide (1≥g.watch)) (.leaf (.tuple [.agg [.int .i64 g.low,.int .i64 g.high,.int .i64 g.watch,.int .i64 g.rise,.int .i64 g.band,.int .i64 r,.int .i64 g.watch,.int .i64 g.idle,.int .i64 y2,.int .i64 3,.bool g.door],.int .i64 0])) (.leaf (.tuple [.agg [.int .i64 g.low,.int .i64 g.high,.int .i64 g.watch,.int .i64 g.rise,.int .i64 g.band,.int .i64 r,.int .i64 1,.int .i64 g.idle,.int .i64 y2,.int .i64 g.fault,.bool g.door],.int .i64 (cla u 0 255)]))) (.node (decide (i64.wrap (g.count+1)≥g.watch)) (.leaf (.tuple [.agg [.int .i64 g.low,.int .i64 g.high,.int .i64 g.watch,.int .i64 g.rise,.int .i64 g.band,.int .i64 g.base,.int .i64 g.watch,.int .i64 g.idle,.int .i64 y2,.int .i64 3,.bool g.door],.int .i64 0])) (.leaf (.tuple [.agg [.int .i64 g.low,.int .i64 g.high,.int .i64 g.watch,.int .i64 g.rise,.int .i64 g.band,.int .i64 g.base,.int .i64 (i64.wrap (g.count+1)),.int .i64 g.idle,.int .i64 y2,.int .i64 g.fault,.bool g.door],.int .i64 (cla u 0 255)]))))))))))))))
  (by kernel_rfl) (by
   have cu:=cla_rng (n:=u) (lo:=0) (hi:=255) (by omega)
   have ct:=cla_rng (n:=t) (lo:= -1073741824) (hi:=1073741824) (by omega)
   cases hok:g.ok with
   |false=>simp only[Tree.holds,hok,sL,ne_eq,beq_iff_eq,bne_iff_ne,eq_self,beq_eq_false_iff_ne,bne_eq_false_iff_eq,implies_true];unfold guS Gu.step Gu.duty Gu.way;rw[hok];rfl
   |true=>
    have o:=(Gu.ok_iff g).1 hok
    have w1:=w64 (x:=g.quiet+1) (by omega) (by omega)
    have w2:=w64 (x:=g.count+1) (by omega) (by omega)
    have w3:=w64 (x:=g.base+g.rise) (by omega) (by omega)
    have w4:=w64 (x:=cla t (-1073741824) 1073741824-g.band) (by omega) (by omega)
    have w5:i64.wrap (0+1)=1:=by decide
    simp only[Tree.holds,hok,w1,w2,w3,w4,w5,sL,ne_eq,beq_iff_eq,bne_iff_ne,eq_self,beq_eq_false_iff_ne,bne_eq_false_iff_eq,implies_true];(repeat' (first|apply And.intro|intro _));
    all_goals first
     |omega
     |(have hw:g.way r t u=0:=by(unfold Gu.way;simp only[hok];simp (config:={zetaDelta:=false}) only[Gu.cnt];grind)
       unfold guS Gu.step Gu.duty
       (simp only[hw,Gu.sv,Gu.cells,I64,Gu.bas,Gu.cnt,SV.tuple.injEq,SV.agg.injEq,List.cons.injEq,SV.int.injEq,SV.bool.injEq,true_and,and_true,eq_self])<;>(first|rfl|((repeat' apply And.intro)<;>first|rfl|omega|(unfold cla;(repeat' split)<;>omega)|grind)))
     |(have hw:g.way r t u=1:=by(unfold Gu.way;simp only[hok];simp (config:={zetaDelta:=false}) only[Gu.cnt];grind)
       unfold guS Gu.step Gu.duty
       (simp only[hw,Gu.sv,Gu.cells,I64,Gu.bas,Gu.cnt,SV.tuple.injEq,SV.agg.injEq,List.cons.injEq,SV.int.injEq,SV.bool.injEq,true_and,and_true,eq_self])<;>(first|rfl|((repeat' apply And.intro)<;>first|rfl|omega|(unfold cla;(repeat' split)<;>omega)|grind)))
     |(have hw:g.way r t u=2:=by(unfold Gu.way;simp only[hok];simp (config:={zetaDelta:=false}) only[Gu.cnt];grind)
       unfold guS Gu.step Gu.duty
       (simp only[hw,Gu.sv,Gu.cells,I64,Gu.bas,Gu.cnt,SV.tuple.injEq,SV.agg.injEq,List.cons.injEq,SV.int.injEq,SV.bool.injEq,true_and,and_true,eq_self])<;>(first|rfl|((repeat' apply And.intro)<;>first|rfl|omega|(unfold cla;(repeat' split)<;>omega)|grind)))
     |(have hw:g.way r t u=3:=by(unfold Gu.way;simp only[hok];simp (config:={zetaDelta:=false}) only[Gu.cnt];grind)
       unfold guS Gu.step Gu.duty
       (simp only[hw,Gu.sv,Gu.cells,I64,Gu.bas,Gu.cnt,SV.tuple.injEq,SV.agg.injEq,List.cons.injEq,SV.int.injEq,SV.bool.injEq,true_and,and_true,eq_self])<;>(first|rfl|((repeat' apply And.intro)<;>first|rfl|omega|(unfold cla;(repeat' split)<;>omega)|grind)))
     |(have hw:g.way r t u=4:=by(unfold Gu.way;simp only[hok];simp (config:={zetaDelta:=false}) only[Gu.cnt];grind)
       unfold guS Gu.step Gu.duty
       (simp only[hw,Gu.sv,Gu.cells,I64,Gu.bas,Gu.cnt,SV.tuple.injEq,SV.agg.injEq,List.cons.injEq,SV.int.injEq,SV.bool.injEq,true_and,and_true,eq_self])<;>(first|rfl|((repeat' apply And.intro)<;>first|rfl|omega|(unfold cla;(repeat' split)<;>omega)|grind)))
     |(have hw:g.way r t u=5:=by(unfold Gu.way;simp only[hok];simp (config:={zetaDelta:=false}) only[Gu.cnt];grind)
       unfold guS Gu.step Gu.duty
       (simp only[hw,Gu.sv,Gu.cells,I64,Gu.bas,Gu.cnt,SV.tuple.injEq,SV.agg.injEq,List.cons.injEq,SV.int.injEq,SV.bool.injEq,true_and,and_true,eq_self])<;>(first|rfl|((repeat' apply And.intro)<;>first|rfl|omega|(unfold cla;(repeat' split)<;>omega)|grind)))
     |(have hw:g.way r t u=6:=by(unfold Gu.way;simp only[hok];simp (config:={zetaDelta:=false}) only[Gu.cnt];grind)
       unfold guS Gu.step Gu.duty
       (simp only[hw,Gu.sv,Gu.cells,I64,Gu.bas,Gu.cnt,SV.tuple.injEq,SV.agg.injEq,List.cons.injEq,SV.int.injEq,SV.bool.injEq,true_and,and_true,eq_self])<;>(first|rfl|((repeat' apply And.intro)<;>first|rfl|omega|(unfold cla;(repeat' split)<;>omega)|grind)))
     |(have hw:g.way r t u=7:=by(unfold Gu.way;simp only[hok];simp (config:={zetaDelta:=false}) only[Gu.cnt];grind)
       unfold guS Gu.step Gu.duty
       (simp only[hw,Gu.sv,Gu.cells,I64,Gu.bas,Gu.cnt,SV.tuple.injEq,SV.agg.injEq,List.cons.injEq,SV.int.injEq,SV.bool.injEq,true_and,and_true,eq_self])<;>(first|rfl|((repeat' apply And.intro)<;>first|rfl|omega|(unfold cla;(repeat' split)<;>omega)|grind)))
) (by kernel_rfl) (by kernel_rfl)
theorem s_gstepR(g:Gu)(r t u:Int):SCall Tryz.prog 168 [g.sv,I64 r,I64 t,I64 u] (guS g r t u):=
 scall_v mix [fGuOkR,fClaG] ⟨o_guOkR,o_claG,trivial⟩ 1000 (.fork (.ln 3 (.lit .all)) (.ln 3 (.fork .all (.fork (.ln 5 (.fork .all .all)) (.ln 4 (.fork (.fork .all .all) (.fork (.ln 13 (.fork (.lit (.lit (.lit .all))) (.lit (.lit (.fork .all .all))))) (.lit (.lit (.fork (.ln 10 (.fork (.lit (.lit (.lit .all))) (.lit (.lit (.fork .all .all))))) (.lit (.lit (.fork (.ln 7 (.fork (.lit (.lit (.lit .all))) (.lit (.lit (.fork .all .all))))) (.ln 6 (.fork (.fork (.lit (.lit (.lit .all))) (.lit (.lit (.fork .all .all)))) (.fork (.fork .all .all) (.fork .all .all)))))))))))))))))
  (t:=let y1:Tree SV:=.node (decide (r<g.low)) (.leaf (.tuple [.agg [.int .i64 g.low,.int .i64 g.high,.int .i64 g.watch,.int .i64 g.rise,.int .i64 g.band,.int .i64 g.base,.int .i64 g.count,.int .i64 g.idle,.int .i64 g.quiet,.int .i64 1,.bool g.door],.int .i64 0])) (.leaf (.tuple [.agg [.int .i64 g.low,.int .i64 g.high,.int .i64 g.watch,.int .i64 g.rise,.int .i64 g.band,.int .i64 g.base,.int .i64 g.count,.int .i64 g.idle,.int .i64 g.quiet,.int .i64 2,.bool g.door],.int .i64 0]));let y3:Tree SV:=.leaf (.tuple [.agg [.int .i64 g.low,.int .i64 g.high,.int .i64 g.watch,.int .i64 g.rise,.int .i64 g.band,.int .i64 g.base,.int .i64 g.count,.int .i64 g.idle,.int .i64 g.quiet,.int .i64 g.fault,.bool g.door],.int .i64 0]);let y4:=i64.wrap (g.quiet+1);let y2:Tree SV:=.leaf (.tuple [.agg [.int .i64 g.low,.int .i64 g.high,.int .i64 g.watch,.int .i64 g.rise,.int .i64 g.band,.int .i64 r,.int .i64 0,.int .i64 g.idle,.int .i64 (cla y4 0 g.idle),.int .i64 g.fault,.bool g.door],.int .i64 0]);let y0:Tree SV:=.node (decide (i64.wrap (g.quiet+1)≥g.idle)) y2 (.node (g.door) y2 (.leaf (.tuple [.agg [.int .i64 g.low,.int .i64 g.high,.int .i64 g.watch,.int .i64 g.rise,.int .i64 g.band,.int .i64 r,.int .i64 0,.int .i64 g.idle,.int .i64 (cla y4 0 g.idle),.int .i64 g.fault,.bool g.door],.int .i64 (cla u 0 255)])));.node (!g.ok) y3 (.node (g.fault != 0) y3 (.node (decide (r<g.low)) y1 (.node (decide (r>g.high)) y1 (.node (decide (i64.wrap (g.quiet+1)≥g.idle)) y0 (.node (g.door) y0 (.node (cla u 0 255==0) y0 (.node (decide (r≥i64.wrap (cla t (-1073741824) 1073741824-g.band))) y0 (.node (decide (r≥i64.wrap (g.base+g.rise))) (.node (decide (1≥g.watch)) (.leaf (.tuple [.agg [.int .i64 g.low,.int .i64 g.high,.int .i64 g.watch,.int .i64 g.rise,.int .i64 g.band,.int .i64 r,.int .i64 g.watch,.int .i64 g.idle,.int .i64 y4,.int .i64 3,.bool g.door],.int .i64 0])) (.leaf (.tuple [.agg [.int .i64 g.low,.int .i64 g.high,.int .i64 g.watch,.int .i64 g.rise,.int .i64 g.band,.int .i64 r,.int .i64 1,.int .i64 g.idle,.int .i64 y4,.int .i64 g.fault,.bool g.door],.int .i64 (cla u 0 255)]))) (.node (decide (i64.wrap (g.count+1)≥g.watch)) (.leaf (.tuple [.agg [.int .i64 g.low,.int .i64 g.high,.int .i64 g.watch,.int .i64 g.rise,.int .i64 g.band,.int .i64 g.base,.int .i64 g.watch,.int .i64 g.idle,.int .i64 y4,.int .i64 3,.bool g.door],.int .i64 0])) (.leaf (.tuple [.agg [.int .i64 g.low,.int .i64 g.high,.int .i64 g.watch,.int .i64 g.rise,.int .i64 g.band,.int .i64 g.base,.int .i64 (i64.wrap (g.count+1)),.int .i64 g.idle,.int .i64 y4,.int .i64 g.fault,.bool g.door],.int .i64 (cla u 0 255)]))))))))))))
  (by kernel_rfl) (by
   have cu:=cla_rng (n:=u) (lo:=0) (hi:=255) (by omega)
   have ct:=cla_rng (n:=t) (lo:= -1073741824) (hi:=1073741824) (by omega)
   cases hok:g.ok with
   |false=>simp only[Tree.holds,hok,sL,ne_eq,beq_iff_eq,bne_iff_ne,eq_self,beq_eq_false_iff_ne,bne_eq_false_iff_eq,implies_true];unfold guS Gu.step Gu.duty Gu.way;rw[hok];rfl
   |true=>
    have o:=(Gu.ok_iff g).1 hok
    have w1:=w64 (x:=g.quiet+1) (by omega) (by omega)
    have w2:=w64 (x:=g.count+1) (by omega) (by omega)
    have w3:=w64 (x:=g.base+g.rise) (by omega) (by omega)
    have w4:=w64 (x:=cla t (-1073741824) 1073741824-g.band) (by omega) (by omega)
    have w5:i64.wrap (0+1)=1:=by decide
    simp only[Tree.holds,hok,w1,w2,w3,w4,w5,sL,ne_eq,beq_iff_eq,bne_iff_ne,eq_self,beq_eq_false_iff_ne,bne_eq_false_iff_eq,implies_true];(repeat' (first|apply And.intro|intro _));
    all_goals first
     |omega
     |(have hw:g.way r t u=0:=by(unfold Gu.way;simp only[hok];simp (config:={zetaDelta:=false}) only[Gu.cnt];grind)
       unfold guS Gu.step Gu.duty
       (simp only[hw,Gu.sv,Gu.cells,I64,Gu.bas,Gu.cnt,SV.tuple.injEq,SV.agg.injEq,List.cons.injEq,SV.int.injEq,SV.bool.injEq,true_and,and_true,eq_self])<;>(first|rfl|((repeat' apply And.intro)<;>first|rfl|omega|(unfold cla;(repeat' split)<;>omega)|grind)))
     |(have hw:g.way r t u=1:=by(unfold Gu.way;simp only[hok];simp (config:={zetaDelta:=false}) only[Gu.cnt];grind)
       unfold guS Gu.step Gu.duty
       (simp only[hw,Gu.sv,Gu.cells,I64,Gu.bas,Gu.cnt,SV.tuple.injEq,SV.agg.injEq,List.cons.injEq,SV.int.injEq,SV.bool.injEq,true_and,and_true,eq_self])<;>(first|rfl|((repeat' apply And.intro)<;>first|rfl|omega|(unfold cla;(repeat' split)<;>omega)|grind)))
     |(have hw:g.way r t u=2:=by(unfold Gu.way;simp only[hok];simp (config:={zetaDelta:=false}) only[Gu.cnt];grind)
       unfold guS Gu.step Gu.duty
       (simp only[hw,Gu.sv,Gu.cells,I64,Gu.bas,Gu.cnt,SV.tuple.injEq,SV.agg.injEq,List.cons.injEq,SV.int.injEq,SV.bool.injEq,true_and,and_true,eq_self])<;>(first|rfl|((repeat' apply And.intro)<;>first|rfl|omega|(unfold cla;(repeat' split)<;>omega)|grind)))
     |(have hw:g.way r t u=3:=by(unfold Gu.way;simp only[hok];simp (config:={zetaDelta:=false}) only[Gu.cnt];grind)
       unfold guS Gu.step Gu.duty
       (simp only[hw,Gu.sv,Gu.cells,I64,Gu.bas,Gu.cnt,SV.tuple.injEq,SV.agg.injEq,List.cons.injEq,SV.int.injEq,SV.bool.injEq,true_and,and_true,eq_self])<;>(first|rfl|((repeat' apply And.intro)<;>first|rfl|omega|(unfold cla;(repeat' split)<;>omega)|grind)))
     |(have hw:g.way r t u=4:=by(unfold Gu.way;simp only[hok];simp (config:={zetaDelta:=false}) only[Gu.cnt];grind)
       unfold guS Gu.step Gu.duty
       (simp only[hw,Gu.sv,Gu.cells,I64,Gu.bas,Gu.cnt,SV.tuple.injEq,SV.agg.injEq,List.cons.injEq,SV.int.injEq,SV.bool.injEq,true_and,and_true,eq_self])<;>(first|rfl|((repeat' apply And.intro)<;>first|rfl|omega|(unfold cla;(repeat' split)<;>omega)|grind)))
     |(have hw:g.way r t u=5:=by(unfold Gu.way;simp only[hok];simp (config:={zetaDelta:=false}) only[Gu.cnt];grind)
       unfold guS Gu.step Gu.duty
       (simp only[hw,Gu.sv,Gu.cells,I64,Gu.bas,Gu.cnt,SV.tuple.injEq,SV.agg.injEq,List.cons.injEq,SV.int.injEq,SV.bool.injEq,true_and,and_true,eq_self])<;>(first|rfl|((repeat' apply And.intro)<;>first|rfl|omega|(unfold cla;(repeat' split)<;>omega)|grind)))
     |(have hw:g.way r t u=6:=by(unfold Gu.way;simp only[hok];simp (config:={zetaDelta:=false}) only[Gu.cnt];grind)
       unfold guS Gu.step Gu.duty
       (simp only[hw,Gu.sv,Gu.cells,I64,Gu.bas,Gu.cnt,SV.tuple.injEq,SV.agg.injEq,List.cons.injEq,SV.int.injEq,SV.bool.injEq,true_and,and_true,eq_self])<;>(first|rfl|((repeat' apply And.intro)<;>first|rfl|omega|(unfold cla;(repeat' split)<;>omega)|grind)))
     |(have hw:g.way r t u=7:=by(unfold Gu.way;simp only[hok];simp (config:={zetaDelta:=false}) only[Gu.cnt];grind)
       unfold guS Gu.step Gu.duty
       (simp only[hw,Gu.sv,Gu.cells,I64,Gu.bas,Gu.cnt,SV.tuple.injEq,SV.agg.injEq,List.cons.injEq,SV.int.injEq,SV.bool.injEq,true_and,and_true,eq_self])<;>(first|rfl|((repeat' apply And.intro)<;>first|rfl|omega|(unfold cla;(repeat' split)<;>omega)|grind)))
) (by kernel_rfl) (by kernel_rfl)
def fCoS:Fact:=factCoI 162 fun c r=>.leaf (coS c r)
def fCoSR:Fact:=factCoI 167 fun c r=>.leaf (coS c r)
theorem o_coS:fCoS.ok Tryz.prog:=factCoI_ok (s_coS)
theorem o_coSR:fCoSR.ok Tryz.prog:=factCoI_ok (s_coSR)
def fReset:Fact:=factGuI 212 fun g r=>.node (decide (g.resE r=0)) (.leaf (.tuple [(g.rest r).sv,I64 0])) (.leaf (.tuple [Gu.zero.sv,I64 (g.resE r)]))
def fResetR:Fact:=factGuI 220 fun g r=>.node (decide (g.resE r=0)) (.leaf (.tuple [(g.rest r).sv,I64 0])) (.leaf (.tuple [Gu.zero.sv,I64 (g.resE r)]))
theorem o_reset:fReset.ok Tryz.prog:=factGuI_ok (fun g r=>by
 have h:=s_reset g r
 constructor
 ·intro hd
  have hd:=of_decide_eq_true hd
  rw[if_pos hd,hd]at h;exact h
 ·intro hd
  have hd:=of_decide_eq_false hd
  rw[if_neg hd]at h;exact h)
theorem o_resetR:fResetR.ok Tryz.prog:=factGuI_ok (fun g r=>by
 have h:=s_resetR g r
 constructor
 ·intro hd
  have hd:=of_decide_eq_true hd
  rw[if_pos hd,hd]at h;exact h
 ·intro hd
  have hd:=of_decide_eq_false hd
  rw[if_neg hd]at h;exact h)
def fGst:Fact:=factGu3 163 fun g r t u=>.leaf (guS g r t u)
def fGstR:Fact:=factGu3 168 fun g r t u=>.leaf (guS g r t u)
theorem o_gst:fGst.ok Tryz.prog:=factGu3_ok (s_gstep)
theorem o_gstR:fGstR.ok Tryz.prog:=factGu3_ok (s_gstepR)
end Go.Proofs.YtnkaepnblikcdaaGreat
namespace Go.Proofs.YtnkaepnblikcdaaGreat.Gc
open Go.Sx
structure C where
 code:Int
 has:Int
 x:Int
 y:Int
 z:Int
 e:Int
 f:Int
 s:Int
def C.cells(c:C):List SV:=[I64 c.code,I64 c.has,I64 c.x,I64 c.y,I64 c.z,I64 c.e,I64 c.f,I64 c.s]
def C.sv(c:C):SV:=.agg c.cells
def oneS(k:Int):Prop:=k=4∨k=1104∨k=1109∨k=1140∨k=1190∨k=1106
def none0(k:Int):Prop:=k=28∨k=1024∨k=1025∨k=1107∨k=1112∨k=1999
instance (k:Int):Decidable (oneS k):=by unfold oneS;infer_instance
instance (k:Int):Decidable (none0 k):=by unfold none0;infer_instance
def may(k:Int):Int:=if k=0 then 23 else if k=1 then 31 else if oneS k then 32 else 0
def allW(k:Int):Bool:=decide (oneS k)||decide (none0 k)
def okC(k:Int):Bool:=decide (k=0)||(decide (k=1)||(decide (oneS k)||decide (none0 k)))
def lo(k:Int)(w:Int):Int:=if w=4 then 1 else if w≠5 then -1073741824 else 0
def hi(k:Int)(w:Int):Int:=if w=4 then 1048576 else if w≠5 then 1073741824 else if k=4 then 1048576 else if k=1106 then 255 else 400000
def C.num(c:C)(w:Int):Int:=if w=0 then c.x else if w=1 then c.y else if w=2 then c.z else if w=3 then c.e else if w=4 then c.f else c.s
def factC(f:FuncId)(h:C→Tree SV):Fact:=⟨f,fun args=>match args with
 |[.agg [.int .i64 a0,.int .i64 a1,.int .i64 a2,.int .i64 a3,.int .i64 a4,.int .i64 a5,.int .i64 a6,.int .i64 a7]] =>some (h ⟨a0,a1,a2,a3,a4,a5,a6,a7⟩)
 |_=>none⟩
theorem factC_ok{P:Program}{f:FuncId}{h:C→Tree SV}(k:∀c,(h c).says (SCall P f [c.sv])):(factC f h).ok P:=fun args t ht=>by
 simp only[factC]at ht
 split at ht
 ·injection ht with ht;subst ht;exact k ⟨_,_,_,_,_,_,_,_⟩
 ·cases ht
def fWords:Fact:=factI 140 fun k=>.leaf (.tuple [I64 (may k),.bool (allW k),.bool (okC k)])
def fSpan:Fact:=factII 142 fun k w=>.leaf (.tuple [I64 (lo k w),I64 (hi k w)])
def fAllowed:Fact:=factI 153 fun k=>.leaf (I64 (may k))
def fComplete:Fact:=factII 154 fun k h=>.leaf (.bool (!(may k==32)||h==32))
def rangedB(k w n:Int):Bool:=if w<4 then inR n (-1073741824) 1073741824 else if w=4 then inR n 1 1048576 else if k=4 then inR n 0 1048576 else if k=1106 then inR n 0 255 else inR n 0 400000
def fRanged:Fact:=factIII 156 fun k w n=>.leaf (.bool (rangedB k w n))
def fField:Fact:=⟨141,fun args=>match args with
 |[.ptr id off,.int .i64 w] =>some (.node (w==0) (.leaf (.ptr id (off+2))) (.node (w==1) (.leaf (.ptr id (off+3))) (.node (w==2) (.leaf (.ptr id (off+4))) (.node (w==3) (.leaf (.ptr id (off+5))) (.node (w==4) (.leaf (.ptr id (off+6))) (.leaf (.ptr id (off+7))))))))
 |_=>none⟩
def codes:List Int:=[0,1,4,28,1024,1025,1104,1106,1107,1109,1112,1140,1190,1999]
def fCodes:Fact:=fact0 219 (.leaf (.list (.int .i64) codes))
def fFields:Fact:=factC 155 fun c=>.leaf (.list (.int .i64) [c.x,c.y,c.z,c.e,c.f,c.s])
def fKnown:Fact:=factI 152 fun k=>.leaf (.bool (okC k))
theorem s_words(k:Int):SCall Tryz.prog 140 [I64 k] (.tuple [I64 (may k),.bool (allW k),.bool (okC k)]):=
 scall_v mix [] trivial 1000 (.fork (.all) (.fork (.all) (.fork (.fork (.all) (.fork (.fork (.all) (.all)) (.fork (.fork (.all) (.all)) (.fork (.fork (.all) (.all)) (.fork (.fork (.all) (.all)) (.fork (.fork (.all) (.all)) (.fork (.all) (.all)))))))) (.fork (.fork (.all) (.fork (.fork (.all) (.all)) (.fork (.fork (.all) (.all)) (.fork (.fork (.all) (.all)) (.fork (.fork (.all) (.all)) (.fork (.fork (.all) (.all)) (.fork (.all) (.all)))))))) (.fork (.fork (.all) (.fork (.fork (.all) (.all)) (.fork (.fork (.all) (.all)) (.fork (.fork (.all) (.all)) (.fork (.fork (.all) (.all)) (.fork (.fork (.all) (.all)) (.fork (.all) (.all)))))))) (.fork (.fork (.all) (.fork (.fork (.all) (.all)) (.fork (.fork (.all) (.all)) (.fork (.fork (.all) (.all)) (.fork (.fork (.all) (.all)) (.fork (.fork (.all) (.all)) (.fork (.all) (.all)))))))) (.fork (.fork (.all) (.fork (.fork (.all) (.all)) (.fork (.fork (.all) (.all)) (.fork (.fork (.all) (.all)) (.fork (.fork (.all) (.all)) (.fork (.fork (.all) (.all)) (.fork (.all) (.all)))))))) (.fork (.all) (.fork (.fork (.all) (.all)) (.fork (.fork (.all) (.all)) (.fork (.fork (.all) (.all)) (.fork (.fork (.all) (.all)) (.fork (.fork (.all) (.all)) (.fork (.all) (.all)))))))))))))))
  (t:=let y1:Tree SV:=.leaf (.tuple [I64 0,.bool false,.bool false]);let y2:Tree SV:=.leaf (.tuple [I64 32,.bool true,.bool true]);let y3:Tree SV:=.leaf (.tuple [I64 0,.bool true,.bool true]);let y0:Tree SV:=.node (k==28) (.node (k==28) y3 y1) (.node (k==1024) (.node (k==1024) y3 y1) (.node (k==1025) (.node (k==1025) y3 y1) (.node (k==1107) (.node (k==1107) y3 y1) (.node (k==1112) (.node (k==1112) y3 y1) (.node (k==1999) y3 y1)))));.node (k==0) (.leaf (.tuple [I64 23,.bool false,.bool true])) (.node (k==1) (.leaf (.tuple [I64 31,.bool false,.bool true])) (.node (k==4) (.node (k==4) y2 y0) (.node (k==1104) (.node (k==1104) y2 y0) (.node (k==1109) (.node (k==1109) y2 y0) (.node (k==1140) (.node (k==1140) y2 y0) (.node (k==1190) (.node (k==1190) y2 y0) (.node (k==1106) y2 y0))))))))
  (by kernel_rfl) (by
   simp only[Tree.holds]
   repeat' (first|apply And.intro|intro _)
   all_goals(simp_all[may,allW,okC,lo,hi,oneS,none0,rangedB,inR,I64,C.sv,C.cells])) (by kernel_rfl) (by kernel_rfl)
theorem o_words:fWords.ok Tryz.prog:=factI_ok s_words
theorem s_span(k w:Int):SCall Tryz.prog 142 [I64 k,I64 w] (.tuple [I64 (lo k w),I64 (hi k w)]):=
 scall_v mix [] trivial 1000 (.fork (.all) (.fork (.all) (.fork (.all) (.fork (.all) (.all)))))
  (t:=.node (w==4)
 (.leaf (SV.tuple [I64 1,I64 1048576]))
 (.node (w != 5)
  (.leaf (SV.tuple [I64 (-1073741824),I64 1073741824]))
  (.node (k==4)
   (.leaf (SV.tuple [I64 0,I64 1048576]))
   (.node (k==1106)
    (.leaf (SV.tuple [I64 0,I64 255]))
    (.leaf (SV.tuple [I64 0,I64 400000]))))))
   (by kernel_rfl) (by
    simp only[Tree.holds]
    repeat' (first|apply And.intro|intro _)
    all_goals(simp_all[may,allW,okC,lo,hi,oneS,none0,rangedB,inR,I64,C.sv,C.cells])) (by kernel_rfl) (by kernel_rfl)
theorem o_span:fSpan.ok Tryz.prog:=factII_ok s_span
theorem s_allowed(k:Int):SCall Tryz.prog 153 [I64 k] (I64 (may k)):=
 scall_v mix [] trivial 1000 (.fork (.all) (.fork (.all) (.fork (.fork (.all) (.all)) (.fork (.fork (.all) (.all)) (.fork (.fork (.all) (.all)) (.fork (.fork (.all) (.all)) (.fork (.fork (.all) (.all)) (.fork (.all) (.all)))))))))
  (t:=.node (k==0) (.leaf (I64 23)) (.node (k==1) (.leaf (I64 31)) (.node (k==4) (.node (k==4) (.leaf (I64 32)) (.leaf (I64 0))) (.node (k==1104) (.node (k==1104) (.leaf (I64 32)) (.leaf (I64 0))) (.node (k==1109) (.node (k==1109) (.leaf (I64 32)) (.leaf (I64 0))) (.node (k==1140) (.node (k==1140) (.leaf (I64 32)) (.leaf (I64 0))) (.node (k==1190) (.node (k==1190) (.leaf (I64 32)) (.leaf (I64 0))) (.node (k==1106) (.leaf (I64 32)) (.leaf (I64 0))))))))))
  (by kernel_rfl) (by
   simp only[Tree.holds]
   repeat' (first|apply And.intro|intro _)
   all_goals(simp_all[may,allW,okC,lo,hi,oneS,none0,rangedB,inR,I64,C.sv,C.cells])) (by kernel_rfl) (by kernel_rfl)
theorem o_allowed:fAllowed.ok Tryz.prog:=factI_ok s_allowed
theorem s_complete(k h:Int):SCall Tryz.prog 154 [I64 k,I64 h] (.bool (!(may k==32)||h==32)):=
 scall_v mix [fAllowed] ⟨o_allowed,trivial⟩ 1000 (.fork (.lit (.lit (.all))) (.lit (.lit (.all))))
  (t:=.node (may k != 32)
 (.leaf (SV.bool true))
 (.leaf (SV.bool (h==32))))
   (by kernel_rfl) (by
    simp only[Tree.holds]
    repeat' (first|apply And.intro|intro _)
    all_goals(simp_all[may,allW,okC,lo,hi,oneS,none0,rangedB,inR,I64,C.sv,C.cells])) (by kernel_rfl) (by kernel_rfl)
theorem o_complete:fComplete.ok Tryz.prog:=factII_ok s_complete
theorem s_ranged(k w n:Int):SCall Tryz.prog 156 [I64 k,I64 w,I64 n] (.bool (rangedB k w n)):=
 scall_v mix [] trivial 1000 (.fork (.fork (.lit (.lit (.all))) (.lit (.lit (.all)))) (.fork (.fork (.lit (.lit (.all))) (.lit (.lit (.all)))) (.fork (.fork (.lit (.lit (.all))) (.lit (.lit (.all)))) (.fork (.fork (.lit (.lit (.all))) (.lit (.lit (.all)))) (.fork (.lit (.lit (.all))) (.lit (.lit (.all))))))))
  (t:=.node (decide (w<4)) (.node (decide (n≥-1073741824)) (.leaf (.bool (decide (n≤1073741824)))) (.leaf (.bool false))) (.node (w==4) (.node (decide (n≥1)) (.leaf (.bool (decide (n≤1048576)))) (.leaf (.bool false))) (.node (k==4) (.node (decide (n≥0)) (.leaf (.bool (decide (n≤1048576)))) (.leaf (.bool false))) (.node (k==1106) (.node (decide (n≥0)) (.leaf (.bool (decide (n≤255)))) (.leaf (.bool false))) (.node (decide (n≥0)) (.leaf (.bool (decide (n≤400000)))) (.leaf (.bool false)))))))
  (by kernel_rfl) (by
   simp only[Tree.holds]
   repeat' (first|apply And.intro|intro _)
   all_goals(simp_all[rangedB,inR,I64])
   all_goals((repeat' split)<;>intros<;>omega)) (by kernel_rfl) (by kernel_rfl)
theorem o_ranged:fRanged.ok Tryz.prog:=factIII_ok s_ranged
theorem hK{l:List Fact}(h:allOk Tryz.prog l):Known Tryz.prog (Env.of Tryz.prog (sumOf l)):=known_of mix (sumOf_ok l h.all)
theorem s_field(id off:Nat)(w:Int):(Tree.node (w==0) (.leaf (.ptr id (off+2))) (.node (w==1) (.leaf (.ptr id (off+3))) (.node (w==2) (.leaf (.ptr id (off+4))) (.node (w==3) (.leaf (.ptr id (off+5))) (.node (w==4) (.leaf (.ptr id (off+6))) (.leaf (.ptr id (off+7)))))))).says (SCall Tryz.prog 141 [.ptr id off,I64 w]):=by
 have key:∀v,(∀m,(execAt (Env.of Tryz.prog (sumOf [])) 1000 141 [.ptr id off,I64 w] .all m).holds fun x=>x=(v,m))→SCall Tryz.prog 141 [.ptr id off,I64 w] v:=fun v h=>scall_at (hK (l:=[]) trivial) h
 have e:∀m,execAt (Env.of Tryz.prog (sumOf [])) 1000 141 [.ptr id off,I64 w] .all m=.node (w==0) (.leaf (.ptr id (off+2),m)) (.node (w==1) (.leaf (.ptr id (off+3),m)) (.node (w==2) (.leaf (.ptr id (off+4),m)) (.node (w==3) (.leaf (.ptr id (off+5),m)) (.node (w==4) (.leaf (.ptr id (off+6),m)) (.leaf (.ptr id (off+7),m)))))):=fun m=>by kernel_rfl
 simp only[Tree.says]
 refine⟨fun h=>key _ fun m=>?_,fun h1=>⟨fun h=>key _ fun m=>?_,fun h2=>⟨fun h=>key _ fun m=>?_,fun h3=>⟨fun h=>key _ fun m=>?_,fun h4=>⟨fun h=>key _ fun m=>?_,fun h5=>key _ fun m=>?_⟩⟩⟩⟩⟩<;>rw[e m]<;>simp_all[Tree.holds]
theorem o_field:fField.ok Tryz.prog:=fun args t ht=>by
 simp only[fField]at ht
 split at ht
 ·injection ht with ht;subst ht;exact s_field _ _ _
 ·cases ht
def codes0_p:Plan:=.all
noncomputable def codes0_t(_:Unit):Tree Stop:= .leaf (.done (.list (Ty.int IntKind.i64) codes))
theorem codes0(_:Unit):segR (Env.of Tryz.prog (sumOf [])) 1000 (fnOf Tryz.prog 219) .unit (keepS 10 []) (codeS Tryz.prog 219) codes0_p (startS Tryz.prog 219 []) [] =codes0_t ():=by kernel_rfl
theorem s_codes:SCall Tryz.prog 219 [] (.list (.int .i64) codes):=by
 refine scallR_loops rfl rfl (by kernel_rfl) (runsR_seg (hK (l:=[]) trivial) (n:=1000) (hint:=.unit) (keep:=keepS 10 []) (p:=codes0_p) (boxes:=[]) rfl ?_)
 have e:=codes0 ()
 unfold startS codeS at e
 erw [e]
 exact rfl
theorem o_codes:fCodes.ok Tryz.prog:=fact0_ok s_codes
def fields0_p:Plan:=.all
noncomputable def fields0_t(c:C):Tree Stop:= .leaf (.done (.list (Ty.int IntKind.i64) [c.x,c.y,c.z,c.e,c.f,c.s]))
theorem fields0(c:C):segR (Env.of Tryz.prog (sumOf [])) 1000 (fnOf Tryz.prog 155) .unit (keepS 10 []) (codeS Tryz.prog 155) fields0_p (startS Tryz.prog 155 [c.sv]) [] =fields0_t c:=by kernel_rfl
theorem s_fields(c:C):SCall Tryz.prog 155 [c.sv] (.list (.int .i64) [c.x,c.y,c.z,c.e,c.f,c.s]):=by
 refine scallR_loops rfl rfl (by kernel_rfl) (runsR_seg (hK (l:=[]) trivial) (n:=1000) (hint:=.unit) (keep:=keepS 10 []) (p:=fields0_p) (boxes:=[]) rfl ?_)
 have e:=fields0 c
 unfold startS codeS at e
 erw [e]
 exact rfl
theorem o_fields:fFields.ok Tryz.prog:=factC_ok s_fields
def known0_p:Plan:=.all
noncomputable def known0_t(k:Int):Tree Stop:= .leaf (.at (loopOf Tryz.prog 152 0) 18 (slotsS 18 [(0,I64 k),(3,.list (Ty.int IntKind.i64) codes),(4,I64 0)]) [])
theorem known0(k:Int):segR (Env.of Tryz.prog (sumOf [fCodes])) 1000 (fnOf Tryz.prog 152) .unit (keepS 18 [0,3,4]) (codeS Tryz.prog 152) known0_p (startS Tryz.prog 152 [I64 k]) [] =known0_t k:=by kernel_rfl
def known1_p:Plan:=.fork (.fork (.all) (.all)) (.all)
noncomputable def known1_t(k i:Int):Tree Stop:= .node (decide (i<14)) (.req (decide (0≤i)&&decide (i<14)) (.node (codes.getD i.toNat 0==k) (.leaf (.done (.bool true))) (.leaf (.at (loopOf Tryz.prog 152 0) 18 (slotsS 18 [(0,I64 k),(3,.list (Ty.int IntKind.i64) codes),(4,I64 (i64.wrap (i+1)))]) [])))) (.leaf (.done (.bool false)))
theorem known1(k i:Int):segR (Env.of Tryz.prog (sumOf [fCodes])) 1000 (fnOf Tryz.prog 152) .unit (keepS 18 [0,3,4]) (loopOf Tryz.prog 152 0) known1_p (slotsS 18 [(0,I64 k),(3,.list (.int .i64) codes),(4,I64 i)]) [] =known1_t k i:=by kernel_rfl
def valid0_p:Plan:=.fork (.ln 9 (.lit .all)) (.ln 5 (.fork (.ln 3 (.lit .all)) (.lit (.fork (.ln 6 (.fork .all .all)) (.ln 6 (.lit .all))))))
noncomputable def valid0_t(c:C):Tree Stop:= .node (!okC c.code) (.leaf (.done (.bool false))) (.node (i64.wrap ↑(BitVec.ofInt 64 c.has &&& ~~~BitVec.ofInt 64 (may c.code)).toNat != 0) (.leaf (.done (.bool false))) (.node (allW c.code) (.node (c.has != may c.code) (.leaf (.done (.bool false))) (.leaf (.at (loopOf Tryz.prog 71 0) 64 (slotsS 64 [(1,.ptr 0 0),(35,I64 0)]) [some (.cells [I64 c.code,I64 c.has,I64 c.x,I64 c.y,I64 c.z,I64 c.e,I64 c.f,I64 c.s])]))) (.leaf (.at (loopOf Tryz.prog 71 0) 64 (slotsS 64 [(1,.ptr 0 0),(35,I64 0)]) [some (.cells [I64 c.code,I64 c.has,I64 c.x,I64 c.y,I64 c.z,I64 c.e,I64 c.f,I64 c.s])]))))
theorem valid0(c:C):segR (Env.of Tryz.prog (sumOf [fWords,fSpan,fField])) 1000 (fnOf Tryz.prog 71) .unit (keepS 64 [1,35]) (codeS Tryz.prog 71) valid0_p (startS Tryz.prog 71 [c.sv]) [] =valid0_t c:=by kernel_rfl
def valid1_p:Plan:=.fork (.fork (.fork (.fork (.ln 3 (.lit .all)) (.ln 3 (.fork .all .all))) (.fork (.ln 3 (.lit .all)) (.ln 3 (.fork .all .all)))) (.fork (.fork (.fork (.ln 3 (.lit .all)) (.ln 3 (.fork .all .all))) (.fork (.ln 3 (.lit .all)) (.ln 3 (.fork .all .all)))) (.fork (.fork (.fork (.ln 3 (.lit .all)) (.ln 3 (.fork .all .all))) (.fork (.ln 3 (.lit .all)) (.ln 3 (.fork .all .all)))) (.fork (.fork (.fork (.ln 3 (.lit .all)) (.ln 3 (.fork .all .all))) (.fork (.ln 3 (.lit .all)) (.ln 3 (.fork .all .all)))) (.fork (.fork (.fork (.ln 3 (.lit .all)) (.ln 3 (.fork .all .all))) (.fork (.ln 3 (.lit .all)) (.ln 3 (.fork .all .all)))) (.fork (.fork (.ln 3 (.lit .all)) (.ln 3 (.fork .all .all))) (.fork (.ln 3 (.lit .all)) (.ln 3 (.fork .all .all))))))))) .all
noncomputable def valid1_t(c:C)(i:Int):Tree Stop:=let y0:Tree Stop:=.leaf (.at (loopOf Tryz.prog 71 0) 64 (slotsS 64 [(1,.ptr 0 0),(35,I64 (i64.wrap (i+1)))]) [some (.cells [I64 c.code,I64 c.has,I64 c.x,I64 c.y,I64 c.z,I64 c.e,I64 c.f,I64 c.s])]);let y1:Tree Stop:=.leaf (.done (.bool false));let y2:=i64.wrap ↑(BitVec.ofInt 64 (c.has.fdiv (2 ^ min i.toNat 64)) &&&BitVec.ofInt 64 1).toNat==0;let y3:=decide (0≤i); .node (decide (i<6)) (.node (i==0) (.req y3 (.node y2 (.node (decide (c.x<0)) y1 (.node (decide (c.x>0)) y1 y0)) (.node (decide (c.x<lo c.code i)) y1 (.node (decide (c.x>hi c.code i)) y1 y0)))) (.node (i==1) (.req y3 (.node y2 (.node (decide (c.y<0)) y1 (.node (decide (c.y>0)) y1 y0)) (.node (decide (c.y<lo c.code i)) y1 (.node (decide (c.y>hi c.code i)) y1 y0)))) (.node (i==2) (.req y3 (.node y2 (.node (decide (c.z<0)) y1 (.node (decide (c.z>0)) y1 y0)) (.node (decide (c.z<lo c.code i)) y1 (.node (decide (c.z>hi c.code i)) y1 y0)))) (.node (i==3) (.req y3 (.node y2 (.node (decide (c.e<0)) y1 (.node (decide (c.e>0)) y1 y0)) (.node (decide (c.e<lo c.code i)) y1 (.node (decide (c.e>hi c.code i)) y1 y0)))) (.node (i==4) (.req y3 (.node y2 (.node (decide (c.f<0)) y1 (.node (decide (c.f>0)) y1 y0)) (.node (decide (c.f<lo c.code i)) y1 (.node (decide (c.f>hi c.code i)) y1 y0)))) (.req y3 (.node y2 (.node (decide (c.s<0)) y1 (.node (decide (c.s>0)) y1 y0)) (.node (decide (c.s<lo c.code i)) y1 (.node (decide (c.s>hi c.code i)) y1 y0))))))))) (.leaf (.done (.bool true)))
theorem valid1(c:C)(i:Int):segR (Env.of Tryz.prog (sumOf [fWords,fSpan,fField])) 1000 (fnOf Tryz.prog 71) .unit (keepS 64 [1,35]) (loopOf Tryz.prog 71 0) valid1_p (slotsS 64 [(1,.ptr 0 0),(35,I64 i)]) [some (.cells c.cells)] =valid1_t c i:=by kernel_rfl
def validR0_p:Plan:=.fork (.ln 18 (.lit .all)) (.ln 3 (.fork (.ln 14 (.lit .all)) (.ln 7 (.fork (.ln 6 (.lit .all)) (.ln 6 (.fork .all .all))))))
noncomputable def validR0_t(c:C):Tree Stop:= .node (!okC c.code) (.leaf (.done (.bool false))) (.node (decide (c.has<0)) (.leaf (.done (.bool false))) (.node (i64.wrap ↑(BitVec.ofInt 64 c.has &&& ~~~BitVec.ofInt 64 (may c.code)).toNat != 0) (.leaf (.done (.bool false))) (.node (!(!may c.code==32||c.has==32)) (.leaf (.done (.bool false))) (.leaf (.at (loopOf Tryz.prog 74 0) 70 (slotsS 70 [(1,.ptr 0 0),(3,.list (Ty.int IntKind.i64) [c.x,c.y,c.z,c.e,c.f,c.s]),(4,I64 0)]) [some (.cells [I64 c.code,I64 c.has,I64 c.x,I64 c.y,I64 c.z,I64 c.e,I64 c.f,I64 c.s])])))))
theorem validR0(c:C):segR (Env.of Tryz.prog (sumOf [fKnown,fAllowed,fComplete,fFields,fRanged])) 1000 (fnOf Tryz.prog 74) .unit (keepS 70 [1,3,4]) (codeS Tryz.prog 74) validR0_p (startS Tryz.prog 74 [c.sv]) [] =validR0_t c:=by kernel_rfl
def validR1_p:Plan:=.fork (.fork (.ln 9 (.fork (.ln 4 (.lit .all)) (.lit (.lit (.fork (.ln 7 (.fork .all .all)) (.ln 7 (.lit .all))))))) (.ln 12 (.fork (.ln 7 (.fork .all .all)) (.ln 7 (.lit .all))))) .all
noncomputable def validR1_t(c:C)(i:Int):Tree Stop:= .node (decide (i<↑[c.x,c.y,c.z,c.e,c.f,c.s].length)) (.req (decide (0≤u64.wrap i)) (.node (i64.wrap ↑(BitVec.ofInt 64 (c.has.fdiv (2 ^ min (u64.wrap i).toNat 64)) &&&BitVec.ofInt 64 1).toNat==1) (.req (decide (0≤i)&&decide (i<↑[c.x,c.y,c.z,c.e,c.f,c.s].length)) (.node (!rangedB c.code i ([c.x,c.y,c.z,c.e,c.f,c.s].getD i.toNat 0)) (.leaf (.done (.bool false))) (.node (!i64.wrap ↑(BitVec.ofInt 64 (c.has.fdiv (2 ^ min (u64.wrap i).toNat 64)) &&&BitVec.ofInt 64 1).toNat==1) (.req (decide (0≤i)&&decide (i<↑[c.x,c.y,c.z,c.e,c.f,c.s].length)) (.node ([c.x,c.y,c.z,c.e,c.f,c.s].getD i.toNat 0 != 0) (.leaf (.done (.bool false))) (.leaf (.at (loopOf Tryz.prog 74 0) 70 (slotsS 70 [(1,.ptr 0 0),(3,.list (Ty.int IntKind.i64) [c.x,c.y,c.z,c.e,c.f,c.s]),(4,I64 (i64.wrap (i+1)))]) [some (.cells [I64 c.code,I64 c.has,I64 c.x,I64 c.y,I64 c.z,I64 c.e,I64 c.f,I64 c.s])])))) (.leaf (.at (loopOf Tryz.prog 74 0) 70 (slotsS 70 [(1,.ptr 0 0),(3,.list (Ty.int IntKind.i64) [c.x,c.y,c.z,c.e,c.f,c.s]),(4,I64 (i64.wrap (i+1)))]) [some (.cells [I64 c.code,I64 c.has,I64 c.x,I64 c.y,I64 c.z,I64 c.e,I64 c.f,I64 c.s])]))))) (.node (!i64.wrap ↑(BitVec.ofInt 64 (c.has.fdiv (2 ^ min (u64.wrap i).toNat 64)) &&&BitVec.ofInt 64 1).toNat==1) (.req (decide (0≤i)&&decide (i<↑[c.x,c.y,c.z,c.e,c.f,c.s].length)) (.node ([c.x,c.y,c.z,c.e,c.f,c.s].getD i.toNat 0 != 0) (.leaf (.done (.bool false))) (.leaf (.at (loopOf Tryz.prog 74 0) 70 (slotsS 70 [(1,.ptr 0 0),(3,.list (Ty.int IntKind.i64) [c.x,c.y,c.z,c.e,c.f,c.s]),(4,I64 (i64.wrap (i+1)))]) [some (.cells [I64 c.code,I64 c.has,I64 c.x,I64 c.y,I64 c.z,I64 c.e,I64 c.f,I64 c.s])])))) (.leaf (.at (loopOf Tryz.prog 74 0) 70 (slotsS 70 [(1,.ptr 0 0),(3,.list (Ty.int IntKind.i64) [c.x,c.y,c.z,c.e,c.f,c.s]),(4,I64 (i64.wrap (i+1)))]) [some (.cells [I64 c.code,I64 c.has,I64 c.x,I64 c.y,I64 c.z,I64 c.e,I64 c.f,I64 c.s])]))))) (.leaf (.done (.bool true)))
theorem validR1(c:C)(i:Int):segR (Env.of Tryz.prog (sumOf [fKnown,fAllowed,fComplete,fFields,fRanged])) 1000 (fnOf Tryz.prog 74) .unit (keepS 70 [1,3,4]) (loopOf Tryz.prog 74 0) validR1_p (slotsS 70 [(1,.ptr 0 0),(3,.list (.int .i64) [c.x,c.y,c.z,c.e,c.f,c.s]),(4,I64 i)]) [some (.cells c.cells)] =validR1_t c i:=by kernel_rfl
def bit(h i:Int):Int:=i64.wrap ↑(BitVec.ofInt 64 (h.fdiv (2 ^ min i.toNat 64)) &&&BitVec.ofInt 64 1).toNat
def andNot(h m:Int):Int:=i64.wrap ↑(BitVec.ofInt 64 h &&& ~~~BitVec.ofInt 64 m).toNat
theorem bit_01(h i:Int):bit h i=0∨bit h i=1:=by
 unfold bit
 generalize BitVec.ofInt 64 (h.fdiv (2 ^ min i.toNat 64))=x
 have e:(x &&&BitVec.ofInt 64 1).toNat=x.toNat % 2:=by
  rw[BitVec.toNat_and]
  exact Nat.and_one_is_mod _
 rw[e]
 have h2:x.toNat % 2=0∨x.toNat % 2=1:=by omega
 rcases h2 with h2|h2<;>rw[h2]
 ·exact .inl rfl
 ·exact .inr rfl
theorem u64_small{i:Int}(h:0≤i∧i≤100):u64.wrap i=i:=by
 have h2:IntKind.wrap .u64 i=if false&&decide (i % 18446744073709551616≥9223372036854775808)then i % 18446744073709551616-18446744073709551616 else i % 18446744073709551616:=rfl
 rw[h2]
 simp only[Bool.false_and,Bool.false_eq_true,if_false]
 omega
def okW(c:C)(i:Int):Bool:=if bit c.has i=0 then c.num i==0 else inR (c.num i) (lo c.code i) (hi c.code i)
def rest(c:C):Nat→Bool
 |0=>true
 |n+1=>okW c (5-n)&&rest c n
theorem rest_step(c:C){i:Int}(h:0≤i)(h6:i<6):rest c (6-i).toNat=(okW c i&&rest c (6-(i+1)).toNat):=by
 obtain⟨n,hn⟩:∃n:Nat,(6-i).toNat=n+1:=⟨(5-i).toNat,by omega⟩
 rw[hn,show(6-(i+1)).toNat=n by omega,rest,show(5:Int)-n=i by omega]
def C.pre(c:C):Bool:=okC c.code&& (andNot c.has (may c.code)==0&&!(allW c.code&&!(c.has==may c.code)))
def C.preR(c:C):Bool:=okC c.code&& (decide (0≤c.has)&& (andNot c.has (may c.code)==0&& (!(may c.code==32)||c.has==32)))
def C.valid(c:C):Bool:=c.pre&&rest c 6
def C.validR(c:C):Bool:=c.preR&&rest c 6
noncomputable def stV(c:C)(i:Int):Stop:=Stop.at (loopOf Tryz.prog 71 0) 64 (slotsS 64 [(1,SV.ptr 0 0),(35,I64 i)]) [some (Box.cells c.cells)]
noncomputable def stVR(c:C)(i:Int):Stop:=Stop.at (loopOf Tryz.prog 74 0) 70 (slotsS 70 [(1,SV.ptr 0 0),(3,SV.list (Ty.int IntKind.i64) [c.x,c.y,c.z,c.e,c.f,c.s]),(4,I64 i)]) [some (Box.cells c.cells)]
theorem inR_false{n l h:Int}:inR n l h=false↔n<l∨h<n:=by
 rw[←Bool.not_eq_true,inR,Bool.and_eq_true,decide_eq_true_eq,decide_eq_true_eq];omega
theorem inR_true{n l h:Int}:inR n l h=true↔l≤n∧n≤h:=by
 rw[inR,Bool.and_eq_true,decide_eq_true_eq,decide_eq_true_eq]
theorem num0(c:C):c.num 0=c.x:=rfl
theorem num1(c:C):c.num 1=c.y:=rfl
theorem num2(c:C):c.num 2=c.z:=rfl
theorem num3(c:C):c.num 3=c.e:=rfl
theorem num4(c:C):c.num 4=c.f:=rfl
theorem num5(c:C):c.num 5=c.s:=rfl
theorem okW_ok{c:C}{i n:Int}(hn:c.num i=n):(okW c i=true↔(bit c.has i=0∧n=0)∨(bit c.has i≠0∧lo c.code i≤n∧n≤hi c.code i)):=by
 unfold okW
 rw[hn]
 by_cases h:bit c.has i=0
 ·simp[h]
 ·simp[h,inR_true]
theorem valid_leaves{c:C}{i:Int}(h0:0≤i)(Q:Stop→Prop)(q0:6≤i→Q (.done (.bool true)))(q1:i<6→¬okW c i=true→Q (.done (.bool false)))(q2:i<6→okW c i=true→Q (stV c (i+1))):(valid1_t c i).holds Q:=by
 have wi:i<6→i64.wrap (i+1)=i+1:=fun h=>wrap64 (by omega) (by omega)
 have eb:i64.wrap ↑(BitVec.ofInt 64 (c.has.fdiv (2 ^ min i.toNat 64)) &&&BitVec.ofInt 64 1).toNat=bit c.has i:=rfl
 unfold valid1_t
 rw[eb]
 unfold stV C.cells at q2
 have key:∀n,c.num i=n→i<6→(Tree.node (bit c.has i==0)
   (.node (decide (n<0)) (.leaf (Stop.done (SV.bool false))) (.node (decide (n>0)) (.leaf (Stop.done (SV.bool false))) (.leaf (Stop.at (loopOf Tryz.prog 71 0) 64 (slotsS 64 [(1,SV.ptr 0 0),(35,I64 (i64.wrap (i+1)))]) [some (Box.cells [I64 c.code,I64 c.has,I64 c.x,I64 c.y,I64 c.z,I64 c.e,I64 c.f,I64 c.s])]))))
   (.node (decide (n<lo c.code i)) (.leaf (Stop.done (SV.bool false))) (.node (decide (n>hi c.code i)) (.leaf (Stop.done (SV.bool false))) (.leaf (Stop.at (loopOf Tryz.prog 71 0) 64 (slotsS 64 [(1,SV.ptr 0 0),(35,I64 (i64.wrap (i+1)))]) [some (Box.cells [I64 c.code,I64 c.has,I64 c.x,I64 c.y,I64 c.z,I64 c.e,I64 c.f,I64 c.s])]))))).holds Q:=by
  intro n hn h6
  have ok:=okW_ok (c:=c) hn
  rw[wi h6]
  simp only[Tree.holds,beq_iff_eq,beq_eq_false_iff_ne,decide_eq_true_eq,decide_eq_false_iff_not]
  repeat' (first|apply And.intro|intro _)
  all_goals first
   |(refine q1 h6 ?_;rw[ok];omega)
   |(refine q2 h6 ?_;rw[ok];omega)
 simp only[Tree.holds,beq_iff_eq,beq_eq_false_iff_ne,decide_eq_true_eq,decide_eq_false_iff_not]at key ⊢
 refine⟨fun h6=>⟨?_,fun n0=>⟨?_,fun n1=>⟨?_,fun n2=>⟨?_,fun n3=>⟨?_,fun n4=>?_⟩⟩⟩⟩⟩,fun h=>q0 (by omega)⟩
 ·rintro rfl;exact⟨h0,key _ (num0 c) h6⟩
 ·rintro rfl;exact⟨h0,key _ (num1 c) h6⟩
 ·rintro rfl;exact⟨h0,key _ (num2 c) h6⟩
 ·rintro rfl;exact⟨h0,key _ (num3 c) h6⟩
 ·rintro rfl;exact⟨h0,key _ (num4 c) h6⟩
 ·obtain rfl:i=5:=by omega
  exact⟨h0,key _ (num5 c) h6⟩
theorem fsV:allOk Tryz.prog [fWords,fSpan,fField] :=⟨o_words,o_span,o_field,trivial⟩
theorem valid_loop(c:C)(v:Bool):∀i:Int,(0≤i∧i≤6∧v=rest c (6-i).toNat)→RunsR Tryz.prog (fnOf Tryz.prog 71) (.bool v) (loopOf Tryz.prog 71 0) (slotsS 64 [(1,.ptr 0 0),(35,I64 i)]) [some (.cells c.cells)] :=by
 refine runsR_of (hK fsV) (n:=1000) (hint:=.unit) rfl (fun i:Int=>0≤i∧i≤6∧v=rest c (6-i).toNat) (fun i=>(6-i).toNat) (keepS 64 [1,35]) (fun _=>loopOf Tryz.prog 71 0) (fun i=>slotsS 64 [(1,.ptr 0 0),(35,I64 i)]) (fun _=>[some (.cells c.cells)]) (fun _=>valid1_p) fun i hi=>?_
 obtain⟨h0,h6,hv⟩:=hi
 rw[valid1]
 refine valid_leaves h0 _ (fun h=>?_) (fun h hw=>?_) (fun h hw=>?_)
 ·show SV.bool true=SV.bool v
  rw[hv,show(6-i).toNat=0 by omega];rfl
 ·show SV.bool false=SV.bool v
  rw[hv,rest_step c h0 h]
  simp[hw]
 ·refine⟨slotsS_len _ _,.inl ⟨i+1,⟨by omega,by omega,?_⟩,by omega,rfl,rfl,rfl⟩⟩
  rw[hv,rest_step c h0 h,hw,Bool.true_and]
theorem s_valid(c:C):SCall Tryz.prog 71 [c.sv] (.bool c.valid):=by
 refine scallR_loops rfl rfl (by kernel_rfl) (runsR_seg (hK fsV) (n:=1000) (hint:=.unit) (keep:=keepS 64 [1,35]) (p:=valid0_p) (boxes:=[]) rfl ?_)
 have e:=valid0 c
 unfold startS codeS at e
 erw [e]
 unfold valid0_t
 have ea:i64.wrap ↑(BitVec.ofInt 64 c.has &&& ~~~BitVec.ofInt 64 (may c.code)).toNat=andNot c.has (may c.code):=rfl
 rw[ea]
 simp only[Tree.holds,Bool.not_eq_true',Bool.not_eq_false',bne_iff_ne,bne_eq_false_iff_eq]
 refine⟨fun h=>?_,fun h=>⟨fun h2=>?_,fun h2=>⟨fun h3=>⟨fun h4=>?_,fun h4=>?_⟩,fun h3=>?_⟩⟩⟩
 ·simp[C.valid,C.pre,h]
 ·simp[C.valid,C.pre,h,h2]
 ·simp[C.valid,C.pre,h,h2,h3,h4]
 ·exact⟨slotsS_len _ _,valid_loop c _ 0 ⟨by omega,by omega,by
   have:c.pre=true:=by
    simp only[C.pre,h,h3,h2]
    rw[show(c.has==may c.code)=true by simpa using h4];rfl
   rw[C.valid,this,Bool.true_and];rfl⟩⟩
 ·exact⟨slotsS_len _ _,valid_loop c _ 0 ⟨by omega,by omega,by simp[C.valid,C.pre,h,h2,h3]⟩⟩
theorem okC_codes(k:Int):okC k=true↔k∈codes:=by
 have:okC k=true↔(k=0∨(k=1∨(oneS k∨none0 k))):=by simp[okC]
 rw[this]
 unfold oneS none0 codes
 simp only[List.mem_cons,List.not_mem_nil,or_false]
 omega
theorem known_loop(k:Int):∀i:Int,(0≤i∧i≤14∧∀j:Nat,(j:Int)<i→codes.getD j 0≠k)→RunsR Tryz.prog (fnOf Tryz.prog 152) (.bool (okC k)) (loopOf Tryz.prog 152 0) (slotsS 18 [(0,I64 k),(3,.list (.int .i64) codes),(4,I64 i)]) [] :=by
 refine runsR_of (hK (l:=[fCodes]) ⟨o_codes,trivial⟩) (n:=1000) (hint:=.unit) rfl (fun i:Int=>0≤i∧i≤14∧∀j:Nat,(j:Int)<i→codes.getD j 0≠k) (fun i=>(14-i).toNat) (keepS 18 [0,3,4]) (fun _=>loopOf Tryz.prog 152 0) (fun i=>slotsS 18 [(0,I64 k),(3,.list (.int .i64) codes),(4,I64 i)]) (fun _=>[]) (fun _=>known1_p) fun i hi=>?_
 obtain⟨h0,h14,hj⟩:=hi
 rw[known1]
 unfold known1_t
 have hl:((codes.length:Nat):Int)=14:=rfl
 have hget:∀j:Nat,codes.getD j (Ty.dflt (Ty.int IntKind.i64))=codes.getD j 0:=fun _=>rfl
 (try rw[hl]);(try rw[hget])
 simp only[Tree.holds,decide_eq_true_eq,decide_eq_false_iff_not,beq_iff_eq,beq_eq_false_iff_ne,Bool.and_eq_true]
 refine⟨fun h=>⟨⟨h0,h⟩,fun hk=>?_,fun hk=>?_⟩,fun h=>?_⟩
 ·show SV.bool true=SV.bool (okC k)
  have:okC k=true:=by
   rw[okC_codes,←hk]
   have hlt:i.toNat<codes.length:=by have:codes.length=14:=rfl;omega
   rw[List.getD_eq_getElem?_getD,List.getElem?_eq_getElem hlt]
   exact List.getElem_mem hlt
  rw[this]
 ·rw[wrap64 (by omega) (by omega)]
  refine⟨slotsS_len _ _,.inl ⟨i+1,⟨by omega,by omega,fun j hj1=>?_⟩,by omega,by trivial,by trivial,by trivial⟩⟩
  by_cases hji:(j:Int)<i
  ·exact hj j hji
  ·obtain rfl:j=i.toNat:=by omega
   exact hk
 ·show SV.bool false=SV.bool (okC k)
  have:okC k=false:=by
   rw[←Bool.not_eq_true,okC_codes]
   intro hm
   obtain⟨j,hj2⟩:=List.getElem?_of_mem hm
   have hlt:j<codes.length:=(List.getElem?_eq_some_iff.1 hj2).1
   have h14':codes.length=14:=rfl
   refine hj j (by omega) ?_
   rw[List.getD_eq_getElem?_getD,hj2];rfl
  rw[this]
theorem s_known(k:Int):SCall Tryz.prog 152 [I64 k] (.bool (okC k)):=by
 refine scallR_loops rfl rfl (by kernel_rfl) (runsR_seg (hK (l:=[fCodes]) ⟨o_codes,trivial⟩) (n:=1000) (hint:=.unit) (keep:=keepS 18 [0,3,4]) (p:=known0_p) (boxes:=[]) rfl ?_)
 have e:=known0 k
 unfold startS codeS at e
 erw [e]
 exact⟨slotsS_len _ _,known_loop k 0 ⟨by omega,by omega,fun j hj=>by omega⟩⟩
theorem o_known:fKnown.ok Tryz.prog:=factI_ok s_known
theorem fsVR:allOk Tryz.prog [fKnown,fAllowed,fComplete,fFields,fRanged] :=⟨o_known,o_allowed,o_complete,o_fields,o_ranged,trivial⟩
theorem rangedB_eq(k n:Int){i:Int}(h0:0≤i)(h6:i<6):rangedB k i n=inR n (lo k i) (hi k i):=by
 unfold rangedB lo hi
 have:i=0∨i=1∨i=2∨i=3∨i=4∨i=5:=by omega
 rcases this with rfl|rfl|rfl|rfl|rfl|rfl<;>simp<;>(repeat' split)<;>rfl
theorem nums_get(c:C){i:Int}(h0:0≤i)(h6:i<6):[c.x,c.y,c.z,c.e,c.f,c.s].getD i.toNat 0=c.num i:=by
 have:i=0∨i=1∨i=2∨i=3∨i=4∨i=5:=by omega
 rcases this with rfl|rfl|rfl|rfl|rfl|rfl<;>rfl
theorem validR_leaves{c:C}{i:Int}(h0:0≤i)(hle:i≤6)(Q:Stop→Prop)(q0:6≤i→Q (.done (.bool true)))(q1:i<6→¬okW c i=true→Q (.done (.bool false)))(q2:i<6→okW c i=true→Q (stVR c (i+1))):(validR1_t c i).holds Q:=by
 have hl:(([c.x,c.y,c.z,c.e,c.f,c.s].length:Nat):Int)=6:=rfl
 unfold validR1_t
 (try rw[hl]);(try rw[u64_small ⟨h0,by omega⟩])
 have eb:i64.wrap ↑(BitVec.ofInt 64 (c.has.fdiv (2 ^ min i.toNat 64)) &&&BitVec.ofInt 64 1).toNat=bit c.has i:=rfl
 rw[eb]
 by_cases h6:i<6
 ·rw[wrap64 (by omega) (by omega),nums_get c h0 h6,rangedB_eq _ _ h0 h6]
  have ok:=okW_ok (c:=c) (i:=i) rfl
  have b01:=bit_01 c.has i
  unfold stVR C.cells at q2
  simp only[Tree.holds,beq_iff_eq,beq_eq_false_iff_ne,bne_iff_ne,bne_eq_false_iff_eq,decide_eq_true_eq,decide_eq_false_iff_not,Bool.and_eq_true,Bool.not_eq_true',Bool.not_eq_false',inR_true,inR_false]
  repeat' (first|apply And.intro|intro _)
  all_goals first
   |omega
   |(refine q1 h6 ?_;rw[ok];omega)
   |(refine q2 h6 ?_;rw[ok];omega)
 ·simp only[Tree.holds,decide_eq_true_eq,decide_eq_false_iff_not]
  exact⟨fun h=>absurd h h6,fun _=>q0 (by omega)⟩
theorem validR_loop(c:C)(v:Bool):∀i:Int,(0≤i∧i≤6∧v=rest c (6-i).toNat)→RunsR Tryz.prog (fnOf Tryz.prog 74) (.bool v) (loopOf Tryz.prog 74 0) (slotsS 70 [(1,.ptr 0 0),(3,.list (.int .i64) [c.x,c.y,c.z,c.e,c.f,c.s]),(4,I64 i)]) [some (.cells c.cells)] :=by
 refine runsR_of (hK fsVR) (n:=1000) (hint:=.unit) rfl (fun i:Int=>0≤i∧i≤6∧v=rest c (6-i).toNat) (fun i=>(6-i).toNat) (keepS 70 [1,3,4]) (fun _=>loopOf Tryz.prog 74 0) (fun i=>slotsS 70 [(1,.ptr 0 0),(3,.list (.int .i64) [c.x,c.y,c.z,c.e,c.f,c.s]),(4,I64 i)]) (fun _=>[some (.cells c.cells)]) (fun _=>validR1_p) fun i hi=>?_
 obtain⟨h0,h6,hv⟩:=hi
 rw[validR1]
 refine validR_leaves h0 h6 _ (fun h=>?_) (fun h hw=>?_) (fun h hw=>?_)
 ·show SV.bool true=SV.bool v
  rw[hv,show(6-i).toNat=0 by omega];rfl
 ·show SV.bool false=SV.bool v
  rw[hv,rest_step c h0 h]
  simp[hw]
 ·refine⟨slotsS_len _ _,.inl ⟨i+1,⟨by omega,by omega,?_⟩,by omega,rfl,rfl,rfl⟩⟩
  rw[hv,rest_step c h0 h,hw,Bool.true_and]
theorem s_validR(c:C):SCall Tryz.prog 74 [c.sv] (.bool c.validR):=by
 refine scallR_loops rfl rfl (by kernel_rfl) (runsR_seg (hK fsVR) (n:=1000) (hint:=.unit) (keep:=keepS 70 [1,3,4]) (p:=validR0_p) (boxes:=[]) rfl ?_)
 have e:=validR0 c
 unfold startS codeS at e
 erw [e]
 unfold validR0_t
 have ea:i64.wrap ↑(BitVec.ofInt 64 c.has &&& ~~~BitVec.ofInt 64 (may c.code)).toNat=andNot c.has (may c.code):=rfl
 rw[ea]
 simp only[Tree.holds,Bool.not_eq_true',Bool.not_eq_false',bne_iff_ne,bne_eq_false_iff_eq,decide_eq_true_eq,decide_eq_false_iff_not]
 refine⟨fun h=>?_,fun h=>⟨fun h1=>?_,fun h1=>⟨fun h2=>?_,fun h2=>⟨fun h3=>?_,fun h3=>?_⟩⟩⟩⟩
 ·simp[C.validR,C.preR,h]
 ·simp[C.validR,C.preR,h,show ¬0≤c.has by omega]
 ·simp[C.validR,C.preR,h,h2]
 ·simp only[C.validR,C.preR,h3];simp
 ·exact⟨slotsS_len _ _,validR_loop c _ 0 ⟨by omega,by omega,by simp only[C.validR,C.preR,h,h2,h3,show(decide (0≤c.has))=true by simp;omega];simp⟩⟩
theorem wrap_zero{x:BitVec 64}(h:i64.wrap (x.toNat:Int)=0):x=0#64:=by
 have hx:=x.isLt
 have h2:IntKind.wrap .i64 (x.toNat:Int)=if true&&decide ((x.toNat:Int) % 18446744073709551616≥9223372036854775808)then(x.toNat:Int) % 18446744073709551616-18446744073709551616 else(x.toNat:Int) % 18446744073709551616:=rfl
 rw[h2]at h
 simp only[Bool.true_and,decide_eq_true_eq]at h
 have:x.toNat=0:=by split at h<;>omega
 exact BitVec.eq_of_toNat_eq (by simpa using this)
theorem msb_of{h:Int}(h1: -9223372036854775808≤h)(h2:h≤9223372036854775807):(BitVec.ofInt 64 h).msb=decide (h<0):=by
 rw[BitVec.msb_eq_toInt,BitVec.toInt_ofInt]
 congr 1
 rw[Int.bmod_eq_of_le (by omega) (by omega)]
theorem andNot_zero{h m:Int}(h1: -9223372036854775808≤h)(h2:h≤9223372036854775807)(hm:0≤m)(hm2:m≤100)(ha:andNot h m=0):0≤h∧(m=0→h=0):=by
 have hx:BitVec.ofInt 64 h &&& ~~~BitVec.ofInt 64 m=0#64:=wrap_zero ha
 constructor
 ·have hb:(BitVec.ofInt 64 h &&& ~~~BitVec.ofInt 64 m).msb=false:=by rw[hx];rfl
  rw[BitVec.msb_and,BitVec.msb_not,msb_of h1 h2,msb_of (by omega) (by omega)]at hb
  have:¬m<0:=by omega
  simpa[this]using hb
 ·rintro rfl
  have e:(~~~BitVec.ofInt 64 0)=BitVec.allOnes 64:=by rfl
  rw[e,BitVec.and_allOnes]at hx
  have h3:(BitVec.ofInt 64 h).toInt=0:=by rw[hx];rfl
  rw[BitVec.toInt_ofInt,Int.bmod_eq_of_le (by omega) (by omega)]at h3
  exact h3
theorem valid_eq{c:C}(h1: -9223372036854775808≤c.has)(h2:c.has≤9223372036854775807):c.valid=c.validR:=by
 have key:c.pre=c.preR:=by
  rw[Bool.eq_iff_iff]
  have hm:may c.code=0∨may c.code=23∨may c.code=31∨may c.code=32:=by
   unfold may;(repeat' split)<;>simp
  have hmay:=andNot_zero h1 h2 (m:=may c.code) (by omega) (by omega)
  simp only[C.pre,C.preR,Bool.and_eq_true,Bool.or_eq_true,Bool.not_eq_true',beq_iff_eq,beq_eq_false_iff_ne,decide_eq_true_eq,Bool.and_eq_false_iff,Bool.not_eq_false']
  have ha:allW c.code=true↔(oneS c.code∨none0 c.code):=by simp[allW]
  have hs:may c.code=32↔oneS c.code:=by
   unfold may oneS;(repeat' split)<;>omega
  have hn:none0 c.code→may c.code=0:=by
   intro hn;unfold none0 at hn;unfold may oneS;(repeat' split)<;>omega
  constructor
  ·rintro ⟨a,b,d⟩
   refine⟨a,(hmay b).1,b,?_⟩
   by_cases h32:may c.code=32
   ·right
    rcases d with d|d
    ·exact absurd (ha.2 (.inl (hs.1 h32))) (by rw[d];simp)
    ·rw[d,h32]
   ·exact .inl h32
  ·rintro ⟨a,_,b,d⟩
   refine⟨a,b,?_⟩
   by_cases hw:allW c.code=true
   ·right
    rcases ha.1 hw with h|h
    ·have:=hs.2 h
     rcases d with d|d
     ·exact absurd this d
     ·rw[this,d]
    ·rw[hn h];exact(hmay b).2 (hn h)
   ·exact .inl (by simpa using hw)
 rw[C.valid,C.validR,key]
end Go.Proofs.YtnkaepnblikcdaaGreat.Gc
namespace Go.Proofs.YtnkaepnblikcdaaGreat
open Go.Sx
def V3.cells(v:V3):List SV:=[I64 v.1,I64 v.2.1,I64 v.2.2]
structure Fw where
 ma:Ma
 mode:Int
 homed:Bool
 pos:V4
 loc:V3
 e:Int
 feed:Int
 queue:List Bk
 lines:List Int
 mo:Mo
 moving:Bool
 active:Int
 back:Bool
 ret:V4
 dwell:Int
 waits:Int
 c0:Co
 c1:Co
 g0:Gu
 g1:Gu
 fan:Int
 line:Int
 ticks:Int
 cold:Int
 r0:Int
 r1:Int
def Fw.cells(f:Fw):List SV:=[I64 f.ma.x.num,I64 f.ma.x.den,I64 f.ma.x.speed,I64 f.ma.x.accel,I64 f.ma.x.jerk,I64 f.ma.x.min,I64 f.ma.x.max,I64 f.ma.y.num,I64 f.ma.y.den,I64 f.ma.y.speed,
 I64 f.ma.y.accel,I64 f.ma.y.jerk,I64 f.ma.y.min,I64 f.ma.y.max,I64 f.ma.z.num,I64 f.ma.z.den,I64 f.ma.z.speed,I64 f.ma.z.accel,I64 f.ma.z.jerk,I64 f.ma.z.min,
 I64 f.ma.z.max,I64 f.ma.e.num,I64 f.ma.e.den,I64 f.ma.e.speed,I64 f.ma.e.accel,I64 f.ma.e.jerk,I64 f.ma.e.min,I64 f.ma.e.max,.bool f.ma.xy,I64 f.ma.ticks,
 I64 f.mode,.bool f.homed,I64 f.pos.1,I64 f.pos.2.1,I64 f.pos.2.2.1,I64 f.pos.2.2.2,I64 f.loc.1,I64 f.loc.2.1,I64 f.loc.2.2,I64 f.e,
 I64 f.feed,LB f.queue,LI f.lines,I64 f.mo.1.1.1,I64 f.mo.1.1.2.1,I64 f.mo.1.1.2.2.1,I64 f.mo.1.1.2.2.2,I64 f.mo.1.2.1,I64 f.mo.1.2.2.1,I64 f.mo.1.2.2.2.1,
 I64 f.mo.1.2.2.2.2,I64 f.mo.2.1,I64 f.mo.2.2,.bool f.moving,I64 f.active,.bool f.back,I64 f.ret.1,I64 f.ret.2.1,I64 f.ret.2.2.1,I64 f.ret.2.2.2,
 I64 f.dwell,I64 f.waits,I64 f.c0.target,I64 f.c0.kp,I64 f.c0.ki,I64 f.c0.scale,I64 f.c0.sum,I64 f.c0.limit,I64 f.c1.target,I64 f.c1.kp,
 I64 f.c1.ki,I64 f.c1.scale,I64 f.c1.sum,I64 f.c1.limit,I64 f.g0.low,I64 f.g0.high,I64 f.g0.watch,I64 f.g0.rise,I64 f.g0.band,I64 f.g0.base,
 I64 f.g0.count,I64 f.g0.idle,I64 f.g0.quiet,I64 f.g0.fault,.bool f.g0.door,I64 f.g1.low,I64 f.g1.high,I64 f.g1.watch,I64 f.g1.rise,I64 f.g1.band,
 I64 f.g1.base,I64 f.g1.count,I64 f.g1.idle,I64 f.g1.quiet,I64 f.g1.fault,.bool f.g1.door,I64 f.fan,I64 f.line,I64 f.ticks,I64 f.cold,
 I64 f.r0,I64 f.r1]
def Fw.sv(f:Fw):SV:=.agg f.cells
inductive NilL:SV→SV→Prop where
 |same (x:SV):NilL x x
 |nil (t:Ty):NilL .nilS (.list t [])
def NilLs:List SV→List SV→Prop
 |[],[] =>True
 |x::xs,y::ys=>NilL x y∧NilLs xs ys
 |_,_=>False
theorem NilLs.refl:∀l:List SV,NilLs l l
 |[] =>trivial
 |x::l=>⟨.same x,NilLs.refl l⟩
theorem NilLs.append:∀{a b c d:List SV},NilLs a b→NilLs c d→NilLs (a++c) (b++d)
 |[],[],_,_,_,h=>h
 |x::xs,y::ys,_,_,h,k=>⟨h.1,h.2.append k⟩
theorem NilL.rep{R:Nat→Prop}{ρ:Rho}{n:Nat}{w:World}{x y:SV}{v:Value}(h:NilL x y)(hr:Rep R ρ n w x v):Rep R ρ n w y v:=by
 cases h with
 |same=>exact hr
 |nil t=>exact⟨none,0,by rw[show v=_ from hr];rfl,Nat.le_refl _,fun h=>absurd h (Nat.lt_irrefl _)⟩
theorem NilLs.rep{R:Nat→Prop}{ρ:Rho}{n:Nat}{w:World}:∀{xs ys:List SV} {vs:List Value},NilLs xs ys→RepL R ρ n w xs vs→RepL R ρ n w ys vs
 |[],[],_,_,hr=>hr
 |x::xs,y::ys,_,h,hr=>by
  obtain⟨u,us,rfl,h1,h2⟩:=hr
  exact⟨u,us,rfl,h.1.rep h1,h.2.rep h2⟩
theorem scall_nil{P:Program}{f:FuncId}{cs ds:List SV}{rest:List SV}{v:SV}(hn:NilLs cs ds)(h:SCall P f (.agg ds::rest) v):SCall P f (.agg cs::rest) v:=by
 intro m w0 R0 ρ w vs hm hvs
 obtain⟨u,us,rfl,⟨ws,h1,h2⟩,h3⟩:=hvs
 exact h m w0 R0 ρ w _ hm ⟨u,us,rfl,⟨ws,h1,hn.rep h2⟩,h3⟩
def tkI:List SV→Option (Int×List SV)
 |.int .i64 a0::r=>some (a0,r)
 |_=>none
theorem tkI_eq{l r:List SV}{x:Int}(h:tkI l=some (x,r)):NilLs l ([I64 x] ++r):=by
 unfold tkI at h
 split at h
 ·cases h;exact NilLs.refl _
 ·cases h
def tkT:List SV→Option (Bool×List SV)
 |.bool b::r=>some (b,r)
 |_=>none
theorem tkT_eq{l r:List SV}{x:Bool}(h:tkT l=some (x,r)):NilLs l ([SV.bool x] ++r):=by
 unfold tkT at h
 split at h
 ·cases h;exact NilLs.refl _
 ·cases h
def tkV4:List SV→Option (V4×List SV)
 |.int .i64 a0::.int .i64 a1::.int .i64 a2::.int .i64 a3::r=>some ((a0,a1,a2,a3),r)
 |_=>none
theorem tkV4_eq{l r:List SV}{x:V4}(h:tkV4 l=some (x,r)):NilLs l (V4.cells x++r):=by
 unfold tkV4 at h
 split at h
 ·cases h;exact NilLs.refl _
 ·cases h
def tkV3:List SV→Option (V3×List SV)
 |.int .i64 a0::.int .i64 a1::.int .i64 a2::r=>some ((a0,a1,a2),r)
 |_=>none
theorem tkV3_eq{l r:List SV}{x:V3}(h:tkV3 l=some (x,r)):NilLs l (V3.cells x++r):=by
 unfold tkV3 at h
 split at h
 ·cases h;exact NilLs.refl _
 ·cases h
def tkMo:List SV→Option (Mo×List SV)
 |.int .i64 a0::.int .i64 a1::.int .i64 a2::.int .i64 a3::.int .i64 a4::.int .i64 a5::.int .i64 a6::.int .i64 a7::.int .i64 a8::.int .i64 a9::r=>some ((((a0,a1,a2,a3),a4,a5,a6,a7),a8,a9),r)
 |_=>none
theorem tkMo_eq{l r:List SV}{x:Mo}(h:tkMo l=some (x,r)):NilLs l (Mo.cells x++r):=by
 unfold tkMo at h
 split at h
 ·cases h;exact NilLs.refl _
 ·cases h
def tkCo:List SV→Option (Co×List SV)
 |.int .i64 a0::.int .i64 a1::.int .i64 a2::.int .i64 a3::.int .i64 a4::.int .i64 a5::r=>some (⟨a0,a1,a2,a3,a4,a5⟩,r)
 |_=>none
theorem tkCo_eq{l r:List SV}{x:Co}(h:tkCo l=some (x,r)):NilLs l (Co.cells x++r):=by
 unfold tkCo at h
 split at h
 ·cases h;exact NilLs.refl _
 ·cases h
def tkGu:List SV→Option (Gu×List SV)
 |.int .i64 a0::.int .i64 a1::.int .i64 a2::.int .i64 a3::.int .i64 a4::.int .i64 a5::.int .i64 a6::.int .i64 a7::.int .i64 a8::.int .i64 a9::.bool d::r=>some (⟨a0,a1,a2,a3,a4,a5,a6,a7,a8,a9,d⟩,r)
 |_=>none
theorem tkGu_eq{l r:List SV}{x:Gu}(h:tkGu l=some (x,r)):NilLs l (Gu.cells x++r):=by
 unfold tkGu at h
 split at h
 ·cases h;exact NilLs.refl _
 ·cases h
def tkAx:List SV→Option (Ax×List SV)
 |.int .i64 a0::.int .i64 a1::.int .i64 a2::.int .i64 a3::.int .i64 a4::.int .i64 a5::.int .i64 a6::r=>some (⟨a0,a1,a2,a3,a4,a5,a6⟩,r)
 |_=>none
theorem tkAx_eq{l r:List SV}{x:Ax}(h:tkAx l=some (x,r)):NilLs l (Ax.cells x++r):=by
 unfold tkAx at h
 split at h
 ·cases h;exact NilLs.refl _
 ·cases h
def tkQ:List SV→Option (List Bk×List SV)
 |.list (.pair (.pair (.int .i64) (.pair (.int .i64) (.pair (.int .i64) (.int .i64)))) (.pair (.int .i64) (.pair (.int .i64) (.pair (.int .i64) (.int .i64))))) l::r=>some (l,r)
 |.nilS::r=>some ([],r)
 |_=>none
theorem tkQ_eq{l r:List SV}{x:List Bk}(h:tkQ l=some (x,r)):NilLs l ([LB x] ++r):=by
 unfold tkQ at h
 split at h
 ·cases h;exact NilLs.refl _
 ·cases h;exact⟨.nil _,NilLs.refl _⟩
 ·cases h
def tkL:List SV→Option (List Int×List SV)
 |.list (.int .i64) l::r=>some (l,r)
 |.nilS::r=>some ([],r)
 |_=>none
theorem tkL_eq{l r:List SV}{x:List Int}(h:tkL l=some (x,r)):NilLs l ([LI x] ++r):=by
 unfold tkL at h
 split at h
 ·cases h;exact NilLs.refl _
 ·cases h;exact⟨.nil _,NilLs.refl _⟩
 ·cases h
theorem NilL.trans{x y z:SV}(h:NilL x y)(k:NilL y z):NilL x z:=by
 cases h with
 |same=>exact k
 |nil t=>cases k;exact .nil t
theorem NilLs.trans:∀{a b c:List SV},NilLs a b→NilLs b c→NilLs a c
 |[],[],[],_,_=>trivial
 |_::_,_::_,_::_,h,k=>⟨h.1.trans k.1,NilLs.trans h.2 k.2⟩
def tkMa(l:List SV):Option (Ma×List SV):=
 match tkAx l with
 |none=>none
 |some (x,l1)=>
   match tkAx l1 with
   |none=>none
   |some (y,l2)=>
     match tkAx l2 with
     |none=>none
     |some (z,l3)=>
       match tkAx l3 with
       |none=>none
       |some (e,l4)=>
         match tkT l4 with
         |none=>none
         |some (b,l5)=>
           match tkI l5 with
           |none=>none
           |some (t,l6)=>
             some (⟨x,y,z,e,b,t⟩,l6)
theorem tkMa_eq{l r:List SV}{x:Ma}(h:tkMa l=some (x,r)):NilLs l (Ma.cells x++r):=by
 unfold tkMa at h
 split at h
 ·cases h
 rename_i x l1 h1
 split at h
 ·cases h
 rename_i y l2 h2
 split at h
 ·cases h
 rename_i z l3 h3
 split at h
 ·cases h
 rename_i e l4 h4
 split at h
 ·cases h
 rename_i b l5 h5
 split at h
 ·cases h
 rename_i t l6 h6
 cases h
 have k6:=tkI_eq h6
 have k5:=NilLs.trans (tkT_eq h5) (NilLs.append (NilLs.refl _) k6)
 have k4:=NilLs.trans (tkAx_eq h4) (NilLs.append (NilLs.refl _) k5)
 have k3:=NilLs.trans (tkAx_eq h3) (NilLs.append (NilLs.refl _) k4)
 have k2:=NilLs.trans (tkAx_eq h2) (NilLs.append (NilLs.refl _) k3)
 have k1:=NilLs.trans (tkAx_eq h1) (NilLs.append (NilLs.refl _) k2)
 exact k1
def tkFw(l:List SV):Option (Fw×List SV):=
 match tkMa l with
 |none=>none
 |some (y0,l1)=>
   match tkI l1 with
   |none=>none
   |some (y1,l2)=>
     match tkT l2 with
     |none=>none
     |some (y2,l3)=>
       match tkV4 l3 with
       |none=>none
       |some (y3,l4)=>
         match tkV3 l4 with
         |none=>none
         |some (y4,l5)=>
           match tkI l5 with
           |none=>none
           |some (y5,l6)=>
             match tkI l6 with
             |none=>none
             |some (y6,l7)=>
               match tkQ l7 with
               |none=>none
               |some (y7,l8)=>
                 match tkL l8 with
                 |none=>none
                 |some (y8,l9)=>
                   match tkMo l9 with
                   |none=>none
                   |some (y9,l10)=>
                     match tkT l10 with
                     |none=>none
                     |some (y10,l11)=>
                       match tkI l11 with
                       |none=>none
                       |some (y11,l12)=>
                         match tkT l12 with
                         |none=>none
                         |some (y12,l13)=>
                           match tkV4 l13 with
                           |none=>none
                           |some (y13,l14)=>
                             match tkI l14 with
                             |none=>none
                             |some (y14,l15)=>
                               match tkI l15 with
                               |none=>none
                               |some (y15,l16)=>
                                 match tkCo l16 with
                                 |none=>none
                                 |some (y16,l17)=>
                                   match tkCo l17 with
                                   |none=>none
                                   |some (y17,l18)=>
                                     match tkGu l18 with
                                     |none=>none
                                     |some (y18,l19)=>
                                       match tkGu l19 with
                                       |none=>none
                                       |some (y19,l20)=>
                                         match tkI l20 with
                                         |none=>none
                                         |some (y20,l21)=>
                                           match tkI l21 with
                                           |none=>none
                                           |some (y21,l22)=>
                                             match tkI l22 with
                                             |none=>none
                                             |some (y22,l23)=>
                                               match tkI l23 with
                                               |none=>none
                                               |some (y23,l24)=>
                                                 match tkI l24 with
                                                 |none=>none
                                                 |some (y24,l25)=>
                                                   match tkI l25 with
                                                   |none=>none
                                                   |some (y25,l26)=>
                                                     some (⟨y0,y1,y2,y3,y4,y5,y6,y7,y8,y9,y10,y11,y12,y13,y14,y15,y16,y17,y18,y19,y20,y21,y22,y23,y24,y25⟩,l26)
theorem tkFw_eq{l r:List SV}{x:Fw}(h:tkFw l=some (x,r)):NilLs l (Fw.cells x++r):=by
 unfold tkFw at h
 split at h
 ·cases h
 rename_i y0 l1 h1
 split at h
 ·cases h
 rename_i y1 l2 h2
 split at h
 ·cases h
 rename_i y2 l3 h3
 split at h
 ·cases h
 rename_i y3 l4 h4
 split at h
 ·cases h
 rename_i y4 l5 h5
 split at h
 ·cases h
 rename_i y5 l6 h6
 split at h
 ·cases h
 rename_i y6 l7 h7
 split at h
 ·cases h
 rename_i y7 l8 h8
 split at h
 ·cases h
 rename_i y8 l9 h9
 split at h
 ·cases h
 rename_i y9 l10 h10
 split at h
 ·cases h
 rename_i y10 l11 h11
 split at h
 ·cases h
 rename_i y11 l12 h12
 split at h
 ·cases h
 rename_i y12 l13 h13
 split at h
 ·cases h
 rename_i y13 l14 h14
 split at h
 ·cases h
 rename_i y14 l15 h15
 split at h
 ·cases h
 rename_i y15 l16 h16
 split at h
 ·cases h
 rename_i y16 l17 h17
 split at h
 ·cases h
 rename_i y17 l18 h18
 split at h
 ·cases h
 rename_i y18 l19 h19
 split at h
 ·cases h
 rename_i y19 l20 h20
 split at h
 ·cases h
 rename_i y20 l21 h21
 split at h
 ·cases h
 rename_i y21 l22 h22
 split at h
 ·cases h
 rename_i y22 l23 h23
 split at h
 ·cases h
 rename_i y23 l24 h24
 split at h
 ·cases h
 rename_i y24 l25 h25
 split at h
 ·cases h
 rename_i y25 l26 h26
 cases h
 have k26:=tkI_eq h26
 have k25:=NilLs.trans (tkI_eq h25) (NilLs.append (NilLs.refl _) k26)
 have k24:=NilLs.trans (tkI_eq h24) (NilLs.append (NilLs.refl _) k25)
 have k23:=NilLs.trans (tkI_eq h23) (NilLs.append (NilLs.refl _) k24)
 have k22:=NilLs.trans (tkI_eq h22) (NilLs.append (NilLs.refl _) k23)
 have k21:=NilLs.trans (tkI_eq h21) (NilLs.append (NilLs.refl _) k22)
 have k20:=NilLs.trans (tkGu_eq h20) (NilLs.append (NilLs.refl _) k21)
 have k19:=NilLs.trans (tkGu_eq h19) (NilLs.append (NilLs.refl _) k20)
 have k18:=NilLs.trans (tkCo_eq h18) (NilLs.append (NilLs.refl _) k19)
 have k17:=NilLs.trans (tkCo_eq h17) (NilLs.append (NilLs.refl _) k18)
 have k16:=NilLs.trans (tkI_eq h16) (NilLs.append (NilLs.refl _) k17)
 have k15:=NilLs.trans (tkI_eq h15) (NilLs.append (NilLs.refl _) k16)
 have k14:=NilLs.trans (tkV4_eq h14) (NilLs.append (NilLs.refl _) k15)
 have k13:=NilLs.trans (tkT_eq h13) (NilLs.append (NilLs.refl _) k14)
 have k12:=NilLs.trans (tkI_eq h12) (NilLs.append (NilLs.refl _) k13)
 have k11:=NilLs.trans (tkT_eq h11) (NilLs.append (NilLs.refl _) k12)
 have k10:=NilLs.trans (tkMo_eq h10) (NilLs.append (NilLs.refl _) k11)
 have k9:=NilLs.trans (tkL_eq h9) (NilLs.append (NilLs.refl _) k10)
 have k8:=NilLs.trans (tkQ_eq h8) (NilLs.append (NilLs.refl _) k9)
 have k7:=NilLs.trans (tkI_eq h7) (NilLs.append (NilLs.refl _) k8)
 have k6:=NilLs.trans (tkI_eq h6) (NilLs.append (NilLs.refl _) k7)
 have k5:=NilLs.trans (tkV3_eq h5) (NilLs.append (NilLs.refl _) k6)
 have k4:=NilLs.trans (tkV4_eq h4) (NilLs.append (NilLs.refl _) k5)
 have k3:=NilLs.trans (tkT_eq h3) (NilLs.append (NilLs.refl _) k4)
 have k2:=NilLs.trans (tkI_eq h2) (NilLs.append (NilLs.refl _) k3)
 have k1:=NilLs.trans (tkMa_eq h1) (NilLs.append (NilLs.refl _) k2)
 exact k1
def asFw(l:List SV):Option Fw:=match tkFw l with
 |some (f,r)=>match r with
  |[] =>some f
  |_=>none
 |none=>none
theorem asFw_nil{l:List SV}{f:Fw}(h:asFw l=some f):NilLs l f.cells:=by
 unfold asFw at h
 split at h
 ·split at h
  ·rename_i h1
   injection h with h;subst h
   have:=tkFw_eq h1
   rwa [List.append_nil]at this
  ·cases h
 ·cases h
def factFw(f:FuncId)(h:Fw→List SV→Option (Tree SV)):Fact:=⟨f,fun args=>match args with
 |.agg l::rest=>match asFw l with
  |some x=>h x rest
  |none=>none
 |_=>none⟩
theorem says_mono{P:Program}{f:FuncId}{a b:List SV}(h:∀v,SCall P f a v→SCall P f b v):∀t:Tree SV,t.says (SCall P f a)→t.says (SCall P f b)
 |.leaf v,k=>h v k
 |.node _ t u,k=>⟨fun hb=>says_mono h t (k.1 hb),fun hb=>says_mono h u (k.2 hb)⟩
 |.req _ t,k=>fun hb=>says_mono h t (k hb)
 |.fail _,_=>trivial
theorem factFw_ok{P:Program}{f:FuncId}{h:Fw→List SV→Option (Tree SV)}(k:∀x rest t,h x rest=some t→t.says (SCall P f (x.sv::rest))):(factFw f h).ok P:=fun args t ht=>by
 simp only[factFw]at ht
 split at ht
 ·split at ht
  ·rename_i hx
   exact says_mono (fun v hv=>scall_nil (asFw_nil hx) hv) t (k _ _ _ ht)
  ·cases ht
 ·cases ht
def factF1(f:FuncId)(h:Fw→Tree SV):Fact:=factFw f fun x rest=>match rest with
 |[] =>some (h x)
 |_=>none
theorem factF1_ok{P:Program}{f:FuncId}{h:Fw→Tree SV}(k:∀x,(h x).says (SCall P f [x.sv])):(factF1 f h).ok P:=factFw_ok fun x rest t ht=>by
 split at ht
 ·injection ht with ht;subst ht;exact k x
 ·cases ht
def partsB(f:Fw):Bool:=f.ma.ok&& (f.c0.ok&& (f.c1.ok&& (f.g0.ok&&f.g1.ok)))
theorem partsB_iff{f:Fw}:partsB f=true↔f.ma.ok=true∧f.c0.ok=true∧f.c1.ok=true∧f.g0.ok=true∧f.g1.ok=true:=by simp only[partsB,Bool.and_eq_true]
def far(n:Int):Bool:=inR n (-16777216) 16777216
def modeB(f:Fw):Bool:=inR f.mode 1 3
def numsB(f:Fw):Bool:=far f.loc.1&& (far f.loc.2.1&& (far f.loc.2.2&& (far f.e&& (inR f.feed 0 1048576&& (inR f.dwell 0 1048576&& (inR f.waits 0 3&& (inR f.fan 0 255&& (inR f.line 0 1099511627776&& (inR f.active 0 1099511627776&& (inR f.ticks 0 1099511627776&&inR f.cold 0 400000))))))))))
theorem numsB_iff{f:Fw}:numsB f=true↔(-16777216≤f.loc.1∧f.loc.1≤16777216)∧(-16777216≤f.loc.2.1∧f.loc.2.1≤16777216)∧(-16777216≤f.loc.2.2∧f.loc.2.2≤16777216)∧(-16777216≤f.e∧f.e≤16777216)∧(0≤f.feed∧f.feed≤1048576)∧(0≤f.dwell∧f.dwell≤1048576)∧(0≤f.waits∧f.waits≤3)∧(0≤f.fan∧f.fan≤255)∧(0≤f.line∧f.line≤1099511627776)∧(0≤f.active∧f.active≤1099511627776)∧(0≤f.ticks∧f.ticks≤1099511627776)∧0≤f.cold∧f.cold≤400000:=by simp only[numsB,far,Bool.and_eq_true,inR_iff]
def modNumB(f:Fw):Bool:=modeB f&&numsB f
theorem modNumB_iff{f:Fw}:modNumB f=true↔(1≤f.mode∧f.mode≤3)∧numsB f=true:=by simp only[modNumB,modeB,Bool.and_eq_true,inR_iff]
theorem s_parts(f:Fw):SCall Tryz.prog 86 [f.sv] (.bool (partsB f)):=
 scall_v mix [fMaOk,fCoOk,fGuOk] ⟨o_maOk,o_coOk,o_guOk,trivial⟩ 1000 (.fork (.ln 4 (.fork (.ln 4 (.fork (.ln 4 (.fork (.ln 3 (.lit .all)) (.ln 3 (.lit .all)))) (.ln 8 (.lit .all)))) (.ln 13 (.lit .all)))) (.ln 18 (.lit .all)))
  (t:=.node (f.ma.ok)
 (.req (true) (.node (f.c0.ok)
   (.req (true) (.node (f.c1.ok)
     (.req (true) (.node (f.g0.ok)
       (.req (true) (.leaf (SV.bool f.g1.ok)))
       (.leaf (SV.bool false))))
     (.leaf (SV.bool false))))
   (.leaf (SV.bool false))))
 (.leaf (SV.bool false)))
   (by kernel_rfl) (by simp only[Tree.holds,sL,ne_eq,beq_iff_eq,bne_iff_ne,eq_self,beq_eq_false_iff_ne,bne_eq_false_iff_eq,implies_true];(repeat' (first|apply And.intro|intro _));all_goals(refine holds_bool ?_;rw[partsB_iff];(try simp only[sL,ne_eq,beq_iff_eq,bne_iff_ne,eq_self,beq_eq_false_iff_ne,bne_eq_false_iff_eq,implies_true]); first|omega|grind)) (by kernel_rfl) (by kernel_rfl)
theorem s_partsR(c d:Co)(g h:Gu):SCall Tryz.prog 68 [.agg (c.cells++d.cells),.agg (g.cells++h.cells)] (.bool (c.ok&& (d.ok&& (g.ok&&h.ok)))):=
 scall_v mix [fCoOkR,fGuOkR] ⟨o_coOkR,o_guOkR,trivial⟩ 1000 (.fork (.ln 3 (.fork (.ln 3 (.fork (.lit (.lit (.lit .all))) (.lit (.lit (.lit .all))))) (.ln 6 (.lit .all)))) (.ln 10 (.lit .all)))
  (t:=.req (true) (.node (c.ok)
 (.req (true) (.node (d.ok)
   (.req (true) (.node (g.ok)
     (.req (true) (.leaf (SV.bool h.ok)))
     (.leaf (SV.bool false))))
   (.leaf (SV.bool false))))
 (.leaf (SV.bool false))))
  (by kernel_rfl) (by simp only[Tree.holds,sL,ne_eq,beq_iff_eq,bne_iff_ne,eq_self,beq_eq_false_iff_ne,bne_eq_false_iff_eq,implies_true];(repeat' (first|apply And.intro|intro _));all_goals(simp_all)) (by kernel_rfl) (by kernel_rfl)
theorem s_nums(f:Fw):SCall Tryz.prog 87 [f.sv] (.bool (modNumB f)):=
 scall_v mix [] trivial 1000 (.fork (.ln 3 (.fork (.ln 3 (.fork .all (.fork (.ln 3 (.fork (.ln 16 (.lit .all)) (.ln 3 (.fork (.ln 5 (.fork (.ln 10 (.lit .all)) (.ln 3 (.fork (.ln 5 (.fork (.ln 4 (.lit .all)) (.lit (.lit (.fork (.ln 5 (.fork .all (.fork (.ln 3 (.fork (.ln 14 (.lit .all)) (.lit (.lit (.fork (.ln 5 (.fork (.ln 9 (.lit .all)) (.lit (.lit (.fork (.ln 5 (.fork (.ln 4 (.lit .all)) (.lit (.lit (.fork (.ln 5 (.fork .all (.fork (.ln 3 (.fork (.lit (.lit (.fork (.ln 4 (.fork (.lit (.lit (.fork (.ln 4 (.fork (.lit (.lit (.fork (.ln 3 (.lit .all)) (.ln 3 (.lit .all))))) (.lit (.lit (.lit .all))))) (.ln 7 (.lit .all))))) (.ln 6 (.lit .all)))) (.ln 11 (.lit .all))))) (.ln 10 (.lit .all)))) (.ln 14 (.lit .all))))) (.ln 5 (.lit .all))))))) (.ln 10 (.lit .all))))))) (.ln 15 (.lit .all))))))) (.ln 18 (.lit .all))))) (.ln 5 (.lit .all))))))) (.ln 10 (.lit .all)))))) (.ln 16 (.lit .all)))))) (.ln 20 (.lit .all))))) (.ln 4 (.fork (.ln 3 (.fork (.ln 16 (.lit .all)) (.ln 3 (.fork (.ln 5 (.fork (.ln 10 (.lit .all)) (.ln 3 (.fork (.ln 5 (.fork (.ln 4 (.lit .all)) (.lit (.lit (.fork (.ln 5 (.fork .all (.fork (.ln 3 (.fork (.ln 14 (.lit .all)) (.lit (.lit (.fork (.ln 5 (.fork (.ln 9 (.lit .all)) (.lit (.lit (.fork (.ln 5 (.fork (.ln 4 (.lit .all)) (.lit (.lit (.fork (.ln 5 (.fork .all (.fork (.ln 3 (.fork (.lit (.lit (.fork (.ln 4 (.fork (.lit (.lit (.fork (.ln 4 (.fork (.lit (.lit (.fork (.ln 3 (.lit .all)) (.ln 3 (.lit .all))))) (.lit (.lit (.lit .all))))) (.ln 7 (.lit .all))))) (.ln 6 (.lit .all)))) (.ln 11 (.lit .all))))) (.ln 10 (.lit .all)))) (.ln 14 (.lit .all))))) (.ln 5 (.lit .all))))))) (.ln 10 (.lit .all))))))) (.ln 15 (.lit .all))))))) (.ln 18 (.lit .all))))) (.ln 5 (.lit .all))))))) (.ln 10 (.lit .all)))))) (.ln 16 (.lit .all)))))) (.ln 20 (.lit .all)))))) (.ln 8 (.fork (.ln 3 (.fork (.ln 16 (.lit .all)) (.ln 3 (.fork (.ln 5 (.fork (.ln 10 (.lit .all)) (.ln 3 (.fork (.ln 5 (.fork (.ln 4 (.lit .all)) (.lit (.lit (.fork (.ln 5 (.fork .all (.fork (.ln 3 (.fork (.ln 14 (.lit .all)) (.lit (.lit (.fork (.ln 5 (.fork (.ln 9 (.lit .all)) (.lit (.lit (.fork (.ln 5 (.fork (.ln 4 (.lit .all)) (.lit (.lit (.fork (.ln 5 (.fork .all (.fork (.ln 3 (.fork (.lit (.lit (.fork (.ln 4 (.fork (.lit (.lit (.fork (.ln 4 (.fork (.lit (.lit (.fork (.ln 3 (.lit .all)) (.ln 3 (.lit .all))))) (.lit (.lit (.lit .all))))) (.ln 7 (.lit .all))))) (.ln 6 (.lit .all)))) (.ln 11 (.lit .all))))) (.ln 10 (.lit .all)))) (.ln 14 (.lit .all))))) (.ln 5 (.lit .all))))))) (.ln 10 (.lit .all))))))) (.ln 15 (.lit .all))))))) (.ln 18 (.lit .all))))) (.ln 5 (.lit .all))))))) (.ln 10 (.lit .all)))))) (.ln 16 (.lit .all)))))) (.ln 20 (.lit .all)))))
  (t:=let y1:Tree SV:=.leaf (.bool false);let y0:Tree SV:=.node (decide (f.loc.1≥-16777216)) (.node (!decide (f.loc.1≤16777216)) y1 (.node (decide (f.loc.2.1≥-16777216)) (.node (!decide (f.loc.2.1≤16777216)) y1 (.node (decide (f.loc.2.2≥-16777216)) (.node (!decide (f.loc.2.2≤16777216)) y1 (.node (decide (f.e≥-16777216)) (.node (!decide (f.e≤16777216)) y1 (.node (decide (f.feed≥0)) (.node (!decide (f.feed≤1048576)) y1 (.node (decide (f.dwell≥0)) (.node (!decide (f.dwell≤1048576)) y1 (.node (decide (f.waits≥0)) (.node (!decide (f.waits≤3)) y1 (.node (decide (f.fan≥0)) (.node (!decide (f.fan≤255)) y1 (.node (decide (f.line≥0)) (.node (decide (f.line≤1099511627776)) (.node (decide (f.active≥0)) (.node (decide (f.active≤1099511627776)) (.node (decide (f.ticks≥0)) (.node (decide (f.ticks≤1099511627776)) (.node (decide (f.cold≥0)) (.leaf (.bool (decide (f.cold≤400000)))) y1) y1) y1) y1) y1) y1) y1)) y1)) y1)) y1)) y1)) y1)) y1)) y1)) y1;.node (f.mode != 1) (.node (f.mode != 2) (.node (f.mode != 3) y1 y0) y0) y0)
  (by kernel_rfl) (by simp only[Tree.holds,sL,ne_eq,beq_iff_eq,bne_iff_ne,eq_self,beq_eq_false_iff_ne,bne_eq_false_iff_eq,implies_true];(repeat' (first|apply And.intro|intro _));all_goals(refine holds_bool ?_;rw[modNumB_iff,numsB_iff];(try simp only[sL,ne_eq,beq_iff_eq,bne_iff_ne,eq_self,beq_eq_false_iff_ne,bne_eq_false_iff_eq,implies_true]); first|omega|grind)) (by kernel_rfl) (by kernel_rfl)
theorem s_numsR(f:Fw):SCall Tryz.prog 91 [f.sv] (.bool (numsB f)):=
 scall_v mix [] trivial 1000 (.fork (.ln 3 (.fork (.ln 3 (.fork (.ln 4 (.fork (.ln 3 (.fork (.ln 4 (.fork (.lit (.lit (.fork (.ln 4 (.fork (.ln 3 (.fork (.lit (.lit (.fork (.ln 4 (.fork (.lit (.lit (.fork (.ln 4 (.fork (.lit (.lit (.fork (.ln 4 (.fork (.lit (.lit (.fork (.ln 4 (.fork (.lit (.fork (.lit (.lit (.fork (.ln 4 (.fork (.lit (.lit (.fork (.ln 4 (.fork (.lit (.lit (.fork (.ln 3 (.lit .all)) (.ln 3 (.lit .all))))) (.lit (.lit (.lit .all))))) (.ln 7 (.lit .all))))) (.ln 6 (.lit .all)))) (.ln 11 (.lit .all))))) (.ln 10 (.lit .all)))) (.ln 12 (.lit .all)))) (.ln 4 (.fork (.ln 12 (.lit .all)) (.ln 12 (.lit .all))))))) (.ln 3 (.fork (.ln 12 (.lit .all)) (.ln 12 (.lit .all)))))) (.ln 8 (.fork (.ln 12 (.lit .all)) (.ln 12 (.lit .all))))))) (.ln 7 (.fork (.ln 12 (.lit .all)) (.ln 12 (.lit .all)))))) (.ln 12 (.fork (.ln 12 (.lit .all)) (.ln 12 (.lit .all))))))) (.ln 11 (.fork (.ln 12 (.lit .all)) (.ln 12 (.lit .all)))))) (.ln 16 (.fork (.ln 12 (.lit .all)) (.ln 12 (.lit .all))))))) (.ln 15 (.fork (.ln 12 (.lit .all)) (.ln 12 (.lit .all)))))) (.ln 19 (.fork (.ln 12 (.lit .all)) (.ln 12 (.lit .all)))))) (.ln 4 (.fork (.ln 3 (.fork (.lit (.lit (.fork (.ln 4 (.fork (.lit (.lit (.fork (.ln 4 (.fork (.lit (.lit (.fork (.ln 4 (.fork (.lit (.lit (.fork (.ln 17 (.lit .all)) (.ln 17 (.lit .all))))) (.ln 16 (.lit .all)))) (.ln 21 (.lit .all))))) (.ln 20 (.lit .all)))) (.ln 25 (.lit .all))))) (.ln 24 (.lit .all)))) (.ln 29 (.lit .all))))) (.ln 28 (.lit .all)))) (.ln 32 (.lit .all))))))) (.ln 3 (.fork (.ln 3 (.fork (.lit (.lit (.fork (.ln 4 (.fork (.lit (.lit (.fork (.ln 4 (.fork (.lit (.lit (.fork (.ln 4 (.fork (.lit (.lit (.fork (.ln 17 (.lit .all)) (.ln 17 (.lit .all))))) (.ln 16 (.lit .all)))) (.ln 21 (.lit .all))))) (.ln 20 (.lit .all)))) (.ln 25 (.lit .all))))) (.ln 24 (.lit .all)))) (.ln 29 (.lit .all))))) (.ln 28 (.lit .all)))) (.ln 32 (.lit .all)))))) (.ln 8 (.fork (.ln 3 (.fork (.lit (.lit (.fork (.ln 4 (.fork (.lit (.lit (.fork (.ln 4 (.fork (.lit (.lit (.fork (.ln 4 (.fork (.lit (.lit (.fork (.ln 17 (.lit .all)) (.ln 17 (.lit .all))))) (.ln 16 (.lit .all)))) (.ln 21 (.lit .all))))) (.ln 20 (.lit .all)))) (.ln 25 (.lit .all))))) (.ln 24 (.lit .all)))) (.ln 29 (.lit .all))))) (.ln 28 (.lit .all)))) (.ln 32 (.lit .all)))))) (.ln 8 (.fork (.ln 3 (.fork (.lit (.lit (.fork (.ln 4 (.fork (.lit (.lit (.fork (.ln 4 (.fork (.lit (.lit (.fork (.ln 4 (.fork (.lit (.lit (.fork (.ln 17 (.lit .all)) (.ln 17 (.lit .all))))) (.ln 16 (.lit .all)))) (.ln 21 (.lit .all))))) (.ln 20 (.lit .all)))) (.ln 25 (.lit .all))))) (.ln 24 (.lit .all)))) (.ln 29 (.lit .all))))) (.ln 28 (.lit .all)))) (.ln 32 (.lit .all)))))) (.ln 13 (.fork (.ln 3 (.fork (.lit (.lit (.fork (.ln 4 (.fork (.lit (.lit (.fork (.ln 4 (.fork (.lit (.lit (.fork (.ln 4 (.fork (.lit (.lit (.fork (.ln 17 (.lit .all)) (.ln 17 (.lit .all))))) (.ln 16 (.lit .all)))) (.ln 21 (.lit .all))))) (.ln 20 (.lit .all)))) (.ln 25 (.lit .all))))) (.ln 24 (.lit .all)))) (.ln 29 (.lit .all))))) (.ln 28 (.lit .all)))) (.ln 32 (.lit .all)))))) (.ln 13 (.fork (.ln 3 (.fork (.lit (.lit (.fork (.ln 4 (.fork (.lit (.lit (.fork (.ln 4 (.fork (.lit (.lit (.fork (.ln 4 (.fork (.lit (.lit (.fork (.ln 17 (.lit .all)) (.ln 17 (.lit .all))))) (.ln 16 (.lit .all)))) (.ln 21 (.lit .all))))) (.ln 20 (.lit .all)))) (.ln 25 (.lit .all))))) (.ln 24 (.lit .all)))) (.ln 29 (.lit .all))))) (.ln 28 (.lit .all)))) (.ln 32 (.lit .all)))))) (.ln 17 (.fork (.ln 3 (.fork (.lit (.lit (.fork (.ln 4 (.fork (.lit (.lit (.fork (.ln 4 (.fork (.lit (.lit (.fork (.ln 4 (.fork (.lit (.lit (.fork (.ln 17 (.lit .all)) (.ln 17 (.lit .all))))) (.ln 16 (.lit .all)))) (.ln 21 (.lit .all))))) (.ln 20 (.lit .all)))) (.ln 25 (.lit .all))))) (.ln 24 (.lit .all)))) (.ln 29 (.lit .all))))) (.ln 28 (.lit .all)))) (.ln 32 (.lit .all)))))
  (t:=let y1:Tree SV:=.leaf (.bool false);let y0:Tree SV:=.node (decide (f.feed≥0)) (.node (decide (f.feed≤1048576)) (.node (decide (f.dwell≥0)) (.node (decide (f.dwell≤1048576)) (.node (decide (f.waits≥0)) (.node (decide (f.waits≤3)) (.node (decide (f.fan≥0)) (.node (decide (f.fan≤255)) (.node (decide (f.cold≥0)) y1 y1) y1) y1) y1) y1) y1) y1) y1) y1;let y2:Tree SV:=.node (decide (f.e≤16777216)) y1 y1;.node (decide (f.loc.1≥-16777216)) (.node (decide (f.loc.1≤16777216)) (.node (decide (f.loc.2.1≥-16777216)) (.node (decide (f.loc.2.1≤16777216)) (.node (decide (f.loc.2.2≥-16777216)) (.node (decide (f.loc.2.2≤16777216)) (.node (decide (f.e≥-16777216)) (.node (decide (f.feed≥0)) (.node (decide (f.feed≤1048576)) (.node (decide (f.dwell≥0)) (.node (decide (f.dwell≤1048576)) (.node (decide (f.waits≥0)) (.node (decide (f.waits≤3)) (.node (decide (f.fan≥0)) (.node (decide (f.fan≤255)) (.node (decide (f.cold≥0)) (.node (decide (f.e≤16777216)) (.node (decide (f.cold≤400000)) (.node (decide (f.line≥0)) (.node (decide (f.line≤1099511627776)) (.node (decide (f.active≥0)) (.node (decide (f.active≤1099511627776)) (.node (decide (f.ticks≥0)) (.leaf (.bool (decide (f.ticks≤1099511627776)))) y1) y1) y1) y1) y1) y1) y1) y2) y2) y2) y2) y2) y2) y2) y2) y2) y0) y0) y0) y0) y0) y0) y0)
  (by kernel_rfl) (by simp only[Tree.holds,sL,ne_eq,beq_iff_eq,bne_iff_ne,eq_self,beq_eq_false_iff_ne,bne_eq_false_iff_eq,implies_true];(repeat' (first|apply And.intro|intro _));all_goals(refine holds_bool ?_;rw[numsB_iff];(try simp only[sL,ne_eq,beq_iff_eq,bne_iff_ne,eq_self,beq_eq_false_iff_ne,bne_eq_false_iff_eq,implies_true]); first|omega|grind)) (by kernel_rfl) (by kernel_rfl)
theorem s_near(c:V4):SCall Tryz.prog 184 [V4.sv c] (.bool (near4 c)):=
 scall_v mix [] trivial 1000 (.go (.lit (.fork (.ln 3 (.fork .all (.go (.lit (.fork (.ln 3 (.fork .all (.go (.lit (.fork (.ln 3 (.fork .all (.go (.lit (.fork (.ln 3 (.fork .all (.go (.lit .all)))) (.ln 3 (.lit .all))))))) (.ln 3 (.lit .all))))))) (.ln 3 (.lit .all))))))) (.ln 3 (.lit .all)))))
  (t:=.req (true) (.node (decide (c.1≥-16777216)) (.node (!decide (c.1≤16777216)) (.leaf (.bool false)) (.req true (.node (decide (c.2.1≥-16777216)) (.node (!decide (c.2.1≤16777216)) (.leaf (.bool false)) (.req true (.node (decide (c.2.2.1≥-16777216)) (.node (!decide (c.2.2.1≤16777216)) (.leaf (.bool false)) (.req true (.node (decide (c.2.2.2≥-16777216)) (.node (!decide (c.2.2.2≤16777216)) (.leaf (.bool false)) (.leaf (.bool true))) (.leaf (.bool false))))) (.leaf (.bool false))))) (.leaf (.bool false))))) (.leaf (.bool false))))
  (by kernel_rfl) (by simp only[Tree.holds,sL,ne_eq,beq_iff_eq,bne_iff_ne,eq_self,beq_eq_false_iff_ne,bne_eq_false_iff_eq,implies_true];(repeat' (first|apply And.intro|intro _));all_goals(refine holds_bool ?_;rw[near4_iff];(try simp only[sL,ne_eq,beq_iff_eq,bne_iff_ne,eq_self,beq_eq_false_iff_ne,bne_eq_false_iff_eq,implies_true]); first|omega|grind)) (by kernel_rfl) (by kernel_rfl)
theorem s_nearR(c:V4):SCall Tryz.prog 92 [V4.sv c] (.bool (near4 c)):=
 scall_v mix [] trivial 1000 (.go (.lit (.fork (.ln 3 (.fork .all (.go (.lit (.fork (.ln 3 (.fork .all (.go (.lit (.fork (.ln 3 (.fork .all (.go (.lit (.fork (.ln 3 (.fork .all (.go (.lit .all)))) (.ln 3 (.lit .all))))))) (.ln 3 (.lit .all))))))) (.ln 3 (.lit .all))))))) (.ln 3 (.lit .all)))))
  (t:=.req (true) (.node (decide (c.1≥-16777216)) (.node (!decide (c.1≤16777216)) (.leaf (.bool false)) (.req true (.node (decide (c.2.1≥-16777216)) (.node (!decide (c.2.1≤16777216)) (.leaf (.bool false)) (.req true (.node (decide (c.2.2.1≥-16777216)) (.node (!decide (c.2.2.1≤16777216)) (.leaf (.bool false)) (.req true (.node (decide (c.2.2.2≥-16777216)) (.node (!decide (c.2.2.2≤16777216)) (.leaf (.bool false)) (.leaf (.bool true))) (.leaf (.bool false))))) (.leaf (.bool false))))) (.leaf (.bool false))))) (.leaf (.bool false))))
  (by kernel_rfl) (by simp only[Tree.holds,sL,ne_eq,beq_iff_eq,bne_iff_ne,eq_self,beq_eq_false_iff_ne,bne_eq_false_iff_eq,implies_true];(repeat' (first|apply And.intro|intro _));all_goals(refine holds_bool ?_;rw[near4_iff];(try simp only[sL,ne_eq,beq_iff_eq,bne_iff_ne,eq_self,beq_eq_false_iff_ne,bne_eq_false_iff_eq,implies_true]); first|omega|grind)) (by kernel_rfl) (by kernel_rfl)
def big4(c:V4):Bool:=in4 1152921504606846976 c
theorem big4_iff{c:V4}:big4 c=true↔(-1152921504606846976≤c.1∧c.1≤1152921504606846976)∧(-1152921504606846976≤c.2.1∧c.2.1≤1152921504606846976)∧(-1152921504606846976≤c.2.2.1∧c.2.2.1≤1152921504606846976)∧-1152921504606846976≤c.2.2.2∧c.2.2.2≤1152921504606846976:=in4_iff
theorem madeM_rng(m:Mo):in4 562949970198528 (madeM m)=true:=by
 rw[in4_iff]
 by_cases h:validB m.1=true∧0≤m.2.1∧m.2.1≤dom m.1.1
 ·rw[madeM_yes h];have:=at4_abs m.1.1 m.2.1;omega
 ·rw[madeM_no h];decide
def fParts:Fact:=factF1 86 fun f=>.leaf (.bool (partsB f))
theorem o_parts:fParts.ok Tryz.prog:=factF1_ok (fun f=>s_parts f)
def fNums:Fact:=factF1 87 fun f=>.leaf (.bool (modNumB f))
theorem o_nums:fNums.ok Tryz.prog:=factF1_ok (fun f=>s_nums f)
def fNumsR:Fact:=factF1 91 fun f=>.leaf (.bool (numsB f))
theorem o_numsR:fNumsR.ok Tryz.prog:=factF1_ok (fun f=>s_numsR f)
def fNear:Fact:=factV 184 fun c=>.leaf (.bool (near4 c))
def fNearR:Fact:=factV 92 fun c=>.leaf (.bool (near4 c))
theorem o_near:fNear.ok Tryz.prog:=factV_ok (s_near)
theorem o_nearR:fNearR.ok Tryz.prog:=factV_ok (s_nearR)
def wadd4(a b:V4):V4:=(i64.wrap (a.1+b.1),i64.wrap (a.2.1+b.2.1),i64.wrap (a.2.2.1+b.2.2.1),i64.wrap (a.2.2.2+b.2.2.2))
def wsub4(a b:V4):V4:=(i64.wrap (a.1-b.1),i64.wrap (a.2.1-b.2.1),i64.wrap (a.2.2.1-b.2.2.1),i64.wrap (a.2.2.2-b.2.2.2))
theorem wadd4_eq{a b:V4}(ha:big4 a=true)(hb:big4 b=true):wadd4 a b=add4 a b:=by
 rw[big4_iff]at ha hb
 unfold wadd4 add4
 rw[w64 (x:=a.1+b.1) (by omega) (by omega),w64 (x:=a.2.1+b.2.1) (by omega) (by omega),w64 (x:=a.2.2.1+b.2.2.1) (by omega) (by omega),w64 (x:=a.2.2.2+b.2.2.2) (by omega) (by omega)]
theorem wsub4_eq{a b:V4}(ha:big4 a=true)(hb:big4 b=true):wsub4 a b=sub4 a b:=by
 rw[big4_iff]at ha hb
 unfold wsub4 sub4
 rw[w64 (x:=a.1-b.1) (by omega) (by omega),w64 (x:=a.2.1-b.2.1) (by omega) (by omega),w64 (x:=a.2.2.1-b.2.2.1) (by omega) (by omega),w64 (x:=a.2.2.2-b.2.2.2) (by omega) (by omega)]
theorem s_pls(a b:V4):SCall Tryz.prog 137 [V4.sv a,V4.sv b] (V4.sv (wadd4 a b)):=
 scall_v mix [] trivial 1000 (.go (.lit (.go (.lit (.go (.lit (.go (.lit (.go (.lit (.all)))))))))))
  (t:=.req (true) (.req true (.req (true) (.req true (.req (true) (.req true (.req (true) (.req true (.req (true) (.req true (.req (true) (.req true (.leaf (.agg [.int .i64 (i64.wrap (a.1+b.1)),.int .i64 (i64.wrap (a.2.1+b.2.1)),.int .i64 (i64.wrap (a.2.2.1+b.2.2.1)),.int .i64 (i64.wrap (a.2.2.2+b.2.2.2))]))))))))))))))
  (by kernel_rfl) (by simp only[Tree.holds,sL,ne_eq,beq_iff_eq,bne_iff_ne,eq_self,beq_eq_false_iff_ne,bne_eq_false_iff_eq,implies_true];exact rfl) (by kernel_rfl) (by kernel_rfl)
theorem s_plsR(a b:V4):SCall Tryz.prog 172 [V4.sv a,V4.sv b] (V4.sv (wadd4 a b)):=
 scall_v mix [] trivial 1000 (.go (.lit (.go (.lit (.go (.lit (.go (.lit (.go (.lit (.all)))))))))))
  (t:=.req (true) (.req true (.req (true) (.req true (.req (true) (.req true (.req (true) (.req true (.req (true) (.req true (.req (true) (.req true (.leaf (.agg [.int .i64 (i64.wrap (a.1+b.1)),.int .i64 (i64.wrap (a.2.1+b.2.1)),.int .i64 (i64.wrap (a.2.2.1+b.2.2.1)),.int .i64 (i64.wrap (a.2.2.2+b.2.2.2))]))))))))))))))
  (by kernel_rfl) (by simp only[Tree.holds,sL,ne_eq,beq_iff_eq,bne_iff_ne,eq_self,beq_eq_false_iff_ne,bne_eq_false_iff_eq,implies_true];exact rfl) (by kernel_rfl) (by kernel_rfl)
def fPls:Fact:=factVV 137 fun a b=>.leaf (V4.sv (wadd4 a b))
def fPlsR:Fact:=factVV 172 fun a b=>.leaf (V4.sv (wadd4 a b))
theorem o_pls:fPls.ok Tryz.prog:=factVV_ok (fun a b=>s_pls a b)
theorem o_plsR:fPlsR.ok Tryz.prog:=factVV_ok (fun a b=>s_plsR a b)
theorem s_mns(a b:V4):SCall Tryz.prog 209 [V4.sv a,V4.sv b] (V4.sv (wsub4 a b)):=
 scall_v mix [] trivial 1000 (.go (.lit (.go (.lit (.go (.lit (.go (.lit (.go (.lit (.all)))))))))))
  (t:=.req (true) (.req true (.req (true) (.req true (.req (true) (.req true (.req (true) (.req true (.req (true) (.req true (.req (true) (.req true (.leaf (.agg [.int .i64 (i64.wrap (a.1-b.1)),.int .i64 (i64.wrap (a.2.1-b.2.1)),.int .i64 (i64.wrap (a.2.2.1-b.2.2.1)),.int .i64 (i64.wrap (a.2.2.2-b.2.2.2))]))))))))))))))
  (by kernel_rfl) (by simp only[Tree.holds,sL,ne_eq,beq_iff_eq,bne_iff_ne,eq_self,beq_eq_false_iff_ne,bne_eq_false_iff_eq,implies_true];exact rfl) (by kernel_rfl) (by kernel_rfl)
theorem s_mnsR(a b:V4):SCall Tryz.prog 111 [V4.sv a,V4.sv b] (V4.sv (wsub4 a b)):=
 scall_v mix [] trivial 1000 (.go (.lit (.go (.lit (.go (.lit (.go (.lit (.go (.lit (.all)))))))))))
  (t:=.req (true) (.req true (.req (true) (.req true (.req (true) (.req true (.req (true) (.req true (.req (true) (.req true (.req (true) (.req true (.leaf (.agg [.int .i64 (i64.wrap (a.1-b.1)),.int .i64 (i64.wrap (a.2.1-b.2.1)),.int .i64 (i64.wrap (a.2.2.1-b.2.2.1)),.int .i64 (i64.wrap (a.2.2.2-b.2.2.2))]))))))))))))))
  (by kernel_rfl) (by simp only[Tree.holds,sL,ne_eq,beq_iff_eq,bne_iff_ne,eq_self,beq_eq_false_iff_ne,bne_eq_false_iff_eq,implies_true];exact rfl) (by kernel_rfl) (by kernel_rfl)
def fMns:Fact:=factVV 209 fun a b=>.leaf (V4.sv (wsub4 a b))
def fMnsR:Fact:=factVV 111 fun a b=>.leaf (V4.sv (wsub4 a b))
theorem o_mns:fMns.ok Tryz.prog:=factVV_ok (fun a b=>s_mns a b)
theorem o_mnsR:fMnsR.ok Tryz.prog:=factVV_ok (fun a b=>s_mnsR a b)
def m0B(m:Mo):Bool:=inR m.1.1.1 0 0&& (inR m.1.1.2.1 0 0&& (inR m.1.1.2.2.1 0 0&& (inR m.1.1.2.2.2 0 0&& (inR m.1.2.1 0 0&& (inR m.1.2.2.1 0 0&& (inR m.1.2.2.2.1 0 0&& (inR m.1.2.2.2.2 0 0&& (inR m.2.1 0 0&&inR m.2.2 0 0))))))))
theorem m0B_iff{m:Mo}:m0B m=true↔m.1.1.1=0∧m.1.1.2.1=0∧m.1.1.2.2.1=0∧m.1.1.2.2.2=0∧m.1.2.1=0∧m.1.2.2.1=0∧m.1.2.2.2.1=0∧m.1.2.2.2.2=0∧m.2.1=0∧m.2.2=0:=by
 have z:∀n:Int,inR n 0 0=true↔n=0:=fun n=>by rw[inR_iff];omega
 simp only[m0B,Bool.and_eq_true,z]
def stillB(f:Fw):Bool:=m0B f.mo&&inR f.active 0 0
theorem stillB_iff{f:Fw}:stillB f=true↔m0B f.mo=true∧f.active=0:=by
 have z:∀n:Int,inR n 0 0=true↔n=0:=fun n=>by rw[inR_iff];omega
 simp only[stillB,Bool.and_eq_true,z]
def movesB(f:Fw):Bool:=match f.moving with
 |true=>runsM f.mo f.ma.ticks
 |false=>stillB f
theorem movesB_on{f:Fw}(h:f.moving=true):movesB f=runsM f.mo f.ma.ticks:=by unfold movesB;rw[h]
theorem movesB_off{f:Fw}(h:f.moving=false):movesB f=stillB f:=by unfold movesB;rw[h]
def begin4(f:Fw):V4:=match f.moving with
 |true=>sub4 f.pos (madeM f.mo)
 |false=>f.pos
theorem begin4_on{f:Fw}(h:f.moving=true):begin4 f=sub4 f.pos (madeM f.mo):=by unfold begin4;rw[h]
theorem begin4_off{f:Fw}(h:f.moving=false):begin4 f=f.pos:=by unfold begin4;rw[h]
theorem s_moves(f:Fw):SCall Tryz.prog 88 [f.sv] (.bool (movesB f)):=
 scall_v mix [fVld,fDom,fIvl] ⟨o_vld,o_dom,o_ivl,trivial⟩ 1000 (.fork (.fork (.lit (.lit (.lit .all))) (.lit (.lit (.lit .all)))) (.fork (.ln 9 (.lit .all)) (.ln 7 (.fork (.ln 5 (.fork .all (.fork (.lit (.lit (.lit .all))) (.lit (.lit (.lit .all)))))) (.ln 5 (.lit .all))))))
  (t:=.node (!f.moving) (.node (f.mo.1.1.1==0&& (f.mo.1.1.2.1==0&& (f.mo.1.1.2.2.1==0&& (f.mo.1.1.2.2.2==0&&true)))&& (f.mo.1.2.1==0&& (f.mo.1.2.2.1==0&& (f.mo.1.2.2.2.1==0&& (f.mo.1.2.2.2.2==0&&true))))&& (f.mo.2.1==0&& (f.mo.2.2==0&&true))) (.leaf (.bool (f.active==0))) (.leaf (.bool false))) (.node (!validB f.mo.1) (.leaf (.bool false)) (.node (decide (f.mo.2.1≥0)) (.node (!decide (f.mo.2.1≤i64.wrap (dom f.mo.1.1-1))) (.leaf (.bool false)) (.node (decide (f.mo.2.2≥1)) (.leaf (.bool (decide (f.mo.2.2≤ivl f.mo.1 (i64.wrap (f.mo.2.1+1)) f.ma.ticks)))) (.leaf (.bool false)))) (.leaf (.bool false)))))
  (by kernel_rfl) (by
   have iv:=ivl_bnd f.mo.1 (f.mo.2.1+1) f.ma.ticks
   have dr:=dom_range f.mo.1.1
   have w1:=w64 (x:=dom f.mo.1.1-1) (by omega) (by omega)
   have w2:0≤f.mo.2.1∧f.mo.2.1≤dom f.mo.1.1-1→i64.wrap (f.mo.2.1+1)=f.mo.2.1+1:=fun h=>w64 (by omega) (by omega)
   have rm:=runsM_iff (m:=f.mo) (t:=f.ma.ticks)
   have st:=stillB_iff (f:=f)
   have m0:=m0B_iff (m:=f.mo)
   cases hm:f.moving
   ·rw[movesB_off hm]
    simp only[Tree.holds,hm,sL,ne_eq,beq_iff_eq,bne_iff_ne,eq_self,beq_eq_false_iff_ne,bne_eq_false_iff_eq,implies_true];(repeat' (first|apply And.intro|intro _));
    all_goals(refine holds_bool ?_;rw[st,m0];(try simp only[sL,ne_eq,beq_iff_eq,bne_iff_ne,eq_self,beq_eq_false_iff_ne,bne_eq_false_iff_eq,implies_true]);first|omega|grind)
   ·rw[movesB_on hm]
    simp only[Tree.holds,hm,w1,sL,ne_eq,beq_iff_eq,bne_iff_ne,eq_self,beq_eq_false_iff_ne,bne_eq_false_iff_eq,implies_true];(repeat' (first|apply And.intro|intro _));
    all_goals(refine holds_bool ?_;rw[rm];(try simp only[sL,ne_eq,beq_iff_eq,bne_iff_ne,eq_self,beq_eq_false_iff_ne,bne_eq_false_iff_eq,implies_true]);first|omega|grind)) (by kernel_rfl) (by kernel_rfl)
theorem s_begin(f:Fw)(h:big4 f.pos=true):SCall Tryz.prog 136 [f.sv] (V4.sv (begin4 f)):=
 scall_v mix [fMns,fMade] ⟨o_mns,o_made,trivial⟩ 1000 (.fork (.all) (.all))
  (t:=.node (!f.moving) (.leaf (.agg [.int .i64 f.pos.1,.int .i64 f.pos.2.1,.int .i64 f.pos.2.2.1,.int .i64 f.pos.2.2.2])) (.leaf (.agg [.int .i64 (wsub4 f.pos (madeM f.mo)).1,.int .i64 (wsub4 f.pos (madeM f.mo)).2.1,.int .i64 (wsub4 f.pos (madeM f.mo)).2.2.1,.int .i64 (wsub4 f.pos (madeM f.mo)).2.2.2])))
  (by kernel_rfl) (by
   have mr:=in4_iff.1 (madeM_rng f.mo)
   have hb:big4 (madeM f.mo)=true:=big4_iff.2 (by omega)
   cases hm:f.moving
   ·rw[begin4_off hm]
    simp only[Tree.holds,hm,sL,ne_eq,beq_iff_eq,bne_iff_ne,eq_self,beq_eq_false_iff_ne,bne_eq_false_iff_eq,implies_true];first|rfl|(intros;rfl)
   ·rw[begin4_on hm]
    simp only[Tree.holds,hm,sL,ne_eq,beq_iff_eq,bne_iff_ne,eq_self,beq_eq_false_iff_ne,bne_eq_false_iff_eq,implies_true]
    rw[wsub4_eq h hb];rfl) (by kernel_rfl) (by kernel_rfl)
def fMoves:Fact:=factF1 88 fun f=>.leaf (.bool (movesB f))
theorem o_moves:fMoves.ok Tryz.prog:=factF1_ok (fun f=>s_moves f)
def fBegin:Fact:=factF1 136 fun f=>.req (big4 f.pos) (.leaf (V4.sv (begin4 f)))
theorem o_begin:fBegin.ok Tryz.prog:=factF1_ok (fun f h=>s_begin f h)
def qp0_p:Plan:=.fork (.ln 17 (.lit .all)) (.ln 7 (.fork (.ln 9 (.lit .all)) (.ln 4 (.fork (.ln 4 (.lit .all)) (.ln 4 (.fork .all (.fork .all (.fork .all .all))))))))
noncomputable def qp0_t(f:Fw):Tree Stop:= .node (decide ((↑f.queue.length:Int)>32)) (.leaf (.done (.bool false))) (.node ((↑f.lines.length:Int) !=(↑f.queue.length:Int)) (.leaf (.done (.bool false))) (.node (!near4 f.pos) (.leaf (.done (.bool false))) (.node (!near4 f.ret) (.leaf (.done (.bool false))) (.req (big4 f.pos) (.node (!near4 (begin4 f)) (.leaf (.done (.bool false))) (.node (!near4 (wadd4 (begin4 f) f.mo.1.1)) (.leaf (.done (.bool false))) (.leaf (.at (loopOf Tryz.prog 89 0) 75 (slotsS 75 [(1,.ptr 0 0),(3,.ptr 1 0),(46,.list tyBk f.queue),(47,.int .i64 (↑f.queue.length:Int)),(48,.int .i64 0)]) [some (.cells (Fw.cells f)),some (.cells [.int .i64 (wadd4 (begin4 f) f.mo.1.1).1,.int .i64 (wadd4 (begin4 f) f.mo.1.1).2.1,.int .i64 (wadd4 (begin4 f) f.mo.1.1).2.2.1,.int .i64 (wadd4 (begin4 f) f.mo.1.1).2.2.2])]))))))))
theorem qp0(f:Fw):segR (Env.of Tryz.prog (sumOf [fNear,fBegin,fPls,fVld])) 1000 (fnOf Tryz.prog 89) .unit (keepS 75 [1,3,46,47,48]) (codeS Tryz.prog 89) qp0_p (startS Tryz.prog 89 [f.sv]) [] =qp0_t f:=by kernel_rfl
def qp1_p:Plan:=.fork (.fork (.ln 11 (.lit .all)) (.ln 5 (.fork (.ln 5 (.fork (.ln 3 (.lit .all)) (.ln 3 (.fork .all .all)))) (.ln 9 (.lit .all))))) .all
noncomputable def qp1_t(f:Fw)(p:V4)(n i:Int):Tree Stop:= .node (decide (i<n)) (.req (decide (0≤i)&&decide (i< (↑f.queue.length:Int))) (.node (!validB (f.queue.getD i.toNat dBk)) (.leaf (.done (.bool false))) (.req (decide (0≤i)&&decide (i< (↑f.lines.length:Int))) (.node (decide (f.lines.getD i.toNat 0≥0)) (.node (!decide (f.lines.getD i.toNat 0≤1099511627776)) (.leaf (.done (.bool false))) (.node (!near4 (wadd4 p (f.queue.getD i.toNat dBk).1)) (.leaf (.done (.bool false))) (.leaf (.at (loopOf Tryz.prog 89 0) 75 (slotsS 75 [(1,.ptr 0 0),(3,.ptr 1 0),(46,.list tyBk f.queue),(47,.int .i64 n),(48,.int .i64 (i64.wrap (i+1)))]) [some (.cells (Fw.cells f)),some (.cells [.int .i64 (wadd4 p (f.queue.getD i.toNat dBk).1).1,.int .i64 (wadd4 p (f.queue.getD i.toNat dBk).1).2.1,.int .i64 (wadd4 p (f.queue.getD i.toNat dBk).1).2.2.1,.int .i64 (wadd4 p (f.queue.getD i.toNat dBk).1).2.2.2])])))) (.leaf (.done (.bool false))))))) (.leaf (.done (.bool true)))
theorem qp1(f:Fw)(p:V4)(n i:Int):segR (Env.of Tryz.prog (sumOf [fNear,fBegin,fPls,fVld])) 1000 (fnOf Tryz.prog 89) .unit (keepS 75 [1,3,46,47,48]) (loopOf Tryz.prog 89 0) qp1_p (slotsS 75 [(1,.ptr 0 0),(3,.ptr 1 0),(46,LB f.queue),(47,I64 n),(48,I64 i)]) [some (.cells f.cells),some (.cells p.cells)] =qp1_t f p n i:=by kernel_rfl
def gp1_p:Plan:=.fork (.all) (.all)
noncomputable def gp1_t(f:Fw)(p:V4)(n i:Int):Tree Stop:= .node (decide (i<n)) (.req (decide (0≤i)&&decide (i< (↑f.queue.length:Int))) (.leaf (.at (loopOf Tryz.prog 66 0) 29 (slotsS 29 [(2,.ptr 0 0),(3,.ptr 1 0),(17,.list tyBk f.queue),(18,.int .i64 n),(19,.int .i64 (i64.wrap (i+1)))]) [some (.cells [.int .i64 0,.int .i64 0,.int .i64 0,.int .i64 0]),some (.cells [.int .i64 (wadd4 p (f.queue.getD i.toNat dBk).1).1,.int .i64 (wadd4 p (f.queue.getD i.toNat dBk).1).2.1,.int .i64 (wadd4 p (f.queue.getD i.toNat dBk).1).2.2.1,.int .i64 (wadd4 p (f.queue.getD i.toNat dBk).1).2.2.2])]))) (.leaf (.done (.agg [.int .i64 p.1,.int .i64 p.2.1,.int .i64 p.2.2.1,.int .i64 p.2.2.2])))
theorem gp1(f:Fw)(p:V4)(n i:Int):segR (Env.of Tryz.prog (sumOf [fNear,fBegin,fPls,fVld])) 1000 (fnOf Tryz.prog 66) .unit (keepS 29 [2,3,17,18,19]) (loopOf Tryz.prog 66 0) gp1_p (slotsS 29 [(2,.ptr 0 0),(3,.ptr 1 0),(17,LB f.queue),(18,I64 n),(19,I64 i)]) [some (.cells (V4.cells z4)),some (.cells p.cells)] =gp1_t f p n i:=by kernel_rfl
def gp0_p:Plan:=.fork (.all) (.all)
noncomputable def gp0_t(f:Fw):Tree Stop:= .req (big4 f.pos) (.node (f.moving) (.leaf (.at (loopOf Tryz.prog 66 0) 29 (slotsS 29 [(2,.ptr 0 0),(3,.ptr 1 0),(17,.list tyBk f.queue),(18,.int .i64 (↑f.queue.length:Int)),(19,.int .i64 0)]) [some (.cells [.int .i64 0,.int .i64 0,.int .i64 0,.int .i64 0]),some (.cells [.int .i64 (wadd4 (begin4 f) f.mo.1.1).1,.int .i64 (wadd4 (begin4 f) f.mo.1.1).2.1,.int .i64 (wadd4 (begin4 f) f.mo.1.1).2.2.1,.int .i64 (wadd4 (begin4 f) f.mo.1.1).2.2.2])])) (.leaf (.at (loopOf Tryz.prog 66 0) 29 (slotsS 29 [(2,.ptr 0 0),(3,.ptr 1 0),(17,.list tyBk f.queue),(18,.int .i64 (↑f.queue.length:Int)),(19,.int .i64 0)]) [some (.cells [.int .i64 0,.int .i64 0,.int .i64 0,.int .i64 0]),some (.cells [.int .i64 (begin4 f).1,.int .i64 (begin4 f).2.1,.int .i64 (begin4 f).2.2.1,.int .i64 (begin4 f).2.2.2])])))
theorem gp0(f:Fw):segR (Env.of Tryz.prog (sumOf [fNear,fBegin,fPls,fVld])) 1000 (fnOf Tryz.prog 66) .unit (keepS 29 [2,3,17,18,19]) (codeS Tryz.prog 66) gp0_p (startS Tryz.prog 66 [f.sv]) [] =gp0_t f:=by kernel_rfl
end Go.Proofs.YtnkaepnblikcdaaGreat
