/-
  What the statement needs: an evaluator of the model, contracts of the functions that it reaches, and the plain law.
-/
import Derived.Test.YtnkaepnblikcdaaGreatVE5
import Derived.Test.YtnkaepnblikcdaaGreatVE3
import Derived.Laws.IdiomCopy
import Derived.Tactics
import Derived.Shelf.RegionOpenPlain
import Derived.Lib.Walk
import Derived.Lib.ConvBytes
import Derived.Laws.IdiomStrings
import Derived.Laws.AppendOwn
import Derived.WalkKit
import Derived.Test.YtnkaepnblikcdaaGreatVE4
import Derived.Shelf.SlSortCmp.WholeK
import Derived.Shelf.SlicesG.Cmp
import Derived.Ground.SlsfProg
import Derived.Ground.SlgcProg
set_option maxRecDepth 100000
set_option linter.unusedVariables false
set_option linter.unusedSimpArgs false
open Go.IntKind (i64 u64)
namespace Go.Proofs.YtnkaepnblikcdaaGreat
open Go.Sx
theorem xT2(x:Int):IntKind.u8.wrap x=x % 256:=by
 have h2:IntKind.wrap .u8 x=if false&&decide (x % 256≥128)then x % 256-256 else x % 256:=rfl
 rw[h2];simp
theorem xS9(x:Int):u64.wrap x=x % 18446744073709551616:=by
 have h2:IntKind.wrap .u64 x=if false&&decide (x % 18446744073709551616≥9223372036854775808)then x % 18446744073709551616-18446744073709551616 else x % 18446744073709551616:=rfl
 rw[h2];simp
theorem xT0{x:Int}(h0:0≤x)(h1:x<18446744073709551616):u64.wrap x=x:=by rw[xS9];omega
theorem fdN{x k:Int}(hk:0≤k):x.fdiv k=x / k:=Int.fdiv_eq_ediv_of_nonneg x hk
def beN(n:Int):Nat→List UInt8
 |0=>[]
 |w+1=>UInt8.ofNat (n / 256 ^ w % 256).toNat::beN n w
theorem zw4(n:Int):∀w,(beN n w).length=w
 |0=>rfl
 |w+1=>congrArg (· +1) (zw4 n w)
theorem bq(n:Int){k:Int}(hk:0≤k)(h0:0≤n)(h1:n<18446744073709551616):IntKind.u8.wrap ((u64.wrap n).fdiv k)=n / k % 256:=by rw[xT2,xT0 h0 h1,fdN hk]
theorem tmN{x:Int}(hx:0≤x):x.tmod 256=x % 256:=Int.tmod_eq_emod_of_nonneg hx
theorem tdN{x:Int}(hx:0≤x):x.tdiv 256=x / 256:=Int.tdiv_eq_ediv_of_nonneg hx
theorem wdN{x:Int}(h0:0≤x)(h1:x<18446744073709551616):u64.wrap (x.tdiv 256)=x / 256:=by rw[tdN h0,xS9];omega
theorem w8N{x:Int}(h0:0≤x):IntKind.u8.wrap (x.tmod 256)=x % 256:=by rw[tmN h0,xT2];omega
def tkN(s:List UInt8)(a:Nat):Nat→Int
 |0=>0
 |w+1=>tkN s a w*256+(s.getD (a+w) 0).toNat
def tk(s:List UInt8)(a w:Nat):Int:=match s with
 |[] =>tkN [] a w
 |b::l=>tkN (b::l) a w
theorem xN5(s:List UInt8)(a w:Nat):tk s a w=tkN s a w:=by cases s<;>rfl
theorem f8(s:List UInt8)(i:Nat):(0:Int)≤((s.getD i 0).toNat:Int)∧((s.getD i 0).toNat:Int)<256:=by
 have:=(s.getD i 0).toNat_lt;omega
theorem yE0{x b:Int}(h0:0≤x)(h1:x<72057594037927936)(b0:0≤b)(b1:b<256):u64.wrap (((BitVec.ofInt 64 (u64.wrap (x*256)) |||BitVec.ofInt 64 (u64.wrap b)).toNat:Nat):Int)=x*256+b:=by
 rw[xT0 (x:=x*256) (by omega) (by omega),xT0 b0 (by omega)]
 obtain⟨m,rfl⟩:=Int.eq_ofNat_of_zero_le h0
 obtain⟨k,rfl⟩:=Int.eq_ofNat_of_zero_le b0
 rw[BitVec.toNat_or,BitVec.toNat_ofInt,BitVec.toNat_ofInt]
 have e1:((m:Int)*256 % ((2:Nat) ^ 64:Nat)).toNat=m <<< 8:=by
  rw[Nat.shiftLeft_eq]
  have:((2 ^ 64:Nat):Int)=18446744073709551616:=rfl
  rw[this];omega
 have e2:((k:Int) % ((2:Nat) ^ 64:Nat)).toNat=k:=by
  have:((2 ^ 64:Nat):Int)=18446744073709551616:=rfl
  rw[this];omega
 rw[e1,e2,←Nat.shiftLeft_add_eq_or_of_lt (show k<2 ^ 8 by omega),Nat.shiftLeft_eq,xT0 (by omega) (by omega)]
 push_cast
 rfl
theorem orZ{b:Int}(b0:0≤b)(b1:b<256):u64.wrap (((BitVec.ofInt 64 0 |||BitVec.ofInt 64 (u64.wrap b)).toNat:Nat):Int)=b:=by
 have:=yE0 (x:=0) (b:=b) (by omega) (by omega) b0 b1
 rw[show u64.wrap ((0:Int)*256)=0 from rfl]at this
 rw[this];omega
def sg(x:Int):Int:=if x<2147483648 then x else x-4294967296
theorem xv0{x:Int}(h0:0≤x)(h1:x<4294967296):(i64.wrap (u64.wrap (x*4294967296))).fdiv 4294967296=sg x:=by
 rw[fdN (by omega),xT0 (by omega) (by omega)]
 unfold sg
 split
 ·rw[w64 (by omega) (by omega)];omega
 ·have:i64.wrap (x*4294967296)=x*4294967296-18446744073709551616:=by
   unfold IntKind.wrap
   have e:(x*4294967296) % (2 ^ IntKind.i64.bits:Int)=x*4294967296:=Int.emod_eq_of_lt (by omega) (by show x*4294967296<18446744073709551616;omega)
   simp only[e]
   rw[if_pos (by simp[IntKind.signed,IntKind.bits];omega)]
   rfl
  rw[this];omega
theorem zU6{s:List UInt8}{i:Nat}(hi:i<s.length):s.drop i=s.getD i 0::s.drop (i+1):=zU5 hi
theorem yd0(s:List UInt8)(hs:s.length≤100000):∀ (n i:Nat) (u v:Int),i+n=s.length→v=yd7 u (s.drop i)→b8 pP (j7 pP 335) (.int .u64 v) (j9 pP 335 0) (j8 19 [(0,.str s),(3,.int .u64 u),(4,I64 i)]) []
 |n,i,u,v,hi,hv=>by
  refine w6 qQ9 (n:=1000) (hint:=.unit) (keep:=x8 19 [0,3,4]) (p:=yc8) rfl ?_
  erw [nu1 s u (i:Int)]
  unfold yc9
  have t0:(i:Int).toNat=i:=by omega
  have w1:i64.wrap ((i:Int)+1)=((i+1:Nat):Int):=by rw[w64 (by omega) (by omega)];omega
  rw[t0,w1]
  refine o5 (fun a=>?_) fun a=>?_
  ·match n,hi with
   |0,hi=>omega
   |n+1,hi=>
    rw[zU6 (by omega:i<s.length)]at hv
    exact x6 (by simp;omega) ⟨o8 _ _,yd0 s hs n (i+1) _ v (by omega) hv⟩
  ·rw[List.drop_eq_nil_of_le (by omega)]at hv
   subst hv;rfl
theorem xi7(s:List UInt8)(hs:s.length≤100000):SCall pP 335 [.str s] (.int .u64 (yd7 0 s)):=by
 refine m6 rfl rfl (by kernel_rfl) (w6 qQ9 (n:=1000) (hint:=.unit) (keep:=x8 19 [0,3,4]) (p:=yc6) (boxes:=[]) rfl ?_)
 have e:=nu0 s
 unfold v9 u7 at e
 erw [e]
 exact⟨o8 _ _,yd0 s hs s.length 0 0 _ (by omega) rfl⟩
theorem yo5:qa2.ok pP:=fun args t ht=>by
 simp only[qa2]at ht
 split at ht
 ·injection ht with ht;subst ht
  intro h
  exact xi7 _ (by have:=of_decide_eq_true h;omega)
 ·cases ht
theorem qS0:Known pP (Env.of pP (v6 [qa2])):=kW (l:=[qa2]) ⟨yo5,trivial⟩
theorem xr6(n:Int)(h0:0≤n)(h1:n<256):SCall pP 298 [I64 n,I64 1] (.tuple [.str (beN n 1),I64 0]):=by
 refine m6 rfl rfl (by kernel_rfl) (w6 qQ9 (n:=1000) (hint:=.unit) (keep:=x8 25 []) (p:=x52) (boxes:=[]) rfl ?_)
 have e:=wu1 n
 unfold v9 u7 at e
 erw [e]
 unfold x53
 rw[bq n (k:=1) (by decide) h0 (by omega)]
 rw[xT0 h0 (by omega)]
 repeat' first
  |exact rfl
  |refine x6 rfl ?_
  |refine o5 (fun h=>absurd h (by omega)) (fun _=>?_)
  |refine q84 (fun h=>absurd (of_decide_eq_false h) (by omega)) (fun _=>?_)
theorem xs0(n:Int)(h0:0≤n)(h1:n<256):SCall pP 279 [I64 n,I64 1] (.tuple [.str (beN n 1),I64 0]):=by
 refine m6 rfl rfl (by kernel_rfl) (w6 qQ9 (n:=1000) (hint:=.unit) (keep:=x8 27 []) (p:=x62) (boxes:=[]) rfl ?_)
 have e:=x61 n
 unfold v9 u7 at e
 erw [e]
 unfold x63
 rw[xT0 h0 (by omega)]
 have m0:IntKind.u8.wrap ((n).tmod 256)=n / 1 % 256:=by rw[w8N (by omega)];try omega
 rw[m0]
 repeat' first
  |exact rfl
  |refine x6 rfl ?_
  |refine o5 (fun h=>absurd h (by omega)) (fun _=>?_)
  |refine q84 (fun h=>absurd (of_decide_eq_false h) (by omega)) (fun _=>?_)
theorem xr7(n:Int)(h0:0≤n)(h1:n<65536):SCall pP 298 [I64 n,I64 2] (.tuple [.str (beN n 2),I64 0]):=by
 refine m6 rfl rfl (by kernel_rfl) (w6 qQ9 (n:=1000) (hint:=.unit) (keep:=x8 25 []) (p:=x54) (boxes:=[]) rfl ?_)
 have e:=wu2 n
 unfold v9 u7 at e
 erw [e]
 unfold x55
 rw[bq n (k:=256) (by decide) h0 (by omega),bq n (k:=1) (by decide) h0 (by omega)]
 rw[xT0 h0 (by omega)]
 repeat' first
  |exact rfl
  |refine x6 rfl ?_
  |refine o5 (fun h=>absurd h (by omega)) (fun _=>?_)
  |refine q84 (fun h=>absurd (of_decide_eq_false h) (by omega)) (fun _=>?_)
theorem xs1(n:Int)(h0:0≤n)(h1:n<65536):SCall pP 279 [I64 n,I64 2] (.tuple [.str (beN n 2),I64 0]):=by
 refine m6 rfl rfl (by kernel_rfl) (w6 qQ9 (n:=1000) (hint:=.unit) (keep:=x8 27 []) (p:=x65) (boxes:=[]) rfl ?_)
 have e:=x64 n
 unfold v9 u7 at e
 erw [e]
 unfold x66
 rw[xT0 h0 (by omega)]
 have m0:IntKind.u8.wrap ((n).tmod 256)=n / 1 % 256:=by rw[w8N (by omega)];try omega
 rw[m0]
 have d1:u64.wrap ((n).tdiv 256)=n / 256:=by rw[wdN (by omega) (by omega)];try omega
 rw[d1]
 have m1:IntKind.u8.wrap ((n / 256).tmod 256)=n / 256 % 256:=by rw[w8N (by omega)];try omega
 rw[m1]
 repeat' first
  |exact rfl
  |refine x6 rfl ?_
  |refine o5 (fun h=>absurd h (by omega)) (fun _=>?_)
  |refine q84 (fun h=>absurd (of_decide_eq_false h) (by omega)) (fun _=>?_)
theorem xr8(n:Int)(h0:0≤n)(h1:n<4294967296):SCall pP 298 [I64 n,I64 4] (.tuple [.str (beN n 4),I64 0]):=by
 refine m6 rfl rfl (by kernel_rfl) (w6 qQ9 (n:=1000) (hint:=.unit) (keep:=x8 25 []) (p:=x56) (boxes:=[]) rfl ?_)
 have e:=wu4 n
 unfold v9 u7 at e
 erw [e]
 unfold x57
 rw[bq n (k:=16777216) (by decide) h0 (by omega),bq n (k:=65536) (by decide) h0 (by omega),bq n (k:=256) (by decide) h0 (by omega),bq n (k:=1) (by decide) h0 (by omega)]
 rw[xT0 h0 (by omega)]
 repeat' first
  |exact rfl
  |refine x6 rfl ?_
  |refine o5 (fun h=>absurd h (by omega)) (fun _=>?_)
  |refine q84 (fun h=>absurd (of_decide_eq_false h) (by omega)) (fun _=>?_)
theorem xs2(n:Int)(h0:0≤n)(h1:n<4294967296):SCall pP 279 [I64 n,I64 4] (.tuple [.str (beN n 4),I64 0]):=by
 refine m6 rfl rfl (by kernel_rfl) (w6 qQ9 (n:=1000) (hint:=.unit) (keep:=x8 27 []) (p:=x68) (boxes:=[]) rfl ?_)
 have e:=x67 n
 unfold v9 u7 at e
 erw [e]
 unfold x69
 rw[xT0 h0 (by omega)]
 have m0:IntKind.u8.wrap ((n).tmod 256)=n / 1 % 256:=by rw[w8N (by omega)];try omega
 rw[m0]
 have d1:u64.wrap ((n).tdiv 256)=n / 256:=by rw[wdN (by omega) (by omega)];try omega
 rw[d1]
 have m1:IntKind.u8.wrap ((n / 256).tmod 256)=n / 256 % 256:=by rw[w8N (by omega)];try omega
 rw[m1]
 have d2:u64.wrap ((n / 256).tdiv 256)=n / 65536:=by rw[wdN (by omega) (by omega)];try omega
 rw[d2]
 have m2:IntKind.u8.wrap ((n / 65536).tmod 256)=n / 65536 % 256:=by rw[w8N (by omega)];try omega
 rw[m2]
 have d3:u64.wrap ((n / 65536).tdiv 256)=n / 16777216:=by rw[wdN (by omega) (by omega)];try omega
 rw[d3]
 have m3:IntKind.u8.wrap ((n / 16777216).tmod 256)=n / 16777216 % 256:=by rw[w8N (by omega)];try omega
 rw[m3]
 repeat' first
  |exact rfl
  |refine x6 rfl ?_
  |refine o5 (fun h=>absurd h (by omega)) (fun _=>?_)
  |refine q84 (fun h=>absurd (of_decide_eq_false h) (by omega)) (fun _=>?_)
theorem xr9(n:Int)(h0:0≤n)(h1:n<281474976710656):SCall pP 298 [I64 n,I64 6] (.tuple [.str (beN n 6),I64 0]):=by
 refine m6 rfl rfl (by kernel_rfl) (w6 qQ9 (n:=1000) (hint:=.unit) (keep:=x8 25 []) (p:=x59) (boxes:=[]) rfl ?_)
 have e:=wu6 n
 unfold v9 u7 at e
 erw [e]
 unfold x60
 rw[bq n (k:=1099511627776) (by decide) h0 (by omega),bq n (k:=4294967296) (by decide) h0 (by omega),bq n (k:=16777216) (by decide) h0 (by omega),bq n (k:=65536) (by decide) h0 (by omega),bq n (k:=256) (by decide) h0 (by omega),bq n (k:=1) (by decide) h0 (by omega)]
 rw[xT0 h0 (by omega)]
 repeat' first
  |exact rfl
  |refine x6 rfl ?_
  |refine o5 (fun h=>absurd h (by omega)) (fun _=>?_)
  |refine q84 (fun h=>absurd (of_decide_eq_false h) (by omega)) (fun _=>?_)
theorem xs3(n:Int)(h0:0≤n)(h1:n<281474976710656):SCall pP 279 [I64 n,I64 6] (.tuple [.str (beN n 6),I64 0]):=by
 refine m6 rfl rfl (by kernel_rfl) (w6 qQ9 (n:=1000) (hint:=.unit) (keep:=x8 27 []) (p:=x71) (boxes:=[]) rfl ?_)
 have e:=x70 n
 unfold v9 u7 at e
 erw [e]
 unfold x72
 rw[xT0 h0 (by omega)]
 have m0:IntKind.u8.wrap ((n).tmod 256)=n / 1 % 256:=by rw[w8N (by omega)];try omega
 rw[m0]
 have d1:u64.wrap ((n).tdiv 256)=n / 256:=by rw[wdN (by omega) (by omega)];try omega
 rw[d1]
 have m1:IntKind.u8.wrap ((n / 256).tmod 256)=n / 256 % 256:=by rw[w8N (by omega)];try omega
 rw[m1]
 have d2:u64.wrap ((n / 256).tdiv 256)=n / 65536:=by rw[wdN (by omega) (by omega)];try omega
 rw[d2]
 have m2:IntKind.u8.wrap ((n / 65536).tmod 256)=n / 65536 % 256:=by rw[w8N (by omega)];try omega
 rw[m2]
 have d3:u64.wrap ((n / 65536).tdiv 256)=n / 16777216:=by rw[wdN (by omega) (by omega)];try omega
 rw[d3]
 have m3:IntKind.u8.wrap ((n / 16777216).tmod 256)=n / 16777216 % 256:=by rw[w8N (by omega)];try omega
 rw[m3]
 have d4:u64.wrap ((n / 16777216).tdiv 256)=n / 4294967296:=by rw[wdN (by omega) (by omega)];try omega
 rw[d4]
 have m4:IntKind.u8.wrap ((n / 4294967296).tmod 256)=n / 4294967296 % 256:=by rw[w8N (by omega)];try omega
 rw[m4]
 have d5:u64.wrap ((n / 4294967296).tdiv 256)=n / 1099511627776:=by rw[wdN (by omega) (by omega)];try omega
 rw[d5]
 have m5:IntKind.u8.wrap ((n / 1099511627776).tmod 256)=n / 1099511627776 % 256:=by rw[w8N (by omega)];try omega
 rw[m5]
 repeat' first
  |exact rfl
  |refine x6 rfl ?_
  |refine o5 (fun h=>absurd h (by omega)) (fun _=>?_)
  |refine q84 (fun h=>absurd (of_decide_eq_false h) (by omega)) (fun _=>?_)
end Go.Proofs.YtnkaepnblikcdaaGreat
set_option maxHeartbeats 4000000
namespace Go.Proofs.YtnkaepnblikcdaaGreat
open Go.Sx
theorem ixB{i n:Nat}(h:i<n):(decide (0≤((i:Nat):Int))&&decide (((i:Nat):Int)< ((n:Nat):Int)))=true:=by simp;omega
theorem f0{x:Int}(h0: -9000000000000000000≤x)(h1:x≤9000000000000000000):i64.wrap x=x:=w64 (by omega) (by omega)
theorem xr0(n:Int)(h0: -2147483648≤n)(h1:n<2147483648):SCall pP 299 [I64 n,I64 4] (.tuple [.str (beN n 4),I64 0]):=by
 refine m6 rfl rfl (by kernel_rfl) (w6 qQ9 (n:=1000) (hint:=.unit) (keep:=x8 32 []) (p:=x31) (boxes:=[]) rfl ?_)
 have e:=wi4 n
 unfold v9 u7 at e
 erw [e]
 unfold x32
 have q3:IntKind.u8.wrap ((u64.wrap n).fdiv 16777216)=n / 16777216 % 256:=by rw[xT2,xS9,fdN (by omega)];omega
 have q2:IntKind.u8.wrap ((u64.wrap n).fdiv 65536)=n / 65536 % 256:=by rw[xT2,xS9,fdN (by omega)];omega
 have q1:IntKind.u8.wrap ((u64.wrap n).fdiv 256)=n / 256 % 256:=by rw[xT2,xS9,fdN (by omega)];omega
 have q0:IntKind.u8.wrap ((u64.wrap n).fdiv 1)=n / 1 % 256:=by rw[xT2,xS9,fdN (by omega)];omega
 rw[q3,q2,q1,q0]
 repeat' first
  |exact rfl
  |refine x6 rfl ?_
  |refine o5 (fun h=>absurd h (by omega)) (fun _=>?_)
  |refine q84 (fun h=>absurd (of_decide_eq_false h) (by omega)) (fun _=>?_)
theorem xr1(n:Int)(h0: -2147483648≤n)(h1:n<2147483648):SCall pP 280 [I64 n,I64 4] (.tuple [.str (beN n 4),I64 0]):=by
 refine m6 rfl rfl (by kernel_rfl) (w6 qQ9 (n:=1000) (hint:=.unit) (keep:=x8 34 []) (p:=x34) (boxes:=[]) rfl ?_)
 have e:=x33 n
 unfold v9 u7 at e
 erw [e]
 unfold x35
 have hr:0≤u64.wrap n∧u64.wrap n<18446744073709551616:=by rw[xS9];omega
 have hm:u64.wrap n=n % 18446744073709551616:=xS9 n
 generalize u64.wrap n=m at hr hm ⊢
 have d1:u64.wrap (m.tdiv 256)=m / 256:=by rw[wdN (by omega) (by omega)]
 have d2:u64.wrap ((m / 256).tdiv 256)=m / 65536:=by rw[wdN (by omega) (by omega)];omega
 have d3:u64.wrap ((m / 65536).tdiv 256)=m / 16777216:=by rw[wdN (by omega) (by omega)];omega
 have m0:IntKind.u8.wrap (m.tmod 256)=n / 1 % 256:=by rw[w8N (by omega)];omega
 have m1:IntKind.u8.wrap ((m / 256).tmod 256)=n / 256 % 256:=by rw[w8N (by omega)];omega
 have m2:IntKind.u8.wrap ((m / 65536).tmod 256)=n / 65536 % 256:=by rw[w8N (by omega)];omega
 have m3:IntKind.u8.wrap ((m / 16777216).tmod 256)=n / 16777216 % 256:=by rw[w8N (by omega)];omega
 rw[d1,d2,d3,m0,m1,m2,m3]
 repeat' first
  |exact rfl
  |refine x6 rfl ?_
  |refine o5 (fun h=>absurd h (by omega)) (fun _=>?_)
  |refine q84 (fun h=>absurd (of_decide_eq_false h) (by omega)) (fun _=>?_)
theorem xL7(s:List UInt8)(a:Nat):0≤tkN s a 1∧tkN s a 1<256:=by
 have q0:=f8 s a
 simp only[tkN,Nat.add_zero]
 omega
theorem dk1{s:List UInt8}{a:Nat}(h:a+1≤s.length):List.drop a (List.take (a+1) s)=[s.getD a 0] :=by
 rw[List.drop_take,show a+1-a=1 by omega]
 rw[zU6 (show a<s.length by omega)]
 rfl
theorem nk1{s:List UInt8}{a:Nat}(h:a+1≤s.length):yd7 0 (List.drop a (List.take (a+1) s))=tkN s a 1:=by
 have q0:=f8 s a
 rw[dk1 h]
 simp only[yd7,xS9,tkN,Nat.add_zero]
 omega
theorem xL8(s:List UInt8)(a:Nat):0≤tkN s a 4∧tkN s a 4<4294967296:=by
 have q0:=f8 s a
 have q1:=f8 s (a+1)
 have q2:=f8 s (a+2)
 have q3:=f8 s (a+3)
 simp only[tkN,Nat.add_zero]
 omega
theorem dk4{s:List UInt8}{a:Nat}(h:a+4≤s.length):List.drop a (List.take (a+4) s)=[s.getD a 0,s.getD (a+1) 0,s.getD (a+2) 0,s.getD (a+3) 0] :=by
 rw[List.drop_take,show a+4-a=4 by omega]
 rw[zU6 (show a<s.length by omega),zU6 (show a+1<s.length by omega),zU6 (show a+1+1<s.length by omega),zU6 (show a+1+1+1<s.length by omega)]
 rfl
theorem nk4{s:List UInt8}{a:Nat}(h:a+4≤s.length):yd7 0 (List.drop a (List.take (a+4) s))=tkN s a 4:=by
 have q0:=f8 s a
 have q1:=f8 s (a+1)
 have q2:=f8 s (a+2)
 have q3:=f8 s (a+3)
 rw[dk4 h]
 simp only[yd7,xS9,tkN,Nat.add_zero]
 omega
theorem xL9(s:List UInt8)(a:Nat):0≤tkN s a 6∧tkN s a 6<281474976710656:=by
 have q0:=f8 s a
 have q1:=f8 s (a+1)
 have q2:=f8 s (a+2)
 have q3:=f8 s (a+3)
 have q4:=f8 s (a+4)
 have q5:=f8 s (a+5)
 simp only[tkN,Nat.add_zero]
 omega
theorem dk6{s:List UInt8}{a:Nat}(h:a+6≤s.length):List.drop a (List.take (a+6) s)=[s.getD a 0,s.getD (a+1) 0,s.getD (a+2) 0,s.getD (a+3) 0,s.getD (a+4) 0,s.getD (a+5) 0] :=by
 rw[List.drop_take,show a+6-a=6 by omega]
 rw[zU6 (show a<s.length by omega),zU6 (show a+1<s.length by omega),zU6 (show a+1+1<s.length by omega),zU6 (show a+1+1+1<s.length by omega),zU6 (show a+1+1+1+1<s.length by omega),zU6 (show a+1+1+1+1+1<s.length by omega)]
 rfl
theorem nk6{s:List UInt8}{a:Nat}(h:a+6≤s.length):yd7 0 (List.drop a (List.take (a+6) s))=tkN s a 6:=by
 have q0:=f8 s a
 have q1:=f8 s (a+1)
 have q2:=f8 s (a+2)
 have q3:=f8 s (a+3)
 have q4:=f8 s (a+4)
 have q5:=f8 s (a+5)
 rw[dk6 h]
 simp only[yd7,xS9,tkN,Nat.add_zero]
 omega
theorem xM1(s:List UInt8)(a:Nat)(h:a≤100000):xM0 s (a:Int)=tkN s a 1:=by
 have q0:=f8 s (a+0)
 have k0:(i64.wrap ((a:Int)+0)).toNat=a+0:=by rw[f0 (by omega) (by omega)];omega
 unfold xM0
 rw[k0]
 rw[orZ q0.1 q0.2]
 have p0:tkN s a 1=((s.getD (a+0) 0).toNat:Int):=by simp only[tkN,Int.zero_mul,Int.zero_add]
 have l0:0≤tkN s a 1∧tkN s a 1<256:=by rw[p0];exact q0
 rw[←p0]
theorem xM3(s:List UInt8)(a:Nat)(h:a≤100000):xM2 s (a:Int)=tkN s a 4:=by
 have q0:=f8 s (a+0)
 have k0:(i64.wrap ((a:Int)+0)).toNat=a+0:=by rw[f0 (by omega) (by omega)];omega
 have q1:=f8 s (a+1)
 have k1:(i64.wrap ((a:Int)+1)).toNat=a+1:=by rw[f0 (by omega) (by omega)];omega
 have q2:=f8 s (a+2)
 have k2:(i64.wrap ((a:Int)+2)).toNat=a+2:=by rw[f0 (by omega) (by omega)];omega
 have q3:=f8 s (a+3)
 have k3:(i64.wrap ((a:Int)+3)).toNat=a+3:=by rw[f0 (by omega) (by omega)];omega
 unfold xM2
 rw[k0,k1,k2,k3]
 rw[orZ q0.1 q0.2]
 have p0:tkN s a 1=((s.getD (a+0) 0).toNat:Int):=by simp only[tkN,Int.zero_mul,Int.zero_add]
 have l0:0≤tkN s a 1∧tkN s a 1<256:=by rw[p0];exact q0
 rw[←p0]
 rw[yE0 (x:=tkN s a 1) (b:=((s.getD (a+1) 0).toNat:Int)) (by omega) (by omega) q1.1 q1.2]
 have p1:tkN s a 2=tkN s a 1*256+((s.getD (a+1) 0).toNat:Int):=rfl
 have l1:0≤tkN s a 2∧tkN s a 2<65536:=by omega
 rw[←p1]
 rw[yE0 (x:=tkN s a 2) (b:=((s.getD (a+2) 0).toNat:Int)) (by omega) (by omega) q2.1 q2.2]
 have p2:tkN s a 3=tkN s a 2*256+((s.getD (a+2) 0).toNat:Int):=rfl
 have l2:0≤tkN s a 3∧tkN s a 3<16777216:=by omega
 rw[←p2]
 rw[yE0 (x:=tkN s a 3) (b:=((s.getD (a+3) 0).toNat:Int)) (by omega) (by omega) q3.1 q3.2]
 have p3:tkN s a 4=tkN s a 3*256+((s.getD (a+3) 0).toNat:Int):=rfl
 have l3:0≤tkN s a 4∧tkN s a 4<4294967296:=by omega
 rw[←p3]
theorem xM5(s:List UInt8)(a:Nat)(h:a≤100000):xM4 s (a:Int)=tkN s a 6:=by
 have q0:=f8 s (a+0)
 have k0:(i64.wrap ((a:Int)+0)).toNat=a+0:=by rw[f0 (by omega) (by omega)];omega
 have q1:=f8 s (a+1)
 have k1:(i64.wrap ((a:Int)+1)).toNat=a+1:=by rw[f0 (by omega) (by omega)];omega
 have q2:=f8 s (a+2)
 have k2:(i64.wrap ((a:Int)+2)).toNat=a+2:=by rw[f0 (by omega) (by omega)];omega
 have q3:=f8 s (a+3)
 have k3:(i64.wrap ((a:Int)+3)).toNat=a+3:=by rw[f0 (by omega) (by omega)];omega
 have q4:=f8 s (a+4)
 have k4:(i64.wrap ((a:Int)+4)).toNat=a+4:=by rw[f0 (by omega) (by omega)];omega
 have q5:=f8 s (a+5)
 have k5:(i64.wrap ((a:Int)+5)).toNat=a+5:=by rw[f0 (by omega) (by omega)];omega
 unfold xM4
 rw[k0,k1,k2,k3,k4,k5]
 rw[orZ q0.1 q0.2]
 have p0:tkN s a 1=((s.getD (a+0) 0).toNat:Int):=by simp only[tkN,Int.zero_mul,Int.zero_add]
 have l0:0≤tkN s a 1∧tkN s a 1<256:=by rw[p0];exact q0
 rw[←p0]
 rw[yE0 (x:=tkN s a 1) (b:=((s.getD (a+1) 0).toNat:Int)) (by omega) (by omega) q1.1 q1.2]
 have p1:tkN s a 2=tkN s a 1*256+((s.getD (a+1) 0).toNat:Int):=rfl
 have l1:0≤tkN s a 2∧tkN s a 2<65536:=by omega
 rw[←p1]
 rw[yE0 (x:=tkN s a 2) (b:=((s.getD (a+2) 0).toNat:Int)) (by omega) (by omega) q2.1 q2.2]
 have p2:tkN s a 3=tkN s a 2*256+((s.getD (a+2) 0).toNat:Int):=rfl
 have l2:0≤tkN s a 3∧tkN s a 3<16777216:=by omega
 rw[←p2]
 rw[yE0 (x:=tkN s a 3) (b:=((s.getD (a+3) 0).toNat:Int)) (by omega) (by omega) q3.1 q3.2]
 have p3:tkN s a 4=tkN s a 3*256+((s.getD (a+3) 0).toNat:Int):=rfl
 have l3:0≤tkN s a 4∧tkN s a 4<4294967296:=by omega
 rw[←p3]
 rw[yE0 (x:=tkN s a 4) (b:=((s.getD (a+4) 0).toNat:Int)) (by omega) (by omega) q4.1 q4.2]
 have p4:tkN s a 5=tkN s a 4*256+((s.getD (a+4) 0).toNat:Int):=rfl
 have l4:0≤tkN s a 5∧tkN s a 5<1099511627776:=by omega
 rw[←p4]
 rw[yE0 (x:=tkN s a 5) (b:=((s.getD (a+5) 0).toNat:Int)) (by omega) (by omega) q5.1 q5.2]
 have p5:tkN s a 6=tkN s a 5*256+((s.getD (a+5) 0).toNat:Int):=rfl
 have l5:0≤tkN s a 6∧tkN s a 6<281474976710656:=by omega
 rw[←p5]
theorem xp5(s:List UInt8)(a:Nat)(h:a+1≤s.length)(hs:s.length≤100000):SCall pP 282 [.str s,I64 (a:Int),I64 1] (.tuple [I64 (tk s a 1),I64 ((a+1:Nat):Int),I64 0]):=by
 refine m6 rfl rfl (by kernel_rfl) (w6 qQ9 (n:=1000) (hint:=.unit) (keep:=x8 30 []) (p:=xQ5) (boxes:=[]) rfl ?_)
 have e:=tw1 s (a:Int)
 unfold v9 u7 at e
 erw [e]
 unfold xQ6
 have n0:((a:Int)).toNat=a:=by omega
 have jw:i64.wrap ((a:Int)+1)=((a+1:Nat):Int):=by rw[f0 (by omega) (by omega)];omega
 have jl:i64.wrap ((s.length:Int)-(a:Int))=(s.length:Int)-(a:Int):=f0 (by omega) (by omega)
 have tl:=xL7 s a
 rw[xN5]
 have j0:i64.wrap ((a:Int)+0)=((a+0:Nat):Int):=by rw[f0 (by omega) (by omega)];omega
 have k0:((a+0:Nat):Int).toNat=a+0:=by omega
 have q0:=f8 s (a+0)
 rw[xM1 s a (by omega)]
 rw[j0,jw,jl]
 rw[f0 (x:=tkN s a 1) (by omega) (by omega)]
 exact o5 (fun h=>absurd h (by omega)) fun _=>o5 (fun h=>absurd h (by omega)) fun _=>o5 (fun h=>absurd h (by omega)) fun _=>x6 rfl (x6 (ixB (by omega)) (o5 (fun h=>absurd h (by omega)) fun _=>rfl))
theorem xp8(s:List UInt8)(a:Nat)(h:a+1≤s.length)(hs:s.length≤100000):SCall pP 321 [.str s,I64 (a:Int),I64 1] (.tuple [I64 (tk s a 1),I64 ((a+1:Nat):Int),I64 0]):=by
 refine m6 rfl rfl (by kernel_rfl) (w6 qS0 (n:=1000) (hint:=.unit) (keep:=x8 31 []) (p:=xR2) (boxes:=[]) rfl ?_)
 have e:=xR1 s (a:Int)
 unfold v9 u7 at e
 erw [e]
 unfold xR3
 have n0:((a:Int)).toNat=a:=by omega
 have jw:i64.wrap ((a:Int)+1)=((a+1:Nat):Int):=by rw[f0 (by omega) (by omega)];omega
 have jl:i64.wrap ((s.length:Int)-(a:Int))=(s.length:Int)-(a:Int):=f0 (by omega) (by omega)
 have tl:=xL7 s a
 rw[xN5]
 rw[jw,jl,n0,show((a+1:Nat):Int).toNat=a+1 by omega,nk1 h]
 rw[f0 (x:=tkN s a 1) (by omega) (by omega)]
 exact o5 (fun h=>absurd h (by omega)) fun _=>o5 (fun h=>absurd h (by omega)) fun _=>o5 (fun h=>absurd h (by omega)) fun _=>x6 (by simp<;>omega) (x6 (decide_eq_true (by rw[dk1 h];simp)) (o5 (fun h=>absurd h (by omega)) fun _=>rfl))
theorem xp7(s:List UInt8)(a:Nat)(h:a+6≤s.length)(hs:s.length≤100000):SCall pP 282 [.str s,I64 (a:Int),I64 6] (.tuple [I64 (tk s a 6),I64 ((a+6:Nat):Int),I64 0]):=by
 refine m6 rfl rfl (by kernel_rfl) (w6 qQ9 (n:=1000) (hint:=.unit) (keep:=x8 30 []) (p:=xQ9) (boxes:=[]) rfl ?_)
 have e:=tw6 s (a:Int)
 unfold v9 u7 at e
 erw [e]
 unfold xR0
 have n0:((a:Int)).toNat=a:=by omega
 have jw:i64.wrap ((a:Int)+6)=((a+6:Nat):Int):=by rw[f0 (by omega) (by omega)];omega
 have jl:i64.wrap ((s.length:Int)-(a:Int))=(s.length:Int)-(a:Int):=f0 (by omega) (by omega)
 have tl:=xL9 s a
 rw[xN5]
 have j0:i64.wrap ((a:Int)+0)=((a+0:Nat):Int):=by rw[f0 (by omega) (by omega)];omega
 have k0:((a+0:Nat):Int).toNat=a+0:=by omega
 have q0:=f8 s (a+0)
 have j1:i64.wrap ((a:Int)+1)=((a+1:Nat):Int):=by rw[f0 (by omega) (by omega)];omega
 have k1:((a+1:Nat):Int).toNat=a+1:=by omega
 have q1:=f8 s (a+1)
 have j2:i64.wrap ((a:Int)+2)=((a+2:Nat):Int):=by rw[f0 (by omega) (by omega)];omega
 have k2:((a+2:Nat):Int).toNat=a+2:=by omega
 have q2:=f8 s (a+2)
 have j3:i64.wrap ((a:Int)+3)=((a+3:Nat):Int):=by rw[f0 (by omega) (by omega)];omega
 have k3:((a+3:Nat):Int).toNat=a+3:=by omega
 have q3:=f8 s (a+3)
 have j4:i64.wrap ((a:Int)+4)=((a+4:Nat):Int):=by rw[f0 (by omega) (by omega)];omega
 have k4:((a+4:Nat):Int).toNat=a+4:=by omega
 have q4:=f8 s (a+4)
 have j5:i64.wrap ((a:Int)+5)=((a+5:Nat):Int):=by rw[f0 (by omega) (by omega)];omega
 have k5:((a+5:Nat):Int).toNat=a+5:=by omega
 have q5:=f8 s (a+5)
 rw[xM5 s a (by omega)]
 rw[j0,j1,j2,j3,j4,j5,jw,jl]
 rw[f0 (x:=tkN s a 6) (by omega) (by omega)]
 exact o5 (fun h=>absurd h (by omega)) fun _=>o5 (fun h=>absurd h (by omega)) fun _=>o5 (fun h=>absurd h (by omega)) fun _=>x6 rfl (x6 (ixB (by omega)) (x6 rfl (x6 (ixB (by omega)) (x6 rfl (x6 (ixB (by omega)) (x6 rfl (x6 (ixB (by omega)) (x6 rfl (x6 (ixB (by omega)) (x6 rfl (x6 (ixB (by omega)) (o5 (fun h=>absurd h (by omega)) fun _=>rfl))))))))))))
theorem xq0(s:List UInt8)(a:Nat)(h:a+6≤s.length)(hs:s.length≤100000):SCall pP 321 [.str s,I64 (a:Int),I64 6] (.tuple [I64 (tk s a 6),I64 ((a+6:Nat):Int),I64 0]):=by
 refine m6 rfl rfl (by kernel_rfl) (w6 qS0 (n:=1000) (hint:=.unit) (keep:=x8 31 []) (p:=xR8) (boxes:=[]) rfl ?_)
 have e:=xR7 s (a:Int)
 unfold v9 u7 at e
 erw [e]
 unfold xR9
 have n0:((a:Int)).toNat=a:=by omega
 have jw:i64.wrap ((a:Int)+6)=((a+6:Nat):Int):=by rw[f0 (by omega) (by omega)];omega
 have jl:i64.wrap ((s.length:Int)-(a:Int))=(s.length:Int)-(a:Int):=f0 (by omega) (by omega)
 have tl:=xL9 s a
 rw[xN5]
 rw[jw,jl,n0,show((a+6:Nat):Int).toNat=a+6 by omega,nk6 h]
 rw[f0 (x:=tkN s a 6) (by omega) (by omega)]
 exact o5 (fun h=>absurd h (by omega)) fun _=>o5 (fun h=>absurd h (by omega)) fun _=>o5 (fun h=>absurd h (by omega)) fun _=>x6 (by simp<;>omega) (x6 (decide_eq_true (by rw[dk6 h];simp)) (o5 (fun h=>absurd h (by omega)) fun _=>rfl))
theorem xp6(s:List UInt8)(a:Nat)(h:a+4≤s.length)(hs:s.length≤100000):SCall pP 282 [.str s,I64 (a:Int),I64 4] (.tuple [I64 (tk s a 4),I64 ((a+4:Nat):Int),I64 0]):=by
 refine m6 rfl rfl (by kernel_rfl) (w6 qQ9 (n:=1000) (hint:=.unit) (keep:=x8 30 []) (p:=xQ7) (boxes:=[]) rfl ?_)
 have e:=tw4 s (a:Int)
 unfold v9 u7 at e
 erw [e]
 unfold xQ8
 have n0:((a:Int)).toNat=a:=by omega
 have jw:i64.wrap ((a:Int)+4)=((a+4:Nat):Int):=by rw[f0 (by omega) (by omega)];omega
 have jl:i64.wrap ((s.length:Int)-(a:Int))=(s.length:Int)-(a:Int):=f0 (by omega) (by omega)
 have tl:=xL8 s a
 rw[xN5]
 have j0:i64.wrap ((a:Int)+0)=((a+0:Nat):Int):=by rw[f0 (by omega) (by omega)];omega
 have k0:((a+0:Nat):Int).toNat=a+0:=by omega
 have q0:=f8 s (a+0)
 have j1:i64.wrap ((a:Int)+1)=((a+1:Nat):Int):=by rw[f0 (by omega) (by omega)];omega
 have k1:((a+1:Nat):Int).toNat=a+1:=by omega
 have q1:=f8 s (a+1)
 have j2:i64.wrap ((a:Int)+2)=((a+2:Nat):Int):=by rw[f0 (by omega) (by omega)];omega
 have k2:((a+2:Nat):Int).toNat=a+2:=by omega
 have q2:=f8 s (a+2)
 have j3:i64.wrap ((a:Int)+3)=((a+3:Nat):Int):=by rw[f0 (by omega) (by omega)];omega
 have k3:((a+3:Nat):Int).toNat=a+3:=by omega
 have q3:=f8 s (a+3)
 rw[xM3 s a (by omega)]
 rw[j0,j1,j2,j3,jw,jl]
 rw[f0 (x:=tkN s a 4) (by omega) (by omega)]
 exact o5 (fun h=>absurd h (by omega)) fun _=>o5 (fun h=>absurd h (by omega)) fun _=>o5 (fun h=>absurd h (by omega)) fun _=>x6 rfl (x6 (ixB (by omega)) (x6 rfl (x6 (ixB (by omega)) (x6 rfl (x6 (ixB (by omega)) (x6 rfl (x6 (ixB (by omega)) (o5 (fun h=>absurd h (by omega)) fun _=>rfl))))))))
theorem xp9(s:List UInt8)(a:Nat)(h:a+4≤s.length)(hs:s.length≤100000):SCall pP 321 [.str s,I64 (a:Int),I64 4] (.tuple [I64 (tk s a 4),I64 ((a+4:Nat):Int),I64 0]):=by
 refine m6 rfl rfl (by kernel_rfl) (w6 qS0 (n:=1000) (hint:=.unit) (keep:=x8 31 []) (p:=xR5) (boxes:=[]) rfl ?_)
 have e:=xR4 s (a:Int)
 unfold v9 u7 at e
 erw [e]
 unfold xR6
 have n0:((a:Int)).toNat=a:=by omega
 have jw:i64.wrap ((a:Int)+4)=((a+4:Nat):Int):=by rw[f0 (by omega) (by omega)];omega
 have jl:i64.wrap ((s.length:Int)-(a:Int))=(s.length:Int)-(a:Int):=f0 (by omega) (by omega)
 have tl:=xL8 s a
 rw[xN5]
 rw[jw,jl,n0,show((a+4:Nat):Int).toNat=a+4 by omega,nk4 h]
 rw[f0 (x:=tkN s a 4) (by omega) (by omega)]
 exact o5 (fun h=>absurd h (by omega)) fun _=>o5 (fun h=>absurd h (by omega)) fun _=>o5 (fun h=>absurd h (by omega)) fun _=>x6 (by simp<;>omega) (x6 (decide_eq_true (by rw[dk4 h];simp)) (o5 (fun h=>absurd h (by omega)) fun _=>rfl))
theorem xp0(s:List UInt8)(a:Nat)(h:a+4≤s.length)(hs:s.length≤100000):SCall pP 284 [.str s,I64 (a:Int),I64 4] (.tuple [I64 (sg (tk s a 4)),I64 ((a+4:Nat):Int),I64 0]):=by
 refine m6 rfl rfl (by kernel_rfl) (w6 qQ9 (n:=1000) (hint:=.unit) (keep:=x8 34 []) (p:=xH2) (boxes:=[]) rfl ?_)
 have e:=ti4 s (a:Int)
 unfold v9 u7 at e
 erw [e]
 unfold xH3
 have n0:((a:Int)).toNat=a:=by omega
 have jw:i64.wrap ((a:Int)+4)=((a+4:Nat):Int):=by rw[f0 (by omega) (by omega)];omega
 have jl:i64.wrap ((s.length:Int)-(a:Int))=(s.length:Int)-(a:Int):=f0 (by omega) (by omega)
 have tl:=xL8 s a
 rw[xN5]
 have j0:i64.wrap ((a:Int)+0)=((a+0:Nat):Int):=by rw[f0 (by omega) (by omega)];omega
 have k0:((a+0:Nat):Int).toNat=a+0:=by omega
 have q0:=f8 s (a+0)
 have j1:i64.wrap ((a:Int)+1)=((a+1:Nat):Int):=by rw[f0 (by omega) (by omega)];omega
 have k1:((a+1:Nat):Int).toNat=a+1:=by omega
 have q1:=f8 s (a+1)
 have j2:i64.wrap ((a:Int)+2)=((a+2:Nat):Int):=by rw[f0 (by omega) (by omega)];omega
 have k2:((a+2:Nat):Int).toNat=a+2:=by omega
 have q2:=f8 s (a+2)
 have j3:i64.wrap ((a:Int)+3)=((a+3:Nat):Int):=by rw[f0 (by omega) (by omega)];omega
 have k3:((a+3:Nat):Int).toNat=a+3:=by omega
 have q3:=f8 s (a+3)
 rw[xM3 s a (by omega)]
 rw[j0,j1,j2,j3,jw,jl]
 rw[xv0 tl.1 tl.2]
 exact o5 (fun h=>absurd h (by omega)) fun _=>o5 (fun h=>absurd h (by omega)) fun _=>o5 (fun h=>absurd h (by omega)) fun _=>x6 rfl (x6 (ixB (by omega)) (x6 rfl (x6 (ixB (by omega)) (x6 rfl (x6 (ixB (by omega)) (x6 rfl (x6 (ixB (by omega)) (x6 rfl (x6 rfl rfl)))))))))
theorem xp1(s:List UInt8)(a:Nat)(h:a+4≤s.length)(hs:s.length≤100000):SCall pP 322 [.str s,I64 (a:Int),I64 4] (.tuple [I64 (sg (tk s a 4)),I64 ((a+4:Nat):Int),I64 0]):=by
 refine m6 rfl rfl (by kernel_rfl) (w6 qS0 (n:=1000) (hint:=.unit) (keep:=x8 46 []) (p:=xH5) (boxes:=[]) rfl ?_)
 have e:=xH4 s (a:Int)
 unfold v9 u7 at e
 erw [e]
 unfold xH6
 have n0:((a:Int)).toNat=a:=by omega
 have jw:i64.wrap ((a:Int)+4)=((a+4:Nat):Int):=by rw[f0 (by omega) (by omega)];omega
 have jl:i64.wrap ((s.length:Int)-(a:Int))=(s.length:Int)-(a:Int):=f0 (by omega) (by omega)
 have tl:=xL8 s a
 rw[xN5]
 rw[jw,jl,n0,show((a+4:Nat):Int).toNat=a+4 by omega,nk4 h]
 rw[dk4 h,f0 (x:=tkN s a 4) (by omega) (by omega),f0 (x:=tkN s a 4-4294967296) (by omega) (by omega)]
 have q0:=f8 s a
 have q1:=f8 s (a+1)
 have q2:=f8 s (a+2)
 have q3:=f8 s (a+3)
 have hb:((s.getD a 0).toNat:Int)≥128↔¬tkN s a 4<2147483648:=by simp only[tkN,Nat.add_zero];omega
 refine o5 (fun h=>absurd h (by omega)) (fun _=>o5 (fun h=>absurd h (by omega)) (fun _=>o5 (fun h=>absurd h (by omega)) (fun _=>?_)))
 refine x6 (by simp<;>omega) (x6 (decide_eq_true (by simp<;>omega)) (x6 (by simp) (o5 (fun h=>?_) fun h=>?_)))
 ·have h:¬tkN s a 4<2147483648:=hb.1 h
  refine x6 rfl ?_
  rw[show sg (tkN s a 4)=tkN s a 4-4294967296 from if_neg h];rfl
 ·have h:tkN s a 4<2147483648:=by
   rcases Int.lt_or_le (tkN s a 4) 2147483648 with h'|h'
   ·exact h'
   ·exact absurd (hb.2 (by omega)) h
  rw[show sg (tkN s a 4)=tkN s a 4 from if_pos h];rfl
structure Rc where
 kind:Int
 seq:Int
 line:Int
 done:Int
 src:V4
 dst:V4
def Rc.cells(r:Rc):List SV:=[I64 r.kind,I64 r.seq,I64 r.line,I64 r.done,I64 r.src.1,I64 r.src.2.1,I64 r.src.2.2.1,I64 r.src.2.2.2,I64 r.dst.1,I64 r.dst.2.1,I64 r.dst.2.2.1,I64 r.dst.2.2.2]
def Rc.sv(r:Rc):SV:=.agg r.cells
def qK5(c:V4):Bool:=inR c.1 (-2147483648) 2147483647&& (inR c.2.1 (-2147483648) 2147483647&& (inR c.2.2.1 (-2147483648) 2147483647&&inR c.2.2.2 (-2147483648) 2147483647))
def rcB(r:Rc):Bool:=inR r.kind 1 3&& (inR r.seq 1 1099511627776&& (inR r.line 0 1099511627776&& (inR r.done 0 16777216&& (qK5 r.src&&qK5 r.dst))))
theorem yU4{r:Rc}:rcB r=true↔(1≤r.kind∧r.kind≤3)∧(1≤r.seq∧r.seq≤1099511627776)∧(0≤r.line∧r.line≤1099511627776)∧(0≤r.done∧r.done≤16777216)∧((-2147483648≤r.src.1∧r.src.1≤2147483647)∧(-2147483648≤r.src.2.1∧r.src.2.1≤2147483647)∧(-2147483648≤r.src.2.2.1∧r.src.2.2.1≤2147483647)∧-2147483648≤r.src.2.2.2∧r.src.2.2.2≤2147483647)∧(-2147483648≤r.dst.1∧r.dst.1≤2147483647)∧(-2147483648≤r.dst.2.1∧r.dst.2.1≤2147483647)∧(-2147483648≤r.dst.2.2.1∧r.dst.2.2.1≤2147483647)∧-2147483648≤r.dst.2.2.2∧r.dst.2.2.2≤2147483647:=by
 simp only[rcB,qK5,Bool.and_eq_true,v8]
theorem xl3(r:Rc):SCall pP 296 [r.sv] (.bool (rcB r)):=
 o9 mix [] trivial 1000 (let z0:Plan:=.lit (.lit (.lit .all));.fork (.ln 27 (.lit .all)) (.ln 3 (.fork (.ln 23 (.lit .all)) (.ln 3 (.fork (.ln 19 (.lit .all)) (.ln 3 (.fork (.ln 15 (.lit .all)) (.ln 3 (.fork (.ln 11 (.lit .all)) (.ln 3 (.fork (.ln 7 (.lit .all)) (.ln 3 (.fork (.ln 3 (.lit .all)) (.ln 3 (.fork .all (.go (.lit (.go (.lit (.fork z0 (.lit (.lit (.fork .all (.go (.lit (.fork z0 (.lit (.lit (.fork .all (.go (.lit (.fork z0 (.lit (.lit (.fork .all (.go (.lit (.fork z0 (.lit (.lit (.fork .all (.go (.lit (.go (.lit (.go (.lit (.fork z0 (.lit (.lit (.fork .all (.go (.lit (.fork z0 (.lit (.lit (.fork .all (.go (.lit (.fork z0 (.lit (.lit (.fork .all (.go (.lit (.fork z0 (.lit (.lit (.fork .all (.go (.lit (.go (.lit .all)))))))))))))))))))))))))))))))))))))))))))))))))))))))))))))))))))))))))
  (t:=let y0:Tree SV:=.leaf (.bool false);.node (decide (r.kind<1)) y0 (.node (decide (r.kind>3)) y0 (.node (decide (r.seq<1)) y0 (.node (decide (r.seq>1099511627776)) y0 (.node (decide (r.line<0)) y0 (.node (decide (r.line>1099511627776)) y0 (.node (decide (r.done<0)) y0 (.node (decide (r.done>16777216)) y0 (.req true (.req (true) (.node (decide (r.src.1 < -2147483648)) y0 (.node (decide (r.src.1≥2147483648)) y0 (.req true (.node (decide (r.src.2.1 < -2147483648)) y0 (.node (decide (r.src.2.1≥2147483648)) y0 (.req true (.node (decide (r.src.2.2.1 < -2147483648)) y0 (.node (decide (r.src.2.2.1≥2147483648)) y0 (.req true (.node (decide (r.src.2.2.2 < -2147483648)) y0 (.node (decide (r.src.2.2.2≥2147483648)) y0 (.req true (.req (true) (.node (decide (r.dst.1 < -2147483648)) y0 (.node (decide (r.dst.1≥2147483648)) y0 (.req true (.node (decide (r.dst.2.1 < -2147483648)) y0 (.node (decide (r.dst.2.1≥2147483648)) y0 (.req true (.node (decide (r.dst.2.2.1 < -2147483648)) y0 (.node (decide (r.dst.2.2.1≥2147483648)) y0 (.req true (.node (decide (r.dst.2.2.2 < -2147483648)) y0 (.node (decide (r.dst.2.2.2≥2147483648)) y0 (.leaf (.bool true))))))))))))))))))))))))))))))))))))
  (by kernel_rfl) (by
   have q:∀b:Bool,(b=true↔rcB r=true)→SV.bool b=SV.bool (rcB r):=fun b h=>by rw[Bool.eq_iff_iff.2 h]
   repeat' first|refine o5 (fun _=>?_) (fun _=>?_)|refine x6 rfl ?_|refine q _ ?_
   all_goals(rw[yU4];simp only[decide_eq_true_eq,Bool.false_eq_true,false_iff,true_iff];omega)) (by kernel_rfl) (by kernel_rfl)
theorem xl4(r:Rc):SCall pP 250 [r.sv] (.bool (rcB r)):=
 o9 mix [] trivial 1000 (let z0:Plan:=.ln 9 (.lit .all);let z1:Plan:=.ln 4 (.lit .all);let z2:Plan:=.ln 5 (.lit .all);.fork (.ln 3 (.fork (.ln 3 (.fork (.ln 3 (.fork (.ln 3 (.fork (.ln 3 (.fork (.ln 3 (.fork (.ln 3 (.fork (.lit (.lit (.go (.lit (.fork z0 (.ln 4 (.fork z1 (.go (.lit (.fork z0 (.ln 4 (.fork z1 (.go (.lit (.fork z0 (.ln 4 (.fork z1 (.go (.lit (.fork z0 (.ln 4 (.fork z1 (.go (.ln 5 (.go (.lit (.fork z2 (.ln 4 (.fork (.lit .all) (.go (.lit (.fork z2 (.ln 4 (.fork (.lit .all) (.go (.lit (.fork z2 (.ln 4 (.fork (.lit .all) (.go (.lit (.fork z2 (.ln 4 (.fork (.lit .all) (.go (.lit (.lit .all))))))))))))))))))))))))))))))))))))))))))))))) (.ln 6 (.lit .all)))) (.ln 10 (.lit .all)))) (.ln 14 (.lit .all)))) (.ln 18 (.lit .all)))) (.ln 22 (.lit .all)))) (.ln 26 (.lit .all)))) (.ln 30 (.lit .all)))) (.ln 34 (.lit .all)))
  (t:=let y0:Tree SV:=.leaf (.bool false);.node (decide (r.kind≥1)) (.node (decide (r.kind≤3)) (.node (decide (r.seq≥1)) (.node (decide (r.seq≤1099511627776)) (.node (decide (r.line≥0)) (.node (decide (r.line≤1099511627776)) (.node (decide (r.done≥0)) (.node (decide (r.done≤16777216)) (.req true (.node (decide (r.src.1 < -2147483648)) y0 (.req true (.node (decide (r.src.1≥2147483648)) y0 (.req true (.node (decide (r.src.2.1 < -2147483648)) y0 (.req true (.node (decide (r.src.2.1≥2147483648)) y0 (.req true (.node (decide (r.src.2.2.1 < -2147483648)) y0 (.req true (.node (decide (r.src.2.2.1≥2147483648)) y0 (.req true (.node (decide (r.src.2.2.2 < -2147483648)) y0 (.req true (.node (decide (r.src.2.2.2≥2147483648)) y0 (.req true (.node (decide (r.dst.1 < -2147483648)) y0 (.req true (.node (decide (r.dst.1≥2147483648)) y0 (.req true (.node (decide (r.dst.2.1 < -2147483648)) y0 (.req true (.node (decide (r.dst.2.1≥2147483648)) y0 (.req true (.node (decide (r.dst.2.2.1 < -2147483648)) y0 (.req true (.node (decide (r.dst.2.2.1≥2147483648)) y0 (.req true (.node (decide (r.dst.2.2.2 < -2147483648)) y0 (.req true (.node (decide (r.dst.2.2.2≥2147483648)) y0 (.leaf (.bool true)))))))))))))))))))))))))))))))))) y0) y0) y0) y0) y0) y0) y0) y0)
  (by kernel_rfl) (by
   have q:∀b:Bool,(b=true↔rcB r=true)→SV.bool b=SV.bool (rcB r):=fun b h=>by rw[Bool.eq_iff_iff.2 h]
   repeat' first|refine o5 (fun _=>?_) (fun _=>?_)|refine x6 rfl ?_|refine q _ ?_
   all_goals(rw[yU4];simp only[decide_eq_true_eq,Bool.false_eq_true,false_iff,true_iff];omega)) (by kernel_rfl) (by kernel_rfl)
def z49(f:FuncId):Fact:=qm0 f fun s=>.req (decide (s.length≤100000)) (.leaf (I64 (crc s)))
def z48:Fact:=z49 300
theorem yj2:z48.ok pP:=qm1 fun s h=>xa4 s (by have:=of_decide_eq_true h;omega)
def z50:Fact:=z49 254
theorem yj3:z50.ok pP:=qm1 fun s h=>xa5 s (by have:=of_decide_eq_true h;omega)
def ql8(f:FuncId)(h:Rc→Tree SV):Fact:=⟨f,fun args=>match args with
 |[.agg [.int .i64 a,.int .i64 b,.int .i64 c,.int .i64 d,.int .i64 p0,.int .i64 p1,.int .i64 p2,.int .i64 p3,.int .i64 q0,.int .i64 q1,.int .i64 q2,.int .i64 q3]] =>some (h ⟨a,b,c,d,(p0,p1,p2,p3),(q0,q1,q2,q3)⟩)
 |_=>none⟩
theorem ql9{P:Program}{f:FuncId}{h:Rc→Tree SV}(k:∀c,(h c).says (SCall P f [c.sv])):(ql8 f h).ok P:=fun args t ht=>by
 simp only[ql8]at ht
 split at ht
 ·injection ht with ht;subst ht;exact k ⟨_,_,_,_,(_,_,_,_),(_,_,_,_)⟩
 ·cases ht
def qc1:Fact:=ql8 296 fun r=>.leaf (.bool (rcB r))
theorem yq7:qc1.ok pP:=ql9 xl3
def qc2:Fact:=ql8 250 fun r=>.leaf (.bool (rcB r))
theorem yq8:qc2.ok pP:=ql9 xl4
def qe5(f:FuncId):Fact:=⟨f,fun args=>match args with
 |[.int .i64 n,.int .i64 k] =>match k==6 with
  |true=>some (.req (inR n 0 281474976710655) (.leaf (.tuple [.str (beN n 6),I64 0])))
  |false=>match k==1 with
   |true=>some (.req (inR n 0 255) (.leaf (.tuple [.str (beN n 1),I64 0])))
   |false=>match k==4 with
    |true=>some (.req (inR n 0 4294967295) (.leaf (.tuple [.str (beN n 4),I64 0])))
    |false=>match k==2 with
     |true=>some (.req (inR n 0 65535) (.leaf (.tuple [.str (beN n 2),I64 0])))
     |false=>none
 |_=>none⟩
def z78(f:FuncId):Fact:=⟨f,fun args=>match args with
 |[.int .i64 n,.int .i64 k] =>match k==4 with
  |true=>some (.req (inR n (-2147483648) 2147483647) (.leaf (.tuple [.str (beN n 4),I64 0])))
  |false=>none
 |_=>none⟩
def qe2(f:FuncId):Fact:=⟨f,fun args=>match args with
 |[.str s,.int .i64 a,.int .i64 k] =>match k==6 with
  |true=>some (.req (decide (0≤a)&& (decide (a+6≤(s.length:Int))&&decide (s.length≤100000))) (.leaf (.tuple [I64 (tk s a.toNat 6),I64 (a+6),I64 0])))
  |false=>match k==1 with
   |true=>some (.req (decide (0≤a)&& (decide (a+1≤(s.length:Int))&&decide (s.length≤100000))) (.leaf (.tuple [I64 (tk s a.toNat 1),I64 (a+1),I64 0])))
   |false=>match k==4 with
    |true=>some (.req (decide (0≤a)&& (decide (a+4≤(s.length:Int))&&decide (s.length≤100000))) (.leaf (.tuple [I64 (tk s a.toNat 4),I64 (a+4),I64 0])))
    |false=>none
 |_=>none⟩
def qd6(f:FuncId):Fact:=⟨f,fun args=>match args with
 |[.str s,.int .i64 a,.int .i64 k] =>match k==4 with
  |true=>some (.req (decide (0≤a)&& (decide (a+4≤(s.length:Int))&&decide (s.length≤100000))) (.leaf (.tuple [I64 (sg (tk s a.toNat 4)),I64 (a+4),I64 0])))
  |false=>none
 |_=>none⟩
theorem qe6{f:FuncId}(h6:∀n,0≤n→n<281474976710656→SCall pP f [I64 n,I64 6] (.tuple [.str (beN n 6),I64 0]))(h1:∀n,0≤n→n<256→SCall pP f [I64 n,I64 1] (.tuple [.str (beN n 1),I64 0]))(h4:∀n,0≤n→n<4294967296→SCall pP f [I64 n,I64 4] (.tuple [.str (beN n 4),I64 0]))(h2:∀n,0≤n→n<65536→SCall pP f [I64 n,I64 2] (.tuple [.str (beN n 2),I64 0])):(qe5 f).ok pP:=fun args t ht=>by
 simp only[qe5]at ht
 split at ht
 ·rename_i n k
  by_cases e6:k=6
  ·subst e6
   simp at ht;subst ht
   intro h
   exact h6 _ (v8.1 h).1 (by have:=(v8.1 h).2;omega)
  ·skip
   by_cases e1:k=1
   ·subst e1
    simp at ht;subst ht
    intro h
    exact h1 _ (v8.1 h).1 (by have:=(v8.1 h).2;omega)
   ·skip
    by_cases e4:k=4
    ·subst e4
     simp at ht;subst ht
     intro h
     exact h4 _ (v8.1 h).1 (by have:=(v8.1 h).2;omega)
    ·skip
     by_cases e2:k=2
     ·subst e2
      simp at ht;subst ht
      intro h
      exact h2 _ (v8.1 h).1 (by have:=(v8.1 h).2;omega)
     ·simp[show(k==6)=false from beq_eq_false_iff_ne.2 e6,show(k==1)=false from beq_eq_false_iff_ne.2 e1,show(k==4)=false from beq_eq_false_iff_ne.2 e4,show(k==2)=false from beq_eq_false_iff_ne.2 e2]at ht
 ·cases ht
theorem z79{f:FuncId}(h4:∀n,-2147483648≤n→n<2147483648→SCall pP f [I64 n,I64 4] (.tuple [.str (beN n 4),I64 0])):(z78 f).ok pP:=fun args t ht=>by
 simp only[z78]at ht
 split at ht
 ·rename_i n k
  by_cases e4:k=4
  ·subst e4
   simp at ht;subst ht
   intro h
   exact h4 _ (v8.1 h).1 (by have:=(v8.1 h).2;omega)
  ·simp[show(k==4)=false from beq_eq_false_iff_ne.2 e4]at ht
 ·cases ht
theorem qe3{f:FuncId}(h6:∀ (s:List UInt8) (a:Nat),a+6≤s.length→s.length≤100000→SCall pP f [.str s,I64 (a:Int),I64 6] (.tuple [I64 (tk s a 6),I64 ((a+6:Nat):Int),I64 0]))(h1:∀ (s:List UInt8) (a:Nat),a+1≤s.length→s.length≤100000→SCall pP f [.str s,I64 (a:Int),I64 1] (.tuple [I64 (tk s a 1),I64 ((a+1:Nat):Int),I64 0]))(h4:∀ (s:List UInt8) (a:Nat),a+4≤s.length→s.length≤100000→SCall pP f [.str s,I64 (a:Int),I64 4] (.tuple [I64 (tk s a 4),I64 ((a+4:Nat):Int),I64 0])):(qe2 f).ok pP:=fun args t ht=>by
 simp only[qe2]at ht
 split at ht
 ·rename_i s a k
  by_cases e6:k=6
  ·subst e6
   simp at ht;subst ht
   intro h
   simp only[Bool.and_eq_true,decide_eq_true_eq]at h
   obtain⟨m,rfl⟩:=Int.eq_ofNat_of_zero_le h.1
   have q:=h6 s m (by omega) h.2.2
   exact q
  ·skip
   by_cases e1:k=1
   ·subst e1
    simp at ht;subst ht
    intro h
    simp only[Bool.and_eq_true,decide_eq_true_eq]at h
    obtain⟨m,rfl⟩:=Int.eq_ofNat_of_zero_le h.1
    have q:=h1 s m (by omega) h.2.2
    exact q
   ·skip
    by_cases e4:k=4
    ·subst e4
     simp at ht;subst ht
     intro h
     simp only[Bool.and_eq_true,decide_eq_true_eq]at h
     obtain⟨m,rfl⟩:=Int.eq_ofNat_of_zero_le h.1
     have q:=h4 s m (by omega) h.2.2
     exact q
    ·simp[show(k==6)=false from beq_eq_false_iff_ne.2 e6,show(k==1)=false from beq_eq_false_iff_ne.2 e1,show(k==4)=false from beq_eq_false_iff_ne.2 e4]at ht
 ·cases ht
theorem qd7{f:FuncId}(h4:∀ (s:List UInt8) (a:Nat),a+4≤s.length→s.length≤100000→SCall pP f [.str s,I64 (a:Int),I64 4] (.tuple [I64 (sg (tk s a 4)),I64 ((a+4:Nat):Int),I64 0])):(qd6 f).ok pP:=fun args t ht=>by
 simp only[qd6]at ht
 split at ht
 ·rename_i s a k
  by_cases e4:k=4
  ·subst e4
   simp at ht;subst ht
   intro h
   simp only[Bool.and_eq_true,decide_eq_true_eq]at h
   obtain⟨m,rfl⟩:=Int.eq_ofNat_of_zero_le h.1
   have q:=h4 s m (by omega) h.2.2
   exact q
  ·simp[show(k==4)=false from beq_eq_false_iff_ne.2 e4]at ht
 ·cases ht
def fUi:Fact:=qe5 298
theorem yt4:fUi.ok pP:=qe6 xr9 xr6 xr8 xr7
def fIi:Fact:=z78 299
theorem ym2:fIi.ok pP:=z79 xr0
def fTu:Fact:=qe2 282
theorem yt2:fTu.ok pP:=qe3 xp7 xp5 xp6
def fTi:Fact:=qd6 284
theorem ys7:fTi.ok pP:=qd7 xp0
def qe7:Fact:=qe5 279
theorem yt5:qe7.ok pP:=qe6 xs3 xs0 xs2 xs1
def z80:Fact:=z78 280
theorem ym3:z80.ok pP:=z79 xr1
def qe4:Fact:=qe2 321
theorem yt3:qe4.ok pP:=qe3 xq0 xp8 xp9
def qd8:Fact:=qd6 322
theorem ys8:qd8.ok pP:=qd7 xp1
def yI2(s:List UInt8)(n:Int):List UInt8:=s++List.replicate (n-s.length).toNat 0
theorem xj5(s:List UInt8)(n:Int)(h:(s.length:Int)≤n)(hn:n≤65536):SCall pP 253 [.str s,I64 n] (.tuple [.str (yI2 s n),I64 0]):=by
 refine m6 rfl rfl (by kernel_rfl) (w6 qQ9 (n:=1000) (hint:=.unit) (keep:=x8 24 []) (p:=yI0) (boxes:=[]) rfl ?_)
 have e:=yH9 s n
 unfold v9 u7 at e
 erw [e]
 unfold yI1
 have j:i64.wrap (n-(s.length:Int))=n-(s.length:Int):=w64 (by omega) (by omega)
 have z:(List.map (fun n=>UInt8.ofNat (Int.toNat n)) (List.replicate (n-(s.length:Int)).toNat (0:Int)))=List.replicate (n-(s.length:Int)).toNat 0:=by
  rw[List.map_replicate];rfl
 rw[j,z]
 refine o5 (fun h=>absurd h (by omega)) fun _=>o5 (fun h=>absurd h (by omega)) fun _=>o5 (fun h=>absurd h (by omega)) fun _=>x6 ?_ (x6 (decide_eq_true ?_) rfl)
 ·simp;omega
 ·rw[List.length_replicate];omega
def zY6(r:Rc):List UInt8:=beN r.seq 6++beN r.kind 1++beN r.line 6++beN r.done 4++(beN r.src.1 4++beN r.src.2.1 4++beN r.src.2.2.1 4++beN r.src.2.2.2 4)++(beN r.dst.1 4++beN r.dst.2.1 4++beN r.dst.2.2.1 4++beN r.dst.2.2.2 4)
def enc(r:Rc):List UInt8:=yI2 (zY6 r++beN (crc (zY6 r)) 2) 58++beN r.seq 6
theorem zY7(r:Rc):(zY6 r).length=49:=by simp only[zY6,List.length_append,zw4]
theorem zZ3(r:Rc):(enc r).length=64:=by
 simp only[enc,yI2,List.length_append,zw4,zY7,List.length_replicate];omega
def qb3:Fact:=⟨253,fun args=>match args with
 |[.str s,.int .i64 n] =>some (.req (decide ((s.length:Int)≤n)&&decide (n≤65536)) (.leaf (.tuple [.str (yI2 s n),I64 0])))
 |_=>none⟩
theorem yp9:qb3.ok pP:=fun args t ht=>by
 simp only[qb3]at ht
 split at ht
 ·injection ht with ht;subst ht
  intro h
  simp only[Bool.and_eq_true,decide_eq_true_eq]at h
  exact xj5 _ _ h.1 h.2
 ·cases ht
theorem xq8(n:Int)(h:inR n 0 281474976710655=true):SCall pP 251 [I64 n,I64 6] (.str (beN n 6)):=
 o9 mix [qe7] ⟨yt5,trivial⟩ 1000 (.all)
  (t:=.req (inR n 0 281474976710655) (.leaf (SV.str (beN n 6))))
  (by kernel_rfl) (by exact x6 h rfl) (by kernel_rfl) (by kernel_rfl)
theorem xq5(n:Int)(h:inR n 0 255=true):SCall pP 251 [I64 n,I64 1] (.str (beN n 1)):=
 o9 mix [qe7] ⟨yt5,trivial⟩ 1000 (.all)
  (t:=.req (inR n 0 255) (.leaf (SV.str (beN n 1))))
  (by kernel_rfl) (by exact x6 h rfl) (by kernel_rfl) (by kernel_rfl)
theorem xq7(n:Int)(h:inR n 0 4294967295=true):SCall pP 251 [I64 n,I64 4] (.str (beN n 4)):=
 o9 mix [qe7] ⟨yt5,trivial⟩ 1000 (.all)
  (t:=.req (inR n 0 4294967295) (.leaf (SV.str (beN n 4))))
  (by kernel_rfl) (by exact x6 h rfl) (by kernel_rfl) (by kernel_rfl)
theorem xq6(n:Int)(h:inR n 0 65535=true):SCall pP 251 [I64 n,I64 2] (.str (beN n 2)):=
 o9 mix [qe7] ⟨yt5,trivial⟩ 1000 (.all)
  (t:=.req (inR n 0 65535) (.leaf (SV.str (beN n 2))))
  (by kernel_rfl) (by exact x6 h rfl) (by kernel_rfl) (by kernel_rfl)
theorem xk7(c:V4)(h:qK5 c=true):SCall pP 252 [V4.sv c] (.str (beN c.1 4++beN c.2.1 4++beN c.2.2.1 4++beN c.2.2.2 4)):=
 o9 mix [z80] ⟨ym3,trivial⟩ 1000 (.go (.lit (.go (.lit (.go (.lit (.go (.lit (.go (.lit (.all)))))))))))
  (t:=.req (true) (.req (inR c.1 (-2147483648) 2147483647) (.req (decide (((0+(beN c.1 4).length:Nat):Int)≤(9223372036854775807:Int))) (.req true (.req (inR c.2.1 (-2147483648) 2147483647) (.req (decide ((((beN c.1 4).length+(beN c.2.1 4).length:Nat):Int)≤(9223372036854775807:Int))) (.req true (.req (inR c.2.2.1 (-2147483648) 2147483647) (.req (decide ((((beN c.1 4++beN c.2.1 4).length+(beN c.2.2.1 4).length:Nat):Int)≤(9223372036854775807:Int))) (.req true (.req (inR c.2.2.2 (-2147483648) 2147483647) (.req (decide ((((beN c.1 4++beN c.2.1 4++beN c.2.2.1 4).length+(beN c.2.2.2 4).length:Nat):Int)≤(9223372036854775807:Int))) (.leaf (SV.str (beN c.1 4++beN c.2.1 4++beN c.2.2.1 4++beN c.2.2.2 4)))))))))))))))
  (by kernel_rfl) (by
   simp only[qK5,Bool.and_eq_true]at h
   exact x6 rfl (x6 h.1 (x6 (decide_eq_true (by simp[zw4])) (x6 rfl (x6 h.2.1 (x6 (decide_eq_true (by simp[zw4])) (x6 rfl (x6 h.2.2.1 (x6 (decide_eq_true (by simp[zw4])) (x6 rfl (x6 h.2.2.2 (x6 (decide_eq_true (by simp[zw4])) rfl)))))))))))) (by kernel_rfl) (by kernel_rfl)
def qe8:Fact:=⟨251,fun args=>match args with
 |[.int .i64 n,.int .i64 k] =>match k==6 with|true=>some (.req (inR n 0 281474976710655) (.leaf (.str (beN n 6))))|false=>match k==1 with|true=>some (.req (inR n 0 255) (.leaf (.str (beN n 1))))|false=>match k==4 with|true=>some (.req (inR n 0 4294967295) (.leaf (.str (beN n 4))))|false=>match k==2 with|true=>some (.req (inR n 0 65535) (.leaf (.str (beN n 2))))|false=>none
 |_=>none⟩
def qb8:Fact:=qm8 252 fun c=>.req (qK5 c) (.leaf (.str (beN c.1 4++beN c.2.1 4++beN c.2.2.1 4++beN c.2.2.2 4)))
theorem yq4:qb8.ok pP:=qn3 xk7
theorem yt6:qe8.ok pP:=fun args t ht=>by
 simp only[qe8]at ht
 split at ht
 ·rename_i n k
  by_cases e6:k=6
  ·subst e6;simp at ht;subst ht;exact xq8 _
  ·by_cases e1:k=1
   ·subst e1;simp at ht;subst ht;exact xq5 _
   ·by_cases e4:k=4
    ·subst e4;simp at ht;subst ht;exact xq7 _
    ·by_cases e2:k=2
     ·subst e2;simp at ht;subst ht;exact xq6 _
     ·simp[show(k==6)=false from beq_eq_false_iff_ne.2 e6,show(k==1)=false from beq_eq_false_iff_ne.2 e1,show(k==4)=false from beq_eq_false_iff_ne.2 e4,show(k==2)=false from beq_eq_false_iff_ne.2 e2]at ht
 ·cases ht
def zZ0(r:Rc):SV:=match rcB r with
 |true=>.tuple [.str (enc r),I64 0]
 |false=>.tuple [.str [],I64 1]
theorem zZ1(r:Rc):(zZ0 r).data=true:=by unfold zZ0;split<;>rfl
theorem xb5(r:Rc):SCall pP 189 [r.sv] (zZ0 r):=
 o9 mix [qc2,qe8,qb8,z50,qb3] ⟨yq8,yt6,yq4,yj3,yp9,trivial⟩ 1000 (.fork (.all) (.all))
  (t:=let y0:=(9223372036854775807:Int);let y1:=((crc (zY6 r):Nat):Int);let y2:=beN r.src.1 4++beN r.src.2.1 4++beN r.src.2.2.1 4++beN r.src.2.2.2 4;.node (!rcB r) (.leaf (.tuple [SV.str [],I64 1])) (.req (inR r.seq 0 281474976710655) (.req (inR r.kind 0 255) (.req (decide ((((beN r.seq 6).length+(beN r.kind 1).length:Nat):Int)≤y0)) (.req (inR r.line 0 281474976710655) (.req (decide ((((beN r.seq 6++beN r.kind 1).length+(beN r.line 6).length:Nat):Int)≤y0)) (.req (inR r.done 0 4294967295) (.req (decide ((((beN r.seq 6++beN r.kind 1++beN r.line 6).length+(beN r.done 4).length:Nat):Int)≤y0)) (.req (qK5 r.src) (.req (decide ((((beN r.seq 6++beN r.kind 1++beN r.line 6++beN r.done 4).length+y2.length:Nat):Int)≤y0)) (.req (qK5 r.dst) (.req (decide ((((beN r.seq 6++beN r.kind 1++beN r.line 6++beN r.done 4++y2).length+(beN r.dst.1 4++beN r.dst.2.1 4++beN r.dst.2.2.1 4++beN r.dst.2.2.2 4).length:Nat):Int)≤y0)) (.req (decide ((zY6 r).length≤100000)) (.req (inR y1 0 65535) (.req (decide ((((zY6 r).length+(beN y1 2).length:Nat):Int)≤y0)) (.req (decide ((↑(zY6 r++beN y1 2).length:Int)≤58)&&true) (.req (inR r.seq 0 281474976710655) (.req (decide ((((yI2 (zY6 r++beN y1 2) 58).length+(beN r.seq 6).length:Nat):Int)≤y0)) (.leaf (.tuple [SV.str (yI2 (zY6 r++beN y1 2) 58++beN r.seq 6),I64 0]))))))))))))))))))))
  (by kernel_rfl) (by
   unfold zZ0
   refine q84 (fun v=>by rw[v];rfl) fun v=>?_
   rw[v]
   have q:=yU4.1 v
   have v':=v
   simp only[rcB,Bool.and_eq_true]at v'
   have c:=zM5 (zY6 r)
   have l:=zY7 r
   have e:2=(beN ((crc (zY6 r):Nat):Int) 2).length:=(zw4 _ 2).symm
   refine x6 (v8.2 ⟨by omega,by omega⟩) ?_
   refine x6 (v8.2 ⟨by omega,by omega⟩) ?_
   refine x6 (decide_eq_true (by simp only[List.length_append,zw4,zY7,yI2,List.length_replicate];omega)) ?_
   refine x6 (v8.2 ⟨by omega,by omega⟩) ?_
   refine x6 (decide_eq_true (by simp only[List.length_append,zw4,zY7,yI2,List.length_replicate];omega)) ?_
   refine x6 (v8.2 ⟨by omega,by omega⟩) ?_
   refine x6 (decide_eq_true (by simp only[List.length_append,zw4,zY7,yI2,List.length_replicate];omega)) ?_
   refine x6 v'.2.2.2.2.1 ?_
   refine x6 (decide_eq_true (by simp only[List.length_append,zw4,zY7,yI2,List.length_replicate];omega)) ?_
   refine x6 v'.2.2.2.2.2 ?_
   refine x6 (decide_eq_true (by simp only[List.length_append,zw4,zY7,yI2,List.length_replicate];omega)) ?_
   refine x6 (decide_eq_true (by simp only[List.length_append,zw4,zY7,yI2,List.length_replicate];omega)) ?_
   refine x6 (v8.2 ⟨by omega,by omega⟩) ?_
   refine x6 (decide_eq_true (by simp only[List.length_append,zw4,zY7,yI2,List.length_replicate];omega)) ?_
   refine x6 (by simp only[List.length_append,zw4,zY7,Bool.and_true,decide_eq_true_eq];omega) ?_
   refine x6 (v8.2 ⟨by omega,by omega⟩) ?_
   refine x6 (decide_eq_true (by simp only[List.length_append,zw4,zY7,yI2,List.length_replicate];omega)) ?_
   exact rfl) (by kernel_rfl) (by exact zZ1 r)
theorem xi4(s:List UInt8)(a:Int)(h:(decide (0≤a)&& (decide (a+6≤(s.length:Int))&&decide (s.length≤100000)))=true):SCall pP 292 [.str s,I64 a,I64 6] (I64 (tk s a.toNat 6)):=
 o9 mix [qe4] ⟨yt3,trivial⟩ 1000 (.all)
  (t:=.req (decide (0≤a)&& (decide (a+6≤(↑s.length:Int))&&decide (s.length≤100000))) (.leaf (SV.int IntKind.i64 (tk s a.toNat 6))))
  (by kernel_rfl) (by exact x6 h rfl) (by kernel_rfl) (by kernel_rfl)
theorem xi2(s:List UInt8)(a:Int)(h:(decide (0≤a)&& (decide (a+1≤(s.length:Int))&&decide (s.length≤100000)))=true):SCall pP 292 [.str s,I64 a,I64 1] (I64 (tk s a.toNat 1)):=
 o9 mix [qe4] ⟨yt3,trivial⟩ 1000 (.all)
  (t:=.req (decide (0≤a)&& (decide (a+1≤(↑s.length:Int))&&decide (s.length≤100000))) (.leaf (SV.int IntKind.i64 (tk s a.toNat 1))))
  (by kernel_rfl) (by exact x6 h rfl) (by kernel_rfl) (by kernel_rfl)
theorem xi3(s:List UInt8)(a:Int)(h:(decide (0≤a)&& (decide (a+4≤(s.length:Int))&&decide (s.length≤100000)))=true):SCall pP 292 [.str s,I64 a,I64 4] (I64 (tk s a.toNat 4)):=
 o9 mix [qe4] ⟨yt3,trivial⟩ 1000 (.all)
  (t:=.req (decide (0≤a)&& (decide (a+4≤(↑s.length:Int))&&decide (s.length≤100000))) (.leaf (SV.int IntKind.i64 (tk s a.toNat 4))))
  (by kernel_rfl) (by exact x6 h rfl) (by kernel_rfl) (by kernel_rfl)
theorem xd3(s:List UInt8)(a:Int)(h0:0≤a)(h1:a+16≤s.length)(h2:s.length≤100000):SCall pP 293 [.str s,I64 a] (.agg [I64 (sg (tk s a.toNat 4)),I64 (sg (tk s (a+4).toNat 4)),I64 (sg (tk s (a+8).toNat 4)),I64 (sg (tk s (a+12).toNat 4))]):=
 o9 mix [qd8] ⟨ys8,trivial⟩ 1000 (.go (.lit (.go (.lit (.go (.lit (.go (.lit (.go (.lit (.all)))))))))))
  (t:=.req (decide (0≤i64.wrap (a+0))&& (decide (i64.wrap (a+0)+4≤(↑s.length:Int))&&decide (s.length≤100000))) (.req true (.req (decide (0≤i64.wrap (a+4))&& (decide (i64.wrap (a+4)+4≤(↑s.length:Int))&&decide (s.length≤100000))) (.req true (.req (decide (0≤i64.wrap (a+8))&& (decide (i64.wrap (a+8)+4≤(↑s.length:Int))&&decide (s.length≤100000))) (.req true (.req (decide (0≤i64.wrap (a+12))&& (decide (i64.wrap (a+12)+4≤(↑s.length:Int))&&decide (s.length≤100000))) (.req true (.leaf (.agg [I64 (sg (tk s (i64.wrap (a+0)).toNat 4)),I64 (sg (tk s (i64.wrap (a+4)).toNat 4)),I64 (sg (tk s (i64.wrap (a+8)).toNat 4)),I64 (sg (tk s (i64.wrap (a+12)).toNat 4))]))))))))))
  (by kernel_rfl) (by
   rw[f0 (x:=a+0) (by omega) (by omega),f0 (x:=a+4) (by omega) (by omega),f0 (x:=a+8) (by omega) (by omega),f0 (x:=a+12) (by omega) (by omega),Int.add_zero]
   have q:∀x:Int,0≤x→x+4≤s.length→(decide (0≤x)&& (decide (x+4≤(s.length:Int))&&decide (s.length≤100000)))=true:=fun x h k=>by simp;omega
   exact x6 (q _ (by omega) (by omega)) (x6 rfl (x6 (q _ (by omega) (by omega)) (x6 rfl (x6 (q _ (by omega) (by omega)) (x6 rfl (x6 (q _ (by omega) (by omega)) (x6 rfl rfl)))))))) (by kernel_rfl) (by kernel_rfl)
def z99:Fact:=⟨292,fun args=>match args with
 |[.str s,.int .i64 a,.int .i64 k] =>match k==6 with|true=>some (.req (decide (0≤a)&& (decide (a+6≤(s.length:Int))&&decide (s.length≤100000))) (.leaf (I64 (tk s a.toNat 6))))|false=>match k==1 with|true=>some (.req (decide (0≤a)&& (decide (a+1≤(s.length:Int))&&decide (s.length≤100000))) (.leaf (I64 (tk s a.toNat 1))))|false=>match k==4 with|true=>some (.req (decide (0≤a)&& (decide (a+4≤(s.length:Int))&&decide (s.length≤100000))) (.leaf (I64 (tk s a.toNat 4))))|false=>none
 |_=>none⟩
def z69:Fact:=⟨293,fun args=>match args with
 |[.str s,.int .i64 a] =>some (.req (decide (0≤a)&& (decide (a+16≤(s.length:Int))&&decide (s.length≤100000))) (.leaf (.agg [I64 (sg (tk s a.toNat 4)),I64 (sg (tk s (a+4).toNat 4)),I64 (sg (tk s (a+8).toNat 4)),I64 (sg (tk s (a+12).toNat 4))])))
 |_=>none⟩
def z56:Fact:=ql8 189 fun r=>.node (rcB r) (.leaf (.tuple [.str (enc r),I64 0])) (.leaf (.tuple [.str [],I64 1]))
theorem yl2:z69.ok pP:=fun args t ht=>by
 simp only[z69]at ht
 split at ht
 ·injection ht with ht;subst ht
  intro h
  simp only[Bool.and_eq_true,decide_eq_true_eq]at h
  exact xd3 _ _ h.1 h.2.1 h.2.2
 ·cases ht
theorem yj9:z56.ok pP:=ql9 fun r=>by
 have q:=xb5 r
 unfold zZ0 at q
 exact⟨fun v=>by rw[v]at q;exact q,fun v=>by rw[v]at q;exact q⟩
theorem yo1:z99.ok pP:=fun args t ht=>by
 simp only[z99]at ht
 split at ht
 ·rename_i s a k
  by_cases e6:k=6
  ·subst e6;simp at ht;subst ht;intro h;exact xi4 _ _ (by simpa using h)
  ·by_cases e1:k=1
   ·subst e1;simp at ht;subst ht;intro h;exact xi2 _ _ (by simpa using h)
   ·by_cases e4:k=4
    ·subst e4;simp at ht;subst ht;intro h;exact xi3 _ _ (by simpa using h)
    ·simp[show(k==6)=false from beq_eq_false_iff_ne.2 e6,show(k==1)=false from beq_eq_false_iff_ne.2 e1,show(k==4)=false from beq_eq_false_iff_ne.2 e4]at ht
 ·cases ht
def shF(x:Fw):Bool:=shB x.queue&&shI x.lines
abbrev EvT:=OpT×Int×Int
abbrev xS1:Ty:=.pair xS7 (.pair (.int .i64) (.int .i64))
abbrev LE(l:List EvT):SV:=.list xS1 l
def dEv:EvT:=(dOp,0,0)
def flN(n:Nat):Fl:=⟨List.replicate n (List.replicate 64 0),0,false,0⟩
def z64:Fact:=qh0 56 fun f i j=>.req (o7 f) (.leaf (qs6 f i j).sv)
def z66:Fact:=qg8 55 fun f=>.req (o7 f) (.leaf (flPow f).sv)
def z91:Fact:=z90 59
theorem yk7:z64.ok pP:=qh1 fun f i j h=>xc7 f i j h
theorem yk9:z66.ok pP:=qh7 fun f h=>xd0 f h
def qp5:Plan:=.all
noncomputable def qp6(l:List EvT)(m:Int):Tree Stop:= .leaf (.at (j9 pP 52 0) 28 (j8 28 [(0,.list (((Ty.int IntKind.i64).pair (Ty.bool.pair (((Ty.int IntKind.i64).pair ((Ty.int IntKind.i64).pair ((Ty.int IntKind.i64).pair ((Ty.int IntKind.i64).pair ((Ty.int IntKind.i64).pair ((Ty.int IntKind.i64).pair ((Ty.int IntKind.i64).pair (Ty.int IntKind.i64)))))))).pair ((Ty.int IntKind.i64).pair ((Ty.int IntKind.i64).pair (Ty.int IntKind.i64)))))).pair ((Ty.int IntKind.i64).pair (Ty.int IntKind.i64))) l),(1,I64 m),(5,I64 0)]) [])
theorem fe0(l:List EvT)(m:Int):w9 (Env.of pP (v6 [])) 1000 (j7 pP 52) .unit (x8 28 [0,1,5]) (u7 pP 52) qp5 (v9 pP 52 [LE l,I64 m]) [] =qp6 l m:=by kernel_rfl
def qp7:Plan:=.fork (.ln 3 (.fork (.fork .all .all) .all)) (.ln 3 (.lit .all))
noncomputable def qp8(l:List EvT)(m i:Int):Tree Stop:= .node (decide (i< (↑l.length:Int))) (.node (decide (i<m)) (.req (decide (0≤i)&&decide (i< (↑l.length:Int))) (.node (decide ((l.getD i.toNat xS1.dflt).1.2.2.2.1>40)) (.leaf (.done (.bool false))) (.leaf (.at (j9 pP 52 0) 28 (j8 28 [(0,.list (((Ty.int IntKind.i64).pair (Ty.bool.pair (((Ty.int IntKind.i64).pair ((Ty.int IntKind.i64).pair ((Ty.int IntKind.i64).pair ((Ty.int IntKind.i64).pair ((Ty.int IntKind.i64).pair ((Ty.int IntKind.i64).pair ((Ty.int IntKind.i64).pair (Ty.int IntKind.i64)))))))).pair ((Ty.int IntKind.i64).pair ((Ty.int IntKind.i64).pair (Ty.int IntKind.i64)))))).pair ((Ty.int IntKind.i64).pair (Ty.int IntKind.i64))) l),(1,I64 m),(5,I64 (i64.wrap (i+1)))]) [])))) (.leaf (.done (.bool (decide ((↑l.length:Int)≤m)))))) (.leaf (.done (.bool (decide ((↑l.length:Int)≤m)))))
theorem fe1(l:List EvT)(m i:Int):w9 (Env.of pP (v6 [])) 1000 (j7 pP 52) .unit (x8 28 [0,1,5]) (j9 pP 52 0) qp7 (j8 28 [(0,LE l),(1,I64 m),(5,I64 i)]) [] =qp8 l m i:=by kernel_rfl
theorem y85(a b:V4):SCall pP 129 [V4.sv a,V4.sv b] (V4.sv (m8 a b)):=
 xt3 (hB (l:=[]) (k:=[]) (j:=[]) (i:=[]) ([] :List Nat) ([] :List Nat) ([] :List Nat) ([] :List Nat) (trivial) o4 o4 o4) 1000 (.go (.lit (.go (.lit (.go (.lit (.go (.lit (.go (.lit (.all)))))))))))
  (t:=.req (true) (.req true (.req (true) (.req true (.req (true) (.req true (.req (true) (.req true (.req (true) (.req true (.req (true) (.req true (.leaf (.agg [I64 (i64.wrap (a.1+b.1)),I64 (i64.wrap (a.2.1+b.2.1)),I64 (i64.wrap (a.2.2.1+b.2.2.1)),I64 (i64.wrap (a.2.2.2+b.2.2.2))]))))))))))))))
  (by kernel_rfl) (by repeat' (first|exact rfl|refine x6 rfl ?_)) (by kernel_rfl) (by kernel_rfl)
theorem xg3(f:Fw)(kd:Int)(nb:Bool)(c:Gc.C)(n r s:Int)(h:inR f.line 0 1099511627776=true):SCall pP 59 [f.sv,.agg (opL kd nb c n r s)] (I64 (lineV f nb)):=
 xt3 (hB (l:=[]) (k:=[]) (j:=[]) (i:=[]) ([] :List Nat) ([] :List Nat) ([] :List Nat) ([] :List Nat) (trivial) o4 o4 o4) 1000 (.fork (.all) (.all))
  (t:=.node (nb)
 (.leaf (SV.int IntKind.i64 (i64.wrap (f.line+1))))
 (.leaf (SV.int IntKind.i64 0)))
   (by kernel_rfl) (by
    have h:=v8.1 h
    have w:i64.wrap (f.line+1)=f.line+1:=w64 (by omega) (by omega)
    rw[w]
    exact f9 (fun a=>by subst a;rfl) (fun a=>by subst a;rfl)) (by kernel_rfl) (by kernel_rfl)
theorem yn1:z91.ok pP:=qh9 fun f rest t ht=>by
 split at ht
 ·injection ht with ht;subst ht
  exact fun h=>xg3 f _ _ ⟨_,_,_,_,_,_,_,_⟩ _ _ _ h
 ·cases ht
def z31:Fact:=qn1 129 fun a b=>.leaf (V4.sv (m8 a b))
theorem yg7:z31.ok pP:=qn2 fun a b=>y85 a b
def qt7:Plan:=.ln 4 (.go (.lit (.go (.lit (.go (.lit (.go (.lit (.go (.lit (.go (.lit (.go (.lit .all))))))))))))))
noncomputable def qt8(u:Unit):Tree Stop:= .req (true) (.req true (.req (true) (.req true (.req (true) (.req true (.req (true) (.req true (.req (true) (.req true (.req (true) (.req true (.leaf (.done (.tuple [.agg [.list Ty.str ([List.map (fun n=>UInt8.ofNat (Int.toNat n)) (List.replicate 64 0)] ++[List.map (fun n=>UInt8.ofNat (Int.toNat n)) (List.replicate 64 0)] ++[List.map (fun n=>UInt8.ofNat (Int.toNat n)) (List.replicate 64 0)] ++[List.map (fun n=>UInt8.ofNat (Int.toNat n)) (List.replicate 64 0)] ++[List.map (fun n=>UInt8.ofNat (Int.toNat n)) (List.replicate 64 0)] ++[List.map (fun n=>UInt8.ofNat (Int.toNat n)) (List.replicate 64 0)]),I64 0,.bool false,I64 0],I64 0]))))))))))))))
theorem fn6(u:Unit):w9 (Env.of pP (v6 [])) 1000 (j7 pP 51) .str (x8 25 []) (u7 pP 51) qt7 (v9 pP 51 [I64 6]) [] =qt8 u:=by kernel_rfl
def qt5:Plan:=.ln 4 (.go (.lit (.go (.lit (.go (.lit (.go (.lit (.go (.lit .all))))))))))
noncomputable def qt6(u:Unit):Tree Stop:= .req (true) (.req true (.req (true) (.req true (.req (true) (.req true (.req (true) (.req true (.leaf (.done (.tuple [.agg [.list Ty.str ([List.map (fun n=>UInt8.ofNat (Int.toNat n)) (List.replicate 64 0)] ++[List.map (fun n=>UInt8.ofNat (Int.toNat n)) (List.replicate 64 0)] ++[List.map (fun n=>UInt8.ofNat (Int.toNat n)) (List.replicate 64 0)] ++[List.map (fun n=>UInt8.ofNat (Int.toNat n)) (List.replicate 64 0)]),I64 0,.bool false,I64 0],I64 0]))))))))))
theorem fn4(u:Unit):w9 (Env.of pP (v6 [])) 1000 (j7 pP 51) .str (x8 25 []) (u7 pP 51) qt5 (v9 pP 51 [I64 4]) [] =qt6 u:=by kernel_rfl
end Go.Proofs.YtnkaepnblikcdaaGreat
namespace Go.Sx
open Go.RowKit
theorem setT_flat{β:Type}:∀ (d:Nat) (t:Tb β) (i:Nat) (v:Option β),(∃t',∀ (α:Type) (k:Tb β→Tree α),n9 d t i v k=k t')∨∃n,∀ (α:Type) (k:Tb β→Tree α),n9 d t i v k=.fail n
 |0,t,i,v=>.inr ⟨3,fun _ _=>rfl⟩
 |d+1,.e,0,v=>.inl ⟨_,fun _ _=>rfl⟩
 |d+1,.n l u r,0,v=>.inl ⟨_,fun _ _=>rfl⟩
 |d+1,.e,j+1,v=>by
  by_cases hj:j % 2=0
  ·have e:∀ (α:Type) (k:Tb β→Tree α),n9 (d+1) .e (j+1) v k=n9 d .e (j / 2) v fun l=>k (.n l none .e):=fun α k=>by
    change Tb.pick j (fun i=>n9 d .e i v fun l=>k (.n l none .e)) (fun i=>n9 d .e i v fun r=>k (.n .e none r))=_
    rw[Tb.pick_even hj]
   rcases setT_flat d .e (j / 2) v with⟨t',h⟩|⟨n,h⟩
   ·exact .inl ⟨_,fun α k=>by rw[e,h]⟩
   ·exact .inr ⟨n,fun α k=>by rw[e,h]⟩
  ·have e:∀ (α:Type) (k:Tb β→Tree α),n9 (d+1) .e (j+1) v k=n9 d .e (j / 2) v fun r=>k (.n .e none r):=fun α k=>by
    change Tb.pick j (fun i=>n9 d .e i v fun l=>k (.n l none .e)) (fun i=>n9 d .e i v fun r=>k (.n .e none r))=_
    rw[Tb.pick_odd hj]
   rcases setT_flat d .e (j / 2) v with⟨t',h⟩|⟨n,h⟩
   ·exact .inl ⟨_,fun α k=>by rw[e,h]⟩
   ·exact .inr ⟨n,fun α k=>by rw[e,h]⟩
 |d+1,.n l u r,j+1,v=>by
  by_cases hj:j % 2=0
  ·have e:∀ (α:Type) (k:Tb β→Tree α),n9 (d+1) (.n l u r) (j+1) v k=n9 d l (j / 2) v fun l=>k (.n l u r):=fun α k=>by
    change Tb.pick j (fun i=>n9 d l i v fun l=>k (.n l u r)) (fun i=>n9 d r i v fun r=>k (.n l u r))=_
    rw[Tb.pick_even hj]
   rcases setT_flat d l (j / 2) v with⟨t',h⟩|⟨n,h⟩
   ·exact .inl ⟨_,fun α k=>by rw[e,h]⟩
   ·exact .inr ⟨n,fun α k=>by rw[e,h]⟩
  ·have e:∀ (α:Type) (k:Tb β→Tree α),n9 (d+1) (.n l u r) (j+1) v k=n9 d r (j / 2) v fun r=>k (.n l u r):=fun α k=>by
    change Tb.pick j (fun i=>n9 d l i v fun l=>k (.n l u r)) (fun i=>n9 d r i v fun r=>k (.n l u r))=_
    rw[Tb.pick_odd hj]
   rcases setT_flat d r (j / 2) v with⟨t',h⟩|⟨n,h⟩
   ·exact .inl ⟨_,fun α k=>by rw[e,h]⟩
   ·exact .inr ⟨n,fun α k=>by rw[e,h]⟩
section
variable {α:Type} {Φ:α→Prop}
theorem xu2{β:Type}{d:Nat}{t:Tb β}{i:Nat}{v:Option β}{k:Tb β→Tree α}(h:∀t',ze3 t i v t'→(k t').says Φ):(n9 d t i v k).says Φ:=by
 rcases setT_flat d t i v with⟨t',h1⟩|⟨n,h1⟩
 ·rw[h1]
  obtain⟨t2,g1,g2⟩:=qF5 (L:=fun x=>x=t') d t i v .leaf (by rw[h1];exact rfl)
  obtain rfl:t2=t':=g2
  exact h _ g1
 ·rw[h1];trivial
theorem Mem.set_says{m:Mem}{id:Nat}{b:Option Box}{k:Mem→Tree α}(h:∀m',zc0 m id b m'→(k m').says Φ):(m.set id b k).says Φ:=
 xu2 fun tb htb=>h _ ⟨htb,rfl⟩
end
theorem yc4{w:World}{g o:Nat}{arr:Array Value}{e:TypeId}{fr:Nat×Nat}(hg:w.heap[g]? =some (.cells arr e fr))(hu:xU2 arr fr)(hl:o<arr.size):w.frozen? ⟨g,o,none⟩=false:=by
 have:=hu o hl
 simp only[World.frozen?,hg]
 by_cases h2:fr.1≤o
 ·have h3:¬o<fr.2:=fun h3=>this ⟨h2,h3⟩
  simp[h3]
 ·simp[h2]
inductive Wk (nz:Bool) (boxes:List (Option Box)) (fz:List Nat):SV→SV→Prop where
 |same (x:SV):Wk nz boxes fz x x
 |top (x:SV):Wk nz boxes fz x .top
 |nil (h:nz=true):Wk nz boxes fz .nilS (.row boxes.length)
 |frz {id:Nat} {t:Ty} {l:List t.T} (hid:id∈fz) (hb:boxes[id]? =some (some (.rows t l))):Wk nz boxes fz (.row id) (.list t l)
def WkL(nz:Bool)(boxes:List (Option Box))(fz:List Nat):List SV→List SV→Prop
 |[],[] =>True
 |x::xs,y::ys=>Wk nz boxes fz x y∧WkL nz boxes fz xs ys
 |_,_=>False
def WkK(nz:Bool)(boxes:List (Option Box))(fz:List Nat):List (Nat×SV)→List (Nat×SV)→Prop
 |[],[] =>True
 |x::xs,y::ys=>x.1=y.1∧Wk nz boxes fz x.2 y.2∧WkK nz boxes fz xs ys
 |_,_=>False
inductive WkB (nz:Bool) (boxes:List (Option Box)) (fz:List Nat):Box→Box→Prop where
 |same (B:Box):WkB nz boxes fz B B
 |cells {cs ds:List SV} (h:WkL nz boxes fz cs ds):WkB nz boxes fz (.cells cs) (.cells ds)
def ze5(nz:Bool)(boxes:List (Option Box))(fz:List Nat):Nat→List (Option Box)→List (Option Box)→Prop
 |_,[],[] =>nz=false
 |_,[],some (.rows _ [])::[] =>True
 |i,_::bs,none::bs'=>ze5 nz boxes fz (i+1) bs bs'
 |i,some B::bs,some B'::bs'=>i∉fz∧WkB nz boxes fz B B'∧ze5 nz boxes fz (i+1) bs bs'
 |_,_,_=>False
section
variable {nz:Bool} {boxes:List (Option Box)} {fz:List Nat}
theorem WkL.length:∀{l l':List SV},WkL nz boxes fz l l'→l'.length=l.length
 |[],[],_=>rfl
 |x::xs,y::ys,h=>by simp[WkL.length h.2]
theorem WkL.get:∀{l l':List SV},WkL nz boxes fz l l'→∀{i:Nat} {y:SV},l'[i]? =some y→∃x,l[i]? =some x∧Wk nz boxes fz x y
 |[],[],_,i,y,h=>by simp at h
 |x::xs,z::ys,h,0,y,hy=>by
  simp at hy;subst hy
  exact⟨x,rfl,h.1⟩
 |x::xs,z::ys,h,i+1,y,hy=>by
  simpa using WkL.get h.2 (i:=i) (y:=y) (by simpa using hy)
theorem WkK.lookup:∀{ks ks':List (Nat×SV)},WkK nz boxes fz ks ks'→∀i,Wk nz boxes fz ((ks.lookup i).getD .top) ((ks'.lookup i).getD .top)
 |[],[],_,i=>.same _
 |x::xs,y::ys,h,i=>by
  obtain⟨h1,h2,h3⟩:=h
  obtain⟨a,x⟩:=x
  obtain⟨b,y⟩:=y
  dsimp only at h1 h2
  subst h1
  simp only[List.lookup]
  cases(i==a)with
  |true=>exact h2
  |false=>exact WkK.lookup h3 i
theorem xw0{n:Nat}{ks ks':List (Nat×SV)}(h:WkK nz boxes fz ks ks'):WkL nz boxes fz (j8 n ks) (j8 n ks'):=by
 unfold j8
 induction List.range n with
 |nil=>trivial
 |cons i l ih=>exact⟨h.lookup i,ih⟩
theorem ze5.len:∀{i:Nat} {bs bs':List (Option Box)},ze5 nz boxes fz i bs bs'→bs.length≤bs'.length
 |_,[],[],_=>Nat.le_refl _
 |_,[],some (.rows _ [])::[],_=>by simp
 |i,_::bs,none::bs',h=>by simpa using ze5.len (i:=i+1) (bs:=bs) (bs':=bs') h
 |i,some B::bs,some B'::bs',h=>by simpa using ze5.len (i:=i+1) h.2.2
theorem ze5.len2(hz:nz=true):∀{i:Nat} {bs bs':List (Option Box)},ze5 nz boxes fz i bs bs'→bs.length<bs'.length
 |_,[],[],h=>by rw[show nz=false from h]at hz;cases hz
 |_,[],some (.rows _ [])::[],_=>by simp
 |i,_::bs,none::bs',h=>by simpa using ze5.len2 hz (i:=i+1) (bs:=bs) (bs':=bs') h
 |i,some B::bs,some B'::bs',h=>by simpa using ze5.len2 hz (i:=i+1) h.2.2
theorem ze5.get:∀{i:Nat} {bs bs':List (Option Box)},ze5 nz boxes fz i bs bs'→∀{j:Nat} {B':Box},(bs'[j]?).join=some B'→(∃B,(bs[j]?).join=some B∧i+j∉fz∧WkB nz boxes fz B B')∨(j=bs.length∧∃t,B'=.rows t [])
 |_,[],[],_,j,B',h=>by simp at h
 |_,[],some (.rows t [])::[],_,0,B',h=>by
  simp at h;subst h
  exact .inr ⟨rfl,t,rfl⟩
 |_,[],some (.rows t [])::[],_,j+1,B',h=>by simp at h
 |i,_::bs,none::bs',h,0,B',hj=>by simp at hj
 |i,x::bs,none::bs',h,j+1,B',hj=>by
  have:=ze5.get (i:=i+1) (bs:=bs) (bs':=bs') h (j:=j) (B':=B') (by simpa using hj)
  simpa[Nat.add_assoc,Nat.add_comm 1 j]using this
 |i,some B::bs,some C::bs',h,0,B',hj=>by
  simp at hj;subst hj
  exact .inl ⟨B,rfl,by simpa using h.1,h.2.1⟩
 |i,some B::bs,some C::bs',h,j+1,B',hj=>by
  have:=ze5.get (i:=i+1) h.2.2 (j:=j) (B':=B') (by simpa using hj)
  simpa[Nat.add_assoc,Nat.add_comm 1 j]using this
theorem zd5.weak{ds:List Deferred}{slots slots':List SV}{boxes':List (Option Box)}{fr fr':Fr}{m m':Mem}(hc:Canon slots boxes fr m)(hc':Canon slots' boxes' fr' m')(hs:WkL nz boxes fz slots slots')(hb:ze5 nz boxes fz 0 boxes boxes'){w0:World}{R0:RSet}{ρ:Rho}{w:World}{a:Act}(h:zd5 ds w0 R0 ρ w fr m a):
  zd5 ds w0 R0 (upd ρ boxes.length (0,0,0)) w fr' m' a∧∀b,RO w0 R0 ρ w m b→RO w0 R0 (upd ρ boxes.length (0,0,0)) w m' b:=by
 obtain⟨h1,h2,h3⟩:=h
 have hlen:=hb.len
 have hn:m.next=boxes.length:=hc.next
 have hn':m'.next=boxes'.length:=hc'.next
 -- where each box comes from
 have hg:∀id B',m'.get id=some B'→(∃B,m.get id=some B∧id≠boxes.length∧id∉fz∧WkB nz boxes fz B B')∨(id=boxes.length∧∃t,B'=.rows t []):=fun id B' hB=>by
  rw[hc'.box]at hB
  rcases hb.get hB with⟨B,k1,k2,k3⟩|k
  ·refine .inl ⟨B,by rw[hc.box];exact k1,fun e=>?_,by simpa using k2,k3⟩
   subst e
   simp at k1
  ·exact .inr k
 have hsol:∀{B B':Box} {r:Nat×Nat×Nat},WkB nz boxes fz B B'→(xw3 r B'↔xw3 r B):=fun hw=>by
  cases hw with
  |same=>exact Iff.rfl
  |cells=>exact Iff.rfl
 have hro:∀b,RO w0 R0 ρ w m b→RO w0 R0 (upd ρ boxes.length (0,0,0)) w m' b:=fun b hb2=>by
  rcases hb2 with hb2|⟨k1,k2,k3,k4⟩
  ·exact .inl hb2
  ·refine .inr ⟨k1,k2,fun id B' hB hs'=>?_,k4⟩
   rcases hg id B' hB with⟨B,g1,g2,g3,g4⟩|⟨rfl,t,rfl⟩
   ·rw[t4 _ _ g2]at hs' ⊢
    exact k3 id B g1 ((hsol g4).1 hs')
   ·rw[s9]at hs';exact absurd hs' (Nat.lt_irrefl _)
 have e:Ext (RO w0 R0 ρ w m) ρ m.next w (RO w0 R0 (upd ρ boxes.length (0,0,0)) w m') (upd ρ boxes.length (0,0,0)) m'.next w:=⟨by omega,fun id hid=>t4 _ _ (by omega),fun b hb2=>⟨hro b hb2,rfl⟩⟩
 have hval:∀ (x y:SV) (v:Value),Wk nz boxes fz x y→Rep (RO w0 R0 ρ w m) ρ m.next w x v→Rep (RO w0 R0 (upd ρ boxes.length (0,0,0)) w m') (upd ρ boxes.length (0,0,0)) m'.next w y v:=by
  intro x y v hw hr
  cases hw with
  |same=>exact Rep.mono e _ _ hr
  |top=>trivial
  |nil hz=>
   rw[show v=_ from hr]
   have hx:=hb.len2 hz
   exact⟨by omega,none,by rw[s9],fun h0=>by rw[s9]at h0;exact absurd h0 (Nat.lt_irrefl _)⟩
  |frz hid hb1=>
   rename_i id t l
   obtain⟨_,a,hu,ha⟩:=hr
   have hgid:m.get id=some (.rows t l):=by rw[hc.box,hb1];rfl
   obtain⟨b1,b2,hp⟩:=h1.box id _ hgid
   refine⟨a,(ρ id).2.2,by rw[hu,b1],b2,fun h0=>?_⟩
   have h0:0< (ρ id).2.2:=Nat.lt_of_lt_of_le h0 b2
   obtain⟨arr,el,fr,k1,k2,k3,k4⟩:=hp h0
   refine⟨(ρ id).1,0,ha h0,.inr ⟨h1.lo id _ hgid h0,h1.hi id _ hgid h0,fun id' B' hB hs' heq=>?_,h1.hid.2 id _ hgid h0⟩,fun i hi=>?_⟩
   ·rcases hg id' B' hB with⟨B,g1,g2,g3,g4⟩|⟨rfl,t,rfl⟩
    ·rw[t4 _ _ g2]at hs' heq
     have:=h1.inj id' id B _ g1 hgid ((hsol g4).1 hs') h0 heq
     subst this
     exact g3 hid
    ·rw[s9]at hs';exact absurd hs' (Nat.lt_irrefl _)
   ·obtain⟨cs,c1,c2,c3⟩:=k4 i hi
    refine⟨cs,c1,fun j hj=>?_,p8.mono e.keep _ _ _ c3⟩
    rw[cell_of_row w _ _ arr el fr k1,Nat.zero_add]
    exact c2 j hj
 have hvalL:∀ (xs ys:List SV) (vs:List Value),WkL nz boxes fz xs ys→j6 (RO w0 R0 ρ w m) ρ m.next w xs vs→j6 (RO w0 R0 (upd ρ boxes.length (0,0,0)) w m') (upd ρ boxes.length (0,0,0)) m'.next w ys vs:=by
  intro xs
  induction xs with
  |nil=>
   intro ys vs hw hr
   cases ys with
   |nil=>exact hr
   |cons _ _=>exact hw.elim
  |cons x xs ih=>
   intro ys vs hw hr
   cases ys with
   |nil=>exact hw.elim
   |cons y ys=>
    obtain⟨u,us,rfl,r1,r2⟩:=hr
    exact⟨u,us,rfl,hval x y u hw.1 r1,ih ys us hw.2 r2⟩
 refine⟨⟨⟨h1.below,fun id B' hB=>?_,fun id B' hB hs'=>?_,fun id B' hB hs'=>?_,fun id id' B' C' hB hC hs1 hs2 heq=>?_,fun id B' hB=>?_,h1.hid.1,fun id B' hB hs'=>?_⟩,⟨?_,fun t=>?_⟩,h3⟩,hro⟩
 ·rw[hn']
  rw[hc'.box]at hB
  rcases Nat.lt_or_ge id boxes'.length with k|k
  ·exact k
  ·rw[List.getElem?_eq_none k]at hB;cases hB
 ·rcases hg id B' hB with⟨B,g1,g2,g3,g4⟩|⟨rfl,t,rfl⟩
  ·rw[t4 _ _ g2]at hs' ⊢;exact h1.lo id B g1 ((hsol g4).1 hs')
  ·rw[s9]at hs';exact absurd hs' (Nat.lt_irrefl _)
 ·rcases hg id B' hB with⟨B,g1,g2,g3,g4⟩|⟨rfl,t,rfl⟩
  ·rw[t4 _ _ g2]at hs' ⊢;exact h1.hi id B g1 ((hsol g4).1 hs')
  ·rw[s9]at hs';exact absurd hs' (Nat.lt_irrefl _)
 ·rcases hg id B' hB with⟨B,g1,g2,g3,g4⟩|⟨rfl,t,rfl⟩
  ·rcases hg id' C' hC with⟨C,g1',g2',g3',g4'⟩|⟨rfl,t',rfl⟩
   ·rw[t4 _ _ g2]at hs1 heq;rw[t4 _ _ g2']at hs2 heq
    exact h1.inj id id' B C g1 g1' ((hsol g4).1 hs1) ((hsol g4').1 hs2) heq
   ·rw[s9]at hs2;exact absurd hs2 (Nat.lt_irrefl _)
  ·rw[s9]at hs1;exact absurd hs1 (Nat.lt_irrefl _)
 ·rcases hg id B' hB with⟨B,g1,g2,g3,g4⟩|⟨rfl,t,rfl⟩
  ·rw[t4 _ _ g2]
   cases g4 with
   |same=>exact za2.mono e _ (fun _=>rfl) (h1.box id _ g1)
   |cells hw=>
    obtain⟨arr,el,fr2,k1,k2,k3⟩:=h1.box id _ g1
    exact⟨arr,el,fr2,k1,k2,hvalL _ _ _ hw k3⟩
  ·rw[s9]
   exact⟨rfl,Nat.le_refl _,fun h0=>absurd h0 (Nat.lt_irrefl _)⟩
 ·rcases hg id B' hB with⟨B,g1,g2,g3,g4⟩|⟨rfl,t,rfl⟩
  ·rw[t4 _ _ g2]at hs' ⊢;exact h1.hid.2 id B g1 ((hsol g4).1 hs')
  ·rw[s9]at hs';exact absurd hs' (Nat.lt_irrefl _)
 ·rw[hc'.size,hs.length,←hc.size];exact h2.1
 ·rw[hc'.get t,List.getD_eq_getElem?_getD]
  cases hx:slots'[t]? with
  |none=>
   have ht:slots'.length≤t:=by simpa using hx
   have:a.tmps.getD t Go.undef=Go.undef:=by
    rw[Array.getD_eq_getD_getElem?,Array.getElem?_eq_none (by rw[←h2.1,hc.size,←hs.length];exact ht)]
    rfl
   rw[this];exact rfl
  |some y=>
   obtain⟨x,hx1,hw⟩:=hs.get hx
   refine hval x y _ hw ?_
   have:=h2.2 t
   rw[hc.get t,List.getD_eq_getElem?_getD,hx1]at this
   exact this
end
theorem y68{P:Program}(nz:Bool){fn:Func}{v:SV}{items:List Item}{slots slots':List SV}{boxes boxes':List (Option Box)}(fz:List Nat)(hs:WkL nz boxes fz slots slots')(hb:ze5 nz boxes fz 0 boxes boxes')(h:b8 P fn v items slots' boxes'):b8 P fn v items slots boxes:=by
 intro fr m hc w0 R0 ρ w a hS b cs
 obtain⟨fr',m',hc'⟩:=Canon.of (slots:=slots') (boxes:=boxes')
 obtain⟨h1,h2⟩:=zd5.weak hc hc' hs hb hS
 obtain⟨ρ',w',a',todo,u,q1,q2,q3,q4,q5,q6⟩:=h fr' m' hc' w0 R0 _ w a h1 b cs
 exact⟨ρ',w',a',todo,u,q1,q2,fun b hb2=>q3 b (h2 b hb2),q4,q5,q6⟩
end Go.Sx
namespace Go.Proofs.YtnkaepnblikcdaaGreat
open Go.Sx
section
variable {f g:Fw} {line:Int} {c:Gc.C}
end
def y03(d:V4):V4:=(0,0,d.2.2.1,0)
def y05(d:V4):V4:=(d.1,d.2.1,0,0)
def y09(f:Fw)(d:V4):Bool:=(!nz4 (y03 d)||zk6 f (y03 d) 0)&& (!(backOk f (y03 d)&&nz4 (y05 d))||zk6 (f5 f (y03 d)) (y05 d) 0)
theorem y26{f:Fw}{d:V4}:y09 f d=true↔(nz4 (y03 d)=true→zk6 f (y03 d) 0=true)∧(backOk f (y03 d)=true→nz4 (y05 d)=true→zk6 (f5 f (y03 d)) (y05 d) 0=true):=by
 unfold y09
 cases nz4 (y03 d)<;>cases nz4 (y05 d)<;>cases backOk f (y03 d)<;>simp
def y08(f:Fw)(d:V4):Bool:=backOk f (y03 d)&&backOk (f5 f (y03 d)) (y05 d)
def y07(f:Fw)(d:V4):Fw:=f5 (f5 f (y03 d)) (y05 d)
theorem nzC{d:V4}:nz4 (y03 d)=true↔¬d.2.2.1=0:=by unfold nz4 y03;simp
theorem nzD{d:V4}:nz4 (y05 d)=true↔¬d.1=0∨¬d.2.1=0:=by unfold nz4 y05;simp
section
variable {f g:Fw} {line:Int} {r:V4}
end
section
variable {f:Fw} {line:Int} {c:Gc.C}
end
section
variable {f:Fw} {line:Int} {c:Gc.C}
end
section
variable {f g:Fw} {line:Int} {c:Gc.C}
end
theorem x28{n:Int}(h:(Lit.int .i64 n).wf=true): -9223372036854775808≤n∧n≤9223372036854775807:=by
 have h:(decide ((-9223372036854775808:Int)≤n)&&decide (n≤(9223372036854775807:Int)))=true:=h
 simpa using h
theorem xv1{x:Fw}(h:v5 x=true):shF x=true:=by
 have v:=p7 h
 have l:=v.len
 have k:=v.lens
 unfold shF shB shI
 rw[Bool.and_eq_true,decide_eq_true_eq,decide_eq_true_eq];omega
def yL7(l:Fl):Bool:=(l.pages.all fun p=>decide ((p.length:Int)≤100))&&decide ((l.pages.length:Int)≤20)
theorem yL8{l:Fl}:yL7 l=true↔(∀i,i<l.pages.length→((l.pages.getD i []).length:Int)≤100)∧(l.pages.length:Int)≤20:=by
 simp only[yL7,Bool.and_eq_true,List.all_eq_true,decide_eq_true_eq]
 refine and_congr ⟨fun h i hi=>?_,fun h x hx=>?_⟩ Iff.rfl
 ·rw[List.getD_eq_getElem?_getD,List.getElem?_eq_getElem hi];exact h _ (List.getElem_mem hi)
 ·obtain⟨i,hi,rfl⟩:=List.getElem_of_mem hx
  have:=h i hi
  rw[List.getD_eq_getElem?_getD,List.getElem?_eq_getElem hi]at this;exact this
def evN(x:EvT):Int:=opN x.1
def qq7(l:List EvT)(m:Int):Bool:=(l.all fun x=>decide (evN x≤40))&&decide ((l.length:Int)≤m)
theorem qq8{l:List EvT}{m:Int}:qq7 l m=true↔(∀i,i<l.length→evN (l.getD i dEv)≤40)∧(l.length:Int)≤m:=by
 simp only[qq7,Bool.and_eq_true,List.all_eq_true,decide_eq_true_eq]
 refine and_congr ⟨fun h i hi=>?_,fun h x hx=>?_⟩ Iff.rfl
 ·rw[List.getD_eq_getElem?_getD,List.getElem?_eq_getElem hi];exact h _ (List.getElem_mem hi)
 ·obtain⟨i,hi,rfl⟩:=List.getElem_of_mem hx
  have:=h i hi
  rw[List.getD_eq_getElem?_getD,List.getElem?_eq_getElem hi]at this;exact this
theorem qp9(l:List EvT)(m:Int)(hl:l.length≤9223372036854775807):∀ (k i:Nat),i+k=l.length→(∀t,t<i→evN (l.getD t dEv)≤40)→
  b8 pP (j7 pP 52) (.bool (qq7 l m)) (j9 pP 52 0) (j8 28 [(0,LE l),(1,I64 m),(5,I64 i)]) []
 |k,i,hi,hb=>by
  refine w6 k00 (n:=1000) (hint:=.unit) (keep:=x8 28 [0,1,5]) (p:=qp7) rfl ?_
  erw [fe1 l m i]
  unfold qp8
  have t0:(i:Int).toNat=i:=by omega
  have fin:(¬(i:Int)<l.length∨¬(i:Int)<m)→SV.bool (decide ((l.length:Int)≤m))=.bool (qq7 l m):=fun h=>by
   refine congrArg SV.bool (Bool.eq_iff_iff.2 ?_)
   rw[qq8,decide_eq_true_eq]
   refine⟨fun a=>⟨fun t ht=>hb t (by omega),a⟩,fun a=>a.2⟩
  rw[t0]
  match k,hi with
  |0,hi=>exact o5 (fun a=>absurd a (by omega)) fun a=>fin (.inl a)
  |k+1,hi=>
   have w1:i64.wrap ((i:Int)+1)=((i+1:Nat):Int):=by rw[w64 (by omega) (by omega)];omega
   rw[w1]
   refine o5 (fun a=>o5 (fun b=>x6 (by simp;omega) (o5 (fun c=>?_) (fun c=>?_))) fun b=>fin (.inr b)) fun a=>fin (.inl a)
   ·show SV.bool false=_
    refine congrArg SV.bool (Eq.symm (Bool.eq_false_iff.2 fun h=>?_))
    have:=(qq8.1 h).1 i (by omega)
    have c:evN (l.getD i dEv)>40:=c
    omega
   ·refine⟨o8 _ _,qp9 l m hl k (i+1) (by omega) fun t ht=>?_⟩
    rcases Nat.lt_or_ge t i with q|q
    ·exact hb t q
    ·obtain rfl:t=i:=by omega
     have c:¬evN (l.getD t dEv)>40:=c
     omega
theorem xc1(l:List EvT)(m:Int)(hl:l.length≤9223372036854775807):SCall pP 52 [LE l,I64 m] (.bool (qq7 l m)):=by
 refine m6 rfl rfl (by kernel_rfl) (w6 k00 (n:=1000) (hint:=.unit) (keep:=x8 28 [0,1,5]) (p:=qp5) (boxes:=[]) rfl ?_)
 have q:=fe0 l m
 unfold v9 u7 at q
 erw [q]
 unfold qp6
 exact⟨o8 _ _,qp9 l m hl l.length 0 (by omega) fun t ht=>absurd ht (Nat.not_lt_zero _)⟩
def qV2(l:List EvT):Bool:=Nat.ble l.length 9223372036854775807
theorem qV3{l:List EvT}:qV2 l=true↔l.length≤9223372036854775807:=by unfold qV2;rw[Nat.ble_eq]
def z58:Fact:=⟨52,fun args=>match args with
 |[.list (.pair (.pair (.int .i64) (.pair .bool (.pair (.pair (.int .i64) (.pair (.int .i64) (.pair (.int .i64) (.pair (.int .i64) (.pair (.int .i64) (.pair (.int .i64) (.pair (.int .i64) (.int .i64)))))))) (.pair (.int .i64) (.pair (.int .i64) (.int .i64)))))) (.pair (.int .i64) (.int .i64))) l,.int .i64 m] =>some (.req (qV2 l) (.leaf (.bool (qq7 l m))))
 |_=>none⟩
theorem yk1:z58.ok pP:=fun args t ht=>by
 simp only[z58]at ht
 split at ht
 ·injection ht with ht;subst ht
  exact fun h=>xc1 _ _ (qV3.1 h)
 ·cases ht
theorem xk8(a b:V4):SCall pP 106 [V4.sv a,V4.sv b,I64 1] (V4.sv (m8 a b)):=
 o9 mix [] trivial 1000 (.go (.lit (.go (.lit (.go (.lit (.go (.lit (.go (.lit (.all)))))))))))
  (t:=.req (true) (.req true (.req (true) (.req true (.req (true) (.req true (.req (true) (.req true (.req (true) (.req true (.req (true) (.req true (.leaf (.agg [I64 (i64.wrap (a.1+i64.wrap (1*b.1))),I64 (i64.wrap (a.2.1+i64.wrap (1*b.2.1))),I64 (i64.wrap (a.2.2.1+i64.wrap (1*b.2.2.1))),I64 (i64.wrap (a.2.2.2+i64.wrap (1*b.2.2.2)))]))))))))))))))
  (by kernel_rfl) (by
   have w1:∀x y:Int,i64.wrap (x+i64.wrap (1*y))=i64.wrap (x+y):=fun x y=>by
    rw[IntKind.wrap_i64,IntKind.wrap_i64,IntKind.wrap_i64];omega
   rw[w1,w1,w1,w1]
   refine x6 rfl (x6 rfl (x6 rfl (x6 rfl (x6 rfl (x6 rfl (x6 rfl (x6 rfl (x6 rfl (x6 rfl (x6 rfl (x6 rfl rfl)))))))))))) (by kernel_rfl) (by kernel_rfl)
theorem xk4(a b:V4):SCall pP 106 [V4.sv a,V4.sv b,I64 (-1)] (V4.sv (wsub4 a b)):=
 o9 mix [] trivial 1000 (.go (.lit (.go (.lit (.go (.lit (.go (.lit (.go (.lit (.all)))))))))))
  (t:=.req (true) (.req true (.req (true) (.req true (.req (true) (.req true (.req (true) (.req true (.req (true) (.req true (.req (true) (.req true (.leaf (.agg [I64 (i64.wrap (a.1+i64.wrap (-1*b.1))),I64 (i64.wrap (a.2.1+i64.wrap (-1*b.2.1))),I64 (i64.wrap (a.2.2.1+i64.wrap (-1*b.2.2.1))),I64 (i64.wrap (a.2.2.2+i64.wrap (-1*b.2.2.2)))]))))))))))))))
  (by kernel_rfl) (by
   have w1:∀x y:Int,i64.wrap (x+i64.wrap (-1*y))=i64.wrap (x-y):=fun x y=>by
    rw[IntKind.wrap_i64,IntKind.wrap_i64,IntKind.wrap_i64];omega
   rw[w1,w1,w1,w1]
   refine x6 rfl (x6 rfl (x6 rfl (x6 rfl (x6 rfl (x6 rfl (x6 rfl (x6 rfl (x6 rfl (x6 rfl (x6 rfl (x6 rfl rfl)))))))))))) (by kernel_rfl) (by kernel_rfl)
theorem xl0(c:V4):SCall pP 105 [V4.sv c] (.bool (v7 c)):=
 o9 mix [] trivial 1000 (let z0:Plan:=.lit (.lit (.lit .all));.go (.lit (.fork z0 (.lit (.lit (.fork .all (.go (.lit (.fork z0 (.lit (.lit (.fork .all (.go (.lit (.fork z0 (.lit (.lit (.fork .all (.go (.lit (.fork z0 (.lit (.lit (.fork .all (.go (.lit .all))))))))))))))))))))))))))
  (t:=let y0:Tree SV:=.leaf (.bool false);.req (true) (.node (decide (c.1 < -16777216)) y0 (.node (decide (c.1>16777216)) y0 (.req true (.node (decide (c.2.1 < -16777216)) y0 (.node (decide (c.2.1>16777216)) y0 (.req true (.node (decide (c.2.2.1 < -16777216)) y0 (.node (decide (c.2.2.1>16777216)) y0 (.req true (.node (decide (c.2.2.2 < -16777216)) y0 (.node (decide (c.2.2.2>16777216)) y0 (.leaf (.bool true))))))))))))))
  (by kernel_rfl) (by
   have q:∀b:Bool,(b=true↔v7 c=true)→SV.bool b=SV.bool (v7 c):=fun b h=>by rw[Bool.eq_iff_iff.2 h]
   have nf:=@t8 c
   refine x6 rfl (o5 (fun a=>q _ ?_) fun a=>o5 (fun a2=>q _ ?_) fun a2=>x6 rfl (o5 (fun b=>q _ ?_) fun b=>o5 (fun b2=>q _ ?_) fun b2=>x6 rfl (o5 (fun d=>q _ ?_) fun d=>o5 (fun d2=>q _ ?_) fun d2=>x6 rfl (o5 (fun e=>q _ ?_) fun e=>o5 (fun e2=>q _ ?_) fun e2=>q _ ?_))))
   all_goals(rw[nf];simp only[Bool.false_eq_true,false_iff,true_iff];omega)) (by kernel_rfl) (by kernel_rfl)
def yO1:Plan:=.fork (.ln 3 (.fork .all .all)) (.ln 3 (.lit .all))
noncomputable def yO2(f:Fw):Tree Stop:= .node (f.moving) (.node (decide (f.active>0)) (.leaf (.done (I64 f.active))) (.leaf (.at (j9 pP 203 0) 28 (j8 28 [(1,.ptr 0 0),(15,.list (Ty.int IntKind.i64) f.lines),(16,I64 (↑f.lines.length:Int)),(17,I64 0)]) [some (.cells (Fw.cells f))]))) (.leaf (.at (j9 pP 203 0) 28 (j8 28 [(1,.ptr 0 0),(15,.list (Ty.int IntKind.i64) f.lines),(16,I64 (↑f.lines.length:Int)),(17,I64 0)]) [some (.cells (Fw.cells f))]))
theorem po0(f:Fw):w9 (Env.of pP (v6 [])) 1000 (j7 pP 203) .unit (x8 28 [1,15,16,17]) (u7 pP 203) yO1 (v9 pP 203 [f.sv]) [] =yO2 f:=by kernel_rfl
def yO3:Plan:=.fork (.fork (.all) (.all)) (.all)
noncomputable def yO4(f:Fw)(i:Int):Tree Stop:= .node (decide (i< (↑f.lines.length:Int))) (.req (decide (0≤i)&&decide (i< (↑f.lines.length:Int))) (.node (decide (f.lines.getD i.toNat 0>0)) (.leaf (.done (I64 (f.lines.getD i.toNat 0)))) (.leaf (.at (j9 pP 203 0) 28 (j8 28 [(1,.ptr 0 0),(15,.list (Ty.int IntKind.i64) f.lines),(16,I64 (↑f.lines.length:Int)),(17,I64 (i64.wrap (i+1)))]) [some (.cells (Fw.cells f))])))) (.leaf (.done (I64 (i64.wrap (f.line+1)))))
theorem po1(f:Fw)(i:Int):w9 (Env.of pP (v6 [])) 1000 (j7 pP 203) .unit (x8 28 [1,15,16,17]) (j9 pP 203 0) yO3 (j8 28 [(1,.ptr 0 0),(15,LI f.lines),(16,I64 f.lines.length),(17,I64 i)]) [some (.cells f.cells)] =yO4 f i:=by kernel_rfl
theorem xk9(f:Fw)(h:f.lines.length=f.queue.length):SCall pP 204 [f.sv] (.bool (y29 f)):=
 o9 mix [] trivial 1000 (.fork .all (.fork (.ln 4 (.lit .all)) (.ln 4 (.lit .all))))
  (t:=.node (f.moving)
 (.leaf (SV.bool (f.active==0)))
 (.node (decide ((↑f.queue.length:Int)>0))
  (.req (decide (0< (↑f.lines.length:Int))) (.leaf (SV.bool (f.lines.getD 0 0==0))))
  (.leaf (SV.bool false))))
   (by kernel_rfl) (by
    unfold y29
    refine f9 (fun m=>by rw[m];rfl) fun m=>o5 (fun k=>?_) fun k=>?_
    ·rw[m]
     refine x6 (decide_eq_true (by omega)) ?_
     cases hl:f.lines with
     |nil=>rw[hl]at h;simp at h;omega
     |cons n l=>rfl
    ·rw[m]
     have:f.lines=[] :=List.eq_nil_of_length_eq_zero (by omega)
     rw[this];rfl) (by kernel_rfl) (by kernel_rfl)
abbrev eL:SV:=.list Ty.unit []
def zI6:Plan:=.fork (.fork (.all) (.all)) (.fork (.all) (.all))
noncomputable def zI7(f:Fw):Tree Stop:= .node (f.queue.isEmpty) (.node (f.lines.isEmpty) (.leaf (.done (.agg [I64 f.ma.x.num,I64 f.ma.x.den,I64 f.ma.x.speed,I64 f.ma.x.accel,I64 f.ma.x.jerk,I64 f.ma.x.min,I64 f.ma.x.max,I64 f.ma.y.num,I64 f.ma.y.den,I64 f.ma.y.speed,I64 f.ma.y.accel,I64 f.ma.y.jerk,I64 f.ma.y.min,I64 f.ma.y.max,I64 f.ma.z.num,I64 f.ma.z.den,I64 f.ma.z.speed,I64 f.ma.z.accel,I64 f.ma.z.jerk,I64 f.ma.z.min,I64 f.ma.z.max,I64 f.ma.e.num,I64 f.ma.e.den,I64 f.ma.e.speed,I64 f.ma.e.accel,I64 f.ma.e.jerk,I64 f.ma.e.min,I64 f.ma.e.max,.bool f.ma.xy,I64 f.ma.ticks,I64 f.mode,.bool f.homed,I64 f.pos.1,I64 f.pos.2.1,I64 f.pos.2.2.1,I64 f.pos.2.2.2,I64 f.loc.1,I64 f.loc.2.1,I64 f.loc.2.2,I64 f.e,I64 f.feed,eL,eL,I64 f.mo.1.1.1,I64 f.mo.1.1.2.1,I64 f.mo.1.1.2.2.1,I64 f.mo.1.1.2.2.2,I64 f.mo.1.2.1,I64 f.mo.1.2.2.1,I64 f.mo.1.2.2.2.1,I64 f.mo.1.2.2.2.2,I64 f.mo.2.1,I64 f.mo.2.2,.bool f.moving,I64 f.active,.bool f.back,I64 f.ret.1,I64 f.ret.2.1,I64 f.ret.2.2.1,I64 f.ret.2.2.2,I64 f.dwell,I64 f.waits,I64 f.c0.target,I64 f.c0.kp,I64 f.c0.ki,I64 f.c0.scale,I64 f.c0.sum,I64 f.c0.limit,I64 f.c1.target,I64 f.c1.kp,I64 f.c1.ki,I64 f.c1.scale,I64 f.c1.sum,I64 f.c1.limit,I64 f.g0.low,I64 f.g0.high,I64 f.g0.watch,I64 f.g0.rise,I64 f.g0.band,I64 f.g0.base,I64 f.g0.count,I64 f.g0.idle,I64 f.g0.quiet,I64 f.g0.fault,.bool f.g0.door,I64 f.g1.low,I64 f.g1.high,I64 f.g1.watch,I64 f.g1.rise,I64 f.g1.band,I64 f.g1.base,I64 f.g1.count,I64 f.g1.idle,I64 f.g1.quiet,I64 f.g1.fault,.bool f.g1.door,I64 f.fan,I64 f.line,I64 f.ticks,I64 f.cold,I64 f.r0,I64 f.r1]))) (.req (decide ((0+f.lines.length)*8≤140737488355328)) (.leaf (.done (.agg [I64 f.ma.x.num,I64 f.ma.x.den,I64 f.ma.x.speed,I64 f.ma.x.accel,I64 f.ma.x.jerk,I64 f.ma.x.min,I64 f.ma.x.max,I64 f.ma.y.num,I64 f.ma.y.den,I64 f.ma.y.speed,I64 f.ma.y.accel,I64 f.ma.y.jerk,I64 f.ma.y.min,I64 f.ma.y.max,I64 f.ma.z.num,I64 f.ma.z.den,I64 f.ma.z.speed,I64 f.ma.z.accel,I64 f.ma.z.jerk,I64 f.ma.z.min,I64 f.ma.z.max,I64 f.ma.e.num,I64 f.ma.e.den,I64 f.ma.e.speed,I64 f.ma.e.accel,I64 f.ma.e.jerk,I64 f.ma.e.min,I64 f.ma.e.max,.bool f.ma.xy,I64 f.ma.ticks,I64 f.mode,.bool f.homed,I64 f.pos.1,I64 f.pos.2.1,I64 f.pos.2.2.1,I64 f.pos.2.2.2,I64 f.loc.1,I64 f.loc.2.1,I64 f.loc.2.2,I64 f.e,I64 f.feed,eL,.list (Ty.int IntKind.i64) f.lines,I64 f.mo.1.1.1,I64 f.mo.1.1.2.1,I64 f.mo.1.1.2.2.1,I64 f.mo.1.1.2.2.2,I64 f.mo.1.2.1,I64 f.mo.1.2.2.1,I64 f.mo.1.2.2.2.1,I64 f.mo.1.2.2.2.2,I64 f.mo.2.1,I64 f.mo.2.2,.bool f.moving,I64 f.active,.bool f.back,I64 f.ret.1,I64 f.ret.2.1,I64 f.ret.2.2.1,I64 f.ret.2.2.2,I64 f.dwell,I64 f.waits,I64 f.c0.target,I64 f.c0.kp,I64 f.c0.ki,I64 f.c0.scale,I64 f.c0.sum,I64 f.c0.limit,I64 f.c1.target,I64 f.c1.kp,I64 f.c1.ki,I64 f.c1.scale,I64 f.c1.sum,I64 f.c1.limit,I64 f.g0.low,I64 f.g0.high,I64 f.g0.watch,I64 f.g0.rise,I64 f.g0.band,I64 f.g0.base,I64 f.g0.count,I64 f.g0.idle,I64 f.g0.quiet,I64 f.g0.fault,.bool f.g0.door,I64 f.g1.low,I64 f.g1.high,I64 f.g1.watch,I64 f.g1.rise,I64 f.g1.band,I64 f.g1.base,I64 f.g1.count,I64 f.g1.idle,I64 f.g1.quiet,I64 f.g1.fault,.bool f.g1.door,I64 f.fan,I64 f.line,I64 f.ticks,I64 f.cold,I64 f.r0,I64 f.r1]))))) (.req (decide ((0+f.queue.length)*64≤140737488355328)) (.node (f.lines.isEmpty) (.leaf (.done (.agg [I64 f.ma.x.num,I64 f.ma.x.den,I64 f.ma.x.speed,I64 f.ma.x.accel,I64 f.ma.x.jerk,I64 f.ma.x.min,I64 f.ma.x.max,I64 f.ma.y.num,I64 f.ma.y.den,I64 f.ma.y.speed,I64 f.ma.y.accel,I64 f.ma.y.jerk,I64 f.ma.y.min,I64 f.ma.y.max,I64 f.ma.z.num,I64 f.ma.z.den,I64 f.ma.z.speed,I64 f.ma.z.accel,I64 f.ma.z.jerk,I64 f.ma.z.min,I64 f.ma.z.max,I64 f.ma.e.num,I64 f.ma.e.den,I64 f.ma.e.speed,I64 f.ma.e.accel,I64 f.ma.e.jerk,I64 f.ma.e.min,I64 f.ma.e.max,.bool f.ma.xy,I64 f.ma.ticks,I64 f.mode,.bool f.homed,I64 f.pos.1,I64 f.pos.2.1,I64 f.pos.2.2.1,I64 f.pos.2.2.2,I64 f.loc.1,I64 f.loc.2.1,I64 f.loc.2.2,I64 f.e,I64 f.feed,.list t6 f.queue,eL,I64 f.mo.1.1.1,I64 f.mo.1.1.2.1,I64 f.mo.1.1.2.2.1,I64 f.mo.1.1.2.2.2,I64 f.mo.1.2.1,I64 f.mo.1.2.2.1,I64 f.mo.1.2.2.2.1,I64 f.mo.1.2.2.2.2,I64 f.mo.2.1,I64 f.mo.2.2,.bool f.moving,I64 f.active,.bool f.back,I64 f.ret.1,I64 f.ret.2.1,I64 f.ret.2.2.1,I64 f.ret.2.2.2,I64 f.dwell,I64 f.waits,I64 f.c0.target,I64 f.c0.kp,I64 f.c0.ki,I64 f.c0.scale,I64 f.c0.sum,I64 f.c0.limit,I64 f.c1.target,I64 f.c1.kp,I64 f.c1.ki,I64 f.c1.scale,I64 f.c1.sum,I64 f.c1.limit,I64 f.g0.low,I64 f.g0.high,I64 f.g0.watch,I64 f.g0.rise,I64 f.g0.band,I64 f.g0.base,I64 f.g0.count,I64 f.g0.idle,I64 f.g0.quiet,I64 f.g0.fault,.bool f.g0.door,I64 f.g1.low,I64 f.g1.high,I64 f.g1.watch,I64 f.g1.rise,I64 f.g1.band,I64 f.g1.base,I64 f.g1.count,I64 f.g1.idle,I64 f.g1.quiet,I64 f.g1.fault,.bool f.g1.door,I64 f.fan,I64 f.line,I64 f.ticks,I64 f.cold,I64 f.r0,I64 f.r1]))) (.req (decide ((0+f.lines.length)*8≤140737488355328)) (.leaf (.done (.agg [I64 f.ma.x.num,I64 f.ma.x.den,I64 f.ma.x.speed,I64 f.ma.x.accel,I64 f.ma.x.jerk,I64 f.ma.x.min,I64 f.ma.x.max,I64 f.ma.y.num,I64 f.ma.y.den,I64 f.ma.y.speed,I64 f.ma.y.accel,I64 f.ma.y.jerk,I64 f.ma.y.min,I64 f.ma.y.max,I64 f.ma.z.num,I64 f.ma.z.den,I64 f.ma.z.speed,I64 f.ma.z.accel,I64 f.ma.z.jerk,I64 f.ma.z.min,I64 f.ma.z.max,I64 f.ma.e.num,I64 f.ma.e.den,I64 f.ma.e.speed,I64 f.ma.e.accel,I64 f.ma.e.jerk,I64 f.ma.e.min,I64 f.ma.e.max,.bool f.ma.xy,I64 f.ma.ticks,I64 f.mode,.bool f.homed,I64 f.pos.1,I64 f.pos.2.1,I64 f.pos.2.2.1,I64 f.pos.2.2.2,I64 f.loc.1,I64 f.loc.2.1,I64 f.loc.2.2,I64 f.e,I64 f.feed,.list t6 f.queue,.list (Ty.int IntKind.i64) f.lines,I64 f.mo.1.1.1,I64 f.mo.1.1.2.1,I64 f.mo.1.1.2.2.1,I64 f.mo.1.1.2.2.2,I64 f.mo.1.2.1,I64 f.mo.1.2.2.1,I64 f.mo.1.2.2.2.1,I64 f.mo.1.2.2.2.2,I64 f.mo.2.1,I64 f.mo.2.2,.bool f.moving,I64 f.active,.bool f.back,I64 f.ret.1,I64 f.ret.2.1,I64 f.ret.2.2.1,I64 f.ret.2.2.2,I64 f.dwell,I64 f.waits,I64 f.c0.target,I64 f.c0.kp,I64 f.c0.ki,I64 f.c0.scale,I64 f.c0.sum,I64 f.c0.limit,I64 f.c1.target,I64 f.c1.kp,I64 f.c1.ki,I64 f.c1.scale,I64 f.c1.sum,I64 f.c1.limit,I64 f.g0.low,I64 f.g0.high,I64 f.g0.watch,I64 f.g0.rise,I64 f.g0.band,I64 f.g0.base,I64 f.g0.count,I64 f.g0.idle,I64 f.g0.quiet,I64 f.g0.fault,.bool f.g0.door,I64 f.g1.low,I64 f.g1.high,I64 f.g1.watch,I64 f.g1.rise,I64 f.g1.band,I64 f.g1.base,I64 f.g1.count,I64 f.g1.idle,I64 f.g1.quiet,I64 f.g1.fault,.bool f.g1.door,I64 f.fan,I64 f.line,I64 f.ticks,I64 f.cold,I64 f.r0,I64 f.r1]))))))
theorem cln(f:Fw):w9 (Env.of pP (v6 [])) 1000 (j7 pP 104) .unit (x8 14 []) (u7 pP 104) zI6 (v9 pP 104 [f.sv]) [] =zI7 f:=by kernel_rfl
inductive EmpL:SV→SV→Prop where
 |same (x:SV):EmpL x x
 |emp (t:Ty):EmpL eL (.list t [])
def zb0:List SV→List SV→Prop
 |[],[] =>True
 |x::xs,y::ys=>EmpL x y∧zb0 xs ys
 |_,_=>False
theorem EmpL.rep{R:Nat→Prop}{ρ:Rho}{n:Nat}{w:World}{x y:SV}{v:Value}(h:EmpL x y)(hr:Rep R ρ n w x v):Rep R ρ n w y v:=by
 cases h with
 |same=>exact hr
 |emp t=>
  obtain⟨A,cap,h1,h2,_⟩:=hr
  exact⟨A,cap,h1,h2,fun h=>absurd h (Nat.lt_irrefl _)⟩
theorem zb0.rep{R:Nat→Prop}{ρ:Rho}{n:Nat}{w:World}:∀{xs ys:List SV} {vs:List Value},zb0 xs ys→j6 R ρ n w xs vs→j6 R ρ n w ys vs
 |[],[],_,_,hr=>hr
 |x::xs,y::ys,_,h,hr=>by
  obtain⟨u,us,rfl,h1,h2⟩:=hr
  exact⟨u,us,rfl,h.1.rep h1,h.2.rep h2⟩
def zI4(f:Fw)(q l:SV):List SV:=f.cells.take 41++(q::l::f.cells.drop 43)
theorem zI5(f:Fw){q l:SV}(hq:EmpL q (LB f.queue))(hl:EmpL l (LI f.lines)):zb0 (zI4 f q l) f.cells:=by
 obtain⟨⟩:=f
 dsimp only at hq hl
 repeat(first|exact trivial|refine⟨.same _,?_⟩|refine⟨hq,?_⟩|refine⟨hl,?_⟩)
theorem y99(f:Fw)(h:shF f=true):SCall pP 104 [f.sv] f.sv:=by
 have h1:f.queue.length≤1000:=of_decide_eq_true ((Bool.and_eq_true _ _).mp h).1
 have h2:f.lines.length≤1000:=of_decide_eq_true ((Bool.and_eq_true _ _).mp h).2
 have key:∀q l:SV,(zI4 f q l).length=102→b9 (zI4 f q l)=true→EmpL q (LB f.queue)→EmpL l (LI f.lines)→(zI7 f).holds (fun o=>match o with
   |.done v'=>v'=.agg (zI4 f q l)
   |.at items' size slots' boxes'=>slots'.length=size∧b8 pP (j7 pP 104) (.agg (zI4 f q l)) items' slots' boxes')→SCall pP 104 [f.sv] f.sv:=fun q l _ hd hq hl ht=>by
  refine xt4 (v:=.agg (zI4 f q l)) (m6 rfl hd (by kernel_rfl) (w6 qQ9 (n:=1000) (hint:=.unit) (keep:=x8 14 []) (p:=zI6) (boxes:=[]) hd ?_)) fun R ρ n w u hu=>?_
  ·have e:=cln f
   unfold v9 u7 at e
   erw [e]
   exact ht
  ·obtain⟨ws,hu1,hu2⟩:=hu
   exact⟨ws,hu1,(zI5 f hq hl).rep hu2⟩
 by_cases a:f.queue=[]
 ·have ea:EmpL eL (LB f.queue):=by rw[a];exact .emp _
  by_cases b:f.lines=[]
  ·have eb:EmpL eL (LI f.lines):=by rw[b];exact .emp _
   refine key eL eL rfl rfl ea eb ?_
   unfold zI7
   exact f9 (fun _=>f9 (fun _=>rfl) fun k=>absurd k (by rw[b];simp)) fun k=>absurd k (by rw[a];simp)
  ·refine key eL (LI f.lines) rfl rfl ea (.same _) ?_
   unfold zI7
   exact f9 (fun _=>f9 (fun k=>absurd (List.isEmpty_iff.1 k) b) fun _=>x6 (decide_eq_true (by omega)) rfl) fun k=>absurd k (by rw[a];simp)
 ·by_cases b:f.lines=[]
  ·have eb:EmpL eL (LI f.lines):=by rw[b];exact .emp _
   refine key (LB f.queue) eL rfl rfl (.same _) eb ?_
   unfold zI7
   exact f9 (fun k=>absurd (List.isEmpty_iff.1 k) a) fun _=>x6 (decide_eq_true (by omega)) (f9 (fun _=>rfl) fun k=>absurd k (by rw[b];simp))
  ·refine key (LB f.queue) (LI f.lines) rfl rfl (.same _) (.same _) ?_
   unfold zI7
   exact f9 (fun k=>absurd (List.isEmpty_iff.1 k) a) fun _=>x6 (decide_eq_true (by omega)) (f9 (fun k=>absurd (List.isEmpty_iff.1 k) b) fun _=>x6 (decide_eq_true (by omega)) rfl)
theorem yO5(f:Fw)(hl:f.lines.length≤1000)(hn:0≤f.line∧f.line≤1099511627776):∀ (k i:Nat) (v:Int),i+k=f.lines.length→v=qs0 (f.lines.drop i) (f.line+1)→
  b8 pP (j7 pP 203) (I64 v) (j9 pP 203 0) (j8 28 [(1,.ptr 0 0),(15,LI f.lines),(16,I64 f.lines.length),(17,I64 i)]) [some (.cells f.cells)]
 |k,i,v,hi,hv=>by
  refine w6 qQ9 (n:=1000) (hint:=.unit) (keep:=x8 28 [1,15,16,17]) (p:=yO3) rfl ?_
  erw [po1 f i]
  unfold yO4
  have t0:(i:Int).toNat=i:=by omega
  have w1:i64.wrap ((i:Int)+1)=((i+1:Nat):Int):=by rw[w64 (by omega) (by omega)];omega
  have w2:i64.wrap (f.line+1)=f.line+1:=w64 (by omega) (by omega)
  rw[t0,w1,w2]
  match k,hi with
  |0,hi=>
   rw[List.drop_eq_nil_of_le (by omega)]at hv
   subst hv
   exact o5 (fun a=>absurd a (by omega)) fun _=>rfl
  |k+1,hi=>
   rw[zU5 (d:=(0:Int)) (by omega:i<f.lines.length)]at hv
   unfold qs0 at hv
   refine o5 (fun _=>x6 (by simp;omega) (o5 (fun c=>?_) fun c=>?_)) fun a=>absurd (by omega) a
   ·rw[if_pos c]at hv;subst hv;rfl
   ·rw[if_neg c]at hv
    exact⟨o8 _ _,yO5 f hl hn k (i+1) v (by omega) hv⟩
theorem xk5(f:Fw)(h:xv2 f=true):SCall pP 203 [f.sv] (I64 (n8 f)):=by
 obtain⟨s1,s2,s3,s4,s5,s6⟩:=xv3.1 h
 refine m6 rfl rfl (by kernel_rfl) (w6 qQ9 (n:=1000) (hint:=.unit) (keep:=x8 28 [1,15,16,17]) (p:=yO1) (boxes:=[]) rfl ?_)
 have e:=po0 f
 unfold v9 u7 at e
 erw [e]
 unfold yO2
 have go:∀v,n8 f=v→v=qs0 f.lines (f.line+1)→b8 pP (j7 pP 203) (I64 (n8 f)) (j9 pP 203 0) (j8 28 [(1,.ptr 0 0),(15,LI f.lines),(16,I64 f.lines.length),(17,I64 (0:Nat))]) [some (.cells f.cells)] :=fun v h1 h2=>by
  rw[h1];exact yO5 f (by omega) s4 f.lines.length 0 v (by omega) (by rw[List.drop_zero];exact h2)
 refine f9 (fun m=>o5 (fun a=>?_) fun a=>⟨o8 _ _,?_⟩) fun m=>⟨o8 _ _,?_⟩
 ·have:n8 f=f.active:=if_pos ⟨m,a⟩
  rw[this];rfl
 ·exact go _ rfl (if_neg (fun k=>a k.2))
 ·exact go _ rfl (if_neg (fun k=>by rw[m]at k;cases k.1))
def z43:Fact:=qg6 104 fun f=>.req (shF f) (.leaf f.sv)
theorem yi7:z43.ok pP:=qg7 fun f h=>y99 f h
def qa8:Fact:=qg6 203 fun f=>.req (xv2 f) (.leaf (I64 (n8 f)))
theorem yp3:qa8.ok pP:=qg7 fun f h=>xk5 f h
def qa9:Fact:=qg6 204 fun f=>.req (qW2 f) (.leaf (.bool (y29 f)))
theorem yp5:qa9.ok pP:=qg7 fun f h=>xk9 f (qW3.1 h)
def qb0:Fact:=qm8 105 fun c=>.leaf (.bool (v7 c))
theorem yp6:qb0.ok pP:=qn3 xl0
def fPP:Fact:=⟨106,fun args=>match args with
 |[.agg [.int .i64 a0,.int .i64 a1,.int .i64 a2,.int .i64 a3],.agg [.int .i64 b0,.int .i64 b1,.int .i64 b2,.int .i64 b3],.int .i64 s] =>match s==1 with
  |true=>some (.leaf (V4.sv (m8 (a0,a1,a2,a3) (b0,b1,b2,b3))))
  |false=>match s== -1 with
   |true=>some (.leaf (V4.sv (wsub4 (a0,a1,a2,a3) (b0,b1,b2,b3))))
   |false=>none
 |_=>none⟩
theorem yp4:fPP.ok pP:=fun args t ht=>by
 simp only[fPP]at ht
 split at ht
 ·split at ht
  ·rename_i hs
   have hs:=beq_iff_eq.1 hs
   subst hs
   injection ht with ht;subst ht
   exact xk8 (_,_,_,_) (_,_,_,_)
  ·split at ht
   ·rename_i hs
    have hs:=beq_iff_eq.1 hs
    subst hs
    injection ht with ht;subst ht
    exact xk4 (_,_,_,_) (_,_,_,_)
   ·cases ht
 ·cases ht
def m9(s:List UInt8):Rc:=⟨tk s 6 1,tk s 0 6,tk s 7 6,tk s 13 4,(sg (tk s 17 4),sg (tk s 21 4),sg (tk s 25 4),sg (tk s 29 4)),(sg (tk s 33 4),sg (tk s 37 4),sg (tk s 41 4),sg (tk s 45 4))⟩
def rcZ:Rc:=⟨0,0,0,0,(0,0,0,0),(0,0,0,0)⟩
def zP9(s:List UInt8):Bool:=rcB (m9 s)&&s==enc (m9 s)
def zQ4(s:List UInt8):SV:=match decide (s.length<64)with
 |true=>.tuple [rcZ.sv,I64 6]
 |false=>match zP9 s with
  |true=>.tuple [(m9 s).sv,I64 0]
  |false=>.tuple [rcZ.sv,I64 19]
theorem zQ5(s:List UInt8):(zQ4 s).data=true:=by unfold zQ4;split<;>(try split)<;>rfl
theorem xa7(s:List UInt8)(h:s.length≤100000):SCall pP 263 [.str s] (zQ4 s):=
 o9 mix [z99,z69,z56] ⟨yo1,yl2,yj9,trivial⟩ 1000 (.fork .all (.fork (.ln 4 (.fork .all .all)) (.ln 4 (.lit .all))))
  (t:=let y0:=Rc.mk (tk s 6 1) (tk s 0 6) (tk s 7 6) (tk s 13 4) (sg (tk s 17 4),sg (tk s 21 4),sg (tk s 25 4),sg (tk s 29 4)) (sg (tk s 33 4),sg (tk s 37 4),sg (tk s 41 4),sg (tk s 45 4));let y1:Tree SV:=.leaf (.tuple [.agg [I64 0,I64 0,I64 0,I64 0,I64 0,I64 0,I64 0,I64 0,I64 0,I64 0,I64 0,I64 0],I64 19]);let y2:=(↑s.length:Int);let y3:=s.length≤100000;.node (decide (y2<64)) (.leaf (.tuple [.agg [I64 0,I64 0,I64 0,I64 0,I64 0,I64 0,I64 0,I64 0,I64 0,I64 0,I64 0,I64 0],I64 6])) (.req (decide (6≤y2)&&decide y3) (.req (decide (7≤y2)&&decide y3) (.req (decide (13≤y2)&&decide y3) (.req (decide (17≤y2)&&decide y3) (.req (decide (33≤y2)&&decide y3) (.req (decide (49≤y2)&&decide y3) (.node (rcB y0) (.node (!s==enc y0) y1 (.leaf (.tuple [.agg [I64 (tk s 6 1),I64 (tk s 0 6),I64 (tk s 7 6),I64 (tk s 13 4),I64 (sg (tk s 17 4)),I64 (sg (tk s 21 4)),I64 (sg (tk s 25 4)),I64 (sg (tk s 29 4)),I64 (sg (tk s 33 4)),I64 (sg (tk s 37 4)),I64 (sg (tk s 41 4)),I64 (sg (tk s 45 4))],I64 0]))) y1))))))))
  (by kernel_rfl) (by
   have qq:∀x:Int,x≤49→64≤s.length→(decide (x≤(s.length:Int))&&decide (s.length≤100000))=true:=fun x a b=>by simp;omega
   unfold zQ4
   refine o5 (fun a=>?_) (fun a=>?_)
   ·rw[decide_eq_true (show s.length<64 by omega)];rfl
   ·rw[decide_eq_false (show ¬s.length<64 by omega)]
    have b:64≤s.length:=by omega
    have e:zP9 s=(rcB (m9 s)&&s==enc (m9 s)):=rfl
    refine x6 (qq _ (by decide) b) (x6 (qq _ (by decide) b) (x6 (qq _ (by decide) b) (x6 (qq _ (by decide) b) (x6 (qq _ (by decide) b) (x6 (qq _ (by decide) b) (f9 (fun v=>?_) fun v=>?_))))))
    ·have v:rcB (m9 s)=true:=v
     refine q84 (fun w=>?_) fun w=>?_
     ·have w:(s==enc (m9 s))=false:=w
      rw[e,v,w];rfl
     ·have w:(s==enc (m9 s))=true:=w
      rw[e,v,w];rfl
    ·have v:rcB (m9 s)=false:=v
     rw[e,v];rfl) (by kernel_rfl) (by exact zQ5 s)
theorem zw2(n:Int):∀ (w j:Nat),j<w→((beN n w).getD j 0).toNat=(n / 256 ^ (w-1-j) % 256).toNat
 |0,j,h=>by omega
 |w+1,0,h=>by
  simp only[beN,List.getD_cons_zero,Nat.add_sub_cancel,Nat.sub_zero]
  have:(n / 256 ^ w % 256).toNat<256:=by omega
  rw[UInt8.toNat_ofNat']
  exact Nat.mod_eq_of_lt this
 |w+1,j+1,h=>by
  simp only[beN,List.getD_cons_succ]
  rw[zw2 n w j (by omega),show w+1-1-(j+1)=w-1-j by omega]
theorem zr7{pre mid post:List UInt8}{j:Nat}(h:j<mid.length):(pre++(mid++post)).getD (pre.length+j) 0=mid.getD j 0:=by
 simp only[List.getD_eq_getElem?_getD]
 rw[List.getElem?_append_right (by omega),Nat.add_sub_cancel_left,List.getElem?_append_left h]
theorem xN2{s pre post:List UInt8}{n:Int}{a:Nat}(h:s=pre++(beN n 1++post))(ha:pre.length=a)(h0:0≤n)(h1:n<256):tk s a 1=n:=by
 subst h ha
 have e:=fun j hj=>zr7 (pre:=pre) (mid:=beN n 1) (post:=post) (j:=j) (by rw[zw4];exact hj)
 rw[xN5]
 simp only[tkN]
 rw[e 0 (by omega),zw2 n 1 0 (by omega)]
 omega
theorem xN3{s pre post:List UInt8}{n:Int}{a:Nat}(h:s=pre++(beN n 4++post))(ha:pre.length=a):tk s a 4=n % 4294967296:=by
 subst h ha
 have e:=fun j hj=>zr7 (pre:=pre) (mid:=beN n 4) (post:=post) (j:=j) (by rw[zw4];exact hj)
 rw[xN5]
 simp only[tkN]
 rw[e 0 (by omega),e 1 (by omega),e 2 (by omega),e 3 (by omega),zw2 n 4 0 (by omega),zw2 n 4 1 (by omega),zw2 n 4 2 (by omega),zw2 n 4 3 (by omega)]
 simp only[Nat.reduceSub,Int.reducePow]
 omega
theorem dig{m:Int}{x:Nat}(h:x=(m % 256).toNat):m / 256*256+(x:Int)=m:=by omega
theorem xO2{x0 x1 x2 x3 x4 x5:Nat}{n:Int}(h0:0≤n)(h1:n<281474976710656)(e0:x0=(n / 1099511627776 % 256).toNat)(e1:x1=(n / 4294967296 % 256).toNat)(e2:x2=(n / 16777216 % 256).toNat)(e3:x3=(n / 65536 % 256).toNat)(e4:x4=(n / 256 % 256).toNat)(e5:x5=(n % 256).toNat):
  (((((0*256+(x0:Int))*256+x1)*256+x2)*256+x3)*256+x4)*256+x5=n:=by
 have d1:n / 4294967296 / 256=n / 1099511627776:=by clear e0 e1 e2 e3 e4 e5;omega
 have d2:n / 16777216 / 256=n / 4294967296:=by clear e0 e1 e2 e3 e4 e5;omega
 have d3:n / 65536 / 256=n / 16777216:=by clear e0 e1 e2 e3 e4 e5;omega
 have d4:n / 256 / 256=n / 65536:=by clear e0 e1 e2 e3 e4 e5;omega
 have q0:0*256+(x0:Int)=n / 1099511627776:=by clear d1 d2 d3 d4 e1 e2 e3 e4 e5;omega
 rw[q0,←d1,dig e1,←d2,dig e2,←d3,dig e3,←d4,dig e4,dig e5]
theorem xN4{s pre post:List UInt8}{n:Int}{a:Nat}(h:s=pre++(beN n 6++post))(ha:pre.length=a)(h0:0≤n)(h1:n<281474976710656):tk s a 6=n:=by
 subst h ha
 have e:=fun j hj=>zr7 (pre:=pre) (mid:=beN n 6) (post:=post) (j:=j) (by rw[zw4];exact hj)
 have g:=fun j hj=>zw2 n 6 j hj
 rw[xN5]
 simp only[tkN]
 refine xO2 h0 h1 ?_ ?_ ?_ ?_ ?_ ?_
 ·rw[e 0 (by omega),g 0 (by omega)];rfl
 ·rw[e 1 (by omega),g 1 (by omega)];rfl
 ·rw[e 2 (by omega),g 2 (by omega)];rfl
 ·rw[e 3 (by omega),g 3 (by omega)];rfl
 ·rw[e 4 (by omega),g 4 (by omega)];rfl
 ·rw[e 5 (by omega),g 5 (by omega)]
  simp only[Nat.reduceSub,Int.pow_zero,Int.ediv_one]
theorem xu9{n:Int}(h0: -2147483648≤n)(h1:n≤2147483647):sg (n % 4294967296)=n:=by
 unfold sg;split<;>omega
theorem zQ6{r:Rc}(h:rcB r=true):m9 (enc r)=r:=by
 obtain⟨hk,hs,hl,hd,⟨a1,a2,a3,a4⟩,b1,b2,b3,b4⟩:=yU4.1 h
 have ap:=@List.append_assoc UInt8
 have go:∀{x:List UInt8} {pre mid post:List UInt8},pre++(mid++post)=x→x=pre++(mid++post):=fun h=>h.symm
 have len:∀ (n:Int) (w:Nat),(beN n w).length=w:=zw4
 have s4:∀{n:Int} (pre post:List UInt8) {a:Nat},enc r=pre++(beN n 4++post)→pre.length=a→-2147483648≤n→n≤2147483647→sg (tk (enc r) a 4)=n:=fun pre post _ h ha h0 h1=>by rw[xN3 h ha,xu9 h0 h1]
 obtain⟨kind,seq,line,done,⟨p1,p2,p3,p4⟩,⟨q1,q2,q3,q4⟩⟩:=r
 dsimp only at *
 unfold m9
 rw[Rc.mk.injEq]
 refine⟨?_,?_,?_,?_,?_,?_⟩
 ·exact xN2 (pre:=beN seq 6) (by simp only[enc,zY6,yI2,ap];rfl) (len _ _) (by omega) (by omega)
 ·exact xN4 (pre:=[]) (by simp only[enc,zY6,yI2,ap,List.nil_append];rfl) rfl (by omega) (by omega)
 ·exact xN4 (pre:=beN seq 6++beN kind 1) (by simp only[enc,zY6,yI2,ap];rfl) (by simp only[List.length_append,len]) (by omega) (by omega)
 ·rw[xN3 (n:=done) (pre:=beN seq 6++(beN kind 1++beN line 6)) (by simp only[enc,zY6,yI2,ap];rfl) (by simp only[List.length_append,len])];omega
 ·refine Prod.ext ?_ (Prod.ext ?_ (Prod.ext ?_ ?_))<;>dsimp only
  ·exact s4 (beN seq 6++(beN kind 1++(beN line 6++beN done 4))) _ (by simp only[enc,zY6,yI2,ap];rfl) (by simp only[List.length_append,len]) (by omega) (by omega)
  ·exact s4 (beN seq 6++(beN kind 1++(beN line 6++(beN done 4++beN p1 4)))) _ (by simp only[enc,zY6,yI2,ap];rfl) (by simp only[List.length_append,len]) (by omega) (by omega)
  ·exact s4 (beN seq 6++(beN kind 1++(beN line 6++(beN done 4++(beN p1 4++beN p2 4))))) _ (by simp only[enc,zY6,yI2,ap];rfl) (by simp only[List.length_append,len]) (by omega) (by omega)
  ·exact s4 (beN seq 6++(beN kind 1++(beN line 6++(beN done 4++(beN p1 4++(beN p2 4++beN p3 4)))))) _ (by simp only[enc,zY6,yI2,ap];rfl) (by simp only[List.length_append,len]) (by omega) (by omega)
 ·refine Prod.ext ?_ (Prod.ext ?_ (Prod.ext ?_ ?_))<;>dsimp only
  ·exact s4 (beN seq 6++(beN kind 1++(beN line 6++(beN done 4++(beN p1 4++(beN p2 4++(beN p3 4++beN p4 4))))))) _ (by simp only[enc,zY6,yI2,ap];rfl) (by simp only[List.length_append,len]) (by omega) (by omega)
  ·exact s4 (beN seq 6++(beN kind 1++(beN line 6++(beN done 4++(beN p1 4++(beN p2 4++(beN p3 4++(beN p4 4++beN q1 4)))))))) _ (by simp only[enc,zY6,yI2,ap];rfl) (by simp only[List.length_append,len]) (by omega) (by omega)
  ·exact s4 (beN seq 6++(beN kind 1++(beN line 6++(beN done 4++(beN p1 4++(beN p2 4++(beN p3 4++(beN p4 4++(beN q1 4++beN q2 4))))))))) _ (by simp only[enc,zY6,yI2,ap];rfl) (by simp only[List.length_append,len]) (by omega) (by omega)
  ·exact s4 (beN seq 6++(beN kind 1++(beN line 6++(beN done 4++(beN p1 4++(beN p2 4++(beN p3 4++(beN p4 4++(beN q1 4++(beN q2 4++beN q3 4)))))))))) _ (by simp only[enc,zY6,yI2,ap];rfl) (by simp only[List.length_append,len]) (by omega) (by omega)
theorem zQ0{r:Rc}(h:rcB r=true):zP9 (enc r)=true:=by
 unfold zP9;rw[zQ6 h,h];simp
theorem zQ1{s:List UInt8}:zP9 s=true↔rcB (m9 s)=true∧s=enc (m9 s):=by
 simp only[zP9,Bool.and_eq_true,beq_iff_eq]
theorem zZ2(r:Rc):(enc r).take 6=beN r.seq 6:=by
 have:enc r=beN r.seq 6++(enc r).drop 6:=by
  have e:enc r=beN r.seq 6++(beN r.kind 1++(beN r.line 6++(beN r.done 4++(beN r.src.1 4++(beN r.src.2.1 4++(beN r.src.2.2.1 4++(beN r.src.2.2.2 4++(beN r.dst.1 4++(beN r.dst.2.1 4++(beN r.dst.2.2.1 4++(beN r.dst.2.2.2 4++(beN (crc (zY6 r)) 2++(List.replicate (58-((zY6 r++beN (crc (zY6 r)) 2).length:Int)).toNat 0++beN r.seq 6))))))))))))):=by
   simp only[enc,zY6,yI2,List.append_assoc]
  conv=>rhs;rw[e]
  rw[List.drop_left' (zw4 _ _)]
  exact e
 rw[this,List.take_left' (zw4 _ _)]
theorem zZ4(r:Rc):(enc r).drop 58=beN r.seq 6:=by
 have l:(yI2 (zY6 r++beN (crc (zY6 r)) 2) 58).length=58:=by simp only[yI2,List.length_append,zw4,zY7,List.length_replicate];omega
 unfold enc
 rw[List.drop_left' l]
theorem zw3{a b:Int}(ha:0≤a∧a<281474976710656)(hb:0≤b∧b<281474976710656)(h:beN a 6=beN b 6):a=b:=by
 have h1:=xN4 (s:=beN a 6) (pre:=[]) (post:=[]) (n:=a) (by simp) rfl ha.1 ha.2
 have h2:=xN4 (s:=beN b 6) (pre:=[]) (post:=[]) (n:=b) (by simp) rfl hb.1 hb.2
 rw[h]at h1;exact h1.symm.trans h2
def pgA(q:Int)(s:List UInt8):Prop:=s.length=64∧s.drop 58=beN q 6
def pgB(S q:Int)(s:List UInt8):Prop:=s.length=64∧s.take 6=beN S 6∧s.drop 63=beN q 1
theorem yL4{q:Int}{s:List UInt8}(h:pgA q s):s.drop 63=beN q 1:=by
 have:s.drop 63=(s.drop 58).drop 5:=by rw[List.drop_drop]
 rw[this,h.2];rfl
theorem zQ8{s:List UInt8}(h:zP9 s=true):s.take 6=beN (m9 s).seq 6∧s.drop 58=beN (m9 s).seq 6∧1≤(m9 s).seq∧(m9 s).seq≤1099511627776:=by
 obtain⟨h1,h2⟩:=zQ1.1 h
 have r:=(yU4.1 h1).2.1
 refine⟨?_,?_,r.1,r.2⟩
 ·conv=>lhs;rw[h2]
  exact zZ2 _
 ·conv=>lhs;rw[h2]
  exact zZ4 _
theorem yL2{q:Int}{s:List UInt8}(h:pgA q s)(hq:0≤q∧q<281474976710656)(d:zP9 s=true):(m9 s).seq=q:=by
 obtain⟨_,h2,h3,h4⟩:=zQ8 d
 exact zw3 (by omega) hq (h2.symm.trans h.2)
theorem zw5{a b:Int}(h:beN a 1=beN b 1):a % 256=b % 256:=by
 have h1:=zw2 a 1 0 (by omega)
 have h2:=zw2 b 1 0 (by omega)
 rw[h]at h1
 rw[h1]at h2
 simp only[Nat.reduceSub,Int.pow_zero,Int.ediv_one]at h2
 omega
theorem yL6{S q:Int}{s:List UInt8}(h:pgB S q s)(hS:0≤S∧S<281474976710656)(hne:¬S % 256=q % 256):zP9 s=false:=by
 rw[Bool.eq_false_iff]
 intro d
 obtain⟨h1,h2,h3,h4⟩:=zQ8 d
 have e:(m9 s).seq=S:=zw3 (by omega) hS (h1.symm.trans h.2.1)
 have:s.drop 63=beN S 1:=by
  have:s.drop 63=(s.drop 58).drop 5:=by rw[List.drop_drop]
  rw[this,h2,e];rfl
 exact hne (zw5 (this.symm.trans h.2.2))
theorem xQ1{r:Rc}{s:List UInt8}{k:Nat}(hs:s.length=64)(hk:k≤64):((enc r).take k++s.drop k).length=64:=by
 rw[List.length_append,List.length_take,List.length_drop,zZ3];omega
theorem xP9{r:Rc}{s:List UInt8}{k j:Nat}(hk:k≤j)(hk':k≤64):((enc r).take k++s.drop k).drop j=s.drop j:=by
 have:((enc r).take k).length=k:=by rw[List.length_take,zZ3];omega
 rw[List.drop_append,this,List.drop_eq_nil_of_le (by omega),List.nil_append,List.drop_drop,show k+(j-k)=j by omega]
theorem xQ0{r:Rc}{s:List UInt8}{k:Nat}(hk:6≤k)(hk':k≤64):((enc r).take k++s.drop k).take 6=beN r.seq 6:=by
 have:((enc r).take k).length=k:=by rw[List.length_take,zZ3];omega
 rw[List.take_append_of_le_length (by omega),List.take_take,show min 6 k=6 by omega,zZ2]
theorem xP7{q:Int}{r:Rc}{s:List UInt8}{k:Nat}(h:pgA q s)(hk:k≤64):pgA q ((enc r).take k++s.drop k)∨pgB r.seq q ((enc r).take k++s.drop k)∨(enc r).take k++s.drop k=enc r:=by
 by_cases h1:k≤58
 ·exact .inl ⟨xQ1 h.1 hk,by rw[xP9 h1 hk];exact h.2⟩
 ·by_cases h2:k≤63
  ·exact .inr (.inl ⟨xQ1 h.1 hk,xQ0 (by omega) hk,by rw[xP9 h2 hk];exact yL4 h⟩)
  ·obtain rfl:k=64:=by omega
   refine .inr (.inr ?_)
   rw[List.take_of_length_le (by rw[zZ3];omega),List.drop_eq_nil_of_le (by have:=h.1;omega),List.append_nil]
theorem xP8{q:Int}{r:Rc}{s:List UInt8}{k:Nat}(h:pgB r.seq q s)(hk:k≤64):pgB r.seq q ((enc r).take k++s.drop k)∨(enc r).take k++s.drop k=enc r:=by
 by_cases h2:k≤63
 ·refine .inl ⟨xQ1 h.1 hk,?_,by rw[xP9 h2 hk];exact h.2.2⟩
  by_cases h1:6≤k
  ·exact xQ0 h1 hk
  ·have l:((enc r).take k).length=k:=by rw[List.length_take,zZ3];omega
   rw[List.take_append,l,List.take_take,show min 6 k=k by omega]
   have e1:(enc r).take k=(beN r.seq 6).take k:=by rw[←zZ2,List.take_take,show min k 6=k by omega]
   have e2:(s.drop k).take (6-k)=(beN r.seq 6).drop k:=by rw[←h.2.1,List.drop_take]
   rw[e1,e2,List.take_append_drop]
 ·obtain rfl:k=64:=by omega
  refine .inr ?_
  rw[List.take_of_length_le (by rw[zZ3];omega),List.drop_eq_nil_of_le (by have:=h.1;omega),List.append_nil]
theorem yL3(r:Rc):pgA r.seq (enc r):=⟨zZ3 r,zZ4 r⟩
theorem yL5:pgA 0 (List.replicate 64 0):=⟨rfl,rfl⟩
def yW2(n:Int)(i:Nat)(s:List UInt8):Option Rc:=match zP9 s&& (m9 s).seq.tmod n==(i:Int)with
 |true=>some (m9 s)
 |false=>none
theorem yW3{n:Int}{i:Nat}{s:List UInt8}{r:Rc}:yW2 n i s=some r↔zP9 s=true∧(m9 s).seq.tmod n=(i:Int)∧m9 s=r:=by
 unfold yW2
 split
 ·rename_i h;rw[Bool.and_eq_true,beq_iff_eq]at h;simp[h]
 ·rename_i h
  rw[Bool.and_eq_false_iff]at h
  simp only[reduceCtorEq,false_iff,not_and]
  intro h1 h2
  rcases h with h|h
  ·rw[h1]at h;cases h
  ·rw[h2]at h;simp at h
def yX2(n:Int):Nat→List (List UInt8)→List Rc
 |_,[] =>[]
 |i,s::l=>match yW2 n i s with
  |some r=>r::yX2 n (i+1) l
  |none=>yX2 n (i+1) l
theorem yX3{n:Int}{i:Nat}{s:List UInt8}{l:List (List UInt8)}:yX2 n i (s::l)=match yW2 n i s with
  |some r=>r::yX2 n (i+1) l
  |none=>yX2 n (i+1) l:=rfl
theorem q32{n:Int}{r:Rc}:∀{l:List (List UInt8)} {i:Nat},r∈yX2 n i l↔∃j,j<l.length∧yW2 n (i+j) (l.getD j [])=some r
 |[],i=>by simp[yX2]
 |s::l,i=>by
  have ih:=@q32 n r l (i+1)
  have key:(∃j,j< (s::l).length∧yW2 n (i+j) ((s::l).getD j [])=some r)↔yW2 n i s=some r∨∃j,j<l.length∧yW2 n (i+1+j) (l.getD j [])=some r:=by
   constructor
   ·rintro ⟨j,hj,h⟩
    cases j with
    |zero=>exact .inl h
    |succ j=>exact .inr ⟨j,by simpa using hj,by rw[show i+1+j=i+(j+1) by omega];simpa using h⟩
   ·rintro (h|⟨j,hj,h⟩)
    ·exact⟨0,by simp,h⟩
    ·exact⟨j+1,by simpa using hj,by rw[show i+(j+1)=i+1+j by omega];simpa using h⟩
  rw[key,←ih,yX3]
  split
  ·rename_i r' h;rw[h,List.mem_cons];simp[eq_comm]
  ·rename_i h;rw[h];simp
def zS4:List Rc→Prop
 |[] =>True
 |r::l=>(∀x∈l,x.seq≠r.seq)∧zS4 l
theorem yX4{n:Int}:∀{l:List (List UInt8)} {i:Nat},zS4 (yX2 n i l)
 |[],i=>trivial
 |s::l,i=>by
  unfold yX2
  split
  ·rename_i r h
   refine⟨fun x hx e=>?_,yX4⟩
   obtain⟨j,_,hj⟩:=q32.1 hx
   obtain⟨_,h1,rfl⟩:=yW3.1 hj
   obtain⟨_,h2,rfl⟩:=yW3.1 h
   rw[e]at h1;omega
  ·exact yX4
def qL4(r:Rc):List Rc→List Rc
 |[] =>[r]
 |x::l=>match decide (r.seq<x.seq)with
  |true=>r::x::l
  |false=>x::qL4 r l
def xw5(l:List Rc):List Rc:=l.foldl (fun acc r=>qL4 r acc) []
def zq9:List Rc→Prop
 |[] =>True
 |r::l=>(∀x∈l,r.seq≤x.seq)∧zq9 l
theorem qL7(r:Rc):∀l:List Rc,(qL4 r l).Perm (r::l)
 |[] =>.refl _
 |x::l=>by
  unfold qL4
  split
  ·exact .refl _
  ·exact((qL7 r l).cons x).trans (List.Perm.swap r x l)
theorem qL5(r:Rc):∀l:List Rc,zq9 l→zq9 (qL4 r l)
 |[],_=>⟨fun x hx=>(by cases hx),trivial⟩
 |x::l,h=>by
  unfold qL4
  split
  ·rename_i hd
   have hd:=of_decide_eq_true hd
   refine⟨fun y hy=>?_,h⟩
   rcases List.mem_cons.1 hy with rfl|hy
   ·omega
   ·have:=h.1 y hy;omega
  ·rename_i hd
   have hd:=of_decide_eq_false hd
   refine⟨fun y hy=>?_,qL5 r l h.2⟩
   rcases List.mem_cons.1 ((qL7 r l).mem_iff.1 hy)with rfl|hy
   ·omega
   ·exact h.1 y hy
theorem xw8(l:List Rc):(xw5 l).Perm l:=by
 have:∀ (l acc:List Rc),(l.foldl (fun acc r=>qL4 r acc) acc).Perm (l.reverse++acc):=by
  intro l
  induction l with
  |nil=>intro acc;exact .refl _
  |cons x l ih=>
   intro acc
   rw[List.foldl_cons,List.reverse_cons,List.append_assoc]
   exact(ih (qL4 x acc)).trans ((qL7 x acc).append_left l.reverse)
 have h:=this l []
 rw[List.append_nil]at h
 exact h.trans (List.reverse_perm l)
theorem xw6(l:List Rc):zq9 (xw5 l):=by
 have:∀ (l acc:List Rc),zq9 acc→zq9 (l.foldl (fun acc r=>qL4 r acc) acc):=by
  intro l
  induction l with
  |nil=>intro acc h;exact h
  |cons x l ih=>intro acc h;exact ih _ (qL5 x acc h)
 exact this l [] trivial
theorem zS5:∀{l:List Rc},zS4 l↔(l.map (·.seq)).Nodup
 |[] =>by simp[zS4]
 |r::l=>by
  simp only[zS4,List.map_cons,List.nodup_cons,zS5 (l:=l),List.mem_map,not_exists,not_and]
theorem zS6{a b:List Rc}(h:a.Perm b)(d:zS4 a):zS4 b:=zS5.2 ((h.map _).nodup_iff.1 (zS5.1 d))
theorem xx2:∀{a b:List Rc},a.Perm b→zq9 a→zq9 b→zS4 a→a=b
 |[],b,h,_,_,_=>(List.Perm.nil_eq h)
 |x::a,[],h,_,_,_=>absurd h.symm (by simp)
 |x::a,y::b,h,ha,hb,d=>by
  have hx:x∈y::b:=h.mem_iff.1 List.mem_cons_self
  have hy:y∈x::a:=h.mem_iff.2 List.mem_cons_self
  have e:x=y:=by
   rcases List.mem_cons.1 hx with e|hx
   ·exact e
   ·rcases List.mem_cons.1 hy with e|hy
    ·exact e.symm
    ·have h1:=ha.1 y hy
     have h2:=hb.1 x hx
     exact absurd (by omega) (d.1 y hy)
  subst e
  rw[xx2 h.cons_inv ha.2 hb.2 d.2]
theorem zr0:∀{l:List Rc} {r:Rc},zq9 l→l.getLast? =some r→∀x∈l,x.seq≤r.seq
 |[],_,_,h=>by cases h
 |[y],r,_,h=>by
  simp at h;subst h
  intro x hx
  rcases List.mem_cons.1 hx with rfl|hx
  ·exact Int.le_refl _
  ·cases hx
 |y::z::l,r,ha,h=>by
  rw[List.getLast?_cons_cons]at h
  intro x hx
  rcases List.mem_cons.1 hx with rfl|hx
  ·exact ha.1 r (List.mem_of_getLast? h)
  ·exact zr0 ha.2 h x hx
theorem qU0{l:List Rc}{r:Rc}(d:zS4 l)(hm:r∈l)(h:∀x∈l,x.seq≤r.seq):(xw5 l).getLast? =some r:=by
 have p:=xw8 l
 have hm':r∈xw5 l:=p.mem_iff.2 hm
 cases hl:(xw5 l).getLast? with
 |none=>rw[List.getLast?_eq_none_iff]at hl;rw[hl]at hm';cases hm'
 |some z=>
  have h1:=zr0 (xw6 l) hl r hm'
  have hz:z∈l:=p.mem_iff.1 (List.mem_of_getLast? hl)
  have h2:=h z hz
  have key:∀{l:List Rc},zS4 l→r∈l→z∈l→z.seq=r.seq→z=r:=by
   intro l
   induction l with
   |nil=>intro _ h;cases h
   |cons x l ih=>
    intro d h1 h2 e
    rcases List.mem_cons.1 h1 with e1|h3
    ·rcases List.mem_cons.1 h2 with e2|h4
     ·rw[e1,e2]
     ·exact absurd (by rw[e,e1]) (d.1 z h4)
    ·rcases List.mem_cons.1 h2 with e2|h4
     ·exact absurd (by rw[←e,e2]) (d.1 r h3)
     ·exact ih d.2 h3 h4 e
  rw[key d hm hz (by omega)]
theorem qU1{l:List Rc}(h:l=[]):(xw5 l).getLast? =none:=by subst h;rfl
theorem xw7{l l':List Rc}(d:zS4 l)(p:l'.Perm l)(h:zq9 l'):l'=xw5 l:=
 xx2 (p.trans (xw8 l).symm) h (xw6 l) (zS6 p.symm d)
theorem qL6{r:Rc}:∀{a b:List Rc},zq9 (a++b)→(∀x∈a,x.seq≤r.seq)→(∀x∈b,r.seq<x.seq)→qL4 r (a++b)=a++r::b
 |[],[],_,_,_=>rfl
 |[],y::b,_,_,h=>by
  show qL4 r (y::b)=_
  unfold qL4
  rw[decide_eq_true (h y List.mem_cons_self)];rfl
 |x::a,b,h,h1,h2=>by
  show qL4 r (x::(a++b))=_
  unfold qL4
  have:=h1 x List.mem_cons_self
  rw[decide_eq_false (by omega)]
  show x::qL4 r (a++b)=_
  rw[qL6 h.2 (fun y hy=>h1 y (List.mem_cons_of_mem _ hy)) h2];rfl
def wrE(f:Fl)(i:Int)(data:List UInt8):Int:=match qB5 f i&&decide (data.length=64)with
 |false=>1
 |true=>match f.dead||f.fuse==1 with
  |true=>17
  |false=>0
def wrF(f:Fl)(i:Int)(data:List UInt8):Fl:=match qB5 f i&&decide (data.length=64)&&!f.dead with
 |false=>f
 |true=>match f.fuse==1 with
  |true=>⟨f.pages.set i.toNat (data.take f.keep.toNat++(f.pages.getD i.toNat []).drop f.keep.toNat),0,true,0⟩
  |false=>⟨f.pages.set i.toNat data,if f.fuse-1>0 then f.fuse-1 else 0,f.dead,f.keep⟩
def e9(f:Fl):List Rc:=match flB f&&!f.dead with
 |true=>xw5 (yX2 f.pages.length 0 f.pages)
 |false=>[]
def lastO(f:Fl):Option Rc:=(e9 f).getLast?
def qT2(f:Fl):Int:=match lastO f with
 |some r=>r.seq
 |none=>0
def apE(f:Fl)(r:Rc):Int:=match rcB r&&flB f with
 |false=>1
 |true=>match f.dead with
  |true=>17
  |false=>match r.seq==qT2 f+1 with
   |false=>11
   |true=>wrE f (r.seq.tmod f.pages.length) (enc r)
def apF(f:Fl)(r:Rc):Fl:=match rcB r&&flB f&&!f.dead&&r.seq==qT2 f+1 with
 |true=>wrF f (r.seq.tmod f.pages.length) (enc r)
 |false=>f
def ya3(f:Fl)(r:Rc):Rc:={r with seq:=qT2 f+1}
def yW4(f:Fl)(r:Rc):Int:=apE f (ya3 f r)
def t9(f:Fl)(r:Rc):Fl:=apF f (ya3 f r)
def qOf(L:Int)(i:Int):Int:=if L<i then 0 else L-(L-i) % 6
structure Jn (f:Fl) (L:Int) (last:Option Rc):Prop where
 len:f.pages.length=6
 fl:flB f=true
 live:f.dead=false
 L0:0≤L
 L1:L≤1000000
 pg:∀i:Nat,i<6→pgA (qOf L i) (f.pages.getD i [])∨((i:Int)=(L+1) % 6∧pgB (L+1) (qOf L i) (f.pages.getD i []))
 none:last=none↔L=0
 some:∀r,last=some r→r.seq=L∧rcB r=true∧f.pages.getD (L % 6).toNat [] =enc r
theorem yR8{L i:Int}(h:0≤L)(hL:L≤1000000)(hi:0≤i∧i<6):0≤qOf L i∧qOf L i≤L:=by
 unfold qOf;split<;>omega
theorem yR6{L i:Int}(h:0≤L)(hi:0≤i∧i<6)(e:¬i=(L+1) % 6):qOf (L+1) i=qOf L i:=by
 unfold qOf;split<;>split<;>omega
theorem yR7{L:Int}(h:0≤L):qOf (L+1) ((L+1) % 6)=L+1:=by
 unfold qOf;split<;>omega
theorem yR5{L:Int}(h:0≤L):¬(L+1) % 256=qOf L ((L+1) % 6) % 256:=by
 unfold qOf;split<;>omega
theorem yJ1{f:Fl}{L:Int}{last:Option Rc}(j:Jn f L last){i:Nat}(hi:i<6)(d:zP9 (f.pages.getD i [])=true):(m9 (f.pages.getD i [])).seq=qOf L i:=by
 have r:=yR8 (i:=(i:Int)) j.L0 j.L1 (by omega)
 have l1:=j.L1
 have l0:=j.L0
 rcases j.pg i hi with h|⟨e,h⟩
 ·exact yL2 h (by omega) d
 ·have:=yL6 h (by omega) (by rw[e];exact yR5 j.L0)
  rw[this]at d;cases d
theorem qS9{f:Fl}{L:Int}{last:Option Rc}(j:Jn f L last):lastO f=last:=by
 have l0:=j.L0
 have l1:=j.L1
 unfold lastO e9
 rw[j.fl,j.live]
 show(xw5 (yX2 (f.pages.length:Int) 0 f.pages)).getLast? =last
 rw[j.len]
 have le:∀x∈yX2 (6:Nat) 0 f.pages,x.seq≤L:=fun x hx=>by
  obtain⟨i,hi,h⟩:=q32.1 hx
  obtain⟨h1,h2,rfl⟩:=yW3.1 h
  rw[yJ1 j (by have:=j.len;omega) h1]
  exact(yR8 (i:=(i:Int)) l0 l1 (by have:=j.len;omega)).2
 cases last with
 |none=>
  have e0:=j.none.1 rfl
  refine qU1 ?_
  cases hr:yX2 (6:Nat) 0 f.pages with
  |nil=>rfl
  |cons x l=>
   have hx:x∈yX2 (6:Nat) 0 f.pages:=by rw[hr];exact List.mem_cons_self
   have h1:=le x hx
   obtain⟨i,hi,h⟩:=q32.1 hx
   obtain⟨h2,_,rfl⟩:=yW3.1 h
   have:=(zQ8 h2).2.2
   omega
 |some r=>
  obtain⟨h1,h2,h3⟩:=j.some r rfl
  refine qU0 yX4 (q32.2 ⟨(L % 6).toNat,by have:=j.len;omega,yW3.2 ⟨by rw[h3];exact zQ0 h2,?_,by rw[h3];exact zQ6 h2⟩⟩) (fun x hx=>by rw[h1];exact le x hx)
  rw[h3,zQ6 h2,h1,Int.tmod_eq_emod_of_nonneg l0]
  show L % 6=_
  omega
theorem qT4{f:Fl}{L:Int}{last:Option Rc}(j:Jn f L last):qT2 f=L:=by
 unfold qT2
 rw[qS9 j]
 cases last with
 |none=>exact(j.none.1 rfl).symm
 |some r=>exact(j.some r rfl).1
theorem qw7{α:Type}{l:List α}{i j:Nat}{x d:α}(h:i<l.length):(l.set i x).getD j d=if i=j then x else l.getD j d:=by
 simp only[List.getD_eq_getElem?_getD,List.getElem?_set]
 split
 ·rename_i e;subst e;simp[h]
 ·rfl
theorem xu7{l:List (List UInt8)}{i:Nat}{x:List UInt8}(h:∀p∈l,p.length=64)(hx:x.length=64):∀p∈l.set i x,p.length=64:=fun p hp=>by
 rcases List.mem_or_eq_of_mem_set hp with h1|rfl
 ·exact h p h1
 ·exact hx
theorem ya9{L:Int}(h0:0≤L)(h1:L≤1000000):(L+1).tmod ((6:Nat):Int)=(L+1) % 6∧0≤(L+1) % 6∧(L+1) % 6<6:=by
 rw[Int.tmod_eq_emod_of_nonneg (by omega)]
 refine⟨rfl,?_,?_⟩<;>omega
theorem yU6{f:Fl}{L:Int}{last:Option Rc}(j:Jn f L last){r:Rc}(h:rcB {r with seq:=1}=true):rcB (ya3 f r)=true:=by
 have l0:=j.L0
 have l1:=j.L1
 have e:=qT4 j
 have:=yU4.1 h
 refine yU4.2 ?_
 simp only[ya3,e]
 dsimp only at this
 exact⟨this.1,⟨by omega,by omega⟩,this.2.2⟩
theorem qQ4{f:Fl}{L:Int}{last:Option Rc}(j:Jn f L last)(hL:L+1≤1000000){r:Rc}(hr:rcB {r with seq:=1}=true)(hf:¬f.fuse=1):yW4 f r=0∧Jn (t9 f r) (L+1) (some (ya3 f r))∧(t9 f r).keep=f.keep∧(t9 f r).fuse=if f.fuse-1>0 then f.fuse-1 else 0:=by
 have l0:=j.L0
 have e:=qT4 j
 have hrc:=yU6 j hr
 have es:(ya3 f r).seq=L+1:=by simp only[ya3,e]
 obtain⟨p1,p2,p3⟩:=ya9 l0 j.L1
 have fb:=qs4.1 j.fl
 have hb:qB5 f ((L+1) % 6)=true:=by
  unfold qB5;rw[j.fl,j.len];exact v8.2 ⟨by omega,by omega⟩
 have hw:(qB5 f ((L+1) % 6)&&decide ((enc (ya3 f r)).length=64))=true:=by rw[hb,zZ3];rfl
 have hfu:(f.fuse==1)=false:=by simpa using hf
 have eE:yW4 f r=0:=by
  unfold yW4 apE
  rw[hrc,j.fl,es,e,j.len,p1]
  simp only[Bool.and_self,j.live,beq_self_eq_true]
  unfold wrE
  rw[hw,j.live,hfu];rfl
 have eF:t9 f r=⟨f.pages.set ((L+1) % 6).toNat (enc (ya3 f r)),if f.fuse-1>0 then f.fuse-1 else 0,false,f.keep⟩:=by
  unfold t9 apF
  rw[hrc,j.fl,es,e,j.len,p1,j.live]
  simp only[Bool.and_self,Bool.not_false,beq_self_eq_true]
  unfold wrF
  rw[hw,j.live,hfu];rfl
 have hi:((L+1) % 6).toNat<f.pages.length:=by have:=j.len;omega
 refine⟨eE,?_,by rw[eF],by rw[eF]⟩
 rw[eF]
 refine⟨by simp[j.len],qs4.2 ⟨xu7 fb.1 (zZ3 _),by simp[j.len],by simp[j.len],?_,fb.2.2.2.2⟩,rfl,by omega,hL,fun i hi6=>?_,⟨fun h=>(by cases h),fun h=>(by omega)⟩,fun r' h'=>?_⟩
 ·dsimp only;split<;>omega
 ·dsimp only
  rw[qw7 hi]
  split
  ·rename_i ei
   have ei:(i:Int)=(L+1) % 6:=by omega
   refine .inl ?_
   rw[ei,yR7 l0,←es]
   exact yL3 _
  ·rename_i ei
   have ei:¬(i:Int)=(L+1) % 6:=by omega
   refine .inl ?_
   rw[yR6 l0 (by omega) ei]
   rcases j.pg i hi6 with h|⟨h,_⟩
   ·exact h
   ·exact absurd h ei
 ·injection h' with h'
  subst h'
  refine⟨es,hrc,?_⟩
  dsimp only
  rw[qw7 hi,if_pos rfl]
theorem qQ3{f:Fl}{L:Int}{last:Option Rc}(j:Jn f L last)(hL:L+1≤1000000){r:Rc}(hr:rcB {r with seq:=1}=true)(hf:f.fuse=1):yW4 f r=17∧∀k,0≤k→k≤64→(Jn {t9 f r with dead:=false,keep:=k} L last∨Jn {t9 f r with dead:=false,keep:=k} (L+1) (some (ya3 f r)))∧(t9 f r).fuse=0:=by
 have l0:=j.L0
 have e:=qT4 j
 have hrc:=yU6 j hr
 have es:(ya3 f r).seq=L+1:=by simp only[ya3,e]
 obtain⟨p1,p2,p3⟩:=ya9 l0 j.L1
 have fb:=qs4.1 j.fl
 have hb:qB5 f ((L+1) % 6)=true:=by
  unfold qB5;rw[j.fl,j.len];exact v8.2 ⟨by omega,by omega⟩
 have hw:(qB5 f ((L+1) % 6)&&decide ((enc (ya3 f r)).length=64))=true:=by rw[hb,zZ3];rfl
 have hfu:(f.fuse==1)=true:=by simpa using hf
 have eE:yW4 f r=17:=by
  unfold yW4 apE
  rw[hrc,j.fl,es,e,j.len,p1]
  simp only[Bool.and_self,j.live,beq_self_eq_true]
  unfold wrE
  rw[hw,j.live,hfu];rfl
 have eF:t9 f r=⟨f.pages.set ((L+1) % 6).toNat ((enc (ya3 f r)).take f.keep.toNat++(f.pages.getD ((L+1) % 6).toNat []).drop f.keep.toNat),0,true,0⟩:=by
  unfold t9 apF
  rw[hrc,j.fl,es,e,j.len,p1,j.live]
  simp only[Bool.and_self,Bool.not_false,beq_self_eq_true]
  unfold wrF
  rw[hw,j.live,hfu];rfl
 have hi:((L+1) % 6).toNat<f.pages.length:=by have:=j.len;omega
 refine⟨eE,fun k hk0 hk1=>⟨?_,by rw[eF]⟩⟩
 rw[eF]
 have hpg:=j.pg ((L+1) % 6).toNat (by omega)
 have hki:f.keep.toNat≤64:=by omega
 have ei:((((L+1) % 6).toNat:Nat):Int)=(L+1) % 6:=by omega
 rw[ei]at hpg
 have hl64:(f.pages.getD ((L+1) % 6).toNat []).length=64:=by rcases hpg with h|⟨_,h⟩<;>exact h.1
 have len64:=xQ1 (r:=ya3 f r) hl64 hki
 have other:∀t:List UInt8,∀i:Nat,i<6→¬(i:Int)=(L+1) % 6→(f.pages.set ((L+1) % 6).toNat t).getD i [] =f.pages.getD i [] :=fun t i _ hn=>by
  rw[qw7 hi,if_neg (by omega)]
 have own:∀t:List UInt8,(f.pages.set ((L+1) % 6).toNat t).getD ((L+1) % 6).toNat [] =t:=fun t=>by rw[qw7 hi,if_pos rfl]
 have tri:pgA (qOf L ((L+1) % 6)) ((enc (ya3 f r)).take f.keep.toNat++(f.pages.getD ((L+1) % 6).toNat []).drop f.keep.toNat)∨pgB (L+1) (qOf L ((L+1) % 6)) ((enc (ya3 f r)).take f.keep.toNat++(f.pages.getD ((L+1) % 6).toNat []).drop f.keep.toNat)∨(enc (ya3 f r)).take f.keep.toNat++(f.pages.getD ((L+1) % 6).toNat []).drop f.keep.toNat=enc (ya3 f r):=by
  rcases hpg with h|⟨_,h⟩
  ·have:=xP7 (r:=ya3 f r) h hki
   rw[es]at this;exact this
  ·have h':pgB (ya3 f r).seq (qOf L ((L+1) % 6)) (f.pages.getD ((L+1) % 6).toNat []):=by rw[es];exact h
   have:=xP8 h' hki
   rw[es]at this;exact .inr this
 have flb:∀t:List UInt8,t.length=64→flB {pages:=f.pages.set ((L+1) % 6).toNat t,fuse:=0,dead:=false,keep:=k}=true:=fun t ht=>qs4.2 ⟨xu7 fb.1 ht,by simp[j.len],by simp[j.len],⟨Int.le_refl _,Int.zero_le_ofNat 1048576⟩,hk0,hk1⟩
 generalize (enc (ya3 f r)).take f.keep.toNat++(f.pages.getD ((L+1) % 6).toNat []).drop f.keep.toNat=t at len64 tri ⊢
 rcases tri with h|h|h
 ·refine .inl ⟨by simp[j.len],flb t len64,rfl,l0,j.L1,fun i hi6=>?_,j.none,fun r' h'=>?_⟩
  ·dsimp only
   by_cases hn:(i:Int)=(L+1) % 6
   ·obtain rfl:i=((L+1) % 6).toNat:=by omega
    rw[own,ei];exact .inl h
   ·rw[other t i hi6 hn];exact j.pg i hi6
  ·obtain⟨q1,q2,q3⟩:=j.some r' h'
   exact⟨q1,q2,by dsimp only;rw[other t _ (by omega) (by omega)];exact q3⟩
 ·refine .inl ⟨by simp[j.len],flb t len64,rfl,l0,j.L1,fun i hi6=>?_,j.none,fun r' h'=>?_⟩
  ·dsimp only
   by_cases hn:(i:Int)=(L+1) % 6
   ·obtain rfl:i=((L+1) % 6).toNat:=by omega
    rw[own,ei];exact .inr ⟨rfl,h⟩
   ·rw[other t i hi6 hn];exact j.pg i hi6
  ·obtain⟨q1,q2,q3⟩:=j.some r' h'
   exact⟨q1,q2,by dsimp only;rw[other t _ (by omega) (by omega)];exact q3⟩
 ·refine .inr ⟨by simp[j.len],flb t len64,rfl,by omega,hL,fun i hi6=>?_,⟨fun h=>(by cases h),fun h=>(by omega)⟩,fun r' h'=>?_⟩
  ·dsimp only
   by_cases hn:(i:Int)=(L+1) % 6
   ·obtain rfl:i=((L+1) % 6).toNat:=by omega
    rw[own,ei,yR7 l0,h,←es];exact .inl (yL3 _)
   ·rw[other t i hi6 hn,yR6 l0 (by omega) hn]
    rcases j.pg i hi6 with h|⟨h,_⟩
    ·exact .inl h
    ·exact absurd h hn
  ·injection h' with h'
   subst h'
   exact⟨es,hrc,by dsimp only;rw[own,h]⟩
theorem qQ1:Jn ⟨List.replicate 6 (List.replicate 64 0),0,false,0⟩ 0 none:=by
 refine⟨rfl,rfl,rfl,by decide,by decide,fun i hi=>.inl ?_,⟨fun _=>rfl,fun _=>rfl⟩,fun r h=>(by cases h)⟩
 have:(List.replicate 6 (List.replicate 64 (0:UInt8))).getD i [] =List.replicate 64 0:=by
  rw[List.getD_eq_getElem?_getD,List.getElem?_replicate,if_pos hi];rfl
 rw[this]
 have:qOf 0 (i:Int)=0:=by unfold qOf;split<;>omega
 rw[this];exact yL5
end Go.Proofs.YtnkaepnblikcdaaGreat
namespace Go.Sx
open Go.RowKit
theorem xs9 {P : Program} {f : FuncId} {fn : Func} {args : List SV} {v : SV} (hd : b9 args = true) (hv : v.data = true) (hf : P.funcs[f]? = some fn) (hb : fn.body.isSome = true) (hn : (fn.name == "runtime.NumGoroutine") = false)
  (h:∀ (R:Nat→Prop) (w:World) (vs:List Value),(∀b,R b→b<w.heap.size)→Gnd w→j6 R (fun _=>(0,0,0)) 0 w args vs→
    Calls P f vs.toArray w fun e w'=>∃u,e=.returned u∧Below w.heap.size w w'∧Rep (fun b=>R b∨(w.heap.size≤b∧b<w'.heap.size)) (fun _=>(0,0,0)) 0 w' v u):SCall P f args v:=by
 intro m w0 R0 ρ w vs hm hvs
 obtain⟨body,hb⟩:=Option.isSome_iff_exists.1 hb
 rw[zD5 hf hb hn]
 obtain⟨o1,o2⟩:=yG4 hm ρ
 have hvs':=j6.data (R':=RO w0 R0 ρ w m) (ρ':=fun _=>(0,0,0)) (n':=0) (fun b hb=>hb) args vs hd hvs
 refine Calls.mono (h (RO w0 R0 ρ w m) w vs (fun b hb=>hm.ro_lt hb) hm.gnd hvs') fun e w' ⟨u,he,g1,g3⟩=>⟨u,he,?_⟩
 have g:MRel w (RS w0 R0 ρ w m) ρ w' ⟨0,.e⟩:=⟨⟨g1,hm.gnd⟩,fun id B h=>(by cases h),fun id B h=>(by cases h),fun id B h=>(by cases h),fun id id' B B' h=>(by cases h),fun id B h=>(by cases h),fun b hb=>⟨Nat.lt_of_lt_of_le (hm.ro_lt hb) g1.size,g1.block b (hm.ro_lt hb)⟩,fun id B h=>(by cases h)⟩
 have hst:=Hand.start hm g
 obtain⟨k1,k2⟩:=hst.finish hm g
 refine⟨ρ,k1,k2,Rep.data (fun b hb=>?_) v u hv g3⟩
 rcases hb with hb|hb
 ·exact hst.ro b (.inr (.inl ⟨hb,hm.ro_lt hb⟩))
 ·exact hst.ro b (.inr (.inr ⟨hb.1,hb.2,(fun id B h=>by cases h),fun hr=>by have:=hm.ro_lt hr;omega⟩))
end Go.Sx
namespace Go.Proofs.YtnkaepnblikcdaaGreat
open Go.Sx Go.RowKit Go.Lib
theorem xG2:Tryz.t5.bytes=1:=by kernel_rfl
def yH8(w:World)(s:List UInt8)(k:Nat):Array Value:=
 ⟨s.map fun b=>Value.int .u8 b.toNat⟩++(Builtin.zeroCells #[Value.int .u8 0] k++Builtin.zeroCells #[Value.int .u8 0] (grownCap (bytesWorld w 5 ⟨⟨s⟩⟩) (s.length+k) s.length 5-(s.length+k)))
def yI3(w:World)(s:List UInt8)(k:Nat):World:=((bytesWorld w 5 ⟨⟨s⟩⟩).alloc (.cells (yH8 w s k) 5)).drew
theorem x83(k:Nat):Builtin.zeroCells #[Value.int .u8 0] k=⟨List.replicate k (.int .u8 0)⟩:=by
 unfold Builtin.zeroCells
 apply Array.ext
 ·simp
 ·intro i h1 h2
  simp[Nat.mod_one]
theorem yI7(w:World)(s:List UInt8):(loadCellsFrom ⟨w.heap.size,0,none⟩ 0 s.length #[]).run pP (bytesWorld w 5 ⟨⟨s⟩⟩).drew=.ok ⟨s.map fun b=>Value.int .u8 b.toNat⟩ (bytesWorld w 5 ⟨⟨s⟩⟩).drew:=by
 have h:=run_loadCells_list (P:=pP) (bytesWorld w 5 ⟨⟨s⟩⟩).drew ⟨w.heap.size,0,none⟩ (s.map fun b=>Value.int .u8 b.toNat) (fun j v hj=>by
  have hj':j<s.length:=by
   have:=(List.getElem?_eq_some_iff.1 hj).1
   simpa using this
  have h1:(bytesWorld w 5 ⟨⟨s⟩⟩).drew.cell? ((⟨w.heap.size,0,none⟩:Addr).add j)=(bytesWorld w 5 ⟨⟨s⟩⟩).cell? ⟨w.heap.size,j,none⟩:=by rw[Addr.add_lit,Nat.zero_add];rfl
  rw[h1,bytesWorld_cell w 5 ⟨⟨s⟩⟩ j hj']
  rw[List.getElem?_map,List.getElem?_eq_getElem hj']at hj
  simp only[Option.map_some,Option.some.injEq]at hj
  rw[←hj]
  simp[List.getD_eq_getElem?_getD,List.getElem?_eq_getElem hj'])
 rw[List.length_map]at h
 exact h
theorem yI5(w:World)(s:List UInt8)(k:Nat)(cap:Nat):(convert 154 9 (.slice (some ⟨(bytesWorld w 5 ⟨⟨s⟩⟩).heap.size,0,none⟩) (s.length+k) cap)).run pP (yI3 w s k)=.ok (.string ⟨⟨s++List.replicate k 0⟩⟩) (yI3 w s k):=by
 have h:=run_convert_bytes_back (P:=pP) (yI3 w s k) 154 9 5 ⟨(bytesWorld w 5 ⟨⟨s⟩⟩).heap.size,0,none⟩ cap (s++List.replicate k 0) Tryz.underlying154 Tryz.underlying5 Tryz.underlying9 (fun j hj=>by
  rw[Addr.add_lit,Nat.zero_add]
  show((bytesWorld w 5 ⟨⟨s⟩⟩).alloc (.cells (yH8 w s k) 5)).cell? _=_
  rw[World.cell?_alloc_mark]
  unfold yH8
  rw[x83,x83]
  by_cases h:j<s.length
  ·rw[Array.getElem?_append_left (by simpa using h),List.getElem_append_left h,←Array.getElem?_toList]
   simp[List.getElem?_eq_getElem h]
  ·rw[List.length_append,List.length_replicate]at hj
   rw[Array.getElem?_append_right (by simpa using h),Array.getElem?_append_left (by simp;omega),List.getElem_append_right (by omega),←Array.getElem?_toList]
   simp[List.getElem?_replicate];omega)
 rw[List.length_append,List.length_replicate]at h
 exact h
theorem yI4(w:World)(s:List UInt8)(k:Nat):Below w.heap.size w (yI3 w s k):=by
 refine⟨rfl,rfl,rfl,?_,fun j hj=>?_⟩
 ·show w.heap.size≤((bytesWorld w 5 ⟨⟨s⟩⟩).heap.push _).size
  rw[Array.size_push,bytesWorld_size];omega
 ·show((bytesWorld w 5 ⟨⟨s⟩⟩).heap.push _)[j]? =_
  rw[Array.getElem?_push,if_neg (by rw[bytesWorld_size];omega)]
  exact bytesWorld_at_old w 5 _ j hj
set_option maxHeartbeats 4000000 in
theorem yI8(s:List UInt8)(k:Nat)(w:World)(h0:0<s.length)(hk:0<k)(hn:s.length+k≤65536):
  Calls pP 301 #[.string ⟨⟨s⟩⟩,.int .i64 ((s.length+k:Nat):Int)] w fun e w'=>e=.returned (.tuple #[.string ⟨⟨s++List.replicate k 0⟩⟩,.int .i64 0])∧w'=yI3 w s k:=by
 obtain⟨n,hnn⟩:∃n,n=s.length+k:=⟨_,rfl⟩
 rw[←hnn]
 have h1:s.length<n:=by omega
 have h2:n≤65536:=by omega
 have hsub:(n:Int)-(s.length:Int)=(k:Int):=by omega
 have hN:Hid (n=s.length+k):=hnn
 have hk2:Hid (s.length+k≤65536):=hn
 clear hnn hn
 have hC2:Hid (s.length≤grownCap w s.length 0 5):=grownCap_ge _ _ _ _
 have hL:=yI7 w s
 have hV:=yI5 w s k
 have hq:Hid (¬(281474976710656<Builtin.nextslicecap (s.length+k) s.length)):=by
  have:Builtin.nextslicecap (s.length+k) s.length*1≤281474976710656:=growslice_fits (by omega) (by have:=hk2.out;omega)
  show ¬_
  omega
 go_enter Tryz.func301,Tryz.ntmps301
 go_wp2
 rw[Lib.run_convert_string_bytes w 9 154 5 ⟨⟨s⟩⟩ Tryz.underlying9 Tryz.underlying154 Tryz.underlying5]
 simp only[Result.andThen]
 rw[Oper.upon_value]
 go_wp2
 ·rename_i h1 h2;exfalso;rw[xG2]at h1;have:=hk2.out;omega
 ·rename_i h1 h2;exfalso;rw[xG2]at h1;have:=hk2.out;omega
 ·rename_i h1 h2 h3 h4;exfalso;rw[xG2]at h1;have:=hq.out;omega
 ·erw [hV]
  simp only[Result.andThen]
  rw[Oper.upon_value]
  go_wp2
  go_ret2
  exact⟨rfl,rfl⟩
theorem xj4(s:List UInt8)(n:Int)(h0:0<s.length)(h:(s.length:Int)<n)(hn:n≤65536):SCall pP 301 [.str s,I64 n] (.tuple [.str (yI2 s n),I64 0]):=by
 refine xs9 (fn:=Tryz.f301) rfl rfl Tryz.func301 (by kernel_rfl) (by kernel_rfl) fun R w vs hR hg hvs=>?_
 obtain⟨u,us,rfl,h1,u2,us2,rfl,h2,h3⟩:=hvs
 rw[show us2=[]from h3,show u=_ from h1,show u2=_ from h2]
 obtain⟨k,hk⟩:∃k:Nat,n=((s.length+k:Nat):Int):=⟨(n-s.length).toNat,by omega⟩
 subst hk
 refine(yI8 s k w h0 (by omega) (by omega)).mono fun e w' ⟨he,hw⟩=>⟨_,he,by rw[hw];exact yI4 w s k,?_⟩
 refine⟨_,rfl,_,_,rfl,?_,_,_,rfl,rfl,rfl⟩
 show Value.string _=Value.string _
 have:(((s.length+k:Nat):Int)-(s.length:Int)).toNat=k:=by omega
 simp only[yI2,this]
def qb2:Fact:=⟨301,fun args=>match args with
 |[.str s,.int .i64 n] =>some (.req (decide (0<s.length)&& (decide ((s.length:Int)<n)&&decide (n≤65536))) (.leaf (.tuple [.str (yI2 s n),I64 0])))
 |_=>none⟩
theorem yp8:qb2.ok pP:=fun args t ht=>by
 simp only[qb2]at ht
 split at ht
 ·injection ht with ht;subst ht
  intro h
  simp only[Bool.and_eq_true,decide_eq_true_eq]at h
  exact xj4 _ _ h.1 h.2.1 h.2.2
 ·cases ht
open Go.Sx
def x44:Plan:=let z0:Plan:=.fork (.ln 3 (.lit .all)) (.ln 3 (.fork .all (.fork .all (.fork .all .all))));.fork z0 z0
noncomputable def x45(f:Fl)(i:Int)(d:List UInt8):Tree Stop:= .node (f.pages.isEmpty) (.req (o7 f) (.node (!qB5 f i) (.leaf (.done (.tuple [.agg [.list Ty.str [],I64 f.fuse,.bool f.dead,I64 f.keep],I64 1]))) (.node ((↑d.length:Int) != 64) (.leaf (.done (.tuple [.agg [.list Ty.str [],I64 f.fuse,.bool f.dead,I64 f.keep],I64 1]))) (.node (f.dead) (.leaf (.done (.tuple [.agg [.list Ty.str [],I64 f.fuse,.bool f.dead,I64 f.keep],I64 17]))) (.req (decide (0≤i)&&decide (i< (↑f.pages.length:Int))) (.node (f.fuse==1) (.req (decide (0≤f.keep)&&decide (f.keep≤(↑d.length:Int))) (.req (decide ((List.map (fun b=>(↑b.toNat:Int)) (List.take f.keep.toNat d)).length≤(List.map (fun b=>(↑b.toNat:Int)) (f.pages.getD i.toNat ([] :List UInt8))).length)&&!(List.map (fun b=>(↑b.toNat:Int)) (f.pages.getD i.toNat ([] :List UInt8))).isEmpty) (.req (decide (0≤i)&&decide (i<0)) (.fail 6)))) (.req (decide ((List.map (fun b=>(↑b.toNat:Int)) d).length≤(List.map (fun b=>(↑b.toNat:Int)) (f.pages.getD i.toNat ([] :List UInt8))).length)&&!(List.map (fun b=>(↑b.toNat:Int)) (f.pages.getD i.toNat ([] :List UInt8))).isEmpty) (.req (decide (0≤i)&&decide (i<0)) (.fail 6))))))))) (.req (decide ((0+f.pages.length)*16≤140737488355328)) (.req (o7 f) (.node (!qB5 f i) (.leaf (.done (.tuple [.agg [.list Ty.str f.pages,I64 f.fuse,.bool f.dead,I64 f.keep],I64 1]))) (.node ((↑d.length:Int) != 64) (.leaf (.done (.tuple [.agg [.list Ty.str f.pages,I64 f.fuse,.bool f.dead,I64 f.keep],I64 1]))) (.node (f.dead) (.leaf (.done (.tuple [.agg [.list Ty.str f.pages,I64 f.fuse,.bool f.dead,I64 f.keep],I64 17]))) (.req (decide (0≤i)&&decide (i< (↑f.pages.length:Int))) (.node (f.fuse==1) (.req (decide (0≤f.keep)&&decide (f.keep≤(↑d.length:Int))) (.req (decide ((List.map (fun b=>(↑b.toNat:Int)) (List.take f.keep.toNat d)).length≤(List.map (fun b=>(↑b.toNat:Int)) (f.pages.getD i.toNat ([] :List UInt8))).length)&&!(List.map (fun b=>(↑b.toNat:Int)) (f.pages.getD i.toNat ([] :List UInt8))).isEmpty) (.req (decide (0≤i)&&decide (i< (↑f.pages.length:Int))) (.req (decide (i.toNat<f.pages.length)) (.leaf (.done (.tuple [.agg [.list Ty.str (f.pages.set i.toNat (List.map (fun n=>UInt8.ofNat (Int.toNat n)) (List.map (fun b=>(↑b.toNat:Int)) (List.take f.keep.toNat d)++List.drop (List.map (fun b=>(↑b.toNat:Int)) (List.take f.keep.toNat d)).length (List.map (fun b=>(↑b.toNat:Int)) (f.pages.getD i.toNat ([] :List UInt8)))))),I64 0,.bool true,I64 0],I64 17]))))))) (.req (decide ((List.map (fun b=>(↑b.toNat:Int)) d).length≤(List.map (fun b=>(↑b.toNat:Int)) (f.pages.getD i.toNat ([] :List UInt8))).length)&&!(List.map (fun b=>(↑b.toNat:Int)) (f.pages.getD i.toNat ([] :List UInt8))).isEmpty) (.req (decide (0≤i)&&decide (i< (↑f.pages.length:Int))) (.req (decide (i.toNat<f.pages.length)) (.leaf (.done (.tuple [.agg [.list Ty.str (f.pages.set i.toNat (List.map (fun n=>UInt8.ofNat (Int.toNat n)) (List.map (fun b=>(↑b.toNat:Int)) d++List.drop (List.map (fun b=>(↑b.toNat:Int)) d).length (List.map (fun b=>(↑b.toNat:Int)) (f.pages.getD i.toNat ([] :List UInt8)))))),I64 (if i64.wrap (f.fuse-1)>0 then i64.wrap (f.fuse-1)else 0),.bool f.dead,I64 f.keep],I64 0])))))))))))))
theorem wrp(f:Fl)(i:Int)(d:List UInt8):w9 (Env.ofB pP (v6 [z74]) (d7 []) (d9 []) (d8 []) (x7 []) (x7 [130]) (x7 []) (x7 [])) 1000 (j7 pP 267) .str (x8 65 []) (u7 pP 267) x44 (v9 pP 267 [f.sv,I64 i,.str d]) [] =x45 f i d:=by kernel_rfl
def x46:Plan:=let z0:Plan:=.fork (.ln 12 (.lit .all)) (.lit (.lit (.fork (.ln 9 (.lit .all)) (.ln 5 (.fork (.ln 3 (.lit .all)) (.ln 3 (.fork .all (.fork .all (.fork .all .all)))))))));.fork z0 z0
noncomputable def x47(f:Fl)(i:Int)(d:List UInt8):Tree Stop:= .node (f.pages.isEmpty) (.req (o7 f) (.node (!flB f) (.leaf (.done (.tuple [.agg [.list Ty.str [],I64 f.fuse,.bool f.dead,I64 f.keep],I64 1]))) (.node (decide (i<0)) (.leaf (.done (.tuple [.agg [.list Ty.str [],I64 f.fuse,.bool f.dead,I64 f.keep],I64 1]))) (.node (decide (i≥(↑f.pages.length:Int))) (.leaf (.done (.tuple [.agg [.list Ty.str [],I64 f.fuse,.bool f.dead,I64 f.keep],I64 1]))) (.node ((↑d.length:Int) != 64) (.leaf (.done (.tuple [.agg [.list Ty.str [],I64 f.fuse,.bool f.dead,I64 f.keep],I64 1]))) (.node (f.dead) (.leaf (.done (.tuple [.agg [.list Ty.str [],I64 f.fuse,.bool f.dead,I64 f.keep],I64 17]))) (.node (f.fuse==1) (.req (decide (0≤f.keep)&&decide (f.keep≤(↑d.length:Int))) (.req (decide (0≤i)&&decide (i< (↑f.pages.length:Int))) (.req (decide (0≤f.keep)&&decide (f.keep≤((List.length (f.pages.getD i.toNat ([] :List UInt8)):Nat):Int))) (.req (decide ((((List.take f.keep.toNat d).length+(List.drop f.keep.toNat (f.pages.getD i.toNat ([] :List UInt8))).length:Nat):Int)≤(9223372036854775807:Int))) (.req (decide (0≤i)&&decide (i<0)) (.fail 6)))))) (.req (decide (0≤i)&&decide (i<0)) (.fail 6))))))))) (.req (decide ((0+f.pages.length)*16≤140737488355328)) (.req (o7 f) (.node (!flB f) (.leaf (.done (.tuple [.agg [.list Ty.str f.pages,I64 f.fuse,.bool f.dead,I64 f.keep],I64 1]))) (.node (decide (i<0)) (.leaf (.done (.tuple [.agg [.list Ty.str f.pages,I64 f.fuse,.bool f.dead,I64 f.keep],I64 1]))) (.node (decide (i≥(↑f.pages.length:Int))) (.leaf (.done (.tuple [.agg [.list Ty.str f.pages,I64 f.fuse,.bool f.dead,I64 f.keep],I64 1]))) (.node ((↑d.length:Int) != 64) (.leaf (.done (.tuple [.agg [.list Ty.str f.pages,I64 f.fuse,.bool f.dead,I64 f.keep],I64 1]))) (.node (f.dead) (.leaf (.done (.tuple [.agg [.list Ty.str f.pages,I64 f.fuse,.bool f.dead,I64 f.keep],I64 17]))) (.node (f.fuse==1) (.req (decide (0≤f.keep)&&decide (f.keep≤(↑d.length:Int))) (.req (decide (0≤i)&&decide (i< (↑f.pages.length:Int))) (.req (decide (0≤f.keep)&&decide (f.keep≤((List.length (f.pages.getD i.toNat ([] :List UInt8)):Nat):Int))) (.req (decide ((((List.take f.keep.toNat d).length+(List.drop f.keep.toNat (f.pages.getD i.toNat ([] :List UInt8))).length:Nat):Int)≤(9223372036854775807:Int))) (.req (decide (0≤i)&&decide (i< (↑f.pages.length:Int))) (.req (decide (i.toNat<f.pages.length)) (.leaf (.done (.tuple [.agg [.list Ty.str (f.pages.set i.toNat (List.take f.keep.toNat d++List.drop f.keep.toNat (f.pages.getD i.toNat ([] :List UInt8)))),I64 0,.bool true,I64 0],I64 17]))))))))) (.req (decide (0≤i)&&decide (i< (↑f.pages.length:Int))) (.req (decide (i.toNat<f.pages.length)) (.leaf (.done (.tuple [.agg [.list Ty.str (f.pages.set i.toNat d),I64 (if i64.wrap (f.fuse-1)>0 then i64.wrap (f.fuse-1)else 0),.bool f.dead,I64 f.keep],I64 0])))))))))))))
theorem wrr(f:Fl)(i:Int)(d:List UInt8):w9 (Env.ofB pP (v6 [z61]) (d7 []) (d9 []) (d8 []) (x7 []) (x7 [131]) (x7 []) (x7 [])) 1000 (j7 pP 190) .str (x8 69 []) (u7 pP 190) x46 (v9 pP 190 [f.sv,I64 i,.str d]) [] =x47 f i d:=by kernel_rfl
open Go.Sx
def zY4(r:Rc):List UInt8:=beN r.seq 6++beN r.kind 1++beN r.line 6++beN r.done 4++beN r.src.fst 4++beN r.src.snd.fst 4++beN r.src.snd.snd.fst 4++beN r.src.snd.snd.snd 4++beN r.dst.fst 4++beN r.dst.snd.fst 4++beN r.dst.snd.snd.fst 4++beN r.dst.snd.snd.snd 4
theorem zY5(r:Rc):zY4 r=zY6 r:=by simp only[zY4,zY6,List.append_assoc]
theorem xb4(r:Rc):SCall pP 266 [r.sv] (zZ0 r):=
 o9 mix [qc1,fUi,fIi,z48,qb2] ⟨yq7,yt4,ym2,yj2,yp8,trivial⟩ 1000 (.fork (.all) (.go (.lit (.go (.lit (.go (.lit (.go (.lit (.go (.lit (.go (.lit (.go (.lit (.go (.lit (.go (.lit (.go (.lit (.go (.lit (.go (.lit (.go (.lit (.all))))))))))))))))))))))))))))
  (t:=let y0:=(9223372036854775807:Int);let y1:=zY4 r++beN ((crc (zY4 r):Nat):Int) 2;.node (!rcB r) (.leaf (.tuple [SV.str [],I64 1])) (.req (inR r.seq 0 281474976710655) (.req (decide (((0+(beN r.seq 6).length:Nat):Int)≤y0)) (.req (inR r.kind 0 255) (.req (decide ((((beN r.seq 6).length+(beN r.kind 1).length:Nat):Int)≤y0)) (.req (inR r.line 0 281474976710655) (.req (decide ((((beN r.seq 6++beN r.kind 1).length+(beN r.line 6).length:Nat):Int)≤y0)) (.req (inR r.done 0 4294967295) (.req (decide ((((beN r.seq 6++beN r.kind 1++beN r.line 6).length+(beN r.done 4).length:Nat):Int)≤y0)) (.req true (.req (true) (.req (inR r.src.1 (-2147483648) 2147483647) (.req (decide ((((beN r.seq 6++beN r.kind 1++beN r.line 6++beN r.done 4).length+(beN r.src.1 4).length:Nat):Int)≤y0)) (.req true (.req (inR r.src.2.1 (-2147483648) 2147483647) (.req (decide ((((beN r.seq 6++beN r.kind 1++beN r.line 6++beN r.done 4++beN r.src.1 4).length+(beN r.src.2.1 4).length:Nat):Int)≤y0)) (.req true (.req (inR r.src.2.2.1 (-2147483648) 2147483647) (.req (decide ((((beN r.seq 6++beN r.kind 1++beN r.line 6++beN r.done 4++beN r.src.1 4++beN r.src.2.1 4).length+(beN r.src.2.2.1 4).length:Nat):Int)≤y0)) (.req true (.req (inR r.src.2.2.2 (-2147483648) 2147483647) (.req (decide ((((beN r.seq 6++beN r.kind 1++beN r.line 6++beN r.done 4++beN r.src.1 4++beN r.src.2.1 4++beN r.src.2.2.1 4).length+(beN r.src.2.2.2 4).length:Nat):Int)≤y0)) (.req true (.req (true) (.req (inR r.dst.1 (-2147483648) 2147483647) (.req (decide ((((beN r.seq 6++beN r.kind 1++beN r.line 6++beN r.done 4++beN r.src.1 4++beN r.src.2.1 4++beN r.src.2.2.1 4++beN r.src.2.2.2 4).length+(beN r.dst.1 4).length:Nat):Int)≤y0)) (.req true (.req (inR r.dst.2.1 (-2147483648) 2147483647) (.req (decide ((((beN r.seq 6++beN r.kind 1++beN r.line 6++beN r.done 4++beN r.src.1 4++beN r.src.2.1 4++beN r.src.2.2.1 4++beN r.src.2.2.2 4++beN r.dst.1 4).length+(beN r.dst.2.1 4).length:Nat):Int)≤y0)) (.req true (.req (inR r.dst.2.2.1 (-2147483648) 2147483647) (.req (decide ((((beN r.seq 6++beN r.kind 1++beN r.line 6++beN r.done 4++beN r.src.1 4++beN r.src.2.1 4++beN r.src.2.2.1 4++beN r.src.2.2.2 4++beN r.dst.1 4++beN r.dst.2.1 4).length+(beN r.dst.2.2.1 4).length:Nat):Int)≤y0)) (.req true (.req (inR r.dst.2.2.2 (-2147483648) 2147483647) (.req (decide ((((beN r.seq 6++beN r.kind 1++beN r.line 6++beN r.done 4++beN r.src.1 4++beN r.src.2.1 4++beN r.src.2.2.1 4++beN r.src.2.2.2 4++beN r.dst.1 4++beN r.dst.2.1 4++beN r.dst.2.2.1 4).length+(beN r.dst.2.2.2 4).length:Nat):Int)≤y0)) (.req (decide ((zY4 r).length≤100000)) (.req (inR ((crc (zY4 r):Nat):Int) 0 65535) (.req (decide ((((zY4 r).length+(beN ((crc (zY4 r):Nat):Int) 2).length:Nat):Int)≤y0)) (.req (decide (0<y1.length)&& (decide ((↑y1.length:Int)<58)&&true)) (.req (inR r.seq 0 281474976710655) (.req (decide ((((yI2 y1 58).length+(beN r.seq 6).length:Nat):Int)≤y0)) (.leaf (.tuple [SV.str (yI2 y1 58++beN r.seq 6),I64 0])))))))))))))))))))))))))))))))))))))))))))
  (by kernel_rfl) (by
   unfold zZ0
   refine q84 (fun v=>by rw[v];rfl) fun v=>?_
   rw[v]
   have q:=yU4.1 v
   have c:=zM5 (zY6 r)
   have l:=zY7 r
   rw[zY5]
   have R:∀{x lo hi:Int},lo≤x→x≤hi→inR x lo hi=true:=fun a b=>v8.2 ⟨a,b⟩
   have D:∀{x:Nat},x≤100000→decide (((x:Nat):Int)≤(9223372036854775807:Int))=true:=fun h=>decide_eq_true (by omega)
   have hl:∀n w,(beN n w).length=w:=zw4
   have p58:(yI2 (zY6 r++beN ((crc (zY6 r):Nat):Int) 2) 58).length=58:=by
    simp only[yI2,List.length_append,hl,l,List.length_replicate];omega
   refine x6 (R (by omega) (by omega)) ?_
   refine x6 (D (by simp only[List.length_append,hl,List.length_nil];omega)) ?_
   refine x6 (R (by omega) (by omega)) ?_
   refine x6 (D (by simp only[List.length_append,hl,List.length_nil];omega)) ?_
   refine x6 (R (by omega) (by omega)) ?_
   refine x6 (D (by simp only[List.length_append,hl,List.length_nil];omega)) ?_
   refine x6 (R (by omega) (by omega)) ?_
   refine x6 (D (by simp only[List.length_append,hl,List.length_nil];omega)) ?_
   refine x6 rfl ?_
   refine x6 rfl ?_
   refine x6 (R (by omega) (by omega)) ?_
   refine x6 (D (by simp only[List.length_append,hl,List.length_nil];omega)) ?_
   refine x6 rfl ?_
   refine x6 (R (by omega) (by omega)) ?_
   refine x6 (D (by simp only[List.length_append,hl,List.length_nil];omega)) ?_
   refine x6 rfl ?_
   refine x6 (R (by omega) (by omega)) ?_
   refine x6 (D (by simp only[List.length_append,hl,List.length_nil];omega)) ?_
   refine x6 rfl ?_
   refine x6 (R (by omega) (by omega)) ?_
   refine x6 (D (by simp only[List.length_append,hl,List.length_nil];omega)) ?_
   refine x6 rfl ?_
   refine x6 rfl ?_
   refine x6 (R (by omega) (by omega)) ?_
   refine x6 (D (by simp only[List.length_append,hl,List.length_nil];omega)) ?_
   refine x6 rfl ?_
   refine x6 (R (by omega) (by omega)) ?_
   refine x6 (D (by simp only[List.length_append,hl,List.length_nil];omega)) ?_
   refine x6 rfl ?_
   refine x6 (R (by omega) (by omega)) ?_
   refine x6 (D (by simp only[List.length_append,hl,List.length_nil];omega)) ?_
   refine x6 rfl ?_
   refine x6 (R (by omega) (by omega)) ?_
   refine x6 (D (by simp only[List.length_append,hl,List.length_nil];omega)) ?_
   refine x6 (decide_eq_true (by rw[l];omega)) ?_
   refine x6 (R (by omega) (by omega)) ?_
   refine x6 (D (by rw[l,hl];omega)) ?_
   refine x6 (by
    have e:(zY6 r++beN ((crc (zY6 r):Nat):Int) 2).length=51:=by rw[List.length_append,hl,l]
    rw[e];rfl) ?_
   refine x6 (R (by omega) (by omega)) ?_
   refine x6 (D (by rw[p58,hl];omega)) ?_
   rfl) (by kernel_rfl) (by exact zZ1 r)
open Go.Sx
def yf1:Plan:=.lit (.all)
noncomputable def yf2(s:List UInt8)(a:Int):Tree StopX:= .req (decide (0≤a)&& (decide (a+6≤(↑s.length:Int))&&decide (s.length≤100000))) (.leaf (.fin (.ret (I64 (tk s a.toNat 6)) [some (.cells [SV.str s,I64 (a+6),I64 6,SV.fn 282 [] []])])))
theorem yf0(s:List UInt8)(a:Int):xt5 (Env.ofB pP (v6 [fTu,fTi]) (d7 []) (d9 []) (d8 []) (x7 []) (x7 []) (x7 []) (x7 [])) 1000 (j7 pP 283) 1 (x8 34 []) (u7 pP 283) yf1 (v9 pP 283 [.ptr 0 0]) [some (.cells [.str s,I64 a,I64 6,.fn 282 [] []])] =yf2 s a:=by kernel_rfl
theorem zt9(s:List UInt8)(a:Int)(h0:0≤a)(h1:a+6≤(s.length:Int))(h2:s.length≤100000):za1 pP 283 [] (.cells [.str s,I64 a,I64 6,.fn 282 [] []]) (false,I64 (tk s a.toNat 6),.cells [.str s,I64 (a+6),I64 6,.fn 282 [] []]):=by
 refine zw0 (r:=.ret (I64 (tk s a.toNat 6)) [some (.cells [.str s,I64 (a+6),I64 6,.fn 282 [] []])]) (by kernel_rfl) (y70 (hB (l:=[fTu,fTi]) (k:=[]) (j:=[]) (i:=[]) ([] :List Nat) ([] :List Nat) ([] :List Nat) ([] :List Nat) (⟨yt2,ys7,trivial⟩) o4 o4 o4) (n:=1000) (keep:=(x8 34 [])) (p:=yf1) (Nat.le_refl _) ?_) rfl rfl rfl rfl rfl
 erw [yf0 s a]
 unfold yf2
 exact⟨by simp only[Bool.and_eq_true,decide_eq_true_eq];exact⟨h0,h1,h2⟩,rfl⟩
def ye5:Plan:=.lit (.all)
noncomputable def ye6(s:List UInt8)(a:Int):Tree StopX:= .req (decide (0≤a)&& (decide (a+1≤(↑s.length:Int))&&decide (s.length≤100000))) (.leaf (.fin (.ret (I64 (tk s a.toNat 1)) [some (.cells [SV.str s,I64 (a+1),I64 1,SV.fn 282 [] []])])))
theorem ye4(s:List UInt8)(a:Int):xt5 (Env.ofB pP (v6 [fTu,fTi]) (d7 []) (d9 []) (d8 []) (x7 []) (x7 []) (x7 []) (x7 [])) 1000 (j7 pP 283) 1 (x8 34 []) (u7 pP 283) ye5 (v9 pP 283 [.ptr 0 0]) [some (.cells [.str s,I64 a,I64 1,.fn 282 [] []])] =ye6 s a:=by kernel_rfl
theorem zt7(s:List UInt8)(a:Int)(h0:0≤a)(h1:a+1≤(s.length:Int))(h2:s.length≤100000):za1 pP 283 [] (.cells [.str s,I64 a,I64 1,.fn 282 [] []]) (false,I64 (tk s a.toNat 1),.cells [.str s,I64 (a+1),I64 1,.fn 282 [] []]):=by
 refine zw0 (r:=.ret (I64 (tk s a.toNat 1)) [some (.cells [.str s,I64 (a+1),I64 1,.fn 282 [] []])]) (by kernel_rfl) (y70 (hB (l:=[fTu,fTi]) (k:=[]) (j:=[]) (i:=[]) ([] :List Nat) ([] :List Nat) ([] :List Nat) ([] :List Nat) (⟨yt2,ys7,trivial⟩) o4 o4 o4) (n:=1000) (keep:=(x8 34 [])) (p:=ye5) (Nat.le_refl _) ?_) rfl rfl rfl rfl rfl
 erw [ye4 s a]
 unfold ye6
 exact⟨by simp only[Bool.and_eq_true,decide_eq_true_eq];exact⟨h0,h1,h2⟩,rfl⟩
def ye8:Plan:=.lit (.all)
noncomputable def ye9(s:List UInt8)(a:Int):Tree StopX:= .req (decide (0≤a)&& (decide (a+4≤(↑s.length:Int))&&decide (s.length≤100000))) (.leaf (.fin (.ret (I64 (tk s a.toNat 4)) [some (.cells [SV.str s,I64 (a+4),I64 4,SV.fn 282 [] []])])))
theorem ye7(s:List UInt8)(a:Int):xt5 (Env.ofB pP (v6 [fTu,fTi]) (d7 []) (d9 []) (d8 []) (x7 []) (x7 []) (x7 []) (x7 [])) 1000 (j7 pP 283) 1 (x8 34 []) (u7 pP 283) ye8 (v9 pP 283 [.ptr 0 0]) [some (.cells [.str s,I64 a,I64 4,.fn 282 [] []])] =ye9 s a:=by kernel_rfl
theorem zt8(s:List UInt8)(a:Int)(h0:0≤a)(h1:a+4≤(s.length:Int))(h2:s.length≤100000):za1 pP 283 [] (.cells [.str s,I64 a,I64 4,.fn 282 [] []]) (false,I64 (tk s a.toNat 4),.cells [.str s,I64 (a+4),I64 4,.fn 282 [] []]):=by
 refine zw0 (r:=.ret (I64 (tk s a.toNat 4)) [some (.cells [.str s,I64 (a+4),I64 4,.fn 282 [] []])]) (by kernel_rfl) (y70 (hB (l:=[fTu,fTi]) (k:=[]) (j:=[]) (i:=[]) ([] :List Nat) ([] :List Nat) ([] :List Nat) ([] :List Nat) (⟨yt2,ys7,trivial⟩) o4 o4 o4) (n:=1000) (keep:=(x8 34 [])) (p:=ye8) (Nat.le_refl _) ?_) rfl rfl rfl rfl rfl
 erw [ye7 s a]
 unfold ye9
 exact⟨by simp only[Bool.and_eq_true,decide_eq_true_eq];exact⟨h0,h1,h2⟩,rfl⟩
def ye2:Plan:=.lit (.all)
noncomputable def ye3(s:List UInt8)(a:Int):Tree StopX:= .req (decide (0≤a)&& (decide (a+4≤(↑s.length:Int))&&decide (s.length≤100000))) (.leaf (.fin (.ret (I64 (sg (tk s a.toNat 4))) [some (.cells [SV.str s,I64 (a+4),I64 4,SV.fn 284 [] []])])))
theorem ye1(s:List UInt8)(a:Int):xt5 (Env.ofB pP (v6 [fTu,fTi]) (d7 []) (d9 []) (d8 []) (x7 []) (x7 []) (x7 []) (x7 [])) 1000 (j7 pP 283) 1 (x8 34 []) (u7 pP 283) ye2 (v9 pP 283 [.ptr 0 0]) [some (.cells [.str s,I64 a,I64 4,.fn 284 [] []])] =ye3 s a:=by kernel_rfl
theorem zt6(s:List UInt8)(a:Int)(h0:0≤a)(h1:a+4≤(s.length:Int))(h2:s.length≤100000):za1 pP 283 [] (.cells [.str s,I64 a,I64 4,.fn 284 [] []]) (false,I64 (sg (tk s a.toNat 4)),.cells [.str s,I64 (a+4),I64 4,.fn 284 [] []]):=by
 refine zw0 (r:=.ret (I64 (sg (tk s a.toNat 4))) [some (.cells [.str s,I64 (a+4),I64 4,.fn 284 [] []])]) (by kernel_rfl) (y70 (hB (l:=[fTu,fTi]) (k:=[]) (j:=[]) (i:=[]) ([] :List Nat) ([] :List Nat) ([] :List Nat) ([] :List Nat) (⟨yt2,ys7,trivial⟩) o4 o4 o4) (n:=1000) (keep:=(x8 34 [])) (p:=ye2) (Nat.le_refl _) ?_) rfl rfl rfl rfl rfl
 erw [ye1 s a]
 unfold ye3
 exact⟨by simp only[Bool.and_eq_true,decide_eq_true_eq];exact⟨h0,h1,h2⟩,rfl⟩
def zt2:BFact:=⟨283,fun args B=>match args with
 |[] =>match B with
  |.cells [.str s,.int .i64 a,.int .i64 w,.fn g [] []] =>match Nat.beq g 282 with
   |true=>match w==6 with
    |true=>some (.req (decide (0≤a)&& (decide (a+6≤(s.length:Int))&&decide (s.length≤100000))) (.leaf (false,I64 (tk s a.toNat 6),.cells [.str s,I64 (a+6),I64 6,.fn 282 [] []])))
    |false=>match w==1 with
     |true=>some (.req (decide (0≤a)&& (decide (a+1≤(s.length:Int))&&decide (s.length≤100000))) (.leaf (false,I64 (tk s a.toNat 1),.cells [.str s,I64 (a+1),I64 1,.fn 282 [] []])))
     |false=>match w==4 with
      |true=>some (.req (decide (0≤a)&& (decide (a+4≤(s.length:Int))&&decide (s.length≤100000))) (.leaf (false,I64 (tk s a.toNat 4),.cells [.str s,I64 (a+4),I64 4,.fn 282 [] []])))
      |false=>none
   |false=>match Nat.beq g 284 with
    |true=>match w==4 with
     |true=>some (.req (decide (0≤a)&& (decide (a+4≤(s.length:Int))&&decide (s.length≤100000))) (.leaf (false,I64 (sg (tk s a.toNat 4)),.cells [.str s,I64 (a+4),I64 4,.fn 284 [] []])))
     |false=>none
    |false=>none
  |_=>none
 |_=>none⟩
theorem yo4:zt2.ok pP:=fun args B t ht=>by
 simp only[zt2]at ht
 split at ht
 ·split at ht
  ·rename_i s a w g
   have sp:∀{x:Int} {k:Nat},(decide (0≤a)&& (decide (a+x≤(s.length:Int))&&decide (s.length≤100000)))=true→0≤a∧a+x≤(s.length:Int)∧s.length≤100000:=fun h=>by simpa using h
   split at ht
   ·rename_i hg
    have hg:=Nat.eq_of_beq_eq_true hg
    subst hg
    split at ht
    ·rename_i hw
     have hw:=beq_iff_eq.1 hw
     subst hw
     injection ht with ht;subst ht
     intro h;obtain⟨h0,h1,h2⟩:=sp (k:=0) h;exact zt9 s a h0 h1 h2
    ·split at ht
     ·rename_i hw
      have hw:=beq_iff_eq.1 hw
      subst hw
      injection ht with ht;subst ht
      intro h;obtain⟨h0,h1,h2⟩:=sp (k:=0) h;exact zt7 s a h0 h1 h2
     ·split at ht
      ·rename_i hw
       have hw:=beq_iff_eq.1 hw
       subst hw
       injection ht with ht;subst ht
       intro h;obtain⟨h0,h1,h2⟩:=sp (k:=0) h;exact zt8 s a h0 h1 h2
      ·cases ht
   ·split at ht
    ·rename_i hg
     have hg:=Nat.eq_of_beq_eq_true hg
     subst hg
     split at ht
     ·rename_i hw
      have hw:=beq_iff_eq.1 hw
      subst hw
      injection ht with ht;subst ht
      intro h;obtain⟨h0,h1,h2⟩:=sp (k:=0) h;exact zt6 s a h0 h1 h2
     ·cases ht
    ·cases ht
  ·cases ht
 ·cases ht
def z55:Fact:=ql8 266 fun r=>.node (rcB r) (.leaf (.tuple [.str (enc r),I64 0])) (.leaf (.tuple [.str [],I64 1]))
theorem yj8:z55.ok pP:=ql9 fun r=>by
 have q:=xb4 r
 unfold zZ0 at q
 exact⟨fun v=>by rw[v]at q;exact q,fun v=>by rw[v]at q;exact q⟩
open Go.Sx
theorem xa6(s:List UInt8)(h:s.length≤100000):SCall pP 255 [.str s] (zQ4 s):=
 xt3 (hB (l:=[z55]) (k:=[]) (j:=[BFact.toP zt2]) (i:=[zt2]) ([] :List Nat) ([] :List Nat) ([] :List Nat) ([] :List Nat) (⟨yj8,trivial⟩) o4 (allQ.all (p:=PFact.ok pP) (l:=[BFact.toP zt2]) ⟨BFact.toP_ok yo4,trivial⟩) (allQ.all (p:=BFact.ok pP) (l:=[zt2]) ⟨yo4,trivial⟩)) 1000 (.fork .all (.go (.lit (.go (.lit (.go (.lit (.go (.lit (.go (.lit (.go (.lit (.go (.lit (.go (.lit (.go (.lit (.go (.lit (.go (.lit (.go (.lit (.go (.lit (.fork (.ln 4 (.fork .all .all)) (.ln 4 (.lit .all))))))))))))))))))))))))))))))
  (t:=let y0:=s.length≤100000;let y1:=(↑s.length:Int);let y2:=Rc.mk (tk s 6 1) (tk s 0 6) (tk s 7 6) (tk s 13 4) (sg (tk s 17 4),sg (tk s 21 4),sg (tk s 25 4),sg (tk s 29 4)) (sg (tk s 33 4),sg (tk s 37 4),sg (tk s 41 4),sg (tk s 45 4));let y3:Tree SV:=.leaf (.tuple [.agg [I64 0,I64 0,I64 0,I64 0,I64 0,I64 0,I64 0,I64 0,I64 0,I64 0,I64 0,I64 0],I64 19]);.node (decide (y1<64)) (.leaf (.tuple [.agg [I64 0,I64 0,I64 0,I64 0,I64 0,I64 0,I64 0,I64 0,I64 0,I64 0,I64 0,I64 0],I64 6])) (.req (decide (6≤y1)&&decide y0) (.req (decide (7≤y1)&&decide y0) (.req (decide (13≤y1)&&decide y0) (.req (decide (17≤y1)&&decide y0) (.req true (.req (decide (21≤y1)&&decide y0) (.req (decide (21≤y1)&&decide y0) (.req true (.req (decide (25≤y1)&&decide y0) (.req (decide (25≤y1)&&decide y0) (.req true (.req (decide (29≤y1)&&decide y0) (.req (decide (29≤y1)&&decide y0) (.req true (.req (decide (33≤y1)&&decide y0) (.req (decide (33≤y1)&&decide y0) (.req true (.req (true) (.req (decide (37≤y1)&&decide y0) (.req (decide (37≤y1)&&decide y0) (.req true (.req (decide (41≤y1)&&decide y0) (.req (decide (41≤y1)&&decide y0) (.req true (.req (decide (45≤y1)&&decide y0) (.req (decide (45≤y1)&&decide y0) (.req true (.req (decide (49≤y1)&&decide y0) (.req (decide (49≤y1)&&decide y0) (.req true (.node (rcB y2) (.node (!enc y2==s) y3 (.leaf (.tuple [.agg [I64 (tk s 6 1),I64 (tk s 0 6),I64 (tk s 7 6),I64 (tk s 13 4),I64 (sg (tk s 17 4)),I64 (sg (tk s 21 4)),I64 (sg (tk s 25 4)),I64 (sg (tk s 29 4)),I64 (sg (tk s 33 4)),I64 (sg (tk s 37 4)),I64 (sg (tk s 41 4)),I64 (sg (tk s 45 4))],I64 0]))) y3))))))))))))))))))))))))))))))))
  (by kernel_rfl) (by
   have qq:∀x:Int,x≤49→64≤s.length→(decide (x≤(s.length:Int))&&decide (s.length≤100000))=true:=fun x a b=>by simp;omega
   unfold zQ4
   refine o5 (fun a=>?_) (fun a=>?_)
   ·rw[decide_eq_true (show s.length<64 by omega)];rfl
   ·rw[decide_eq_false (show ¬s.length<64 by omega)]
    have b:64≤s.length:=by omega
    have e:zP9 s=(rcB (m9 s)&&s==enc (m9 s)):=rfl
    refine x6 (qq _ (by decide) b) ?_
    refine x6 (qq _ (by decide) b) ?_
    refine x6 (qq _ (by decide) b) ?_
    refine x6 (qq _ (by decide) b) ?_
    refine x6 rfl ?_
    refine x6 (qq _ (by decide) b) ?_
    refine x6 (qq _ (by decide) b) ?_
    refine x6 rfl ?_
    refine x6 (qq _ (by decide) b) ?_
    refine x6 (qq _ (by decide) b) ?_
    refine x6 rfl ?_
    refine x6 (qq _ (by decide) b) ?_
    refine x6 (qq _ (by decide) b) ?_
    refine x6 rfl ?_
    refine x6 (qq _ (by decide) b) ?_
    refine x6 (qq _ (by decide) b) ?_
    refine x6 rfl ?_
    refine x6 rfl ?_
    refine x6 (qq _ (by decide) b) ?_
    refine x6 (qq _ (by decide) b) ?_
    refine x6 rfl ?_
    refine x6 (qq _ (by decide) b) ?_
    refine x6 (qq _ (by decide) b) ?_
    refine x6 rfl ?_
    refine x6 (qq _ (by decide) b) ?_
    refine x6 (qq _ (by decide) b) ?_
    refine x6 rfl ?_
    refine x6 (qq _ (by decide) b) ?_
    refine x6 (qq _ (by decide) b) ?_
    refine x6 rfl ?_
    refine f9 (fun v=>?_) fun v=>?_
    ·have v:rcB (m9 s)=true:=v
     refine q84 (fun w=>?_) fun w=>?_
     ·have w:(enc (m9 s)==s)=false:=w
      have w:(s==enc (m9 s))=false:=by
       rw[beq_eq_false_iff_ne]at w ⊢;exact fun h=>w h.symm
      rw[e,v,w];rfl
     ·have w:(enc (m9 s)==s)=true:=w
      have w:(s==enc (m9 s))=true:=by
       rw[beq_iff_eq]at w ⊢;exact w.symm
      rw[e,v,w];rfl
    ·have v:rcB (m9 s)=false:=v
     rw[e,v];rfl) (by kernel_rfl) (by exact zQ5 s)
open Go.Sx
def wrV(f:Fl)(i:Int)(d:List UInt8):SV:=.tuple [(wrF f i d).sv,I64 (wrE f i d)]
theorem x38{f:Fl}{i:Int}{d:List UInt8}(h:qB5 f i=false∨¬d.length=64):wrV f i d=.tuple [f.sv,I64 1] :=by
 have e:(qB5 f i&&decide (d.length=64))=false:=by rcases h with h|h<;>simp[h]
 unfold wrV wrF wrE;rw[e];rfl
theorem x39{f:Fl}{i:Int}{d:List UInt8}(h:qB5 f i=true)(hd:d.length=64)(hf:f.dead=true):wrV f i d=.tuple [f.sv,I64 17] :=by
 unfold wrV wrF wrE;rw[h,hd,hf];rfl
theorem x41{f:Fl}{i:Int}{d:List UInt8}(h:qB5 f i=true)(hd:d.length=64)(hf:f.dead=false)(hu:f.fuse=1):wrV f i d=.tuple [.agg [.list .str (f.pages.set i.toNat (d.take f.keep.toNat++(f.pages.getD i.toNat []).drop f.keep.toNat)),I64 0,.bool true,I64 0],I64 17] :=by
 have e:(f.fuse==1)=true:=by simpa using hu
 unfold wrV wrF wrE;rw[h,hd,hf,e];rfl
theorem x40{f:Fl}{i:Int}{d:List UInt8}(h:qB5 f i=true)(hd:d.length=64)(hf:f.dead=false)(hu:¬f.fuse=1):wrV f i d=.tuple [.agg [.list .str (f.pages.set i.toNat d),I64 (if f.fuse-1>0 then f.fuse-1 else 0),.bool f.dead,I64 f.keep],I64 0] :=by
 have e:(f.fuse==1)=false:=by simpa using hu
 unfold wrV wrF wrE;rw[h,hd,hf,e];rfl
theorem xT1(x:List UInt8):(x.map fun b=>(b.toNat:Int)).map (fun n=>UInt8.ofNat (Int.toNat n))=x:=by
 rw[List.map_map]
 exact(List.map_congr_left fun b _=>by simp).trans (List.map_id x)
theorem qB6{f:Fl}{i:Int}:qB5 f i=true↔flB f=true∧0≤i∧i≤(f.pages.length:Int)-1:=by simp only[qB5,Bool.and_eq_true,v8]
theorem yJ0{f:Fl}{i:Int}(h:qB5 f i=true):(f.pages.getD i.toNat []).length=64∧0≤i∧i< (f.pages.length:Int)∧i.toNat<f.pages.length∧(0≤f.keep∧f.keep≤64)∧0≤f.fuse∧f.fuse≤1048576:=by
 obtain⟨h1,h2,h3⟩:=qB6.1 h
 have fb:=qs4.1 h1
 have hi:i.toNat<f.pages.length:=by omega
 refine⟨?_,h2,by omega,hi,fb.2.2.2.2,fb.2.2.2.1⟩
 rw[List.getD_eq_getElem?_getD,List.getElem?_eq_getElem hi]
 exact fb.1 _ (List.getElem_mem hi)
theorem x37(f:Fl)(i:Int)(d:List UInt8):(wrV f i d).data=true:=rfl
theorem kWr:Known pP (Env.ofB pP (v6 [z74]) (d7 []) (d9 []) (d8 []) (x7 []) (x7 [130]) (x7 []) (x7 [])):=hB (l:=[z74]) (k:=[]) (j:=[]) (i:=[]) [] [130] [] [] ⟨yl8,trivial⟩ o4 o4 o4
theorem qS2:Known pP (Env.ofB pP (v6 [z61]) (d7 []) (d9 []) (d8 []) (x7 []) (x7 [131]) (x7 []) (x7 [])):=hB (l:=[z61]) (k:=[]) (j:=[]) (i:=[]) [] [131] [] [] ⟨yk4,trivial⟩ o4 o4 o4
theorem len64{d:List UInt8}:((d.length:Int)=64)↔d.length=64:=by omega
theorem yc3{f:Fl}{i:Int}(e:f.pages.isEmpty=true):qB5 f i=false:=by
 have e:=List.isEmpty_iff.1 e
 rw[Bool.eq_false_iff]
 intro h
 have:=(yJ0 h).2.1
 have:=(yJ0 h).2.2.1
 rw[e]at this;simp at this;omega
theorem zY3{f:Fl}(e:f.pages.isEmpty=true):f.sv=.agg [.list .str [],I64 f.fuse,.bool f.dead,I64 f.keep] :=by
 have e:=List.isEmpty_iff.1 e
 show SV.agg f.cells=_
 unfold Fl.cells;rw[e];rfl
theorem xr4(f:Fl)(i:Int)(d:List UInt8)(h:o7 f=true):SCall pP 267 [f.sv,I64 i,.str d] (wrV f i d):=by
 have hl:f.pages.length≤1000:=of_decide_eq_true h
 refine m6 rfl (x37 f i d) (by kernel_rfl) (w6 kWr (n:=1000) (hint:=.str) (keep:=x8 65 []) (p:=x44) (boxes:=[]) (x37 f i d) ?_)
 have q:=wrp f i d
 unfold v9 u7 at q
 erw [q]
 unfold x45
 refine f9 (fun e=>x6 h (q84 (fun b=>?_) fun b=>?_)) fun e=>x6 (decide_eq_true (by omega)) (x6 h (q84 (fun b=>?_) fun b=>q83 (fun k=>?_) fun k=>f9 (fun dd=>?_) fun dd=>x6 ?_ (q82 (fun u=>x6 ?_ (x6 ?_ (x6 ?_ (x6 ?_ ?_)))) fun u=>x6 ?_ (x6 ?_ (x6 ?_ ?_)))))
 ·exact((x38 (.inl b)).trans (by rw[zY3 e];try rfl)).symm
 ·rw[yc3 e]at b;cases b
 ·exact(x38 (.inl b)).symm
 ·exact(x38 (.inr fun k'=>k (len64.2 k'))).symm
 ·exact(x39 b (len64.1 k) dd).symm
 all_goals
  obtain⟨p1,p2,p3,p4,p5,p6⟩:=yJ0 b
  have k:=len64.1 k
 ·simp;omega
 ·simp[k];omega
 ·rw[List.length_map,List.length_map,List.length_take,p1]
  cases hp:f.pages.getD i.toNat ([] :List UInt8)with
  |nil=>rw[hp]at p1;simp at p1
  |cons x l=>simp;omega
 ·simp;omega
 ·exact decide_eq_true p4
 ·rw[←List.map_drop,←List.map_append,xT1,List.length_map,List.length_take,k,show min f.keep.toNat 64=f.keep.toNat by omega]
  exact(x41 b k dd u).symm
 ·rw[List.length_map,List.length_map,p1,k]
  cases hp:f.pages.getD i.toNat ([] :List UInt8)with
  |nil=>rw[hp]at p1;simp at p1
  |cons x l=>simp
 ·simp;omega
 ·exact decide_eq_true p4
 ·rw[←List.map_drop,←List.map_append,xT1,List.length_map,k,List.drop_eq_nil_of_le (Nat.le_of_eq p1),List.append_nil,w64 (by omega) (by omega)]
  exact(x40 b k dd u).symm
theorem xr5(f:Fl)(i:Int)(d:List UInt8)(h:o7 f=true)(hd:d.length≤100000):SCall pP 190 [f.sv,I64 i,.str d] (wrV f i d):=by
 have hl:f.pages.length≤1000:=of_decide_eq_true h
 refine m6 rfl (x37 f i d) (by kernel_rfl) (w6 qS2 (n:=1000) (hint:=.str) (keep:=x8 69 []) (p:=x46) (boxes:=[]) (x37 f i d) ?_)
 have q:=wrr f i d
 unfold v9 u7 at q
 erw [q]
 unfold x47
 have nb:∀{x:Bool},flB f=x→(x=false∨i<0∨i≥(f.pages.length:Int))→qB5 f i=false:=fun hx hy=>by
  rw[Bool.eq_false_iff]
  intro hh
  obtain⟨h1,h2,h3⟩:=qB6.1 hh
  rw[h1]at hx;subst hx
  rcases hy with hy|hy|hy
  ·cases hy
  ·omega
  ·omega
 have yb:flB f=true→¬i<0→¬i≥(f.pages.length:Int)→qB5 f i=true:=fun h1 h2 h3=>qB6.2 ⟨h1,by omega,by omega⟩
 refine f9 (fun e=>x6 h (q84 (fun b=>?_) fun b=>o5 (fun b1=>?_) fun b1=>o5 (fun b2=>?_) fun b2=>?_)) fun e=>x6 (decide_eq_true (by omega)) (x6 h (q84 (fun b=>?_) fun b=>o5 (fun b1=>?_) fun b1=>o5 (fun b2=>?_) fun b2=>q83 (fun k=>?_) fun k=>f9 (fun dd=>?_) fun dd=>(q82 (fun u=>x6 ?_ (x6 ?_ (x6 ?_ (x6 ?_ (x6 ?_ (x6 ?_ ?_)))))) fun u=>x6 ?_ (x6 ?_ ?_))))
 ·exact((x38 (.inl (nb b (.inl rfl)))).trans (by rw[zY3 e];try rfl)).symm
 ·exact((x38 (.inl (nb b (.inr (.inl b1))))).trans (by rw[zY3 e];try rfl)).symm
 ·exact((x38 (.inl (nb b (.inr (.inr b2))))).trans (by rw[zY3 e];try rfl)).symm
 ·have:=yc3 (i:=i) e
  rw[yb b b1 b2]at this;cases this
 ·exact(x38 (.inl (nb b (.inl rfl)))).symm
 ·exact(x38 (.inl (nb b (.inr (.inl b1))))).symm
 ·exact(x38 (.inl (nb b (.inr (.inr b2))))).symm
 ·exact(x38 (.inr fun k'=>k (len64.2 k'))).symm
 ·exact(x39 (yb b b1 b2) (len64.1 k) dd).symm
 all_goals
  have hb:=yb b b1 b2
  obtain⟨p1,p2,p3,p4,p5,p6⟩:=yJ0 hb
  have k:=len64.1 k
 ·simp[k];omega
 ·simp;omega
 ·rw[p1];simp;omega
 ·refine decide_eq_true ?_
  rw[List.length_take,List.length_drop,p1,k];omega
 ·simp;omega
 ·exact decide_eq_true p4
 ·exact(x41 hb k dd u).symm
 ·simp;omega
 ·exact decide_eq_true p4
 ·rw[w64 (by omega) (by omega)]
  exact(x40 hb k dd u).symm
def qh2(f:FuncId)(h:Fl→Int→List UInt8→Tree SV):Fact:=⟨f,fun args=>match args with
 |[.agg [.list .str p,.int .i64 a,.bool d,.int .i64 k],.int .i64 i,.str s] =>some (h ⟨p,a,d,k⟩ i s)
 |_=>none⟩
theorem qh3{P:Program}{f:FuncId}{h:Fl→Int→List UInt8→Tree SV}(k:∀c i s,(h c i s).says (SCall P f [c.sv,I64 i,.str s])):(qh2 f h).ok P:=fun args t ht=>by
 simp only[qh2]at ht
 split at ht
 ·injection ht with ht;subst ht;exact k ⟨_,_,_,_⟩ _ _
 ·cases ht
def fWr:Fact:=qh2 267 fun f i s=>.req (o7 f) (.leaf (wrV f i s))
theorem yu9:fWr.ok pP:=qh3 fun f i s h=>xr4 f i s h
def qf4:Fact:=qh2 190 fun f i s=>.req (o7 f) (.req (decide (s.length≤100000)) (.leaf (wrV f i s)))
theorem yv0:qf4.ok pP:=qh3 fun f i s h hd=>xr5 f i s h (of_decide_eq_true hd)
def zQ2(s:List UInt8):Tree SV:=.req (decide (s.length≤100000)) (.node (decide (s.length<64)) (.leaf (.tuple [rcZ.sv,I64 6])) (.node (zP9 s) (.leaf (.tuple [(m9 s).sv,I64 0])) (.leaf (.tuple [rcZ.sv,I64 19]))))
theorem zQ3{P:Program}{g:FuncId}{s:List UInt8}(k:s.length≤100000→SCall P g [.str s] (zQ4 s)):(zQ2 s).says (SCall P g [.str s]):=fun h=>by
 have q:=k (of_decide_eq_true h)
 unfold zQ4 at q
 exact⟨fun a=>by rw[a]at q;exact q,fun a=>⟨fun b=>by rw[a,b]at q;exact q,fun b=>by rw[a,b]at q;exact q⟩⟩
def z51:Fact:=qm0 255 zQ2
theorem yj4:z51.ok pP:=qm1 fun s=>zQ3 (xa6 s)
def z52:Fact:=qm0 263 zQ2
theorem yj5:z52.ok pP:=qm1 fun s=>zQ3 (xa7 s)
open Go.Sx
abbrev xS8:Ty:=.pair (.int .i64) (.pair (.int .i64) (.pair (.int .i64) (.pair (.int .i64) (.pair (.pair (.int .i64) (.pair (.int .i64) (.pair (.int .i64) (.int .i64)))) (.pair (.int .i64) (.pair (.int .i64) (.pair (.int .i64) (.int .i64))))))))
abbrev RT:=Int×Int×Int×Int×V4×V4
def Rc.t(r:Rc):RT:=(r.kind,r.seq,r.line,r.done,r.src,r.dst)
def yU8(x:RT):Rc:=⟨x.1,x.2.1,x.2.2.1,x.2.2.2.1,x.2.2.2.2.1,x.2.2.2.2.2⟩
theorem yU9(r:Rc):yU8 r.t=r:=rfl
theorem xG4(x:RT):(yU8 x).t=x:=rfl
theorem yV2(l:List Rc):(l.map Rc.t).map yU8=l:=by rw[List.map_map];exact(List.map_congr_left fun x _=>yU9 x).trans (List.map_id l)
theorem xG5(l:List RT):(l.map yU8).map Rc.t=l:=by rw[List.map_map];exact(List.map_congr_left fun x _=>xG4 x).trans (List.map_id l)
abbrev LR(l:List Rc):SV:=.list xS8 (l.map Rc.t)
def zS2:List Rc→Bool
 |[] =>true
 |r::l=>(l.all fun x=>!(x.seq==r.seq))&&zS2 l
theorem zS3:∀{l:List Rc},zS2 l=true↔zS4 l
 |[] =>by simp[zS2,zS4]
 |r::l=>by simp[zS2,zS4,zS3 (l:=l)]
open Go.Sx
def yT5:Plan:=.fork (.lit (.lit (.lit .all))) (.lit (.lit (.fork .all .all)))
noncomputable def yT6(f:Fl):Tree Stop:= .req (o7 f) (.node (!flB f) (.leaf (.done (.list xS8 []))) (.node (f.dead) (.leaf (.done (.list xS8 []))) (.leaf (.at (j9 pP 196 0) 88 (j8 88 [(1,.ptr 0 0),(3,SV.nilS),(4,I64 0),(7,SV.undef)]) [some (.cells f.cells)]))))
theorem ra0(f:Fl):w9 (Env.of pP (v6 [z61])) 1000 (j7 pP 196) xS8 (x8 88 [1,3,4,7]) (u7 pP 196) yT5 (v9 pP 196 [f.sv]) [] =yT6 f:=by kernel_rfl
def yT7:Plan:=.fork (.fork (.ln 9 (.lit .all)) (.fork (.ln 9 (.fork .all .all)) (.ln 9 (.lit .all)))) .all
noncomputable def yT8(f:Fl)(l:List RT)(i:Int):Tree Stop:= .node (decide (i< (↑f.pages.length:Int))) (.req (decide (0≤i)&&decide (i< (↑f.pages.length:Int))) (.req (decide (List.length (f.pages.getD i.toNat ([] :List UInt8))≤100000)) (.node (decide (List.length (f.pages.getD i.toNat ([] :List UInt8))<64)) (.leaf (.at (j9 pP 196 0) 88 (j8 88 [(1,.ptr 0 0),(3,SV.row 1),(4,I64 (i64.wrap (i+1)))]) [some (.cells f.cells),some (.rows xS8 l)])) (.node (zP9 (f.pages.getD i.toNat ([] :List UInt8))) (.req (!(↑f.pages.length:Int)==0) (.node ((m9 (f.pages.getD i.toNat ([] :List UInt8))).seq.tmod (↑f.pages.length:Int) != i) (.leaf (.at (j9 pP 196 0) 88 (j8 88 [(1,.ptr 0 0),(3,SV.row 1),(4,I64 (i64.wrap (i+1)))]) [some (.cells f.cells),some (.rows xS8 l)])) (.req (decide ((l.length+ [(m9 (f.pages.getD i.toNat ([] :List UInt8))).t].length)*96≤140737488355328)) (.leaf (.at (j9 pP 196 1) 88 (j8 88 [(1,.ptr 0 0),(3,SV.row 1),(4,I64 i),(7,I64 (i64.wrap ((↑(l++[(m9 (f.pages.getD i.toNat ([] :List UInt8))).t]).length:Int)-1)))]) [some (.cells f.cells),some (.rows xS8 (l++[(m9 (f.pages.getD i.toNat ([] :List UInt8))).t]))]))))) (.leaf (.at (j9 pP 196 0) 88 (j8 88 [(1,.ptr 0 0),(3,SV.row 1),(4,I64 (i64.wrap (i+1)))]) [some (.cells f.cells),some (.rows xS8 l)])))))) (.leaf (.done (.list xS8 l)))
theorem ra1(f:Fl)(l:List RT)(i:Int):w9 (Env.of pP (v6 [z52])) 1000 (j7 pP 196) xS8 (x8 88 [1,3,4,7]) (j9 pP 196 0) yT7 (j8 88 [(1,.ptr 0 0),(3,.row 1),(4,I64 i)]) [some (.cells f.cells),some (.rows xS8 l)] =yT8 f l i:=by kernel_rfl
def yT9:Plan:=.fork (.ln 12 (.fork .all .all)) (.ln 12 (.lit .all))
noncomputable def yU0(f:Fl)(l:List RT)(i k:Int):Tree Stop:= .node (decide (k>0)) (.req (decide (0≤k)&&decide (k< (↑l.length:Int))) (.req (decide (k.toNat<l.length)) (.req (decide (0≤i64.wrap (k-1))&&decide (i64.wrap (k-1)< (↑l.length:Int))) (.req (decide ((i64.wrap (k-1)).toNat<l.length)) (.node (decide ((l.getD k.toNat rcZ.t).2.1< (l.getD (i64.wrap (k-1)).toNat rcZ.t).2.1)) (.req (decide (0≤k)&&decide (k< (↑l.length:Int))) (.req (decide (k.toNat<l.length)) (.req (decide (0≤i64.wrap (k-1))&&decide (i64.wrap (k-1)< (↑l.length:Int))) (.req (decide ((i64.wrap (k-1)).toNat<l.length)) (.req (decide (0≤k)&&decide (k< (↑l.length:Int))) (.req (decide (k.toNat<l.length)) (.req (decide (0≤i64.wrap (k-1))&&decide (i64.wrap (k-1)< (↑(l.set k.toNat (l.getD (i64.wrap (k-1)).toNat rcZ.t)).length:Int))) (.req (decide ((i64.wrap (k-1)).toNat< (l.set k.toNat (l.getD (i64.wrap (k-1)).toNat rcZ.t)).length)) (.leaf (.at (j9 pP 196 1) 88 (j8 88 [(1,.ptr 0 0),(3,SV.row 1),(4,I64 i),(7,I64 (i64.wrap (k-1)))]) [some (.cells f.cells),some (.rows xS8 ((l.set k.toNat (l.getD (i64.wrap (k-1)).toNat rcZ.t)).set (i64.wrap (k-1)).toNat (l.getD k.toNat rcZ.t)))])))))))))) (.leaf (.at (j9 pP 196 0) 88 (j8 88 [(1,.ptr 0 0),(3,SV.row 1),(4,I64 (i64.wrap (i+1))),(7,I64 k)]) [some (.cells f.cells),some (.rows xS8 l)]))))))) (.leaf (.at (j9 pP 196 0) 88 (j8 88 [(1,.ptr 0 0),(3,SV.row 1),(4,I64 (i64.wrap (i+1))),(7,I64 k)]) [some (.cells f.cells),some (.rows xS8 l)]))
theorem ra2(f:Fl)(l:List RT)(i k:Int):w9 (Env.of pP (v6 [])) 1000 (j7 pP 196) xS8 (x8 88 [1,3,4,7]) (j9 pP 196 1) yT9 (j8 88 [(1,.ptr 0 0),(3,.row 1),(4,I64 i),(7,I64 k)]) [some (.cells f.cells),some (.rows xS8 l)] =yU0 f l i k:=by kernel_rfl
open Go.Sx
theorem qR7:Known pP (Env.of pP (v6 [z52])):=kW (l:=[z52]) ⟨yj5,trivial⟩
theorem qR9:Known pP (Env.of pP (v6 [z61])):=kW (l:=[z61]) ⟨yk4,trivial⟩
abbrev slA(i:Int):List SV:=j8 88 [(1,.ptr 0 0),(3,.row 1),(4,I64 i)]
abbrev bxA(f:Fl)(l:List Rc):List (Option Box):=[some (.cells f.cells),some (.rows xS8 (l.map Rc.t))]
theorem q15{l:List Rc}{i:Nat}(h:i<l.length):(l.map Rc.t).getD i rcZ.t=(l.getD i rcZ).t:=by
 rw[List.getD_eq_getElem?_getD,List.getElem?_map,List.getD_eq_getElem?_getD,List.getElem?_eq_getElem h];rfl
theorem xu4{α:Type}:∀ (A:List α) (x y:α) (B:List α),(A++x::B).set A.length y=A++y::B
 |[],_,_,_=>rfl
 |a::A,x,y,B=>congrArg (a::·) (xu4 A x y B)
theorem qu3{f:Fl}{v:SV}{l:List Rc}{i k:Int}(h:b8 pP (j7 pP 196) v (j9 pP 196 0) (slA i) (bxA f l)):b8 pP (j7 pP 196) v (j9 pP 196 0) (j8 88 [(1,.ptr 0 0),(3,.row 1),(4,I64 i),(7,I64 k)]) (bxA f l):=by
 have e:j8 88 [(1,.ptr 0 0),(3,.row 1),(4,I64 i),(7,.top)] =slA i:=rfl
 rw[←e]at h
 exact y68 false [] (slots':=j8 88 [(1,.ptr 0 0),(3,.row 1),(4,I64 i),(7,.top)]) (boxes':=bxA f l) (xw0 ⟨rfl,.same _,rfl,.same _,rfl,.same _,rfl,.top _,trivial⟩) ⟨by simp,.same _,by simp,.same _,rfl⟩ h
theorem yU1(f:Fl)(v:SV)(hv:v.data=true)(r:Rc)(i:Int)(hi:0≤i∧i≤1000):∀ (n:Nat) (A B:List Rc),A.length=n→n≤1000→zq9 (A++B)→(∀x∈B,r.seq<x.seq)→
  b8 pP (j7 pP 196) v (j9 pP 196 0) (slA (i+1)) (bxA f (qL4 r (A++B)))→
  b8 pP (j7 pP 196) v (j9 pP 196 1) (j8 88 [(1,.ptr 0 0),(3,.row 1),(4,I64 i),(7,I64 n)]) (bxA f (A++r::B))
 |n,A,B,hn,hl,ha,hb,h=>by
  have w1:i64.wrap (i+1)=i+1:=w64 (by omega) (by omega)
  refine w6 qQ9 (n:=1000) (hint:=xS8) (keep:=x8 88 [1,3,4,7]) (p:=yT9) hv ?_
  erw [ra2 f ((A++r::B).map Rc.t) i n]
  unfold yU0
  rw[w1]
  match n,hn with
  |0,hn=>
   have:A=[] :=List.length_eq_zero_iff.1 hn
   subst this
   refine o5 (fun k=>absurd k (by omega)) fun _=>⟨o8 _ _,qu3 ?_⟩
   have e:qL4 r ([] ++B)=[] ++r::B:=qL6 (a:=[]) (b:=B) ha (fun x hx=>by cases hx) hb
   rw[e]at h;exact h
  |m+1,hn=>
   obtain⟨A',x,rfl⟩:∃A' x,A=A'++[x] :=⟨A.dropLast,A.getLast (by intro e;rw[e]at hn;cases hn),(List.dropLast_concat_getLast _).symm⟩
   have hA:A'.length=m:=by simpa using hn
   have w2:i64.wrap (((m+1:Nat):Int)-1)=(m:Int):=by rw[w64 (by omega) (by omega)];omega
   have t1:(((m+1:Nat):Int)).toNat=m+1:=by omega
   have t2:((m:Int)).toNat=m:=by omega
   have len:(A'++[x] ++r::B).length=m+1+1+B.length:=by simp[hA];omega
   have g1:(A'++[x] ++r::B).getD (m+1) rcZ=r:=by
    rw[List.getD_eq_getElem?_getD,List.getElem?_append_right (by simp;omega)];simp[hA]
   have g2:(A'++[x] ++r::B).getD m rcZ=x:=by
    rw[List.append_assoc,List.getD_eq_getElem?_getD,List.getElem?_append_right (by omega)];simp[hA]
   have G:∀j,j< (A'++[x] ++r::B).length→((A'++[x] ++r::B).map Rc.t).getD j rcZ.t=((A'++[x] ++r::B).getD j rcZ).t:=fun j hj=>q15 hj
   have L:((A'++[x] ++r::B).map Rc.t).length=m+1+1+B.length:=by rw[List.length_map,len]
   rw[w2,t1,t2,G _ (by omega),G _ (by omega),g1,g2]
   have sets:(((A'++[x] ++r::B).map Rc.t).set (m+1) x.t).set m r.t=(A'++r::(x::B)).map Rc.t:=by
    rw[←List.map_set,←List.map_set]
    congr 1
    have e1:=xu4 (A'++[x]) r x B
    rw[show(A'++[x]).length=m+1 by simp[hA]]at e1
    have e2:=xu4 A' x r (x::B)
    rw[hA]at e2
    rw[e1,show A'++[x] ++x::B=A'++x::x::B by simp,e2]
   have q:∀b:Nat,b<m+1+1+B.length→(decide (0≤((b:Nat):Int))&&decide (((b:Nat):Int)< (((A'++[x] ++r::B).map Rc.t).length:Int)))=true:=fun b hb=>by rw[L];simp;omega
   have q2:∀b:Nat,b<m+1+1+B.length→decide (b< ((A'++[x] ++r::B).map Rc.t).length)=true:=fun b hb=>decide_eq_true (by rw[L];exact hb)
   refine o5 (fun _=>x6 (q _ (by omega)) (x6 (q2 _ (by omega)) (x6 (q _ (by omega)) (x6 (q2 _ (by omega)) (o5 (fun c=>?_) fun c=>?_))))) fun k=>absurd (by omega) k
   ·refine x6 (q _ (by omega)) (x6 (q2 _ (by omega)) (x6 (q _ (by omega)) (x6 (q2 _ (by omega)) (x6 (q _ (by omega)) (x6 (q2 _ (by omega)) (x6 ?_ (x6 ?_ ⟨o8 _ _,?_⟩)))))))
    ·rw[List.length_set];exact q _ (by omega)
    ·rw[List.length_set];exact q2 _ (by omega)
    ·rw[sets]
     refine yU1 f v hv r i hi m A' (x::B) hA (by omega) (by simpa using ha) (fun y hy=>?_) (by simpa using h)
     rcases List.mem_cons.1 hy with rfl|hy
     ·exact c
     ·exact hb y hy
   ·refine⟨o8 _ _,qu3 ?_⟩
    have le:∀y∈A'++[x],y.seq≤r.seq:=fun y hy=>by
     have c':¬r.seq<x.seq:=c
     have asc:∀ (a b:List Rc),zq9 (a++b)→∀y∈a,∀z∈b,y.seq≤z.seq:=by
      intro a b
      induction a with
      |nil=>intro _ y hy;cases hy
      |cons w a ih=>
       intro h y hy z hz
       rcases List.mem_cons.1 hy with rfl|hy
       ·exact h.1 z (List.mem_append_right _ hz)
       ·exact ih h.2 y hy z hz
     rcases List.mem_append.1 hy with hy|hy
     ·have:=asc A' ([x] ++B) (by simpa using ha) y hy x (by simp)
      omega
     ·rcases List.mem_cons.1 hy with rfl|hy
      ·omega
      ·cases hy
    rw[qL6 ha le hb]at h
    exact h
def zo0(n:Int)(acc:List Rc)(i:Nat)(l:List (List UInt8)):List Rc:=(yX2 n i l).foldl (fun acc r=>qL4 r acc) acc
theorem zo1{n:Int}{acc:List Rc}{i:Nat}{s:List UInt8}{l:List (List UInt8)}(h:yW2 n i s=none):zo0 n acc i (s::l)=zo0 n acc (i+1) l:=by
 unfold zo0;rw[yX3,h]
theorem zo2{n:Int}{acc:List Rc}{i:Nat}{s:List UInt8}{l:List (List UInt8)}{r:Rc}(h:yW2 n i s=some r):zo0 n acc i (s::l)=zo0 n (qL4 r acc) (i+1) l:=by
 unfold zo0;rw[yX3,h];rfl
theorem yU2(f:Fl)(hl:f.pages.length≤1000)(hp:∀p∈f.pages,p.length=64):∀ (k i:Nat) (acc L:List Rc),i+k=f.pages.length→zq9 acc→acc.length≤i→L=zo0 f.pages.length acc i (f.pages.drop i)→
  b8 pP (j7 pP 196) (LR L) (j9 pP 196 0) (slA i) (bxA f acc)
 |k,i,acc,L,hi,ha,hn,hL=>by
  have w1:i64.wrap ((i:Int)+1)=(i:Int)+1:=w64 (by omega) (by omega)
  have t0:(i:Int).toNat=i:=by omega
  refine w6 qR7 (n:=1000) (hint:=xS8) (keep:=x8 88 [1,3,4,7]) (p:=yT7) rfl ?_
  erw [ra1 f (acc.map Rc.t) i]
  unfold yT8
  rw[w1,t0]
  match k,hi with
  |0,hi=>
   refine o5 (fun a=>absurd a (by omega)) fun _=>?_
   have z:f.pages.drop i=[] :=List.drop_eq_nil_of_le (by omega)
   rw[z]at hL
   have hL:L=acc:=hL
   subst hL
   rfl
  |k+1,hi=>
   have hip:i<f.pages.length:=by omega
   have p64:(f.pages.getD i ([] :List UInt8)).length=64:=by
    rw[List.getD_eq_getElem?_getD,List.getElem?_eq_getElem hip];exact hp _ (List.getElem_mem hip)
   rw[zU5 (d:=([] :List UInt8)) hip]at hL
   have nx:((i:Int)+1)=((i+1:Nat):Int):=by omega
   have skip:yW2 f.pages.length i (f.pages.getD i ([] :List UInt8))=none→b8 pP (j7 pP 196) (LR L) (j9 pP 196 0) (slA ((i:Int)+1)) (bxA f acc):=fun e=>by
    rw[zo1 e]at hL
    rw[nx]
    exact yU2 f hl hp k (i+1) acc L (by omega) ha (by omega) hL
   have nz:(!(((f.pages.length:Nat):Int)==0))=true:=by
    rw[Bool.not_eq_true',beq_eq_false_iff_ne];omega
   refine o5 (fun _=>x6 (by simp;omega) (x6 (decide_eq_true (by rw[p64];omega)) (o5 (fun c=>absurd c (by rw[p64];omega)) fun _=>f9 (fun b=>x6 nz (q83 (fun c=>?_) fun c=>x6 (decide_eq_true ?_) ?_)) fun b=>?_))) fun a=>absurd (by omega) a
   ·refine⟨o8 _ _,skip ?_⟩
    cases e:yW2 f.pages.length i (f.pages.getD i ([] :List UInt8))with
    |none=>rfl
    |some r=>exact absurd (yW3.1 e).2.1 c
   ·rw[List.length_map]
    show(acc.length+1)*96≤_
    omega
   ·have e:yW2 f.pages.length i (f.pages.getD i ([] :List UInt8))=some (m9 (f.pages.getD i ([] :List UInt8))):=yW3.2 ⟨b,c,rfl⟩
    rw[zo2 e]at hL
    have el:(acc.map Rc.t)++[(m9 (f.pages.getD i ([] :List UInt8))).t] =(acc++m9 (f.pages.getD i ([] :List UInt8))::[]).map Rc.t:=by rw[List.map_append];rfl
    have len:(((acc.map Rc.t++[(m9 (f.pages.getD i ([] :List UInt8))).t]).length:Nat):Int)-1=(acc.length:Int):=by
     rw[List.length_append,List.length_map];show(((acc.length+1:Nat)):Int)-1=_;omega
    rw[len,w64 (by omega) (by omega),el]
    refine⟨o8 _ _,?_⟩
    refine yU1 f (LR L) rfl (m9 (f.pages.getD i ([] :List UInt8))) i (by omega) acc.length acc [] rfl (by omega) (by rw[List.append_nil];exact ha) (fun x hx=>by cases hx) ?_
    rw[List.append_nil,nx]
    refine yU2 f hl hp k (i+1) (qL4 (m9 (f.pages.getD i ([] :List UInt8))) acc) L (by omega) (qL5 _ _ ha) ?_ hL
    rw[(qL7 _ acc).length_eq,List.length_cons];omega
   ·refine⟨o8 _ _,skip ?_⟩
    cases e:yW2 f.pages.length i (f.pages.getD i ([] :List UInt8))with
    |none=>rfl
    |some r=>have:=(yW3.1 e).1;rw[this]at b;cases b
theorem y88(f:Fl)(h:o7 f=true):SCall pP 196 [f.sv] (LR (e9 f)):=by
 have hl:f.pages.length≤1000:=of_decide_eq_true h
 refine m6 rfl rfl (by kernel_rfl) (w6 qR9 (n:=1000) (hint:=xS8) (keep:=x8 88 [1,3,4,7]) (p:=yT5) (boxes:=[]) rfl ?_)
 have q:=ra0 f
 unfold v9 u7 at q
 erw [q]
 unfold yT6
 refine x6 h (q84 (fun b=>?_) fun b=>f9 (fun d=>?_) fun d=>⟨o8 _ _,?_⟩)
 ·have:e9 f=[] :=by unfold e9;rw[b];rfl
  rw[this];rfl
 ·have:e9 f=[] :=by unfold e9;rw[b,d];rfl
  rw[this];rfl
 ·have e:e9 f=zo0 f.pages.length [] 0 (f.pages.drop 0):=by unfold e9;rw[b,d];rfl
  have r:=yU2 f hl (qs4.1 b).1 f.pages.length 0 [] (e9 f) (by omega) trivial (Nat.le_refl _) e
  exact y68 true [] (slots':=j8 88 [(1,.ptr 0 0),(3,.row 1),(4,I64 0),(7,.top)]) (boxes':=bxA f []) (xw0 ⟨rfl,.same _,rfl,.nil rfl,rfl,.same _,rfl,.top _,trivial⟩) ⟨by simp,.same _,trivial⟩ r
def z34:Fact:=qg8 196 fun f=>.req (o7 f) (.leaf (LR (e9 f)))
theorem yh0:z34.ok pP:=qh7 fun f h=>y88 f h
open Go.Sx
def qT0(f:Fl):Rc:=(lastO f).getD rcZ
def qT5(f:Fl):SV:=.tuple [(qT0 f).sv,.bool (lastO f).isSome]
def apV(f:Fl)(r:Rc):SV:=.tuple [(apF f r).sv,I64 (apE f r)]
theorem qT3(f:Fl):qT2 f=(qT0 f).seq:=by unfold qT2 qT0;cases lastO f<;>rfl
def qh5(g:FuncId)(h:Fl→Rc→Tree SV):Fact:=⟨g,fun args=>match args with
 |[.agg [.list .str p,.int .i64 a,.bool d,.int .i64 k],.agg [.int .i64 r0,.int .i64 r1,.int .i64 r2,.int .i64 r3,.int .i64 p0,.int .i64 p1,.int .i64 p2,.int .i64 p3,.int .i64 q0,.int .i64 q1,.int .i64 q2,.int .i64 q3]] =>some (h ⟨p,a,d,k⟩ ⟨r0,r1,r2,r3,(p0,p1,p2,p3),(q0,q1,q2,q3)⟩)
 |_=>none⟩
theorem qh6{P:Program}{g:FuncId}{h:Fl→Rc→Tree SV}(k:∀c r,(h c r).says (SCall P g [c.sv,r.sv])):(qh5 g h).ok P:=fun args t ht=>by
 simp only[qh5]at ht
 split at ht
 ·injection ht with ht;subst ht;exact k ⟨_,_,_,_⟩ ⟨_,_,_,_,(_,_,_,_),(_,_,_,_)⟩
 ·cases ht
def z87:Fact:=qg8 103 fun f=>.req (o7 f) (.leaf (qT5 f))
def z88:Fact:=qg8 110 fun f=>.req (o7 f) (.leaf (qT5 f))
def fAp:Fact:=qh5 202 fun f r=>.req (o7 f) (.leaf (apV f r))
def z35:Fact:=qh5 101 fun f r=>.req (o7 f) (.leaf (apV f r))
theorem yX5{n:Int}:∀{l:List (List UInt8)} {i:Nat},(yX2 n i l).length≤l.length
 |[],i=>Nat.le_refl _
 |s::l,i=>by
  have:=@yX5 n l (i+1)
  rw[yX3]
  split<;>simp<;>omega
theorem zo3(f:Fl):(e9 f).length≤f.pages.length:=by
 unfold e9
 split
 ·rw[(xw8 _).length_eq];exact yX5
 ·simp
theorem zo4{f:Fl}{r:Rc}(h:r∈e9 f):rcB r=true:=by
 unfold e9 at h
 split at h
 ·obtain⟨j,_,hj⟩:=q32.1 ((xw8 _).mem_iff.1 h)
  obtain⟨h1,_,rfl⟩:=yW3.1 hj
  exact(zQ1.1 h1).1
 ·cases h
theorem qT1(f:Fl):0≤(qT0 f).seq∧(qT0 f).seq≤1099511627776:=by
 unfold qT0
 cases h:lastO f with
 |none=>exact⟨Int.le_refl _,by decide⟩
 |some r=>
  have:=yU4.1 (zo4 (List.mem_of_getLast? h))
  exact⟨by show 0≤r.seq;omega,this.2.1.2⟩
theorem qT6{f:Fl}(h:e9 f=[]):qT5 f=.tuple [rcZ.sv,.bool false] :=by
 unfold qT5 qT0 lastO;rw[h];rfl
theorem qT7{f:Fl}{A:List Rc}{x:Rc}(h:e9 f=A++[x]):qT5 f=.tuple [x.sv,.bool true] :=by
 unfold qT5 qT0 lastO;rw[h,List.getLast?_concat];rfl
theorem zp1{f:Fl}{r:Rc}(h:rcB r=false∨flB f=false):apV f r=.tuple [f.sv,I64 1] :=by
 have e:(rcB r&&flB f)=false:=by rcases h with h|h<;>simp[h]
 unfold apV apF apE;rw[e];rfl
theorem zp2{f:Fl}{r:Rc}(h:rcB r=true)(k:flB f=true)(d:f.dead=true):apV f r=.tuple [f.sv,I64 17] :=by
 unfold apV apF apE;rw[h,k,d];rfl
theorem zp4{f:Fl}{r:Rc}(h:rcB r=true)(k:flB f=true)(d:f.dead=false)(s:¬r.seq=qT2 f+1):apV f r=.tuple [f.sv,I64 11] :=by
 have e:(r.seq==qT2 f+1)=false:=by simpa using s
 unfold apV apF apE;rw[h,k,d,e];rfl
theorem zp3{f:Fl}{r:Rc}(h:rcB r=true)(k:flB f=true)(d:f.dead=false)(s:r.seq=qT2 f+1):apV f r=wrV f (r.seq.tmod f.pages.length) (enc r):=by
 have e:(r.seq==qT2 f+1)=true:=by simpa using s
 unfold apV apF apE wrV;rw[h,k,d,e];rfl
theorem xf7(f:Fl)(h:o7 f=true):SCall pP 110 [f.sv] (qT5 f):=
 o9 mix [z34] ⟨yh0,trivial⟩ 1000 (.fork (.all) (.all))
  (t:=let y1:=(↑(List.map Rc.t (e9 f)).length:Int);let y0:=(List.map Rc.t (e9 f)).getD (i64.wrap (y1-1)).toNat rcZ.t;.req (o7 f) (.node (y1==0) (.leaf (.tuple [.agg [I64 0,I64 0,I64 0,I64 0,I64 0,I64 0,I64 0,I64 0,I64 0,I64 0,I64 0,I64 0],.bool false])) (.req (decide (0≤i64.wrap (y1-1))&&decide (i64.wrap (y1-1)<y1)) (.leaf (.tuple [.agg [I64 y0.1,I64 y0.2.1,I64 y0.2.2.1,I64 y0.2.2.2.1,I64 y0.2.2.2.2.1.1,I64 y0.2.2.2.2.1.2.1,I64 y0.2.2.2.2.1.2.2.1,I64 y0.2.2.2.2.1.2.2.2,I64 y0.2.2.2.2.2.1,I64 y0.2.2.2.2.2.2.1,I64 y0.2.2.2.2.2.2.2.1,I64 y0.2.2.2.2.2.2.2.2],.bool true])))))
  (by kernel_rfl) (by
   refine x6 h (q82 (fun e=>?_) fun e=>?_)
   ·have e:e9 f=[] :=by
     rw[List.length_map]at e
     exact List.eq_nil_of_length_eq_zero (by omega)
    rw[qT6 e];rfl
   ·have hl:f.pages.length≤1000:=of_decide_eq_true h
    have len:=zo3 f
    rw[List.length_map]at e ⊢
    have w:i64.wrap (((e9 f).length:Int)-1)=((e9 f).length:Int)-1:=w64 (by omega) (by omega)
    rw[w]
    obtain⟨A,x,hA⟩:∃A x,e9 f=A++[x] :=⟨(e9 f).dropLast,(e9 f).getLast (by intro k;rw[k]at e;exact e rfl),(List.dropLast_concat_getLast _).symm⟩
    have g:((e9 f).map Rc.t).getD (((e9 f).length:Int)-1).toNat rcZ.t=x.t:=by
     rw[q15 (by omega),hA]
     have:((((A++[x]).length:Nat):Int)-1).toNat=A.length:=by simp
     rw[this,List.getD_eq_getElem?_getD,List.getElem?_append_right (Nat.le_refl _)];simp
    rw[g,qT7 hA]
    exact x6 (by simp;omega) rfl) (by kernel_rfl) (by kernel_rfl)
theorem ym9:z88.ok pP:=qh7 fun f h=>xf7 f h
theorem y90(f:Fl)(r:Rc)(h:o7 f=true):SCall pP 101 [f.sv,r.sv] (apV f r):=
 o9 mix [z56,z61,z88,qf4] ⟨yj9,yk4,ym9,yv0,trivial⟩ 1000 (.fork (.ln 4 (.fork .all (.fork .all (.fork .all .all)))) (.ln 4 (.lit .all)))
  (t:=let y0:=wrF f (r.seq.tmod (↑f.pages.length:Int)) (enc r);.node (rcB r) (.req (o7 f) (.node (!flB f) (.leaf (.tuple [.agg f.cells,I64 1])) (.node (f.dead) (.leaf (.tuple [.agg f.cells,I64 17])) (.req (o7 f) (.node (r.seq != i64.wrap ((qT0 f).seq+1)) (.leaf (.tuple [.agg f.cells,I64 11])) (.req (!(↑f.pages.length:Int)==0) (.req (o7 f) (.req (decide ((enc r).length≤100000)) (.leaf (.tuple [.agg [.list Ty.str y0.pages,I64 y0.fuse,.bool y0.dead,I64 y0.keep],I64 (wrE f (r.seq.tmod (↑f.pages.length:Int)) (enc r))])))))))))) (.leaf (.tuple [.agg f.cells,I64 1])))
  (by kernel_rfl) (by
   have w:i64.wrap ((qT0 f).seq+1)=qT2 f+1:=by rw[qT3,w64 (by have:=qT1 f;omega) (by have:=qT1 f;omega)]
   rw[w]
   refine f9 (fun a=>x6 h (q84 (fun b=>(zp1 (.inr b)).symm) fun b=>f9 (fun d=>(zp2 a b d).symm) fun d=>x6 h (q83 (fun s=>(zp4 a b d s).symm) fun s=>x6 ?_ (x6 h (x6 (by rw[zZ3];rfl) ?_))))) fun a=>(zp1 (.inl a)).symm
   ·have:=(qs4.1 b).2.1
    rw[Bool.not_eq_true',beq_eq_false_iff_ne];omega
   ·rw[zp3 a b d s];rfl) (by kernel_rfl) (by kernel_rfl)
theorem yh2:z35.ok pP:=qh6 fun f r h=>y90 f r h
open Go.Sx
def yV0:Plan:=.fork (.all) (.all)
noncomputable def yV1(f:Fl)(r:Rc):Tree StopX:= .req (o7 f) (.req (o7 f) (.node (apE f (Rc.mk r.kind (i64.wrap ((qT0 f).seq+1)) r.line r.done r.src r.dst) != 0) (.leaf (.fin (.pan (SV.raw (Value.iface 200 (Value.agg (Array.mk [])))) [some (.cells [.list Ty.str (apF f (Rc.mk r.kind (i64.wrap ((qT0 f).seq+1)) r.line r.done r.src r.dst)).pages,I64 (apF f (Rc.mk r.kind (i64.wrap ((qT0 f).seq+1)) r.line r.done r.src r.dst)).fuse,.bool (apF f (Rc.mk r.kind (i64.wrap ((qT0 f).seq+1)) r.line r.done r.src r.dst)).dead,I64 (apF f (Rc.mk r.kind (i64.wrap ((qT0 f).seq+1)) r.line r.done r.src r.dst)).keep])]))) (.leaf (.fin (.ret (.tuple []) [some (.cells [.list Ty.str (apF f (Rc.mk r.kind (i64.wrap ((qT0 f).seq+1)) r.line r.done r.src r.dst)).pages,I64 (apF f (Rc.mk r.kind (i64.wrap ((qT0 f).seq+1)) r.line r.done r.src r.dst)).fuse,.bool (apF f (Rc.mk r.kind (i64.wrap ((qT0 f).seq+1)) r.line r.done r.src r.dst)).dead,I64 (apF f (Rc.mk r.kind (i64.wrap ((qT0 f).seq+1)) r.line r.done r.src r.dst)).keep])])))))
theorem rcX(f:Fl)(r:Rc):xt5 (Env.ofB pP (v6 [z87,fAp]) (d7 []) (d9 []) (d8 []) (x7 []) (x7 []) (x7 []) (x7 [])) 1000 (j7 pP 119) 1 (x8 37 []) (u7 pP 119) yV0 (v9 pP 119 [.ptr 0 0,r.sv]) [some (.cells f.cells)] =yV1 f r:=by kernel_rfl
abbrev qn6:SV:=.raw (.iface 200 (.agg (Array.mk [])))
def zt4:BFact:=⟨119,fun args B=>match args with
 |[.agg [.int .i64 r0,.int .i64 r1,.int .i64 r2,.int .i64 r3,.int .i64 p0,.int .i64 p1,.int .i64 p2,.int .i64 p3,.int .i64 q0,.int .i64 q1,.int .i64 q2,.int .i64 q3]] =>match B with
  |.cells [.list .str p,.int .i64 a,.bool d,.int .i64 k] =>some (.req (o7 ⟨p,a,d,k⟩) (.node (yW4 ⟨p,a,d,k⟩ ⟨r0,r1,r2,r3,(p0,p1,p2,p3),(q0,q1,q2,q3)⟩==0)
    (.leaf (false,.tuple [],.cells (t9 ⟨p,a,d,k⟩ ⟨r0,r1,r2,r3,(p0,p1,p2,p3),(q0,q1,q2,q3)⟩).cells))
    (.leaf (true,qn6,.cells (t9 ⟨p,a,d,k⟩ ⟨r0,r1,r2,r3,(p0,p1,p2,p3),(q0,q1,q2,q3)⟩).cells))))
  |_=>none
 |_=>none⟩
end Go.Proofs.YtnkaepnblikcdaaGreat
namespace Go.Sx
open Go.RowKit
theorem xs5{β:Type}{Φ:β→Prop}:∀ (t:Tree β),(∀x,t.holds (fun y=>y=x)→Φ x)→t.says Φ
 |.leaf a,h=>h a rfl
 |.node b t f,h=>⟨fun hb=>xs5 t fun x hx=>h x ⟨fun _=>hx,fun hb'=>by rw[hb]at hb';cases hb'⟩,fun hb=>xs5 f fun x hx=>h x ⟨fun hb'=>(by rw[hb]at hb';cases hb'),fun _=>hx⟩⟩
 |.req b t,h=>fun hb=>xs5 t fun x hx=>h x ⟨hb,hx⟩
 |.fail _,_=>trivial
noncomputable def goS(E:Env)(n:Nat)(f:FuncId)(args:List SV)(m:Mem):Tree Ex:=
 match E.fn f with
 |some fn=>match fn.body with
  | some body => match fn.name == "runtime.NumGoroutine" with
    |false=>Fr.make fn.ntmps args fun fr=>exec E n [.code body] .all fr m fun o=>match o with
     |.ret _ fr m=>results E fn m fr fun v=>.leaf (.ok v m)
     |.pan v _ m=>.leaf (.pan v m)
     |.stop _ _ _=>.fail 200
    |true=>.fail 143
  |none=>.fail 144
 |none=>.fail 145
noncomputable def goP(E:Env)(n:Nat)(f:FuncId):PFact:=⟨f,fun args m=>some (goS E n f args m)⟩
theorem qy3{P:Program}{E:Env}(hK:Known P E)(n:Nat)(f:FuncId):(goP E n f).ok P:=by
 intro args m t ht
 injection ht with ht
 subst ht
 refine xs5 _ fun x h=>?_
 unfold goS at h
 split at h
 ·rename_i fn hfn
  have hf:=hK.e.fn f fn hfn
  split at h
  ·rename_i body hb
   split at h
   ·rename_i hn
    obtain⟨fr,h1,h2,h3,h4⟩:=q13 h
    obtain⟨out,h5,h6⟩:=z27 hK.e hK.s hK.mix n _ _ _ _ _ _ h1
    cases out with
    |stop it fr' m'=>exact h5.elim
    |ret p' fr' mc=>
     dsimp only at h5
     obtain⟨v',h7,h8⟩:=y02 hK.e h5
     have h7:Ex.ok v' mc=x:=h7
     subst h7
     intro w0 R0 ρ w vs hm hvs
     show zc1 P _ ((Go.callFunc f vs.toArray).run P w)
     rw[zD5 hf hb hn]
     exact zE4 hf hb h6 h8 hm (qu8 h2 h3 h4 hvs)
    |pan v' fr' mc=>
     have h5:Ex.pan v' mc=x:=h5
     subst h5
     intro w0 R0 ρ w vs hm hvs
     show zc7 P _ ((Go.callFunc f vs.toArray).run P w)
     rw[zD5 hf hb hn]
     have hfr:=qu8 h2 h3 h4 hvs
     intro cs
     let b:Frame:={ (default:Frame)with fn:=f,kind:=.normal}
     have henter:Frame.enter P f vs.toArray .normal=b.at {tmps:=vs.toArray++Array.replicate (fn.ntmps-vs.toArray.size) Go.undef,defers:=[]} [.code body] :=by
      simp[Frame.enter,Frame.at,hf,hb,b]
     obtain⟨ρ',w',a',todo,u,g1,g2,g3,g4⟩:=h6 w0 R0 ρ w {tmps:=vs.toArray++Array.replicate (fn.ntmps-vs.toArray.size) Go.undef,defers:=[]} ⟨hm,hfr,rfl⟩ b cs
     exact⟨.panicked [{v:=u,recovered:=false}],w',_,⟨u,rfl,ρ',g1.1,g2,g3⟩,by rw[henter];exact g4,rfl,rfl,g1.2.2,_,hf⟩
   ·exact h.elim
  ·exact h.elim
 ·exact h.elim
def qN4(d:Tmp)(c:Call):Bool:=match c.callee with
 |.value g=>match g with
  |.tmp t=>Nat.beq t d&&c.args.toList.isEmpty
  |_=>false
 |_=>false
def qU3(ops:List Oper):Option (Tmp×FuncId×List Operand):=match ops with
 |[o1,o2] =>match o1.guard,o2.guard,o2.dst with
  |none,none,none=>match o1.dst with
   |some d=>match o1.op with
    |.makeFunc (.func g) first cap=>match o2.op with
     |.defer c=>match first.toList.isEmpty&&qN4 d c with
      |true=>some (d,g,cap.toList)
      |false=>none
     |_=>none
    |_=>none
   |none=>none
  |_,_,_=>none
 |_=>none
theorem qU4{ops:List Oper}{x:Tmp×FuncId×List Operand}(h:qU3 ops=some x):∃o1 o2 cap c,ops=[o1,o2] ∧o1.op=.makeFunc (.func x.2.1) #[] cap∧o1.guard=none∧o1.dst=some x.1∧o2.op=.defer c∧c.callee=.value (.tmp x.1)∧c.args=#[] ∧o2.guard=none∧o2.dst=none∧cap.toList=x.2.2:=by
 unfold qU3 at h
 split at h
 ·rename_i o1 o2
  split at h
  ·rename_i g1 g2 g3
   split at h
   ·rename_i d hd
    split at h
    ·rename_i g first cap hop
     split at h
     ·rename_i c hc
      split at h
      ·rename_i hb
       injection h with h
       subst h
       rw[Bool.and_eq_true]at hb
       have e1:first=#[] :=by
        have:=hb.1
        apply Array.ext'
        simpa using this
       subst e1
       have h2:=hb.2
       unfold qN4 at h2
       split at h2
       ·rename_i g' hg'
        split at h2
        ·rename_i t
         rw[Bool.and_eq_true]at h2
         have e2:=Nat.eq_of_beq_eq_true h2.1
         subst e2
         refine⟨o1,o2,cap,c,rfl,hop,g1,hd,hc,hg',?_,g2,g3,rfl⟩
         apply Array.ext'
         simpa using h2.2
        ·cases h2
       ·cases h2
      ·cases h
     ·cases h
    ·cases h
   ·cases h
  ·cases h
 ·cases h
def yW5(ops:List Oper):Option Tmp:=match ops with
 |o::_=>match o.guard with
  |none=>match o.op with
   |.call c=>match c.callee with
    |.builtin .recover=>o.dst
    |_=>none
   |_=>none
  |some _=>none
 |[] =>none
theorem yW6{P:Program}{ops:List Oper}{d:Tmp}(h:yW5 ops=some d):∃o rest,ops=o::rest∧o.guard=none∧o.dst=some d∧∀ev w,(Go.execOp ev o).run P w=.ok .recover w:=by
 unfold yW5 at h
 split at h
 ·rename_i o rest
  split at h
  ·rename_i hg
   split at h
   ·rename_i c hop
    split at h
    ·rename_i hc
     refine⟨o,rest,rfl,hg,h,fun ev w=>?_⟩
     obtain⟨dst,op,ty,pos,after,guard⟩:=o
     dsimp only at hop
     subst hop
     simp[Go.execOp,resolve,invoke,builtin,hc]
    ·cases h
   ·cases h
  ·cases h
 ·cases h
section
variable {α:Type}
noncomputable def yW7(Ec Eb:Env)(n:Nat)(g:FuncId)(caps:List SV)(hand:SV)(m:Mem)(k:Mem→Tree α):Tree α:=
 match Eb.fn g with
 |some fg=>match fg.body with
  | some cg => match fg.name == "runtime.NumGoroutine" with
    |false=>Fr.make fg.ntmps caps fun fr=>exec Ec n [.code cg] .all fr m fun o=>match o with
     |.stop items fr m=>match items with
      |.code c::kg=>match c with
       |.region _ ops false=>match yW5 ops.toList with
        |some d=>yQ8 fr (some d) hand fun fr=>exec Eb n (.inRegion ops (List.range' 1 (ops.size-1))::kg) .all fr m fun o=>match o with
         |.ret _ fr m=>results Eb fg m fr fun _=>k m
         |_=>.fail 204
        |none=>.fail 203
       |_=>.fail 203
      |_=>.fail 203
     |_=>.fail 203
    |true=>.fail 143
  |none=>.fail 144
 |none=>.fail 145
noncomputable def zQ9(Ea Eb Ec:Env)(n:Nat)(f:FuncId)(args:List SV)(m:Mem):Tree (SV×Mem):=
 match Eb.fn f with
 |some fn=>match fn.body with
  | some body => match fn.name == "runtime.NumGoroutine" with
    |false=>Fr.make fn.ntmps args fun fr=>exec Ea n [.code body] .all fr m fun o=>match o with
     |.stop items fr1 m=>match items with
      |.code c::k=>match c with
       |.region _ ops false=>match qU3 ops.toList with
        |some x=>yQ8 fr1 (some x.1) .top fun fr=>exec Eb n k .all fr m fun o=>match o with
         |.ret _ fr m=>yW7 Ec Eb n x.2.1 (x.2.2.map (o6 fr1)) (.raw .nilIface) m fun m=>results Eb fn m fr fun v=>.leaf (v,m)
         |.pan u fr m=>yW7 Ec Eb n x.2.1 (x.2.2.map (o6 fr1)) u m fun m=>results Eb fn m fr fun v=>.leaf (v,m)
         |_=>.fail 202
        |none=>.fail 201
       |_=>.fail 201
      |_=>.fail 201
     |_=>.fail 201
    |true=>.fail 143
  |none=>.fail 144
 |none=>.fail 145
end
noncomputable def zR0(Ea Eb Ec:Env)(n:Nat)(f:FuncId):WFact:=⟨f,fun args m=>some (zQ9 Ea Eb Ec n f args m)⟩
theorem yW8{P:Program}{Ec Eb:Env}(hc:Known P Ec)(hb:Known P Eb){n:Nat}{g:FuncId}{caps:List SV}{m:Mem}{α:Type}{k:Mem→Tree α}{L:α→Prop}{r:Fin}(h:(yW7 Ec Eb n g caps r.hand m k).holds L):
  ∃m',(k m').holds L∧∀w0 R0 ρ w (a:Act) (b:Frame) (cs:List Frame) (todo:List Item) (u:Value) (cap:Array Value),MRel w0 R0 ρ w m→j6 (RO w0 R0 ρ w m) ρ m.next w caps cap.toList→a.defers=[{target:=.fn (.func g) cap,args:=#[]}] →
   Rep (RO w0 R0 ρ w m) ρ m.next w r.hand (r.got u)→∃ρ' w',MRel w0 R0 ρ' w' m'∧m7 w0 R0 ρ w m ρ' w' m'∧Steps P (lone {b.at a todo with mode:=r.mode u} cs w) (lone {b.at {a with defers:=[]} todo with mode:=.returning} cs w'):=by
 unfold yW7 at h
 split at h
 case h_2=>exact h.elim
 rename_i fg hfg
 have hfg:=hb.e.fn g fg hfg
 split at h
 case h_2=>exact h.elim
 rename_i cg hbg
 split at h
 case h_2=>exact h.elim
 rename_i hng
 obtain⟨frg,h1,h2,h3,h4⟩:=q13 h
 obtain⟨out,h5,h6⟩:=z27 hc.e hc.s hc.mix n _ _ _ _ _ _ h1
 cases out with
 |ret p fr' m'=>exact h5.elim
 |pan v fr' m'=>exact h5.elim
 |stop items fr1 m1=>
  dsimp only at h5
  split at h5
  case h_2=>exact h5.elim
  rename_i c kg
  split at h5
  case h_2=>exact h5.elim
  rename_i i0 opsg
  split at h5
  case h_2=>exact h5.elim
  rename_i d0 hrec
  obtain⟨o0,rest,hops,hog,hod,hrun⟩:=yW6 (P:=P) hrec
  obtain⟨fr2,h7,h8⟩:=yQ9 h5
  obtain⟨out2,h9,h10⟩:=z27 hb.e hb.s hb.mix n _ _ _ _ _ _ h8
  cases out2 with
  |stop it fr' m'=>exact h9.elim
  |pan v fr' m'=>exact h9.elim
  |ret p3 fr3 m3=>
   dsimp only at h9
   obtain⟨vg,h11,h12⟩:=y02 hb.e h9
   refine⟨m3,h11,fun w0 R0 ρ w a b cs todo u cap hm hcap hdef hhand=>?_⟩
   have hop:opsg[0]? =some o0:=by rw[←Array.getElem?_toList,hops];rfl
   have hszg:0<opsg.size:=by rw[←Array.length_toList,hops];simp
   have hMrun:r.mode u≠.run:=by cases r<;>simp[Fin.mode]
   have hstep2:=step_defer (P:=P) (fr:={b.at a todo with mode:=r.mode u}) (cs:=cs) (w:=w) (d:={target:=.fn (.func g) cap,args:=#[]}) (ds:=[]) (fv:=.func g) (cap:=cap) (f:=g) (args:=cap) hMrun hdef rfl (by
    show(Go.callFunc g (#[] ++cap)).run P w=_
    rw[Array.empty_append]
    exact zD5 hfg hbg hng _ _)
   let bg:Frame:={ (default:Frame)with fn:=g,kind:=.deferred}
   have henter:Frame.enter P g cap .deferred=bg.at {tmps:=cap.toList.toArray++Array.replicate (fg.ntmps-cap.toList.toArray.size) Go.undef,defers:=[]} [.code cg] :=by
    simp[Frame.enter,Frame.at,hfg,hbg,bg]
   obtain⟨ρ1,w1,a1,s1,x1,st1⟩:=h6 w0 R0 ρ w {tmps:=cap.toList.toArray++Array.replicate (fg.ntmps-cap.toList.toArray.size) Go.undef,defers:=[]} ⟨hm,qu8 h2 h3 h4 hcap,rfl⟩ bg ({{b.at a todo with mode:=r.mode u} with defers:=[]}::cs)
   have hrange:List.range opsg.size=0::List.range' 1 (opsg.size-1):=by
    rw[List.range_eq_range',show opsg.size=(opsg.size-1)+1 by omega,List.range'_succ];simp
   have hstep3:=step_region (P:=P) (b:=bg) (a:=a1) (k:=kg) (cs:={{b.at a todo with mode:=r.mode u} with defers:=[]}::cs) (w:=w1) (ops:=opsg) (id:=i0)
   rw[hrange]at hstep3
   have hstep4:=yX1 (P:=P) (b:=bg) (a:=a1) (k:=kg) (cs:={{b.at a todo with mode:=r.mode u} with defers:=[]}::cs) (cs':={{b.at a todo with mode:=r.mode2 u} with defers:=[]}::cs) (w:=w1) (ops:=opsg) (i:=0) (rest:=List.range' 1 (opsg.size-1)) (v:=r.got u) rfl hop hog (hrun _ _) (by
    cases r with
    |ret v0 bs=>exact .inr ⟨rfl,rfl,rfl⟩
    |pan v0 bs=>exact .inl rfl)
   rw[hod]at hstep4
   have s2:zd5 [] w0 R0 ρ1 w1 fr2 m1 (a1.put (some d0) (r.got u)):=⟨s1.1,zb4.put s1.2.1 h7 (Rep.mono x1 _ _ hhand),by rw[yR0];exact s1.2.2⟩
   obtain⟨ρ2,w2,a2,todo2,g1,g2,g3⟩:=h10 w0 R0 ρ1 w1 _ s2 bg ({{b.at a todo with mode:=r.mode2 u} with defers:=[]}::cs)
   obtain⟨u3,r1,r2⟩:=h12 w0 R0 ρ2 w2 a2 g1
   have hstep5:=step_going_returned (P:=P) (fr:={bg.at a2 todo2 with mode:=.returning}) (c:={{b.at a todo with mode:=r.mode2 u} with defers:=[]}) (cs:=cs) (w:=w2) (v:=u3) rfl ⟨rfl,g1.2.2,fg,hfg,r1⟩
   have hsettle:settle (r.mode2 u)=.returning:=by cases r<;>rfl
   refine⟨ρ2,w2,g1.1,x1.trans g2,?_⟩
   rw[henter]at hstep2
   refine .head hstep2 (Steps.trans st1 (.head hstep3 (.head hstep4 (Steps.trans g3 (.one ?_)))))
   rw[hstep5]
   dsimp only
   rw[hsettle]
   rfl
theorem zR1{P:Program}{Ea Eb Ec:Env}(ha:Known P Ea)(hb:Known P Eb)(hc:Known P Ec)(n:Nat)(f:FuncId):(zR0 Ea Eb Ec n f).ok P:=by
 intro args m t ht
 injection ht with ht
 subst ht
 refine xs5 _ fun y h=>?_
 unfold zQ9 at h
 split at h
 case h_2=>exact h.elim
 rename_i fn hfn
 have hf:=hb.e.fn f fn hfn
 split at h
 case h_2=>exact h.elim
 rename_i body hbd
 split at h
 case h_2=>exact h.elim
 rename_i hn
 obtain⟨fr,h1,h2,h3,h4⟩:=q13 h
 obtain⟨out,h5,h6⟩:=z27 ha.e ha.s ha.mix n _ _ _ _ _ _ h1
 cases out with
 |ret p fr' m'=>exact h5.elim
 |pan v fr' m'=>exact h5.elim
 |stop items fr1 m1=>
  dsimp only at h5
  split at h5
  case h_2=>exact h5.elim
  rename_i c k
  split at h5
  case h_2=>exact h5.elim
  rename_i id ops
  split at h5
  case h_2=>exact h5.elim
  rename_i x hlay
  obtain⟨o1,o2,cap,c,hops,g1,g1g,g1d,g2,g2c,g2a,g2g,g2d,hcap⟩:=qU4 hlay
  obtain⟨fr2,h7,h8⟩:=yQ9 h5
  obtain⟨out2,h9,h10⟩:=z27 hb.e hb.s hb.mix n _ _ _ _ _ _ h8
  -- all that is left, for both ends
  have fin:∀ (r:Fin) (fr3:Fr) (m2:Mem),(yW7 Ec Eb n x.2.1 (x.2.2.map (o6 fr1)) r.hand m2 fun m=>results Eb fn m fr3 fun v=>.leaf (v,m)).holds (fun z=>z=y)→
    (∀ds w0 R0 ρ w a,zd5 ds w0 R0 ρ w fr2 m1 a→∀ (b:Frame) (cs:List Frame),∃ρ' w' a' todo u,zd5 ds w0 R0 ρ' w' fr3 m2 a'∧m7 w0 R0 ρ w m1 ρ' w' m2∧Rep (RO w0 R0 ρ' w' m2) ρ' m2.next w' r.hand (r.got u)∧Steps P (lone (b.at a k) cs w) (lone {b.at a' todo with mode:=r.mode u} cs w'))→ze4 P f args m y:=by
   intro r fr3 m2 hr hgo
   obtain⟨m3,h11,h12⟩:=yW8 hc hb hr
   obtain⟨v,h13,h14⟩:=y02 hb.e h11
   have h13:(v,m3)=y:=h13
   subst h13
   intro w0 R0 ρ w vs hm hvs
   show zc1 P _ ((Go.callFunc f vs.toArray).run P w)
   rw[zD5 hf hbd hn]
   have hfr:=qu8 h2 h3 h4 hvs
   intro cs
   let b:Frame:={ (default:Frame)with fn:=f,kind:=.normal}
   have henter:Frame.enter P f vs.toArray .normal=b.at {tmps:=vs.toArray++Array.replicate (fn.ntmps-vs.toArray.size) Go.undef,defers:=[]} [.code body] :=by
    simp[Frame.enter,Frame.at,hf,hbd,b]
   obtain⟨ρ1,w1,a1,s1,x1,st1⟩:=h6 w0 R0 ρ w {tmps:=vs.toArray++Array.replicate (fn.ntmps-vs.toArray.size) Go.undef,defers:=[]} ⟨hm,hfr,rfl⟩ b cs
   have hda:x.1<a1.tmps.size:=by rw[←s1.2.1.1];exact h7.2.1 _ rfl
   obtain⟨e,a2,w2,⟨rfl,rfl,rfl⟩,harr⟩:=zR2 (P:=P) (id:=id) hops g1 g1g g1d g2 g2c g2a g2g g2d a1 w1 hda b k cs
   have s2:zd5 [{target:=.fn (.func x.2.1) (cap.map a1.eval),args:=#[]}] w0 R0 ρ1 w2 fr2 m1 {tmps:=a1.tmps.setIfInBounds x.1 (.func (.func x.2.1) #[] (cap.map a1.eval)),defers:={target:=.fn (.func x.2.1) (cap.map a1.eval),args:=#[]}::a1.defers}:=
    ⟨s1.1,zb4.put (d:=some x.1) (u:=.func (.func x.2.1) #[] (cap.map a1.eval)) s1.2.1 h7 trivial,by rw[s1.2.2]⟩
   obtain⟨ρ3,w3,a3,todo,u,s3,x3,hu,st3⟩:=hgo _ w0 R0 ρ1 w2 _ s2 b cs
   have hcv:j6 (RO w0 R0 ρ3 w3 m2) ρ3 m2.next w3 (x.2.2.map (o6 fr1)) (cap.map a1.eval).toList:=by
    rw[Array.toList_map,hcap]
    exact j6.mono x3 _ _ (j6.map _ _ _ fun z _=>s1.2.1.eval z)
   obtain⟨ρ4,w4,g5,g6,st4⟩:=h12 w0 R0 ρ3 w3 a3 b cs todo u (cap.map a1.eval) s3.1 hcv s3.2.2 hu
   obtain⟨uv,r1,r2⟩:=h14 w0 R0 ρ4 w4 {a3 with defers:=[]} (⟨g5,s3.2.1.mono g6,rfl⟩:zd5 [] w0 R0 ρ4 w4 fr3 m3 {a3 with defers:=[]})
   exact⟨.returned uv,w4,_,⟨uv,rfl,ρ4,g5,x1.trans (x3.trans g6),r2⟩,by rw[henter];exact Steps.trans st1 (Steps.trans harr (Steps.trans st3 st4)),rfl,rfl,rfl,rfl,fn,hf,r1⟩
  cases out2 with
  |stop it fr' m'=>exact h9.elim
  |ret p3 fr3 m2=>
   dsimp only at h9
   refine fin (.ret .undef []) fr3 m2 h9 fun ds w0 R0 ρ w a hs b cs=>?_
   obtain⟨ρ',w',a',todo,q1,q2,q3⟩:=h10 w0 R0 ρ w a hs b cs
   exact⟨ρ',w',a',todo,.nilIface,q1,q2,rfl,q3⟩
  |pan v fr3 m2=>
   dsimp only at h9
   refine fin (.pan v []) fr3 m2 h9 fun ds w0 R0 ρ w a hs b cs=>?_
   obtain⟨ρ',w',a',todo,u,q1,q2,q3,q4⟩:=h10 w0 R0 ρ w a hs b cs
   exact⟨ρ',w',a',todo,u,q1,q2,q3,q4⟩
end Go.Sx
namespace Go.Proofs
open Go.Shelf Go.RowKit Go.Lib Go.Sort
def Tryz.sortRc_ren:Ren:=⟨fun|6=>256|15=>286|14=>285|28=>317|29=>318|20=>309|21=>310|22=>311|23=>312|24=>313|25=>314|26=>315|27=>316|46=>326|47=>327|48=>328|49=>329|50=>330|57=>336|n=>n,fun|22=>190|24=>134|25=>239|3=>3|39=>170|0=>0|53=>281|55=>225|4=>4|46=>274|45=>273|50=>278|5=>5|9=>9|66=>287|70=>161|76=>295|77=>164|n=>n,fun|n=>n⟩
theorem Tryz.sortRc:SlLaysF0.n6 Tryz.prog Tryz.sortRc_ren:={
 mixed:=by kernel_rfl
 f6:=⟨Tryz.f256.name,by decide,Tryz.func256.trans (congrArg some (by kernel_rfl))⟩
 f14:=⟨Tryz.f285.name,by decide,Tryz.func285.trans (congrArg some (by kernel_rfl))⟩
 f15:=Tryz.func286.trans (congrArg some (by kernel_rfl))
 f20:=⟨Tryz.f309.name,by decide,Tryz.func309.trans (congrArg some (by kernel_rfl))⟩
 f21:=⟨Tryz.f310.name,by decide,Tryz.func310.trans (congrArg some (by kernel_rfl))⟩
 f22:=⟨Tryz.f311.name,by decide,Tryz.func311.trans (congrArg some (by kernel_rfl))⟩
 f23:=⟨Tryz.f312.name,by decide,Tryz.func312.trans (congrArg some (by kernel_rfl))⟩
 f24:=⟨Tryz.f313.name,by decide,Tryz.func313.trans (congrArg some (by kernel_rfl))⟩
 f25:=⟨Tryz.f314.name,by decide,Tryz.func314.trans (congrArg some (by kernel_rfl))⟩
 f26:=⟨Tryz.f315.name,by decide,Tryz.func315.trans (congrArg some (by kernel_rfl))⟩
 f27:=⟨Tryz.f316.name,by decide,Tryz.func316.trans (congrArg some (by kernel_rfl))⟩
 f28:=Tryz.func317.trans (congrArg some (by kernel_rfl))
 f29:=Tryz.func318.trans (congrArg some (by kernel_rfl))
 f46:=⟨Tryz.f326.name,by decide,Tryz.func326.trans (congrArg some (by kernel_rfl))⟩
 f47:=Tryz.func327.trans (congrArg some (by kernel_rfl))
 f48:=Tryz.func328.trans (congrArg some (by kernel_rfl))
 f49:=⟨Tryz.f329.name,by decide,Tryz.func329.trans (congrArg some (by kernel_rfl))⟩
 f50:=⟨Tryz.f330.name,by decide,Tryz.func330.trans (congrArg some (by kernel_rfl))⟩
 f57:=⟨Tryz.f336.name,by decide,Tryz.func336.trans (congrArg some (by kernel_rfl))⟩
 t0:=Tryz.underlying0
 a0:=Tryz.isAgg0
 z0:=Tryz.sizeOf0
 v0:=Tryz.zeroValue0
 t3:=Tryz.underlying3
 a3:=Tryz.isAgg3
 z3:=Tryz.sizeOf3
 v3:=Tryz.zeroValue3
 t4:=Tryz.underlying4
 a4:=Tryz.isAgg4
 z4:=Tryz.sizeOf4
 v4:=Tryz.zeroValue4
 t5:=Tryz.underlying5
 a5:=Tryz.isAgg5
 z5:=Tryz.sizeOf5
 v5:=Tryz.zeroValue5
 t9:=Tryz.underlying9
 a9:=Tryz.isAgg9
 z9:=Tryz.sizeOf9
 v9:=Tryz.zeroValue9
 t22:=Tryz.underlying190
 a22:=Tryz.isAgg190
 z22:=Tryz.sizeOf190
 v22:=Tryz.zeroValue190
 t25:=Tryz.underlying239
 a25:=Tryz.isAgg239
 z25:=Tryz.sizeOf239
 v25:=Tryz.zeroValue239
 t39:=Tryz.underlying170
 a39:=Tryz.isAgg170
 z39:=Tryz.sizeOf170
 v39:=Tryz.zeroValue170
 t45:=Tryz.underlying273
 a45:=Tryz.isAgg273
 z45:=Tryz.sizeOf273
 v45:=Tryz.zeroValue273
 t46:=Tryz.underlying274
 a46:=Tryz.isAgg274
 z46:=Tryz.sizeOf274
 v46:=Tryz.zeroValue274
 t50:=Tryz.underlying278
 a50:=Tryz.isAgg278
 z50:=Tryz.sizeOf278
 v50:=Tryz.zeroValue278
 t53:=Tryz.underlying281
 a53:=Tryz.isAgg281
 z53:=Tryz.sizeOf281
 v53:=Tryz.zeroValue281
 t55:=Tryz.underlying225
 a55:=Tryz.isAgg225
 z55:=Tryz.sizeOf225
 v55:=Tryz.zeroValue225
 t66:=Tryz.underlying287
 a66:=Tryz.isAgg287
 z66:=Tryz.sizeOf287
 v66:=Tryz.zeroValue287
 t70:=Tryz.underlying161
 a70:=Tryz.isAgg161
 z70:=Tryz.sizeOf161
 v70:=Tryz.zeroValue161
 t76:=Tryz.underlying295
 a76:=Tryz.isAgg295
 z76:=Tryz.sizeOf295
 v76:=Tryz.zeroValue295
 t77:=Tryz.underlying164
 a77:=Tryz.isAgg164
 z77:=Tryz.sizeOf164
 v77:=Tryz.zeroValue164 }
def Tryz.cmpInt_ren:Ren:=⟨fun|5=>258|7=>287|n=>n,fun|22=>3|3=>3|4=>4|n=>n,fun|n=>n⟩
theorem Tryz.cmpInt:SlLaysC2.n5 Tryz.prog Tryz.cmpInt_ren:={
 mixed:=by kernel_rfl
 f5:=⟨Tryz.f258.name,by decide,Tryz.func258.trans (congrArg some (by kernel_rfl))⟩
 f7:=⟨Tryz.f287.name,by decide,Tryz.func287.trans (congrArg some (by kernel_rfl))⟩
 t3:=Tryz.underlying3
 a3:=Tryz.isAgg3
 z3:=Tryz.sizeOf3
 v3:=Tryz.zeroValue3
 t4:=Tryz.underlying4
 a4:=Tryz.isAgg4
 z4:=Tryz.sizeOf4
 v4:=Tryz.zeroValue4
 t22:=Tryz.underlying3
 a22:=Tryz.isAgg3
 z22:=Tryz.sizeOf3
 v22:=Tryz.zeroValue3 }
end Go.Proofs
namespace Go.Proofs.YtnkaepnblikcdaaGreat
open Go.Sx Go.RowKit Go.Lib Go.Sort
def zY8(x:RT):List Value:=[.int .i64 x.1,.int .i64 x.2.1,.int .i64 x.2.2.1,.int .i64 x.2.2.2.1,.int .i64 x.2.2.2.2.1.1,.int .i64 x.2.2.2.2.1.2.1,.int .i64 x.2.2.2.2.1.2.2.1,.int .i64 x.2.2.2.2.1.2.2.2,.int .i64 x.2.2.2.2.2.1,.int .i64 x.2.2.2.2.2.2.1,.int .i64 x.2.2.2.2.2.2.2.1,.int .i64 x.2.2.2.2.2.2.2.2]
theorem zY9(x:RT):∀v∈zY8 x,v.oneCell'=true:=by
 intro v hv
 simp only[zY8,List.mem_cons,List.not_mem_nil,or_false]at hv
 rcases hv with rfl|rfl|rfl|rfl|rfl|rfl|rfl|rfl|rfl|rfl|rfl|rfl<;>rfl
set_option maxHeartbeats 1000000 in
theorem zo6(x y:RT)(W:World):Calls pP 257 #[.agg (zY8 x).toArray,.agg (zY8 y).toArray] W fun e w'=>e=.returned (.int .i64 (Lib.compareInt x.2.1 y.2.1))∧∃q os',w'=grow (W.drewN q) os':=by
 have hcon:=fun W'=>AnyG.cmp_Compare_int Tryz.cmpInt x.2.1 y.2.1 W'
 change ∀W',Calls pP 258 _ _ _ at hcon
 generalize Lib.compareInt x.2.1 y.2.1=r at hcon ⊢
 unfold zY8
 go_enter Tryz.func257,Tryz.ntmps257
 go_wp2_with (go_at_call 258;refine(hcon _).mono ?_;rintro e w' ⟨rfl,rfl⟩)
 go_ret
 exact⟨rfl,0,_,by rw[alloc_eq_grow,alloc_eq_grow,grow_grow];rfl⟩
theorem q00(x y:RT):ltOf (fun x y:RT=>Lib.compareInt x.2.1 y.2.1) x y=decide (x.2.1<y.2.1):=by
 unfold ltOf Lib.compareInt
 by_cases h1:x.2.1<y.2.1
 ·simp[h1]
 ·by_cases h2:y.2.1<x.2.1<;>simp[h1,h2]
theorem xG0:SWO (ltOf fun x y:RT=>Lib.compareInt x.2.1 y.2.1) where
 irrefl x:=by rw[q00];simp
 trans x y z h1 h2:=by rw[q00]at *;simp at *;omega
 ntrans x y z h1 h2:=by rw[q00]at *;simp at *;omega
theorem qN2(w:World):(isAgg 134).run pP w=.ok true w:=by
 simp[isAgg,run_underlying Tryz.underlying134]
theorem qL1:(pP.info? 134).map (fun i=>(i.zero,i.size,i.bytes))=some (some (.agg #[.int .i64 0,.int .i64 0,.int .i64 0,.int .i64 0,.int .i64 0,.int .i64 0,.int .i64 0,.int .i64 0,.int .i64 0,.int .i64 0,.int .i64 0,.int .i64 0]),12,96):=by kernel_rfl
theorem xv8(w:World):(Go.sizeOf 134).run pP w=.ok 12 w:=by
 obtain⟨i0,hi0,hz0,hz1,hz2⟩:=info_parts qL1
 simp[Go.sizeOf,typeInfo,hi0,hz1]
theorem xx0(blk cap:Nat)(d:Array RT)(w:World)(hH:HoldsK zY8 12 w blk 0 d)(hblk:blk<w.heap.size)(hsz:d.size<4611686018427387904):
  Calls pP 256 #[.slice (some ⟨blk,0,none⟩) d.size cap,.func (.func 257) #[] #[]] w fun e w'=>e=.returned (.tuple #[])∧∃d' n os,PermIn 0 d.size d d'∧SortedIn (ltOf fun x y:RT=>Lib.compareInt x.2.1 y.2.1) 0 d.size d'∧w'=sortWorldK zY8 12 w blk 0 n d' os:=by
 have eg:∀args w,(Go.callFunc 257 args).run pP w=.ok (.enter 257 args) w:=enters_of Tryz.func257 (by kernel_rfl) rfl
 have hcon:=AnyQ.slices_SortFunc Tryz.sortRc 12 qN2 xv8 zY8 (fun _=>rfl) zY9 (fun x y=>Lib.compareInt x.2.1 y.2.1) xG0 257 #[] blk 0 cap d w eg (fun _ _ _ _ x y=>zo6 x y _) hH hblk hsz
 exact hcon
open Go.Sx
theorem xm6 :SCall pP 256 [.list xS8 [],.fn 257 [] []] (.tuple []):=
 o9 mix [] trivial 2000 (.auto)
  (t:=.req (true) (.leaf (SV.tuple [])))
  (by kernel_rfl) (by exact⟨rfl,rfl⟩) (by kernel_rfl) (by kernel_rfl)
theorem MRel.grown{w0:World}{R0:RSet}{ρ:Rho}{w w':World}{m:Mem}(h:MRel w0 R0 ρ w m)(hos:w'.os=w.os)(ht:w'.tape=w.tape)(hp:w'.output=w.output)(hsz:w.heap.size≤w'.heap.size)(hold:∀k,k<w.heap.size→w'.heap[k]? =w.heap[k]?):MRel w0 R0 ρ w' m∧m7 w0 R0 ρ w m ρ w' m:=by
 have hro:∀b,RO w0 R0 ρ w m b→RO w0 R0 ρ w' m b:=fun b hb=>by
  rcases hb with hb|⟨h1,h2,h3⟩
  ·exact .inl hb
  ·exact .inr ⟨h1,by omega,h3⟩
 have e:m7 w0 R0 ρ w m ρ w' m:=⟨Nat.le_refl _,fun _ _=>rfl,fun b hb=>⟨hro b hb,hold b (h.ro_lt hb)⟩⟩
 have hs0:=h.size_le
 exact⟨⟨h.below.trans ⟨hos,ht,hp,hsz,fun k hk=>hold k (by omega)⟩,h.lt,h.lo,fun k C hk hs=>Nat.lt_of_lt_of_le (h.hi k C hk hs) hsz,h.inj,fun k C hk=>za2.mono e C (fun hs=>hold _ (h.hi k C hk hs)) (h.box k C hk),fun b hb=>⟨by have:=(h.hid.1 b hb).1;omega,(hold b (h.hid.1 b hb).1).trans (h.hid.1 b hb).2⟩,h.hid.2⟩,e⟩
theorem yY0{R:Nat→Prop}{w:World}{x:RT}{v:List Value}:p8 R w xS8 x v↔v=zY8 x:=by
 constructor
 ·intro h
  simp only[xS8,p8]at h
  obtain⟨_,_,rfl,rfl,_,_,rfl,rfl,_,_,rfl,rfl,_,_,rfl,rfl,_,_,rfl,⟨_,_,rfl,rfl,_,_,rfl,rfl,_,_,rfl,rfl,rfl⟩,_,_,rfl,rfl,_,_,rfl,rfl,_,_,rfl,rfl,rfl⟩:=h
  rfl
 ·rintro rfl
  simp only[xS8,p8]
  exact⟨[_],_,rfl,rfl,[_],_,rfl,rfl,[_],_,rfl,rfl,[_],_,rfl,rfl,[_,_,_,_],_,rfl,⟨[_],_,rfl,rfl,[_],_,rfl,rfl,[_],_,rfl,rfl,rfl⟩,[_],_,rfl,rfl,[_],_,rfl,rfl,[_],_,rfl,rfl,rfl⟩
theorem xx1{l:List RT}{d':Array RT}(hd:zS4 (l.map yU8))(hp:PermIn 0 l.toArray.size l.toArray d')(hs:SortedIn (ltOf fun x y:RT=>Lib.compareInt x.2.1 y.2.1) 0 l.toArray.size d'):d'.toList=(xw5 (l.map yU8)).map Rc.t:=by
 obtain⟨p1,p2,p3⟩:=hp
 have e1:(d'.extract 0 l.toArray.size).toList=d'.toList:=by rw[←p1];simp
 have e2:(l.toArray.extract 0 l.toArray.size).toList=l:=by simp
 rw[e1,e2]at p3
 have asc:∀ (k:List RT),(∀i j,i<j→j<k.length→¬(k.getD j default).2.1< (k.getD i default).2.1)→zq9 (k.map yU8):=by
  intro k
  induction k with
  |nil=>intro _;trivial
  |cons x k ih=>
   intro h
   refine⟨fun y hy=>?_,ih fun i j hij hj=>?_⟩
   ·obtain⟨z,hz,rfl⟩:=List.mem_map.1 hy
    obtain⟨j,hj,rfl⟩:=List.getElem_of_mem hz
    have:=h 0 (j+1) (by omega) (by simpa using hj)
    simp only[List.getD_cons_zero,List.getD_cons_succ]at this
    rw[List.getD_eq_getElem?_getD,List.getElem?_eq_getElem hj]at this
    show x.2.1≤k[j].2.1
    simp only[Option.getD_some]at this
    omega
   ·have:=h (i+1) (j+1) (by omega) (by simpa using hj)
    simpa using this
 have key:=xw7 hd (p3.map yU8) (asc d'.toList fun i j hij hj=>by
  have hj':j<l.toArray.size:=by rw[←p1];simpa using hj
  have:=hs i j (Nat.zero_le _) hij hj'
  rw[q00]at this
  have:=of_decide_eq_false this
  have g:∀t,t<d'.size→d'.toList.getD t default=d'[t]! :=fun t ht=>by
   rw[List.getD_eq_getElem?_getD,Array.getElem?_toList,Array.getElem?_eq_getElem ht,getElem!_pos d' t ht];rfl
  have hjs:j<d'.size:=by simpa using hj
  rw[g j hjs,g i (by omega)]
  exact this)
 rw[←key,xG5]
theorem qt2(d:Array RT)(t:Nat)(h:t<d.size*12):(flatK zY8 12 d)[t]? =(zY8 d[t / 12]!)[t % 12]? :=by
 have h1:t< (flatK zY8 12 d).size:=by rw[size_flatK];exact h
 have h2:t % 12< (zY8 d[t / 12]!).length:=by show t % 12<12;omega
 rw[Array.getElem?_eq_getElem h1,List.getElem?_eq_getElem h2]
 have:=get_flatK zY8 12 d t h
 rw[getElem!_pos (flatK zY8 12 d) t h1,getElem!_pos (zY8 d[t / 12]!) (t % 12) h2]at this
 rw[this]
noncomputable def x00:WFact:=⟨256,fun args m=>match args with
 |[x,y] =>match x with
  |.row id=>match y with
   |.fn g first cap=>match Nat.beq g 257&& (first.isEmpty&&cap.isEmpty)with
    |true=>match m.get id with
     |some B=>match B with
      |.rows t l=>if h:t=xS8 then some (.req (decide (l.length≤1000)&&zS2 ((h▸l:List xS8.T).map yU8)) (m.set id (some (.rows xS8 ((xw5 ((h▸l:List xS8.T).map yU8)).map Rc.t))) fun m=>.leaf (.tuple [],m)))else none
      |_=>none
     |none=>none
    |false=>none
   |_=>none
  |_=>none
 |_=>none⟩
theorem xw9{m m':Mem}{id:Nat}{l:List RT}(hg:m.get id=some (.rows xS8 l))(hl:l.length≤1000)(hd:zS4 (l.map yU8))(hm':zc0 m id (some (.rows xS8 ((xw5 (l.map yU8)).map Rc.t))) m'):ze4 pP 256 [.row id,.fn 257 [] []] m (.tuple [],m'):=by
 intro w0 R0 ρ w vs hm hvs
 obtain⟨a,us,rfl,hra,b,us2,rfl,hrb,hnil⟩:=hvs
 rw[show us2=[]from hnil]
 obtain⟨hid,ad,rfl,had⟩:=hra
 obtain⟨fv,fu,rfl,h5,h6⟩:=hrb
 rw[show fv=[]from h5,show fu=[]from h6]
 obtain⟨b1,b2,b3⟩:=hm.box id _ hg
 have b1:l.length=(ρ id).2.1:=b1
 have b2:l.length≤(ρ id).2.2:=b2
 by_cases h0:l=[]
 ·subst h0
  have q:=xm6 m w0 R0 ρ w [.slice ad (ρ id).2.1 (ρ id).2.2,.func (.func 257) #[] #[]] hm ⟨_,_,rfl,⟨ad,(ρ id).2.2,by rw[←b1];rfl,Nat.zero_le _,fun hp=>absurd hp (Nat.lt_irrefl 0)⟩,_,_,rfl,⟨[],[],rfl,rfl,rfl⟩,rfl⟩
  have eg:∀k,m'.get k=m.get k:=fun k=>by
   rw[hm'.1 k]
   split
   ·rename_i e;rw[e,hg];rfl
   ·rfl
  refine zc1.mono (fun u w' hu=>?_) q
  obtain⟨ρ',g1,g2,g3⟩:=hu
  refine⟨ρ',g1.congr eg hm'.2,⟨by rw[hm'.2];exact g2.le,g2.same,fun b hb=>?_⟩,g3⟩
  obtain⟨k1,k2⟩:=g2.keep b hb
  exact⟨by rw[RO.congr eg];exact k1,k2⟩
 ·have hpos:0<l.length:=List.length_pos_iff.2 h0
  have hc0:0< (ρ id).2.2:=by omega
  obtain⟨arr,e,fr,q1,q2,q3,q4⟩:=b3 hc0
  have q3:arr.size=(ρ id).2.2*12:=q3
  have blk:=hm.hi id _ hg hc0
  rw[had hc0,←b1]
  have cells:∀i (hi:i<l.length) j,j<12→arr[i*12+j]? =(zY8 l[i])[j]? :=fun i hi j hj=>by
   obtain⟨cs,k1,k2,k3⟩:=q4 i hi
   rw[show cs=zY8 l[i]from yY0.1 k3]at k2
   exact k2 j hj
  have hH:HoldsK zY8 12 w (ρ id).1 0 l.toArray:=by
   intro j hj
   rw[size_flatK]at hj
   have hj:j<l.length*12:=by simpa using hj
   have hi:j / 12<l.length:=by omega
   have hlt:j<arr.size:=by rw[q3];have:=Nat.mul_le_mul_right 12 b2;omega
   rw[Nat.zero_add]
   refine⟨?_,yc4 q1 q2.1 (by omega)⟩
   rw[cell_of_row w _ _ arr e fr q1]
   have c:=cells (j / 12) hi (j % 12) (by omega)
   rw[show j / 12*12+j % 12=j by omega]at c
   rw[c]
   have f:=qt2 l.toArray j (by simpa using hj)
   have hsz:j< (flatK zY8 12 l.toArray).size:=by rw[size_flatK];simpa using hj
   rw[Array.getElem?_eq_getElem hsz]at f
   rw[getElem!_pos (flatK zY8 12 l.toArray) j hsz]
   show _=some (_root_.id (flatK zY8 12 l.toArray)[j])
   rw[show(l.toArray[j / 12]! :RT)=l[j / 12] by simp[hi]]at f
   exact f.symm
  have hrun:=xx0 (ρ id).1 (ρ id).2.2 l.toArray w hH blk (by simp;omega)
  dsimp only
  rw[zD5 (P:=pP) Tryz.func256 (body:=_) rfl (by kernel_rfl)]
  refine Calls.mono hrun fun ex w' ⟨he,d',n,os,hp,hs,hw⟩=>⟨_,he,?_⟩
  have hd':=xx1 hd hp hs
  have hsz':d'.size=l.length:=by have:=hp.1;simpa using this
  -- the world grown
  have gw:(grow (Sort.ahead w n) os).heap.size=w.heap.size+os.size:=by simp[grow,Sort.ahead]
  obtain⟨m1,m2⟩:=MRel.grown (w':=grow (Sort.ahead w n) os) hm rfl rfl rfl (by rw[gw];omega) (fun k hk=>heap_grow_old (Sort.ahead w n) os hk)
  have hw2:w'=putRowK zY8 12 (grow (Sort.ahead w n) os) (ρ id).1 0 d':=by
   rw[hw];unfold sortWorldK
   exact(putRowK_grow zY8 12 (Sort.ahead w n) os (ρ id).1 0 d' blk).symm
  have hq1:(grow (Sort.ahead w n) os).heap[(ρ id).1]? =some (.cells arr e fr):=(heap_grow_old (Sort.ahead w n) os blk).trans q1
  have hheap:w'.heap[(ρ id).1]? =some (.cells (putCells _root_.id 0 (flatK zY8 12 d') arr) e fr):=by
   rw[hw2]
   show((grow (Sort.ahead w n) os).heap.modify (ρ id).1 _)[(ρ id).1]? =_
   rw[Array.getElem?_modify,if_pos rfl,hq1];rfl
  have hoth:∀k,k≠(ρ id).1→w'.heap[k]? =(grow (Sort.ahead w n) os).heap[k]? :=fun k hk=>by
   rw[hw2]
   show((grow (Sort.ahead w n) os).heap.modify (ρ id).1 _)[k]? =_
   rw[Array.getElem?_modify,if_neg (Ne.symm hk)]
  have hs1:w'.heap.size=(grow (Sort.ahead w n) os).heap.size:=by
   rw[hw2]
   show((grow (Sort.ahead w n) os).heap.modify (ρ id).1 _).size=_
   rw[Array.size_modify]
  have ho:w'.os=(grow (Sort.ahead w n) os).os:=by rw[hw2];rfl
  have ht:w'.tape=(grow (Sort.ahead w n) os).tape:=by rw[hw2];rfl
  have hpt:w'.output=(grow (Sort.ahead w n) os).output:=by rw[hw2];rfl
  have lenS:((xw5 (l.map yU8)).map Rc.t).length=l.length:=by rw[List.length_map,(xw8 _).length_eq,List.length_map]
  obtain⟨g1,g2⟩:=m1.setBox (B':=.rows xS8 ((xw5 (l.map yU8)).map Rc.t)) hg hc0 hm' ho ht hpt hs1 hoth fun R e'=>by
   refine⟨lenS.trans b1,Nat.le_trans (Nat.le_of_eq lenS) b2,fun _=>⟨_,_,_,hheap,⟨fun i hi=>q2.1 i (by simpa[putCells]using hi),q2.2⟩,(show(putCells _root_.id 0 (flatK zY8 12 d') arr).size=arr.size by simp[putCells]).trans q3,fun i hi=>⟨zY8 ((xw5 (l.map yU8)).map Rc.t)[i],rfl,fun j hj=>?_,yY0.2 rfl⟩⟩⟩
   have hi:i<l.length:=Nat.lt_of_lt_of_eq hi lenS
   have hj:j<12:=hj
   have hlt:i*12+j<arr.size:=by rw[q3];have:=Nat.mul_le_mul_right 12 b2;omega
   have hk:i*12+j< (flatK zY8 12 d').size:=by rw[size_flatK,hsz'];omega
   show(putCells _root_.id 0 (flatK zY8 12 d') arr)[i*12+j]? =_
   unfold putCells
   rw[Array.getElem?_mapIdx,Array.getElem?_eq_getElem hlt]
   simp only[Option.map_some]
   rw[if_pos (by omega),Nat.sub_zero]
   have f:=qt2 d' (i*12+j) (by rw[hsz'];omega)
   rw[show(i*12+j) / 12=i by omega,show(i*12+j) % 12=j by omega,Array.getElem?_eq_getElem hk]at f
   rw[getElem!_pos (flatK zY8 12 d') (i*12+j) hk]
   show some (flatK zY8 12 d')[i*12+j] =_
   rw[f]
   have:(d'[i]! :RT)=((xw5 (l.map yU8)).map Rc.t)[i] :=by
    have hi':i<d'.size:=by omega
    rw[getElem!_pos d' i hi']
    simp only[←hd',Array.getElem_toList]
   rw[this]
  exact⟨ρ,g1,m2.trans g2,[],rfl,rfl⟩
theorem yv2:x00.ok pP:=by
 intro args m t ht
 simp only[x00]at ht
 split at ht
 ·split at ht
  ·rename_i id
   split at ht
   ·rename_i g first cap
    split at ht
    ·rename_i hb
     rw[Bool.and_eq_true,Bool.and_eq_true]at hb
     have e1:=Nat.eq_of_beq_eq_true hb.1
     have e2:first=[] :=by simpa using hb.2.1
     have e3:cap=[] :=by simpa using hb.2.2
     subst e1 e2 e3
     split at ht
     ·rename_i B hB
      split at ht
      ·rename_i ty l
       split at ht
       ·rename_i hty
        subst hty
        injection ht with ht
        subst ht
        intro h
        rw[Bool.and_eq_true]at h
        exact Mem.set_says fun m' hm'=>xw9 hB (of_decide_eq_true h.1) (zS3.1 h.2) hm'
       ·cases ht
      ·cases ht
     ·cases ht
    ·cases ht
   ·cases ht
  ·cases ht
 ·cases ht
open Go.Sx
def ze8:Plan:=.fork (.lit (.lit (.lit .all))) (.lit (.lit (.fork .all .all)))
noncomputable def ze9(f:Fl):Tree Stop:= .req (o7 f) (.node (!flB f) (.leaf (.done (.list xS8 []))) (.node (f.dead) (.leaf (.done (.list xS8 []))) (.leaf (.at (j9 pP 191 0) 48 (j8 48 [(1,.ptr 0 0),(3,SV.nilS),(16,.list Ty.str f.pages),(17,I64 (↑f.pages.length:Int)),(18,I64 0)]) [some (.cells f.cells)]))))
theorem aa0(f:Fl):w9 (Env.of pP (v6 [z60])) 1000 (j7 pP 191) xS8 (x8 48 [1,3,16,17,18]) (u7 pP 191) ze8 (v9 pP 191 [f.sv]) [] =ze9 f:=by kernel_rfl
def zf0:Plan:=.fork (.fork (.ln 9 (.lit .all)) (.fork (.ln 9 (.fork .all .all)) (.ln 9 (.lit .all)))) .all
noncomputable def zf1(f:Fl)(l:List RT)(i:Int):Tree Stop:= .node (decide (i< (↑f.pages.length:Int))) (.req (decide (0≤i)&&decide (i< (↑f.pages.length:Int))) (.req (decide (List.length (f.pages.getD i.toNat ([] :List UInt8))≤100000)) (.node (decide (List.length (f.pages.getD i.toNat ([] :List UInt8))<64)) (.leaf (.at (j9 pP 191 0) 48 (j8 48 [(1,.ptr 0 0),(3,SV.row 1),(16,.list Ty.str f.pages),(17,I64 (↑f.pages.length:Int)),(18,I64 (i64.wrap (i+1)))]) [some (.cells f.cells),some (.rows xS8 l)])) (.node (zP9 (f.pages.getD i.toNat ([] :List UInt8))) (.req (!(↑f.pages.length:Int)==0) (.node ((m9 (f.pages.getD i.toNat ([] :List UInt8))).seq.tmod (↑f.pages.length:Int)==i) (.req (decide ((l.length+ [(m9 (f.pages.getD i.toNat ([] :List UInt8))).t].length)*96≤140737488355328)) (.leaf (.at (j9 pP 191 0) 48 (j8 48 [(1,.ptr 0 0),(3,SV.row 1),(16,.list Ty.str f.pages),(17,I64 (↑f.pages.length:Int)),(18,I64 (i64.wrap (i+1)))]) [some (.cells f.cells),some (.rows xS8 (l++[(m9 (f.pages.getD i.toNat ([] :List UInt8))).t]))]))) (.leaf (.at (j9 pP 191 0) 48 (j8 48 [(1,.ptr 0 0),(3,SV.row 1),(16,.list Ty.str f.pages),(17,I64 (↑f.pages.length:Int)),(18,I64 (i64.wrap (i+1)))]) [some (.cells f.cells),some (.rows xS8 l)])))) (.leaf (.at (j9 pP 191 0) 48 (j8 48 [(1,.ptr 0 0),(3,SV.row 1),(16,.list Ty.str f.pages),(17,I64 (↑f.pages.length:Int)),(18,I64 (i64.wrap (i+1)))]) [some (.cells f.cells),some (.rows xS8 l)])))))) (.req (decide (l.length≤1000)&&zS2 (List.map yU8 l)) (.leaf (.done (.list xS8 (List.map Rc.t (xw5 (List.map yU8 l)))))))
theorem aa1(f:Fl)(l:List RT)(i:Int):w9 (Env.ofW pP (v6 [z51]) (d7 [x00])) 1000 (j7 pP 191) xS8 (x8 48 [1,3,16,17,18]) (j9 pP 191 0) zf0 (j8 48 [(1,.ptr 0 0),(3,.row 1),(16,.list .str f.pages),(17,I64 f.pages.length),(18,I64 i)]) [some (.cells f.cells),some (.rows xS8 l)] =zf1 f l i:=by kernel_rfl
end Go.Proofs.YtnkaepnblikcdaaGreat
