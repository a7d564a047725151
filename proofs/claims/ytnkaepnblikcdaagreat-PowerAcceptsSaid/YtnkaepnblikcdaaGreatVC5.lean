/-
  Evaluator, contracts, plain law.
-/
import Derived.Test.YtnkaepnblikcdaaGreatVC4
import Derived.Test.YtnkaepnblikcdaaGreatVC3
import Derived.Lib.Mul64
set_option maxRecDepth 100000
set_option linter.unusedVariables false
set_option linter.unusedSimpArgs false
open Go.IntKind (i64 u64 u8)
namespace Go.Proofs.YtnkaepnblikcdaaGreat
open Go.Sx
def qQ6:List UInt8:=[0,1,2,2,3,3,3,3,4,4,4,4,4,4,4,4,5,5,5,5,5,5,5,5,5,5,5,5,5,5,5,5,6,6,6,6,6,6,6,6,6,6,6,6,6,6,6,6,6,6,6,6,6,6,6,6,6,6,6,6,6,6,6,6,7,7,7,7,7,7,7,7,7,7,7,7,7,7,7,7,7,7,7,7,7,7,7,7,7,7,7,7,7,7,7,7,7,7,7,7,7,7,7,7,7,7,7,7,7,7,7,7,7,7,7,7,7,7,7,7,7,7,7,7,7,7,7,7,8,8,8,8,8,8,8,8,8,8,8,8,8,8,8,8,8,8,8,8,8,8,8,8,8,8,8,8,8,8,8,8,8,8,8,8,8,8,8,8,8,8,8,8,8,8,8,8,8,8,8,8,8,8,8,8,8,8,8,8,8,8,8,8,8,8,8,8,8,8,8,8,8,8,8,8,8,8,8,8,8,8,8,8,8,8,8,8,8,8,8,8,8,8,8,8,8,8,8,8,8,8,8,8,8,8,8,8,8,8,8,8,8,8,8,8,8,8,8,8,8,8,8,8,8,8,8,8]
def U64(n:Int):SV:=.int .u64 n
def qQ8(x:Int):Int:=(qQ6.getD x.toNat 0).toNat
def qR9(x:Int):Int:=
 if x>=4294967296 then
  if x / 4294967296>=65536 then
   if x / 4294967296 / 65536>=256 then 56+qQ8 (x / 4294967296 / 65536 / 256)else 48+qQ8 (x / 4294967296 / 65536)
  else if x / 4294967296>=256 then 40+qQ8 (x / 4294967296 / 256)else 32+qQ8 (x / 4294967296)
 else if x>=65536 then
  if x / 65536>=256 then 24+qQ8 (x / 65536 / 256)else 16+qQ8 (x / 65536)
 else if x>=256 then 8+qQ8 (x / 256)else qQ8 x
def okU(x:Int):Bool:=inR x 0 18446744073709551615
def ql4(f:FuncId)(h:Int->Tree SV):Fact:=⟨f,λargs=>match args with
 |[.int .u64 a] =>some (h a)
 |_=>none⟩
variable{P:Program}
theorem ql9{f:FuncId}{h:Int->Tree SV}(k:∀a,(h a).says (SCall P f [U64 a])):(ql4 f h).ok P:=λargs t ht=>by
 simp only[ql4]at ht
 split at ht
 .injection ht with ht;subst ht;exact k _
 .cases ht
def ql5(f:FuncId)(h:Int->Int->Tree SV):Fact:=⟨f,λargs=>match args with
 |[.int .u64 a,.int .u64 b] =>some (h a b)
 |_=>none⟩
theorem ql8{f:FuncId}{h:Int->Int->Tree SV}(k:∀a b,(h a b).says (SCall P f [U64 a,U64 b])):(ql5 f h).ok P:=λargs t ht=>by
 simp only[ql5]at ht
 split at ht
 .injection ht with ht;subst ht;exact k _ _
 .cases ht
def ql6(f:FuncId)(h:Int->Int->Int->Tree SV):Fact:=⟨f,λargs=>match args with
 |[.int .u64 a,.int .u64 b,.int .u64 c] =>some (h a b c)
 |_=>none⟩
theorem ql7{f:FuncId}{h:Int->Int->Int->Tree SV}(k:∀a b c,(h a b c).says (SCall P f [U64 a,U64 b,U64 c])):(ql6 f h).ok P:=λargs t ht=>by
 simp only[ql6]at ht
 split at ht
 .injection ht with ht;subst ht;exact k _ _ _
 .cases ht
theorem qQ7:((List.range 256).all λk=>Nat.ble (qQ6.getD k 0).toNat 8&& (Nat.beq k 0||(Nat.ble (2 ^ ((qQ6.getD k 0).toNat-1)) k&& (Nat.blt k (2 ^ (qQ6.getD k 0).toNat)&&Nat.ble 1 (qQ6.getD k 0).toNat))))=true:=by kernel_rfl
variable{x:Int}
theorem qR0(h0:1<=x)(h1:x<256):∃t:Nat,qQ8 x=t/\1<=t/\t<=8/\(2:Int) ^ (t-1)<=x/\x<2 ^ t:=by
 have h:=List.all_eq_true.1 qQ7 x.toNat (List.mem_range.2 (by omega));simp only[Bool.and_eq_true,Bool.or_eq_true,Nat.ble_eq,Nat.beq_eq_true_eq,Nat.blt_eq]at h;obtain⟨h2,h3⟩:=h;rcases h3 with h3|⟨h3,h4,h5⟩
 .have:=Nat.eq_of_beq_eq_true h3;omega
 .refine⟨_,rfl,h5,h2,?_,?_⟩
  .have:((2 ^ ((qQ6.getD x.toNat 0).toNat-1):Nat):Int)<=(x.toNat:Int):=Int.ofNat_le.2 h3
   rw[Int.toNat_of_nonneg (by omega)]at this
   simpa using this
  .have:((x.toNat:Nat):Int)< ((2 ^ ((qQ6.getD x.toNat 0).toNat):Nat):Int):=Int.ofNat_lt.2 h4
   rw[Int.toNat_of_nonneg (by omega)]at this
   simpa using this
theorem qS1{e t:Nat}(ht:1<=t)(h1:(2:Int) ^ (t-1)<=x / 2 ^ e)(h2:x / 2 ^ e<2 ^ t):(2:Int) ^ (e+t-1)<=x/\x<2 ^ (e+t):=by
 have hp:(0:Int)<2 ^ e:=yO0 e;constructor
 .rw[Int.le_ediv_iff_mul_le hp]at h1
  rw[show e+t-1=(t-1)+e by omega,Int.pow_add];exact h1
 .rw[Int.ediv_lt_iff_lt_mul hp]at h2
  rw[show e+t=t+e by omega,Int.pow_add];exact h2
theorem qS0(h0:1<=x)(h1:x<18446744073709551616):∃n:Nat,qR9 x=n/\1<=n/\n<=64/\(2:Int) ^ (n-1)<=x/\x<2 ^ n:=by
 have go:∀ (e:Nat) (k:Int),e<=56->k=x / 2 ^ e->1<=k->k<256->∃n:Nat,(e:Int)+qQ8 k=n/\1<=n/\n<=64/\(2:Int) ^ (n-1)<=x/\x<2 ^ n:=λe k he hk k1 k2=>by
  obtain⟨t,e1,e2,e3,e4,e5⟩:=qR0 k1 k2;rw[hk]at e4 e5;obtain⟨u1,u2⟩:=qS1 e2 e4 e5;exact⟨e+t,by rw[e1];simp,by omega,by omega,u1,u2⟩
 unfold qR9
 (repeat' split)
 .exact go 56 _ (by omega) (by rw[show(2:Int) ^ 56=72057594037927936 by decide];omega) (by omega) (by omega)
 .exact go 48 _ (by omega) (by rw[show(2:Int) ^ 48=281474976710656 by decide];omega) (by omega) (by omega)
 .exact go 40 _ (by omega) (by rw[show(2:Int) ^ 40=1099511627776 by decide];omega) (by omega) (by omega)
 .exact go 32 _ (by omega) (by rw[show(2:Int) ^ 32=4294967296 by decide]) (by omega) (by omega)
 .exact go 24 _ (by omega) (by rw[show(2:Int) ^ 24=16777216 by decide];omega) (by omega) (by omega)
 .exact go 16 _ (by omega) (by rw[show(2:Int) ^ 16=65536 by decide]) (by omega) (by omega)
 .exact go 8 _ (by omega) (by rw[show(2:Int) ^ 8=256 by decide]) (by omega) (by omega)
 .have:=go 0 x (by omega) (by simp) (by omega) (by omega)
  simpa using this
theorem qQ9(x:Int):0<=qQ8 x/\qQ8 x<=255:=by unfold qQ8;have:=(qQ6.getD x.toNat 0).toNat_lt;omega
theorem w8(h0:0<=x)(h1:x<256):u8.wrap x=x:=by
 have h2:IntKind.wrap .u8 x=if false&&decide (x % 256>=128)then x % 256-256 else x % 256:=rfl
 rw[h2];simp only[Bool.false_and,Bool.false_eq_true,if_false];omega
theorem wU(x:Int):u64.wrap x=x % 18446744073709551616:=by
 have h2:IntKind.wrap .u64 x=if false&&decide (x % 18446744073709551616>=9223372036854775808)then x % 18446744073709551616-18446744073709551616 else x % 18446744073709551616:=rfl
 rw[h2];simp only[Bool.false_and,Bool.false_eq_true,if_false]
theorem zm9(h0:0<=x)(h1:x<18446744073709551616):(((BitVec.ofInt 64 x &&&BitVec.ofInt 64 4294967295).toNat:Nat):Int)=x % 4294967296:=by
 obtain⟨m,rfl⟩:=Int.eq_ofNat_of_zero_le h0
 have e1:(BitVec.ofInt 64 (m:Int)).toNat=m:=by
  rw[BitVec.toNat_ofInt];have:((2 ^ 64:Nat):Int)=18446744073709551616:=rfl;rw[this];omega
 have e2:(BitVec.ofInt 64 4294967295).toNat=2 ^ 32-1:=by decide
 rw[BitVec.toNat_and,e1,e2,Nat.and_two_pow_sub_one_eq_mod];omega
theorem xi5(x:Int)(h:okU x=true):SCall pP 318 [U64 x] (J (qR9 x)):=
 v8 mix [] trivial 1000 (.fork (.fork (.fork (.all) (.all)) (.fork (.all) (.all))) (.fork (.fork (.all) (.all)) (.fork (.all) (.all))))
  (t:=let y0:=x.fdiv 4294967296;let y1:=y0.fdiv 65536;let y2:=x.fdiv 65536;.node (decide (x>=4294967296)) (.req true (.node (decide (x.fdiv 4294967296>=65536)) (.req true (.node (decide (y0.fdiv 65536>=256)) (.req true (.req (decide (0<=u8.wrap (y1.fdiv 256))&&decide (u8.wrap (y1.fdiv 256)<256)) (.leaf (.int .i64 (i64.wrap (56+i64.wrap (↑(qQ6.getD (u8.wrap (y1.fdiv 256)).toNat 0).toNat:Int))))))) (.req (decide (0<=u8.wrap y1)&&decide (u8.wrap y1<256)) (.leaf (.int .i64 (i64.wrap (48+i64.wrap (↑(qQ6.getD (u8.wrap y1).toNat 0).toNat:Int)))))))) (.node (decide (x.fdiv 4294967296>=256)) (.req true (.req (decide (0<=u8.wrap (y0.fdiv 256))&&decide (u8.wrap (y0.fdiv 256)<256)) (.leaf (.int .i64 (i64.wrap (40+i64.wrap (↑(qQ6.getD (u8.wrap (y0.fdiv 256)).toNat 0).toNat:Int))))))) (.req (decide (0<=u8.wrap y0)&&decide (u8.wrap y0<256)) (.leaf (.int .i64 (i64.wrap (32+i64.wrap (↑(qQ6.getD (u8.wrap y0).toNat 0).toNat:Int))))))))) (.node (decide (x>=65536)) (.req true (.node (decide (x.fdiv 65536>=256)) (.req true (.req (decide (0<=u8.wrap (y2.fdiv 256))&&decide (u8.wrap (y2.fdiv 256)<256)) (.leaf (.int .i64 (i64.wrap (24+i64.wrap (↑(qQ6.getD (u8.wrap (y2.fdiv 256)).toNat 0).toNat:Int))))))) (.req (decide (0<=u8.wrap y2)&&decide (u8.wrap y2<256)) (.leaf (.int .i64 (i64.wrap (16+i64.wrap (↑(qQ6.getD (u8.wrap y2).toNat 0).toNat:Int)))))))) (.node (decide (x>=256)) (.req true (.req (decide (0<=u8.wrap (x.fdiv 256))&&decide (u8.wrap (x.fdiv 256)<256)) (.leaf (.int .i64 (i64.wrap (8+i64.wrap (↑(qQ6.getD (u8.wrap (x.fdiv 256)).toNat 0).toNat:Int))))))) (.req (decide (0<=u8.wrap x)&&decide (u8.wrap x<256)) (.leaf (.int .i64 (i64.wrap (0+i64.wrap (↑(qQ6.getD (u8.wrap x).toNat 0).toNat:Int)))))))))
  (by kernel_rfl) (by
   have r:=j8.1 h
   have f1:∀y:Int,y.fdiv 4294967296=y / 4294967296:=λy=>Int.fdiv_eq_ediv_of_nonneg _ (by omega)
   have f2:∀y:Int,y.fdiv 65536=y / 65536:=λy=>Int.fdiv_eq_ediv_of_nonneg _ (by omega)
   have f3:∀y:Int,y.fdiv 256=y / 256:=λy=>Int.fdiv_eq_ediv_of_nonneg _ (by omega)
   simp only[f1,f2,f3]
   have g:∀k:Int,0<=k->k<256->i64.wrap (((qQ6.getD (u8.wrap k).toNat 0).toNat:Nat):Int)=qQ8 k:=λk h0 h1=>by
    have:=qQ9 k;rw[w8 h0 h1];exact w64 (by have:((qQ6.getD k.toNat 0).toNat:Int)=qQ8 k:=rfl;omega) (by have:((qQ6.getD k.toNat 0).toNat:Int)=qQ8 k:=rfl;omega)
   simp only[Tree.holds,sL,ne_eq,sLb,sLc,eq_self,sLd,sLe,sLf];(repeat' (first|apply And.intro|intro _));
   all_goals first
    |(rw[w8 (by omega) (by omega)];omega)
    |(rw[g _ (by omega) (by omega)]
      refine xM6 ?_;have:=qQ9;unfold qR9
      repeat first|rw[if_pos (by omega)] |rw[if_neg (by omega)]
      first
      |(rw[w64 (by have:=qQ9 (x / 4294967296 / 65536 / 256);omega) (by have:=qQ9 (x / 4294967296 / 65536 / 256);omega)])
      |(rw[w64 (by have:=qQ9 (x / 4294967296 / 65536);omega) (by have:=qQ9 (x / 4294967296 / 65536);omega)])
      |(rw[w64 (by have:=qQ9 (x / 4294967296 / 256);omega) (by have:=qQ9 (x / 4294967296 / 256);omega)])
      |(rw[w64 (by have:=qQ9 (x / 4294967296);omega) (by have:=qQ9 (x / 4294967296);omega)])
      |(rw[w64 (by have:=qQ9 (x / 65536 / 256);omega) (by have:=qQ9 (x / 65536 / 256);omega)])
      |(rw[w64 (by have:=qQ9 (x / 65536);omega) (by have:=qQ9 (x / 65536);omega)])
      |(rw[w64 (by have:=qQ9 (x / 256);omega) (by have:=qQ9 (x / 256);omega)])
      |(rw[w64 (by have:=qQ9 x;omega) (by have:=qQ9 x;omega)];omega))) (by kernel_rfl) (by kernel_rfl)
def z40:Fact:=ql4 318 λx=>.req (okU x) (.leaf (J (qR9 x)))
theorem yh1:z40.ok pP:=ql9 λx h=>xi5 x h
def yO7(x y:Int):SV:=.tuple [U64 (x*y / 18446744073709551616),U64 (x*y % 18446744073709551616)]
variable{a b:Int}
theorem yJ3{c d:Int}(h:a=c)(k:b=d):SV.tuple [SV.int .u64 a,SV.int .u64 b] =SV.tuple [U64 c,U64 d] :=by subst h k;rfl
theorem xl6(x y:Int)(hx:okU x=true)(hy:okU y=true):SCall pP 331 [U64 x,U64 y] (yO7 x y):=
 v8 mix [] trivial 1000 (.all)
  (t:=let y1:=(↑(BitVec.ofInt 64 x &&&BitVec.ofInt 64 4294967295).toNat:Int);let y2:=(↑(BitVec.ofInt 64 y &&&BitVec.ofInt 64 4294967295).toNat:Int);let y0:=u64.wrap (u64.wrap (x.fdiv 4294967296*u64.wrap y2)+(u64.wrap (u64.wrap y1*u64.wrap y2)).fdiv 4294967296);.req (true) (.req true (.req (true) (.req true (.req (true) (.leaf (.tuple [.int .u64 (u64.wrap (u64.wrap (u64.wrap (x.fdiv 4294967296*y.fdiv 4294967296)+y0.fdiv 4294967296)+(u64.wrap (u64.wrap (↑(BitVec.ofInt 64 y0 &&&BitVec.ofInt 64 4294967295).toNat:Int)+u64.wrap (u64.wrap y1*y.fdiv 4294967296))).fdiv 4294967296)),.int .u64 (u64.wrap (x*y))])))))))
  (by kernel_rfl) (by
   have rx:=j8.1 hx;have ry:=j8.1 hy;obtain⟨X,rfl⟩:=Int.eq_ofNat_of_zero_le rx.1;obtain⟨Y,rfl⟩:=Int.eq_ofNat_of_zero_le ry.1
   have f1:∀y:Int,y.fdiv 4294967296=y / 4294967296:=λy=>Int.fdiv_eq_ediv_of_nonneg _ (by omega)
   simp only[Tree.holds,f1,zm9 rx.1 (by omega),zm9 ry.1 (by omega),true_and];obtain⟨k1,k2,k3,k4⟩:=Go.Lib.mul64_hi X Y (by omega) (by omega)
   have wN:∀n:Nat,n<18446744073709551616->u64.wrap (n:Int)=(n:Int):=λn hn=>by rw[wU];omega
   have c1:(X:Int) % 4294967296=((X % 4294967296:Nat):Int):=by omega
   have c2:(Y:Int) % 4294967296=((Y % 4294967296:Nat):Int):=by omega
   have c3:(X:Int) / 4294967296=((X / 4294967296:Nat):Int):=by omega
   have c4:(Y:Int) / 4294967296=((Y / 4294967296:Nat):Int):=by omega
   have q1:=Nat.mul_le_mul (show X / 4294967296<=4294967295 by omega) (show Y % 4294967296<=4294967295 by omega);have q2:=Nat.mul_le_mul (show X % 4294967296<=4294967295 by omega) (show Y / 4294967296<=4294967295 by omega);have q3:=Nat.mul_le_mul (show X / 4294967296<=4294967295 by omega) (show Y / 4294967296<=4294967295 by omega);have q4:=Nat.mul_le_mul (show X % 4294967296<=4294967295 by omega) (show Y % 4294967296<=4294967295 by omega);simp only[c1,c2,c3,c4,<-Int.natCast_mul,wN _ (show X % 4294967296<18446744073709551616 by omega),wN _ (show Y % 4294967296<18446744073709551616 by omega)]
   generalize ha:X / 4294967296*(Y % 4294967296)=a at *
   generalize hb:X % 4294967296*(Y / 4294967296)=b at *
   generalize hc:X / 4294967296*(Y / 4294967296)=c at *
   generalize hd:X % 4294967296*(Y % 4294967296)=d at *
   simp only[wN a (by omega),wN b (by omega),wN c (by omega),wN d (by omega)]
   have c5:((d:Nat):Int) / 4294967296=((d / 4294967296:Nat):Int):=by omega
   simp only[c5,<-Int.natCast_add];have ea:=wN (a+d / 4294967296) (by omega);simp only[ea];have c6:=zm9 (x:=((a+d / 4294967296:Nat):Int)) (by omega) (by omega);simp only[c6];refine yJ3 ?_ ?_
   .simp only[wU];omega
   .rw[wU];omega) (by kernel_rfl) (by kernel_rfl)
theorem xl7(x y:Int)(hx:okU x=true)(hy:okU y=true):SCall pP 247 [U64 x,U64 y] (yO7 x y):=
 v8 mix [] trivial 1000 (.all)
  (t:=let y1:=(↑(BitVec.ofInt 64 x &&&BitVec.ofInt 64 4294967295).toNat:Int);let y2:=(↑(BitVec.ofInt 64 y &&&BitVec.ofInt 64 4294967295).toNat:Int);let y0:=u64.wrap (u64.wrap (x.fdiv 4294967296*u64.wrap y2)+(u64.wrap (u64.wrap y1*u64.wrap y2)).fdiv 4294967296);.req (true) (.req true (.req (true) (.req true (.req (true) (.leaf (.tuple [.int .u64 (u64.wrap (u64.wrap (u64.wrap (x.fdiv 4294967296*y.fdiv 4294967296)+y0.fdiv 4294967296)+(u64.wrap (u64.wrap (u64.wrap y1*y.fdiv 4294967296)+u64.wrap (↑(BitVec.ofInt 64 y0 &&&BitVec.ofInt 64 4294967295).toNat:Int))).fdiv 4294967296)),.int .u64 (u64.wrap (x*y))])))))))
  (by kernel_rfl) (by
   have rx:=j8.1 hx;have ry:=j8.1 hy;obtain⟨X,rfl⟩:=Int.eq_ofNat_of_zero_le rx.1;obtain⟨Y,rfl⟩:=Int.eq_ofNat_of_zero_le ry.1
   have f1:∀y:Int,y.fdiv 4294967296=y / 4294967296:=λy=>Int.fdiv_eq_ediv_of_nonneg _ (by omega)
   simp only[Tree.holds,f1,zm9 rx.1 (by omega),zm9 ry.1 (by omega),true_and];obtain⟨k1,k2,k3,k4⟩:=Go.Lib.mul64_hi X Y (by omega) (by omega)
   have wN:∀n:Nat,n<18446744073709551616->u64.wrap (n:Int)=(n:Int):=λn hn=>by rw[wU];omega
   have c1:(X:Int) % 4294967296=((X % 4294967296:Nat):Int):=by omega
   have c2:(Y:Int) % 4294967296=((Y % 4294967296:Nat):Int):=by omega
   have c3:(X:Int) / 4294967296=((X / 4294967296:Nat):Int):=by omega
   have c4:(Y:Int) / 4294967296=((Y / 4294967296:Nat):Int):=by omega
   have q1:=Nat.mul_le_mul (show X / 4294967296<=4294967295 by omega) (show Y % 4294967296<=4294967295 by omega);have q2:=Nat.mul_le_mul (show X % 4294967296<=4294967295 by omega) (show Y / 4294967296<=4294967295 by omega);have q3:=Nat.mul_le_mul (show X / 4294967296<=4294967295 by omega) (show Y / 4294967296<=4294967295 by omega);have q4:=Nat.mul_le_mul (show X % 4294967296<=4294967295 by omega) (show Y % 4294967296<=4294967295 by omega);simp only[c1,c2,c3,c4,<-Int.natCast_mul,wN _ (show X % 4294967296<18446744073709551616 by omega),wN _ (show Y % 4294967296<18446744073709551616 by omega)]
   generalize ha:X / 4294967296*(Y % 4294967296)=a at *
   generalize hb:X % 4294967296*(Y / 4294967296)=b at *
   generalize hc:X / 4294967296*(Y / 4294967296)=c at *
   generalize hd:X % 4294967296*(Y % 4294967296)=d at *
   simp only[wN a (by omega),wN b (by omega),wN c (by omega),wN d (by omega)]
   have c5:((d:Nat):Int) / 4294967296=((d / 4294967296:Nat):Int):=by omega
   simp only[c5,<-Int.natCast_add];have ea:=wN (a+d / 4294967296) (by omega);simp only[ea];have c6:=zm9 (x:=((a+d / 4294967296:Nat):Int)) (by omega) (by omega);simp only[c6];refine yJ3 ?_ ?_
   .simp only[wU];omega
   .rw[wU];omega) (by kernel_rfl) (by kernel_rfl)
def z57:Fact:=ql5 331 λx y=>.req (okU x) (.req (okU y) (.leaf (yO7 x y)))
def z58:Fact:=ql5 247 λx y=>.req (okU x) (.req (okU y) (.leaf (yO7 x y)))
theorem yj0:z57.ok pP:=ql8 (λx y hx hy=>xl6 x y hx hy)
theorem yj1:z58.ok pP:=ql8 (λx y hx hy=>xl7 x y hx hy)
def siz(x:Int):Int:=if x<0 then -x else x
def m7(x:Int):Bool:=inR x (-9223372036854775808) 9223372036854775807
theorem xt4(x:Int)(h:m7 x=true):Tree.holds (λv=>v=(U64 (siz x))) (.node (decide (x<0))
 (.leaf (SV.int IntKind.u64 (u64.wrap (0-u64.wrap x))))
 (.leaf (SV.int IntKind.u64 (u64.wrap x))):Tree SV):=by
   have r:=j8.1 h;simp only[Tree.holds,sL,ne_eq,sLb,sLc,eq_self,sLd,sLe,sLf]
   refine⟨λhc=>?_,λhc=>?_⟩<;>unfold siz U64<;>simp only[wU]
   .rw[if_pos hc];congr 1;omega
   .rw[if_neg hc];congr 1;omega
theorem xt2(x:Int)(h:m7 x=true):SCall pP 332 [J x] (U64 (siz x)):=
 v8 mix [] trivial 1000 (.fork (.all) (.all))
  (by kernel_rfl) (xt4 x h) (by kernel_rfl) (by kernel_rfl)
theorem xt3(x:Int)(h:m7 x=true):SCall pP 248 [J x] (U64 (siz x)):=
 v8 mix [] trivial 1000 (.fork (.all) (.all))
  (by kernel_rfl) (xt4 x h) (by kernel_rfl) (by kernel_rfl)
def qb2:Fact:=qi0 332 λx=>.req (m7 x) (.leaf (U64 (siz x)))
def qb3:Fact:=qi0 248 λx=>.req (m7 x) (.leaf (U64 (siz x)))
theorem yp1:qb2.ok pP:=qi7 (λx h=>xt2 x h)
theorem yp2:qb3.ok pP:=qi7 (λx h=>xt3 x h)
theorem xj9(x:Int)(h:(okU x&&decide (1<=x))=true):SCall pP 337 [U64 x] (J (64-qR9 x)):=
 v8 mix [z40] ⟨yh1,trivial⟩ 1000 (.all)
  (t:=.req (okU x) (.leaf (SV.int IntKind.i64 (i64.wrap (64-qR9 x)))))
  (by kernel_rfl) (by
   rw[Bool.and_eq_true,decide_eq_true_eq]at h;have r:=j8.1 h.1;obtain⟨n,e1,e2,e3,_⟩:=qS0 h.2 (by omega);refine⟨h.1,?_⟩
   rw[w64 (by omega) (by omega)];rfl) (by kernel_rfl) (by kernel_rfl)
def fLz:Fact:=ql4 337 λx=>.req (okU x&&decide (1<=x)) (.leaf (J (64-qR9 x)))
theorem yh6:fLz.ok pP:=ql9 λx h=>xj9 x h
def zN8:Plan:=.fork (.all) (.fork (.all) (.fork (.all) (.all)))
theorem dv0(h l y:Int):o7 (Env.of pP (j9 [fLz])) 1000 (x9 pP 333) .unit (x6 135 [2,8,9,10,11,13,14,15,16]) (v7 pP 333) zN8 (v6 pP 333 [U64 h,U64 l,U64 y]) [] =(let y2:=u64.wrap (64-qR9 y);let y0:=(↑(BitVec.ofInt 64 (u64.wrap (h*2 ^ min y2.toNat 64)) |||BitVec.ofInt 64 (l.fdiv (2 ^ min (u64.wrap (64-u64.wrap (64-qR9 y))).toNat 64))).toNat:Int);let y1:=u64.wrap (y*2 ^ min y2.toNat 64);let y3:=decide (0<=u64.wrap (64-qR9 y)); .node (y==0) (.fail 14) (.node (decide (y<=h)) (.fail 14) (.node (h==0) (.req (!y==0) (.req (!y==0) (.leaf (.done (.tuple [.int .u64 (u64.wrap (l.tdiv y)),.int .u64 (l.tmod y)]))))) (.req (okU y&&decide (1<=y)) (.req y3 (.req true (.req y3 (.req (decide (0<=u64.wrap (64-u64.wrap (64-qR9 y)))) (.req y3 (.req true (.req (!y1.fdiv 4294967296==0) (.leaf (.at (x8 pP 333 0) 135 (x7 135 [(2,.int .u64 y1),(8,.int .u64 y2),(9,.int .u64 (y1.fdiv 4294967296)),(10,.int .u64 (u64.wrap (↑(BitVec.ofInt 64 y1 &&&BitVec.ofInt 64 4294967295).toNat:Int))),(11,.int .u64 (u64.wrap y0)),(13,.int .u64 ((u64.wrap (l*2 ^ min y2.toNat 64)).fdiv 4294967296)),(14,.int .u64 (u64.wrap (↑(BitVec.ofInt 64 (u64.wrap (l*2 ^ min y2.toNat 64)) &&&BitVec.ofInt 64 4294967295).toNat:Int))),(15,.int .u64 (u64.wrap ((u64.wrap y0).tdiv (y1.fdiv 4294967296)))),(16,.int .u64 (u64.wrap (u64.wrap y0-u64.wrap (u64.wrap ((u64.wrap y0).tdiv (y1.fdiv 4294967296))*y1.fdiv 4294967296))))]) []))))))))))))):=by kernel_rfl
def zO0:Plan:=.fork (.ln 9 (.fork .all .all)) (.ln 8 (.fork (.fork .all .all) .all))
theorem dv1(y s p1 p0 u v1 v0 q r:Int):o7 (Env.of pP (j9 [])) 1000 (x9 pP 333) .unit (x6 135 [2,8,9,10,14,15,16,17,18,11,13]) (x8 pP 333 0) zO0 (x7 135 [(2,U64 y),(8,U64 s),(9,U64 p1),(10,U64 p0),(11,U64 u),(13,U64 v1),(14,U64 v0),(15,U64 q),(16,U64 r)]) [] =(let y1:=u64.wrap (u64.wrap (u*4294967296)+v1)-u64.wrap (u64.wrap (q-1)*y);let y0:Tree Stop:=.node (decide (u64.wrap (r+p1)>=4294967296)) (.req (!p1==0) (.leaf (.at (x8 pP 333 1) 135 (x7 135 [(2,.int .u64 y),(8,.int .u64 s),(9,.int .u64 p1),(10,.int .u64 p0),(11,.int .u64 u),(13,.int .u64 v1),(14,.int .u64 v0),(15,.int .u64 (u64.wrap (q-1))),(16,.int .u64 (u64.wrap (u64.wrap y1-u64.wrap (u64.wrap ((u64.wrap y1).tdiv p1)*p1)))),(17,.int .u64 (u64.wrap y1)),(18,.int .u64 (u64.wrap ((u64.wrap y1).tdiv p1)))]) []))) (.leaf (.at (x8 pP 333 0) 135 (x7 135 [(2,.int .u64 y),(8,.int .u64 s),(9,.int .u64 p1),(10,.int .u64 p0),(11,.int .u64 u),(13,.int .u64 v1),(14,.int .u64 v0),(15,.int .u64 (u64.wrap (q-1))),(16,.int .u64 (u64.wrap (r+p1)))]) []));let y2:=u64.wrap (u64.wrap (u*4294967296)+v1)-u64.wrap (q*y); .node (decide (q>=4294967296)) y0 (.node (decide (u64.wrap (q*p0)>u64.wrap (u64.wrap (4294967296*r)+v1))) y0 (.req (!p1==0) (.leaf (.at (x8 pP 333 1) 135 (x7 135 [(2,.int .u64 y),(8,.int .u64 s),(9,.int .u64 p1),(10,.int .u64 p0),(11,.int .u64 u),(13,.int .u64 v1),(14,.int .u64 v0),(15,.int .u64 q),(16,.int .u64 (u64.wrap (u64.wrap y2-u64.wrap (u64.wrap ((u64.wrap y2).tdiv p1)*p1)))),(17,.int .u64 (u64.wrap y2)),(18,.int .u64 (u64.wrap ((u64.wrap y2).tdiv p1)))]) []))))):=by kernel_rfl
def zO3:Plan:=.fork (.ln 9 (.fork .all .all)) (.ln 8 (.fork (.fork .all .all) .all))
theorem dv2(y s p1 p0 u v1 v0 a t q r:Int):o7 (Env.of pP (j9 [])) 1000 (x9 pP 333) .unit (x6 135 [2,8,9,10,14,15,16,17,18,11,13]) (x8 pP 333 1) zO3 (x7 135 [(2,U64 y),(8,U64 s),(9,U64 p1),(10,U64 p0),(11,U64 u),(13,U64 v1),(14,U64 v0),(15,U64 a),(16,U64 r),(17,U64 t),(18,U64 q)]) [] =(let y0:Tree Stop:=.node (decide (u64.wrap (r+p1)>=4294967296)) (.req (decide (0<=s)) (.leaf (.done (.tuple [.int .u64 (u64.wrap (u64.wrap (a*4294967296)+u64.wrap (q-1))),.int .u64 ((u64.wrap (u64.wrap (u64.wrap (t*4294967296)+v0)-u64.wrap (u64.wrap (q-1)*y))).fdiv (2 ^ min s.toNat 64))])))) (.leaf (.at (x8 pP 333 1) 135 (x7 135 [(2,.int .u64 y),(8,.int .u64 s),(9,.int .u64 p1),(10,.int .u64 p0),(11,.int .u64 u),(13,.int .u64 v1),(14,.int .u64 v0),(15,.int .u64 a),(16,.int .u64 (u64.wrap (r+p1))),(17,.int .u64 t),(18,.int .u64 (u64.wrap (q-1)))]) [])); .node (decide (q>=4294967296)) y0 (.node (decide (u64.wrap (q*p0)>u64.wrap (u64.wrap (4294967296*r)+v0))) y0 (.req (decide (0<=s)) (.leaf (.done (.tuple [.int .u64 (u64.wrap (u64.wrap (a*4294967296)+q)),.int .u64 ((u64.wrap (u64.wrap (u64.wrap (t*4294967296)+v0)-u64.wrap (q*y))).fdiv (2 ^ min s.toNat 64))])))))):=by kernel_rfl
def yQ4:Plan:=.fork (.all) (.all)
theorem qt0(h l d:Int):o7 (Env.of pP (j9 [])) 1000 (x9 pP 249) .unit (x6 46 [1,2,9,10,11]) (v7 pP 249) yQ4 (v6 pP 249 [U64 h,U64 l,U64 d]) [] =(.node (decide (h>=d)) (.leaf (.done (.tuple [.int .u64 0,.int .u64 0,.bool false]))) (.leaf (.at (x8 pP 249 0) 46 (x7 46 [(1,.int .u64 l),(2,.int .u64 d),(9,.int .u64 0),(10,.int .u64 h),(11,.int .i64 0)]) []))):=by kernel_rfl
def yQ5:Plan:=.fork (.fork (.ln 3 (.lit .all)) (.ln 3 (.fork .all .all))) .all
theorem qt1(l d q r i:Int):o7 (Env.of pP (j9 [])) 1000 (x9 pP 249) .unit (x6 46 [1,2,9,10,11]) (x8 pP 249 0) yQ5 (x7 46 [(1,U64 l),(2,U64 d),(9,U64 q),(10,U64 r),(11,J i)]) [] =(let y1:=(↑(BitVec.ofInt 64 (u64.wrap (r*2)) |||BitVec.ofInt 64 (l.fdiv 9223372036854775808)).toNat:Int);let y0:Tree Stop:=.leaf (.at (x8 pP 249 0) 46 (x7 46 [(1,.int .u64 (u64.wrap (l*2))),(2,.int .u64 d),(9,.int .u64 (u64.wrap (u64.wrap (q*2)+1))),(10,.int .u64 (u64.wrap (u64.wrap y1-d))),(11,.int .i64 (i64.wrap (i+1)))]) []); .node (decide (i<64)) (.req true (.req (true) (.req true (.req (true) (.req true (.node (r.fdiv 9223372036854775808==1) y0 (.node (decide (u64.wrap y1>=d)) y0 (.leaf (.at (x8 pP 249 0) 46 (x7 46 [(1,.int .u64 (u64.wrap (l*2))),(2,.int .u64 d),(9,.int .u64 (u64.wrap (q*2))),(10,.int .u64 (u64.wrap y1)),(11,.int .i64 (i64.wrap (i+1)))]) []))))))))) (.leaf (.done (.tuple [.int .u64 q,.int .u64 r,.bool true])))):=by kernel_rfl
theorem wN{n:Nat}(hn:n<18446744073709551616):u64.wrap (n:Int)=(n:Int):=by rw[wU];omega
theorem xN7(a b:Nat):((a:Int).tdiv (b:Int))=((a / b:Nat):Int):=by
 rw[Int.tdiv_eq_ediv_of_nonneg (by omega)];rfl
theorem zL6{U v Q Y R:Nat}(h:U*4294967296+v=Q*Y+R)(hR:R<18446744073709551616):u64.wrap (u64.wrap (u64.wrap ((U:Int)*4294967296)+(v:Int))-u64.wrap ((Q:Int)*(Y:Int)))=((R:Nat):Int):=by
 rw[<-Int.natCast_mul Q Y];generalize Q*Y=b at h ⊢;simp only[wU];omega
theorem yZ5{t p:Nat}(ht:t<18446744073709551616)(hp:0<p):u64.wrap ((t:Int).tdiv (p:Int))=((t / p:Nat):Int)/\u64.wrap ((t:Int)-u64.wrap (((t / p:Nat):Int)*(p:Int)))=((t-t / p*p:Nat):Int):=by
 have h1:t / p<=t:=Nat.div_le_self _ _;have h2:=Nat.div_mul_le_self t p;rw[xN7,<-Int.natCast_mul];generalize t / p*p=b at h2 ⊢;generalize t / p=c at h1 ⊢;simp only[wU];omega
theorem yO6{q:Nat}(h:1<=q)(h2:q<18446744073709551616):u64.wrap ((q:Int)-1)=((q-1:Nat):Int):=by rw[wU];omega
section
variable {s p1 p0 Y U v1 v0:Nat}
noncomputable def sl1(s p1 p0 Y U v1 v0 q r:Nat):List SV:=x7 135 [(2,U64 Y),(8,U64 s),(9,U64 p1),(10,U64 p0),(11,U64 U),(13,U64 v1),(14,U64 v0),(15,U64 q),(16,U64 r)]
noncomputable def sl2(s p1 p0 Y U v1 v0 a t q r:Nat):List SV:=x7 135 [(2,U64 Y),(8,U64 s),(9,U64 p1),(10,U64 p0),(11,U64 U),(13,U64 v1),(14,U64 v0),(15,U64 a),(16,U64 r),(17,U64 t),(18,U64 q)]
variable{Q:Nat}
theorem zO1{T:Nat}{res:SV}(hQ:(U*4294967296+v1) / Y=Q)(hT:(U*4294967296+v1) % Y=T)(hd:res.data=true)(hY:9223372036854775808<=Y/\Y<18446744073709551616)(e1:p1=Y / 4294967296)(e0:p0=Y % 4294967296)(hU:U<Y)(hv:v1<4294967296)
  (k:t8 pP (x9 pP 333) res (x8 pP 333 1) (sl2 s p1 p0 Y U v1 v0 Q T (T / p1) (T-T / p1*p1)) [])
  (q r:Nat) (h1:q*p1+r=U) (h2:Q<=q) (h3:q<=4294967297) (h4:r<4294967296)
  (ih:∀q' r':Nat,q'<q->q'*p1+r'=U->Q<=q'->r'<4294967296->t8 pP (x9 pP 333) res (x8 pP 333 0) (sl1 s p1 p0 Y U v1 v0 q' r') []):
  t8 pP (x9 pP 333) res (x8 pP 333 0) (sl1 s p1 p0 Y U v1 v0 q r) [] :=by
 have hp1:2147483648<=p1/\p1<4294967296:=by omega
 have hTY:T<Y:=by rw[<-hT];exact Nat.mod_lt _ (by omega)
 have D:∀q':Nat,q'=Q->u64.wrap (u64.wrap (u64.wrap ((U:Int)*4294967296)+(v1:Int))-u64.wrap ((q':Int)*(Y:Int)))=((T:Nat):Int):=λq' h=>by
  subst h;exact zL6 (by rw[<-hQ,<-hT,Nat.div_add_mod']) (by omega)
 obtain⟨R1,R2⟩:=yZ5 (t:=T) (p:=p1) (by omega) (by omega)
 have wr:u64.wrap ((r:Int)+(p1:Int))=((r+p1:Nat):Int):=by rw[wU];omega
 have np:(!((p1:Int)==0))=true:=by simp;omega
 -- a step down
 have down:Q+1<=q->(q-1)*p1+(r+p1)=U/\Q<=q-1/\u64.wrap ((q:Int)-1)=((q-1:Nat):Int):=λh=>by
  refine⟨?_,by omega,yO6 (by omega) (by omega)⟩;obtain⟨q',rfl⟩:∃q',q=q'+1:=⟨q-1,by omega⟩;rw[Nat.add_mul]at h1;rw[Nat.add_sub_cancel];omega
 have wm:u64.wrap (4294967296*(r:Int))=((4294967296*r:Nat):Int):=by rw[wU];omega
 have wm2:u64.wrap (((4294967296*r:Nat):Int)+(v1:Int))=((4294967296*r+v1:Nat):Int):=by rw[wU];omega
 have wqp:q<4294967296->u64.wrap ((q:Int)*(p0:Int))=((q*p0:Nat):Int):=λh=>by
  have:q*p0<=4294967295*4294967295:=Nat.mul_le_mul (by omega) (by omega);rw[<-Int.natCast_mul];exact wN (by omega)
 have less:=zL3 (y:=Y) (u:=U) (u1:=v1) (q:=q) (rh:=r) (by omega) hU hv (by rw[<-e1];exact h1);rw[hQ]at less;have out:=zL5 (y:=Y) (u:=U) (u1:=v1) (q:=q) (rh:=r) (by omega) (by rw[<-e1];exact h1) (by rw[hQ];exact h2);rw[hQ]at out
 have brk:Q+1<=q->4294967296<=r+p1->q-1=Q:=λh hb=>by have:=zL0 (y:=Y) (u:=U) (u1:=v1) (q:=q-1) (rh:=r+p1) (by omega) (by rw[<-e1];exact(down h).1) (by rw[hQ];exact(down h).2.1) (by omega) hb;rw[hQ]at this;exact this
 have stay:Q+1<=q->r+p1<4294967296->t8 pP (x9 pP 333) res (x8 pP 333 0) (sl1 s p1 p0 Y U v1 v0 (q-1) (r+p1)) [] :=λh hr=>ih _ _ (by omega) (down h).1 (down h).2.1 hr
 refine o5 k0 (n:=1000) (hint:=.unit) (keep:=x6 135 [2,8,9,10,14,15,16,17,18,11,13]) (p:=zO0) hd ?_;unfold sl1;erw [dv1 Y s p1 p0 U v1 v0 q r];rw[wr];simp only[Tree.holds,decide_eq_true_eq,decide_eq_false_iff_not,np,true_and];unfold sl1 at stay;unfold sl2 at k;refine⟨λc=>⟨λb=>?_,λb=>?_⟩,λc=>?_⟩
 .have hl:=less (.inl (by omega))
  rw[(down hl).2.2,D _ (brk hl (by omega)),R1,R2,brk hl (by omega)];exact⟨u7 _ _,k⟩
 .have hl:=less (.inl (by omega))
  rw[(down hl).2.2];exact⟨u7 _ _,stay hl (by omega)⟩
 .rw[wqp (by omega),wm,wm2]
  refine⟨λd=>⟨λb=>?_,λb=>?_⟩,λd=>?_⟩
  .have hl:=less (.inr (by rw[<-e0];omega))
   rw[(down hl).2.2,D _ (brk hl (by omega)),R1,R2,brk hl (by omega)];exact⟨u7 _ _,k⟩
  .have hl:=less (.inr (by rw[<-e0];omega))
   rw[(down hl).2.2];exact⟨u7 _ _,stay hl (by omega)⟩
  .have ho:=out (by rw[<-e0];omega)
   rw[D _ ho,R1,R2,ho];exact⟨u7 _ _,k⟩
theorem zN9{T:Nat}{res:SV}(hQ:(U*4294967296+v1) / Y=Q)(hT:(U*4294967296+v1) % Y=T)(hd:res.data=true)(hY:9223372036854775808<=Y/\Y<18446744073709551616)(e1:p1=Y / 4294967296)(e0:p0=Y % 4294967296)(hU:U<Y)(hv:v1<4294967296)
  (k:t8 pP (x9 pP 333) res (x8 pP 333 1) (sl2 s p1 p0 Y U v1 v0 Q T (T / p1) (T-T / p1*p1)) []):
  ∀ (n q r:Nat),q<n->q*p1+r=U->Q<=q->q<=4294967297->r<4294967296->t8 pP (x9 pP 333) res (x8 pP 333 0) (sl1 s p1 p0 Y U v1 v0 q r) []
 |0,q,r,hn,_,_,_,_=>by omega
 |n+1,q,r,hn,h1,h2,h3,h4=>zO1 hQ hT hd hY e1 e0 hU hv k q r h1 h2 h3 h4 λq' r' h g1 g2 g4=>zN9 hQ hT hd hY e1 e0 hU hv k n q' r' (by omega) g1 g2 (by omega) g4
noncomputable def dvR(s a q t:Nat):SV:=.tuple [U64 ((a*4294967296+q:Nat):Int),U64 ((t / 2 ^ s:Nat):Int)]
theorem zO4{T a t:Nat}(hQ:(t*4294967296+v0) / Y=Q)(hT:(t*4294967296+v0) % Y=T)(hs:s<=64)(hY:9223372036854775808<=Y/\Y<18446744073709551616)(e1:p1=Y / 4294967296)(e0:p0=Y % 4294967296)(ht:t<Y)(hv:v0<4294967296)(ha:a<4294967296)
  (q r:Nat) (h1:q*p1+r=t) (h2:Q<=q) (h3:q<=4294967297) (h4:r<4294967296)
  (ih:∀q' r':Nat,q'<q->q'*p1+r'=t->Q<=q'->r'<4294967296->t8 pP (x9 pP 333) (dvR s a Q T) (x8 pP 333 1) (sl2 s p1 p0 Y U v1 v0 a t q' r') []):
  t8 pP (x9 pP 333) (dvR s a Q T) (x8 pP 333 1) (sl2 s p1 p0 Y U v1 v0 a t q r) [] :=by
 have hp1:2147483648<=p1/\p1<4294967296:=by omega
 have hTY:T<Y:=by rw[<-hT];exact Nat.mod_lt _ (by omega)
 have hQl:Q<4294967296:=by rw[<-hQ];exact zL4 (by omega) ht hv
 have D:∀q':Nat,q'=Q->u64.wrap (u64.wrap (u64.wrap ((t:Int)*4294967296)+(v0:Int))-u64.wrap ((q':Int)*(Y:Int)))=((T:Nat):Int):=λq' h=>by
  subst h;exact zL6 (by rw[<-hQ,<-hT,Nat.div_add_mod']) (by omega)
 have wr:u64.wrap ((r:Int)+(p1:Int))=((r+p1:Nat):Int):=by rw[wU];omega
 have down:Q+1<=q->(q-1)*p1+(r+p1)=t/\Q<=q-1/\u64.wrap ((q:Int)-1)=((q-1:Nat):Int):=λh=>by
  refine⟨?_,by omega,yO6 (by omega) (by omega)⟩;obtain⟨q',rfl⟩:∃q',q=q'+1:=⟨q-1,by omega⟩;rw[Nat.add_mul]at h1;rw[Nat.add_sub_cancel];omega
 have wm:u64.wrap (4294967296*(r:Int))=((4294967296*r:Nat):Int):=by rw[wU];omega
 have wm2:u64.wrap (((4294967296*r:Nat):Int)+(v0:Int))=((4294967296*r+v0:Nat):Int):=by rw[wU];omega
 have wqp:q<4294967296->u64.wrap ((q:Int)*(p0:Int))=((q*p0:Nat):Int):=λh=>by
  have:q*p0<=4294967295*4294967295:=Nat.mul_le_mul (by omega) (by omega);rw[<-Int.natCast_mul];exact wN (by omega)
 have less:=zL3 (y:=Y) (u:=t) (u1:=v0) (q:=q) (rh:=r) (by omega) ht hv (by rw[<-e1];exact h1);rw[hQ]at less;have out:=zL5 (y:=Y) (u:=t) (u1:=v0) (q:=q) (rh:=r) (by omega) (by rw[<-e1];exact h1) (by rw[hQ];exact h2);rw[hQ]at out
 have brk:Q+1<=q->4294967296<=r+p1->q-1=Q:=λh hb=>by have:=zL0 (y:=Y) (u:=t) (u1:=v0) (q:=q-1) (rh:=r+p1) (by omega) (by rw[<-e1];exact(down h).1) (by rw[hQ];exact(down h).2.1) (by omega) hb;rw[hQ]at this;exact this
 have stay:=λ(h:Q+1<=q) (hr:r+p1<4294967296)=>ih (q-1) (r+p1) (by omega) (down h).1 (down h).2.1 hr
 have fin:∀q':Nat,q'=Q->u64.wrap (u64.wrap ((a:Int)*4294967296)+(q':Int))=((a*4294967296+Q:Nat):Int):=λq' h=>by
  subst h;simp only[wU];omega
 have sh:(((T:Nat):Int)).fdiv (2 ^ min (s:Int).toNat 64)=((T / 2 ^ s:Nat):Int):=by
  rw[show min (s:Int).toNat 64=s by omega,Int.fdiv_eq_ediv_of_nonneg _ (Int.le_of_lt (yO0 s))];simp
 have n0:decide ((0:Int)<=(s:Int))=true:=decide_eq_true (by omega);refine o5 k0 (n:=1000) (hint:=.unit) (keep:=x6 135 [2,8,9,10,14,15,16,17,18,11,13]) (p:=zO3) rfl ?_;unfold sl2;erw [dv2 Y s p1 p0 U v1 v0 a t q r];rw[wr];simp only[Tree.holds,decide_eq_true_eq,decide_eq_false_iff_not,n0,true_and];unfold sl2 at stay;unfold dvR at stay ⊢
 have p0':(0:Int)<=(s:Int):=by omega
 refine⟨λc=>⟨λb=>?_,λb=>?_⟩,λc=>?_⟩
 .have hl:=less (.inl (by omega))
  rw[(down hl).2.2,D _ (brk hl (by omega)),sh,fin _ (brk hl (by omega))];rfl
 .have hl:=less (.inl (by omega))
  rw[(down hl).2.2];exact⟨u7 _ _,stay hl (by omega)⟩
 .rw[wqp (by omega),wm,wm2]
  refine⟨λd=>⟨λb=>?_,λb=>?_⟩,λd=>?_⟩
  .have hl:=less (.inr (by rw[<-e0];omega))
   rw[(down hl).2.2,D _ (brk hl (by omega)),sh,fin _ (brk hl (by omega))];rfl
  .have hl:=less (.inr (by rw[<-e0];omega))
   rw[(down hl).2.2];exact⟨u7 _ _,stay hl (by omega)⟩
  .have ho:=out (by rw[<-e0];omega)
   rw[D _ ho,sh,fin _ ho];rfl
theorem zO2{T a t:Nat}(hQ:(t*4294967296+v0) / Y=Q)(hT:(t*4294967296+v0) % Y=T)(hs:s<=64)(hY:9223372036854775808<=Y/\Y<18446744073709551616)(e1:p1=Y / 4294967296)(e0:p0=Y % 4294967296)(ht:t<Y)(hv:v0<4294967296)(ha:a<4294967296):
  ∀ (n q r:Nat),q<n->q*p1+r=t->Q<=q->q<=4294967297->r<4294967296->t8 pP (x9 pP 333) (dvR s a Q T) (x8 pP 333 1) (sl2 s p1 p0 Y U v1 v0 a t q r) []
 |0,q,r,hn,_,_,_,_=>by omega
 |n+1,q,r,hn,h1,h2,h3,h4=>zO4 hQ hT hs hY e1 e0 ht hv ha q r h1 h2 h3 h4 λq' r' h g1 g2 g4=>zO2 hQ hT hs hY e1 e0 ht hv ha n q' r' (by omega) g1 g2 (by omega) g4
end
theorem yD3{a b e:Nat}(ha:a*2 ^ e<18446744073709551616)(hb:b<2 ^ e)(hb2:b<18446744073709551616):(((BitVec.ofInt 64 ((a*2 ^ e:Nat):Int) |||BitVec.ofInt 64 ((b:Nat):Int)).toNat:Nat):Int)=((a*2 ^ e+b:Nat):Int):=by
 have e1:∀m:Nat,m<18446744073709551616->(BitVec.ofInt 64 (m:Int)).toNat=m:=λm hm=>by
  rw[BitVec.toNat_ofInt];have:((2 ^ 64:Nat):Int)=18446744073709551616:=rfl;rw[this];omega
 rw[BitVec.toNat_or,e1 _ ha,e1 _ hb2,Nat.mul_comm a,<-Nat.two_pow_add_eq_or_of_lt hb]
theorem xc6{H L Yn:Nat}(h1:H<Yn)(h2:L<18446744073709551616)(h3:Yn<18446744073709551616):SCall pP 333 [U64 (H:Int),U64 (L:Int),U64 (Yn:Int)] (.tuple [U64 (((H*18446744073709551616+L) / Yn:Nat):Int),U64 (((H*18446744073709551616+L) % Yn:Nat):Int)]):=by
 refine s7 rfl rfl (by kernel_rfl) (o5 (kW (l:=[fLz]) ⟨yh6,trivial⟩) (n:=1000) (hint:=.unit) (keep:=x6 135 [2,8,9,10,11,13,14,15,16]) (p:=zN8) (boxes:=[]) rfl ?_);have e:=dv0 H L Yn;unfold v6 v7 at e;erw [e];clear e
 have hy0:((Yn:Int)==0)=false:=by simp;omega
 have hyh:decide ((Yn:Int)<=(H:Int))=false:=decide_eq_false (by omega);simp only[Tree.holds,hy0,hyh,Bool.false_eq_true,false_implies,true_implies,true_and,Bool.not_false,and_true];refine⟨λh0=>?_,λh0=>?_⟩
 .have h0:H=0:=by simpa using h0
  subst h0;show SV.tuple _=_;have hl:L / Yn<=L:=Nat.div_le_self _ _;rw[xN7,wN (by omega),Nat.zero_mul,Nat.zero_add,Int.tmod_eq_emod_of_nonneg (by omega)];rfl
 .obtain⟨n,en,n1,n2,n3,n4⟩:=qS0 (x:=(Yn:Int)) (by omega) (by omega)
  obtain⟨s,hs⟩:∃s:Nat,s=64-n:=⟨_,rfl⟩
  have ws:u64.wrap (64-qR9 (Yn:Int))=(s:Int):=by rw[en,wU];omega
  have ws2:u64.wrap (64-(s:Int))=((64-s:Nat):Int):=by rw[wU];omega
  have m1:min (s:Int).toNat 64=s:=by omega
  have m2:min ((64-s:Nat):Int).toNat 64=64-s:=by omega
  have hp:0<2 ^ s:=Nat.two_pow_pos s
  have pw:∀k:Nat,(2:Int) ^ k=((2 ^ k:Nat):Int):=λk=>by simp
  -- the divisor, shifted
  have n3':2 ^ (n-1)<=Yn:=by rw[pw]at n3;omega
  have n4':Yn<2 ^ n:=by rw[pw]at n4;omega
  have y1:9223372036854775808<=Yn*2 ^ s:=by
   have:2 ^ (n-1)*2 ^ s<=Yn*2 ^ s:=Nat.mul_le_mul_right _ n3';rw[<-Nat.pow_add,show n-1+s=63 by omega]at this;exact this
  have y2:Yn*2 ^ s<18446744073709551616:=by
   have:Yn*2 ^ s<2 ^ n*2 ^ s:=Nat.mul_lt_mul_of_pos_right n4' hp;rw[<-Nat.pow_add,show n+s=64 by omega]at this;exact this
  -- the upper half, shifted
  have l1:L / 2 ^ (64-s)<2 ^ s:=by
   rw[Nat.div_lt_iff_lt_mul (Nat.two_pow_pos _),<-Nat.pow_add,show s+(64-s)=64 by omega];exact h2
  have l2:L / 2 ^ (64-s)<=L:=Nat.div_le_self _ _;have u0:(H+1)*2 ^ s<=Yn*2 ^ s:=Nat.mul_le_mul_right _ h1;rw[Nat.add_mul,Nat.one_mul]at u0
  have hU:H*2 ^ s+L / 2 ^ (64-s)<Yn*2 ^ s:=by omega
  have lo:L*2 ^ s=L / 2 ^ (64-s)*18446744073709551616+L*2 ^ s % 18446744073709551616:=by
   have:L / 2 ^ (64-s)=L*2 ^ s / 18446744073709551616:=by
    rw[show(18446744073709551616:Nat)=2 ^ (64-s)*2 ^ s by rw[<-Nat.pow_add,show 64-s+s=64 by omega],Nat.mul_div_mul_right _ _ hp]
   rw[this];omega
  have wY:u64.wrap ((Yn:Int)*2 ^ s)=((Yn*2 ^ s:Nat):Int):=by rw[pw,<-Int.natCast_mul];exact wN y2
  have wH:u64.wrap ((H:Int)*2 ^ s)=((H*2 ^ s:Nat):Int):=by rw[pw,<-Int.natCast_mul];exact wN (by omega)
  have wL:u64.wrap ((L:Int)*2 ^ s)=((L*2 ^ s % 18446744073709551616:Nat):Int):=by rw[pw,<-Int.natCast_mul,wU];omega
  have fL:((L:Nat):Int).fdiv (2 ^ (64-s))=((L / 2 ^ (64-s):Nat):Int):=by
   rw[Int.fdiv_eq_ediv_of_nonneg _ (Int.le_of_lt (yO0 _)),pw];rfl
  have oU:=yD3 (a:=H) (b:=L / 2 ^ (64-s)) (e:=s) (by omega) l1 (by omega)
  have f32:∀m:Nat,((m:Nat):Int).fdiv 4294967296=((m / 4294967296:Nat):Int):=λm=>by rw[Int.fdiv_eq_ediv_of_nonneg _ (by omega)];rfl
  have a32:∀m:Nat,m<18446744073709551616->u64.wrap ((((BitVec.ofInt 64 ((m:Nat):Int) &&&BitVec.ofInt 64 4294967295).toNat:Nat):Int))=((m % 4294967296:Nat):Int):=λm hm=>by rw[zm9 (by omega) (by omega),wU];omega
  have d0:decide ((0:Int)<=(s:Int))=true:=decide_eq_true (by omega);have d1:decide ((0:Int)<=((64-s:Nat):Int))=true:=decide_eq_true (by omega)
  have ok:(okU (Yn:Int)&&decide (1<=(Yn:Int)))=true:=by rw[Bool.and_eq_true,decide_eq_true_eq];exact⟨j8.2 (by omega),by omega⟩
  generalize hYY:Yn*2 ^ s=Y at *
  generalize hUU:H*2 ^ s+L / 2 ^ (64-s)=U at *
  generalize hLL:L*2 ^ s % 18446744073709551616=LO at *
  have hLO:LO<18446744073709551616:=by omega
  have np:(!((Y / 4294967296:Nat):Int)==0)=true:=by simp;omega
  obtain⟨R1,R2⟩:=yZ5 (t:=U) (p:=Y / 4294967296) (by omega) (by omega);have wU2:u64.wrap ((U:Nat):Int)=(U:Int):=wN (by omega);simp only[ws,ws2,m1,m2,wY,wH,wL,fL,oU,f32,a32 Y y2,a32 LO hLO,d0,d1,ok,np,wU2,R1,R2,true_and];refine⟨u7 _ _,?_⟩;have g1:=zL1 (y:=Y) (u:=U) (u1:=LO / 4294967296) y1 y2 hU (by omega);have hT:(U*4294967296+LO / 4294967296) % Y<Y:=Nat.mod_lt _ (by omega);have g2:=zL1 (y:=Y) (u:=(U*4294967296+LO / 4294967296) % Y) (u1:=LO % 4294967296) y1 y2 hT (by omega);have hQ1:(U*4294967296+LO / 4294967296) / Y<4294967296:=zL4 (by omega) hU (by omega);have two:=xT6 (y:=Y) (u:=U) (u1:=LO / 4294967296) (u0:=LO % 4294967296) (by omega);have key:=zO2 (v1:=LO / 4294967296) (U:=U) (s:=s) rfl rfl (by omega) ⟨y1,y2⟩ rfl rfl hT (show LO % 4294967296<4294967296 by omega) hQ1 _ _ _ (Nat.lt_succ_self _) g2.1 g2.2.1 g2.2.2.1 g2.2.2.2;have key2:=zN9 (v0:=LO % 4294967296) (s:=s) rfl rfl (by rfl) ⟨y1,y2⟩ rfl rfl hU (show LO / 4294967296<4294967296 by omega) key _ _ _ (Nat.lt_succ_self _) g1.1 g1.2.1 g1.2.2.1 g1.2.2.2
  have eN:U*18446744073709551616+(LO / 4294967296*4294967296+LO % 4294967296)=(H*18446744073709551616+L)*2 ^ s:=by
   rw[Nat.add_mul,lo,<-hUU,Nat.mul_right_comm H,Nat.add_mul];omega
  rw[eN,<-hYY,Nat.mul_div_mul_right _ _ hp,Nat.mul_mod_mul_right]at two
  have res:dvR s ((U*4294967296+LO / 4294967296) / Y) (((U*4294967296+LO / 4294967296) % Y*4294967296+LO % 4294967296) / Y) (((U*4294967296+LO / 4294967296) % Y*4294967296+LO % 4294967296) % Y)=.tuple [U64 (((H*18446744073709551616+L) / Yn:Nat):Int),U64 (((H*18446744073709551616+L) % Yn:Nat):Int)] :=by
   unfold dvR;rw[<-hYY,two.1,two.2,Nat.mul_div_cancel _ hp]
  rw[res]at key2;exact key2
def zY9:Fact:=ql6 333 λh l y=>.req (inR h 0 (y-1)&& (okU l&&okU y)) (.leaf (.tuple [U64 ((h*18446744073709551616+l) / y),U64 ((h*18446744073709551616+l) % y)]))
theorem yc7:zY9.ok pP:=ql7 λh l y k=>by
 simp only[Bool.and_eq_true,j8,okU]at k;obtain⟨H,rfl⟩:=Int.eq_ofNat_of_zero_le k.1.1;obtain⟨L,rfl⟩:=Int.eq_ofNat_of_zero_le k.2.1.1;obtain⟨Y,rfl⟩:=Int.eq_ofNat_of_zero_le k.2.2.1;have:=xc6 (H:=H) (L:=L) (Yn:=Y) (by omega) (by omega) (by omega);simp at this;exact this
variable{i:Nat}
theorem xS4{low k:Nat}(h:i+(k+1)=64):(low*2 ^ i % 18446744073709551616) / 9223372036854775808=low / 2 ^ k % 2:=by
 have e:(18446744073709551616:Nat)=9223372036854775808*2:=by decide
 rw[e,Nat.mod_mul_right_div_self]
 have e2:(9223372036854775808:Nat)=2 ^ k*2 ^ i:=by rw[<-Nat.pow_add,show k+i=63 by omega]
 rw[e2,Nat.mul_div_mul_right _ _ (Nat.two_pow_pos i)]
theorem yD4{x b:Nat}(hx:x<18446744073709551616)(h2:x % 2=0)(hb:b<2):(((BitVec.ofInt 64 ((x:Nat):Int) |||BitVec.ofInt 64 ((b:Nat):Int)).toNat:Nat):Int)=((x+b:Nat):Int):=by
 have:=yD3 (a:=x / 2) (b:=b) (e:=1) (by omega) (by omega) (by omega);rw[show x / 2*2 ^ 1=x by omega]at this;exact this
noncomputable def slQ(d low q r i:Nat):List SV:=x7 46 [(1,U64 ((low*2 ^ i % 18446744073709551616:Nat):Int)),(2,U64 d),(9,U64 q),(10,U64 r),(11,J i)]
theorem yP7{d low:Nat}(hd:d<18446744073709551616)(hl:low<18446744073709551616):∀ (k i q r:Nat),i+k=64->r<d->q<2 ^ i->
  t8 pP (x9 pP 249) (.tuple [U64 ((yR3 d low k q r).1:Int),U64 ((yR3 d low k q r).2:Int),.bool true]) (x8 pP 249 0) (slQ d low q r i) []
 |0,i,q,r,hi,hr,hq=>by
  refine o5 k0 (n:=1000) (hint:=.unit) (keep:=x6 46 [1,2,9,10,11]) (p:=yQ5) rfl ?_;unfold slQ;erw [qt1 _ d q r i];refine⟨λc=>?_,λ_=>rfl⟩;have:=of_decide_eq_true c;omega
 |k+1,i,q,r,hi,hr,hq=>by
  have hp:2 ^ i<=9223372036854775808:=by
   have:2 ^ i<=2 ^ 63:=Nat.pow_le_pow_right (by decide) (by omega);exact this
  have e2:2 ^ (i+1)=2 ^ i*2:=Nat.pow_succ 2 i;have hb:=xS4 (low:=low) hi;have hb2:low / 2 ^ k % 2<2:=Nat.mod_lt _ (by decide);have ht:low*2 ^ i % 18446744073709551616<18446744073709551616:=Nat.mod_lt _ (by decide)
  have en:low*2 ^ (i+1) % 18446744073709551616=(low*2 ^ i % 18446744073709551616*2) % 18446744073709551616:=by
   rw[e2,<-Nat.mul_assoc];omega
  generalize hL:low*2 ^ i % 18446744073709551616=L at *
  generalize hB:low / 2 ^ k % 2=B at *
  have w1:u64.wrap ((L:Int)*2)=((low*2 ^ (i+1) % 18446744073709551616:Nat):Int):=by rw[en,wU];omega
  have f1:((L:Nat):Int).fdiv 9223372036854775808=((B:Nat):Int):=by rw[Int.fdiv_eq_ediv_of_nonneg _ (by omega)];omega
  have f2:((r:Nat):Int).fdiv 9223372036854775808=((r / 9223372036854775808:Nat):Int):=by rw[Int.fdiv_eq_ediv_of_nonneg _ (by omega)];rfl
  have w2:u64.wrap ((r:Int)*2)=((r*2 % 18446744073709551616:Nat):Int):=by rw[wU];omega
  have w3:u64.wrap ((q:Int)*2)=((2*q:Nat):Int):=by rw[wU];omega
  have w4:u64.wrap (((2*q:Nat):Int)+1)=((2*q+1:Nat):Int):=by rw[wU];omega
  have o1:=yD4 (x:=r*2 % 18446744073709551616) (b:=B) (by omega) (by omega) hb2;have w5:u64.wrap ((r*2 % 18446744073709551616+B:Nat):Int)=((r*2 % 18446744073709551616+B:Nat):Int):=wN (by omega)
  have w6:d<=2*r+B->u64.wrap (((r*2 % 18446744073709551616+B:Nat):Int)-(d:Int))=((2*r+B-d:Nat):Int):=λh=>by rw[wU];omega
  have w7:i64.wrap ((i:Int)+1)=((i+1:Nat):Int):=by rw[w64 (by omega) (by omega)];rfl
  have yes:d<=2*r+B->t8 pP (x9 pP 249) (.tuple [U64 ((yR3 d low (k+1) q r).1:Int),U64 ((yR3 d low (k+1) q r).2:Int),.bool true]) (x8 pP 249 0) (slQ d low (2*q+1) (2*r+B-d) (i+1)) [] :=λh=>by
   have:=yP7 hd hl k (i+1) (2*q+1) (2*r+B-d) (by omega) (by omega) (by omega);rw[yR3,hB,if_pos h];exact this
  have no:¬d<=2*r+B->t8 pP (x9 pP 249) (.tuple [U64 ((yR3 d low (k+1) q r).1:Int),U64 ((yR3 d low (k+1) q r).2:Int),.bool true]) (x8 pP 249 0) (slQ d low (2*q) (2*r+B) (i+1)) [] :=λh=>by
   have:=yP7 hd hl k (i+1) (2*q) (2*r+B) (by omega) (by omega) (by omega);rw[yR3,hB,if_neg h];exact this
  unfold slQ at yes no ⊢;refine o5 k0 (n:=1000) (hint:=.unit) (keep:=x6 46 [1,2,9,10,11]) (p:=yQ5) rfl ?_;rw[hL];erw [qt1 L d q r i];simp only[w1,f1,f2,w2,w3,w4,o1,w5,w7];refine⟨λc=>⟨rfl,rfl,rfl,rfl,rfl,λd1=>?_,λd1=>⟨λd2=>?_,λd2=>?_⟩⟩,λc=>?_⟩
  .have d1:((r / 9223372036854775808:Nat):Int)=1:=by simpa using d1
   have hc:d<=2*r+B:=by omega
   rw[w6 hc];exact⟨u7 _ _,yes hc⟩
  .have d1:¬((r / 9223372036854775808:Nat):Int)=1:=by simpa using d1
   have d2:=of_decide_eq_true d2
   have hc:d<=2*r+B:=by omega
   rw[w6 hc];exact⟨u7 _ _,yes hc⟩
  .have d1:¬((r / 9223372036854775808:Nat):Int)=1:=by simpa using d1
   have d2:=of_decide_eq_false d2
   have hc:¬d<=2*r+B:=by omega
   rw[show r*2 % 18446744073709551616+B=2*r+B by omega];exact⟨u7 _ _,no hc⟩
  .have:=of_decide_eq_false c
   omega
theorem xq0{H L D:Nat}(h1:H<D)(h2:L<18446744073709551616)(h3:D<18446744073709551616):SCall pP 249 [U64 (H:Int),U64 (L:Int),U64 (D:Int)] (.tuple [U64 (((H*18446744073709551616+L) / D:Nat):Int),U64 (((H*18446744073709551616+L) % D:Nat):Int),.bool true]):=by
 refine s7 rfl rfl (by kernel_rfl) (o5 k0 (n:=1000) (hint:=.unit) (keep:=x6 46 [1,2,9,10,11]) (p:=yQ4) (boxes:=[]) rfl ?_);have e:=qt0 H L D;unfold v6 v7 at e;erw [e];have q:=yP7 (low:=L) h3 h2 64 0 0 H (by omega) h1 (by decide);rw[yR4 h1 h2]at q;refine⟨λc=>?_,λ_=>⟨u7 _ _,?_⟩⟩
 .have:=of_decide_eq_true c;omega
 .unfold slQ at q
  rw[show L*2 ^ 0 % 18446744073709551616=L by omega]at q;exact q
theorem xq1{H L D:Int}(h1:¬H<D):SCall pP 249 [U64 H,U64 L,U64 D] (.tuple [U64 0,U64 0,.bool false]):=by
 refine s7 rfl rfl (by kernel_rfl) (o5 k0 (n:=1000) (hint:=.unit) (keep:=x6 46 [1,2,9,10,11]) (p:=yQ4) (boxes:=[]) rfl ?_);have e:=qt0 H L D;unfold v6 v7 at e;erw [e];exact⟨λ_=>rfl,λc=>absurd (of_decide_eq_false c) (by omega)⟩
def z91:Fact:=ql6 249 λh l y=>.req (okU h&& (okU l&&okU y)) (.node (decide (h<y)) (.leaf (.tuple [U64 ((h*18446744073709551616+l) / y),U64 ((h*18446744073709551616+l) % y),.bool true])) (.leaf (.tuple [U64 0,U64 0,.bool false])))
theorem ym7:z91.ok pP:=ql7 λh l y k=>by
 simp only[Bool.and_eq_true,j8,okU]at k;refine⟨λc=>?_,λc=>xq1 (of_decide_eq_false c)⟩;have c:=of_decide_eq_true c;obtain⟨H,rfl⟩:=Int.eq_ofNat_of_zero_le k.1.1;obtain⟨L,rfl⟩:=Int.eq_ofNat_of_zero_le k.2.1.1;obtain⟨Y,rfl⟩:=Int.eq_ofNat_of_zero_le k.2.2.1;have:=xq0 (H:=H) (L:=L) (D:=Y) (by omega) (by omega) (by omega);simp at this;exact this
def mdS(a b c:Int):SV:=if a*b / c<9223372036854775808 then .tuple [J (a*b / c),J 0]else .tuple [J 0,J 3]
def yv6(a b c:Int):Bool:=inR a 0 9223372036854775807&& (inR b 0 9223372036854775807&&inR c 1 9223372036854775807)
theorem yv7{c:Int}:yv6 a b c=true↔(0<=a/\a<=9223372036854775807)/\(0<=b/\b<=9223372036854775807)/\1<=c/\c<=9223372036854775807:=by simp only[yv6,Bool.and_eq_true,j8]
theorem qV7{c:Int}(h:a*b / c<9223372036854775808):mdS a b c=.tuple [J (a*b / c),J 0] :=if_pos h
theorem qV6{c:Int}(h:¬a*b / c<9223372036854775808):mdS a b c=.tuple [J 0,J 3] :=if_neg h
theorem qz1(ha:0<=a/\a<=9223372036854775807)(hb:0<=b/\b<=9223372036854775807):0<=a*b / 18446744073709551616/\a*b / 18446744073709551616<18446744073709551616/\a*b / 18446744073709551616*18446744073709551616+a*b % 18446744073709551616=a*b/\0<=a*b:=by
 have h0:0<=a*b:=Int.mul_nonneg ha.1 hb.1;have h1:a*b<=9223372036854775807*9223372036854775807:=Int.mul_le_mul ha.2 hb.2 hb.1 (by omega)
 generalize a*b=x at *
 omega
theorem qV8{c:Int}(hx:0<=x)(hc:1<=c)(h:c<=x / 18446744073709551616):¬x / c<9223372036854775808:=by
 have h1:c*18446744073709551616<=x:=by omega
 have:18446744073709551616<=x / c:=Int.le_ediv_of_mul_le (by omega) (by omega);omega
theorem xk5(a b c:Int)(h:yv6 a b c=true):SCall pP 319 [J a,J b,J c] (mdS a b c):=
 v8 mix [z57,qb2,zY9] ⟨yj0,yp1,yc7,trivial⟩ 1000 (.fork .all (.fork .all (.fork (.fork .all .all) (.fork (.ln 4 (.lit .all)) (.lit (.lit (.fork (.ln 4 (.fork .all (.fork .all .all))) (.ln 5 (.fork .all .all)))))))))
  (t:=let y0:=siz a*siz b / 18446744073709551616*18446744073709551616+siz a*siz b % 18446744073709551616;let y1:Tree SV:=.node (decide (y0 % siz c>0)) (.leaf (.tuple [.int .i64 (i64.wrap (u64.wrap (0-u64.wrap (y0 / siz c+1)))),.int .i64 0])) (.leaf (.tuple [.int .i64 (i64.wrap (u64.wrap (0-y0 / siz c))),.int .i64 0]));let y2:Tree SV:=.leaf (.tuple [.int .i64 0,.int .i64 3]);.node (c==0) (.leaf (.tuple [.int .i64 0,.int .i64 4])) (.req (m7 a) (.req (m7 b) (.req (okU (siz a)) (.req (okU (siz b)) (.req (m7 c) (.node (decide (siz a*siz b / 18446744073709551616>=siz c)) y2 (.req (m7 c) (.req (inR (siz a*siz b / 18446744073709551616) 0 (siz c-1)&& (okU (siz a*siz b % 18446744073709551616)&&okU (siz c))) (.node ((!decide (a<0)==decide (b<0))==decide (c<0)) (.node (decide (y0 / siz c>=9223372036854775808)) y2 (.leaf (.tuple [.int .i64 (i64.wrap (y0 / siz c)),.int .i64 0]))) (.node (decide (y0 / siz c>9223372036854775808)) y2 (.node (y0 / siz c==9223372036854775808) (.node (decide (y0 % siz c>0)) y2 y1) y1))))))))))))
  (by kernel_rfl) (by
   have o:=yv7.1 h;obtain⟨h1,h2,h3,h4⟩:=qz1 o.1 o.2.1;have sa:siz a=a:=if_neg (by omega);have sb:siz b=b:=if_neg (by omega);have sc:siz c=c:=if_neg (by omega);have m0:0<=a*b / c:=Int.ediv_nonneg h4 (by omega);have m1:a*b / c<=a*b:=Int.ediv_le_self _ h4;have hi:=qV8 h4 o.2.2.1;have k1:m7 a=true:=j8.2 (by omega);have k2:m7 b=true:=j8.2 (by omega);have k3:m7 c=true:=j8.2 (by omega);have k4:okU a=true:=j8.2 (by omega);have k5:okU b=true:=j8.2 (by omega);have k6:okU c=true:=j8.2 (by omega);have k7:okU (a*b / 18446744073709551616)=true:=j8.2 (by omega);have k8:okU (a*b % 18446744073709551616)=true:=j8.2 (by omega);have na:decide (a<0)=false:=decide_eq_false (by omega);have nb:decide (b<0)=false:=decide_eq_false (by omega);have nc:decide (c<0)=false:=decide_eq_false (by omega)
   have n0:(c==0)=false:=by simp;omega
   simp only[Tree.holds,sa,sb,sc,h3,k1,k2,k3,k4,k5,k6,k7,k8,na,nb,nc,n0,show(false==false)=true from rfl,show(true==false)=false from rfl,show(false==true)=false from rfl,sL,ne_eq,sLb,sLc,eq_self,sLd,sLe,sLf];(repeat' (first|apply And.intro|intro _));
   all_goals first
    |(rw[qV6 (by first|omega|exact hi (by omega))];rfl)
    |(have lt:a*b / c<9223372036854775808:=by omega
      rw[qV7 lt,w64 (by omega) (by omega)];rfl)
    |(rw[j8];omega)) (by kernel_rfl) (by unfold mdS;split<;>rfl)
theorem xk6(a b c:Int)(h:yv6 a b c=true):SCall pP 188 [J a,J b,J c] (mdS a b c):=
 v8 mix [z58,qb3,z91] ⟨yj1,yp2,ym7,trivial⟩ 1000 (.fork .all (.fork (.lit (.fork (.fork .all .all) (.fork (.ln 4 (.lit .all)) (.lit (.lit (.fork (.ln 4 (.fork .all (.fork .all .all))) (.ln 5 (.fork .all .all)))))))) (.lit .all)))
  (t:=let y0:=siz a*siz b / 18446744073709551616*18446744073709551616+siz a*siz b % 18446744073709551616;let y1:Tree SV:=.node (decide (y0 % siz c>0)) (.leaf (.tuple [.int .i64 (i64.wrap (u64.wrap (0-u64.wrap (y0 / siz c+1)))),.int .i64 0])) (.leaf (.tuple [.int .i64 (i64.wrap (u64.wrap (0-y0 / siz c))),.int .i64 0]));let y2:Tree SV:=.leaf (.tuple [.int .i64 0,.int .i64 3]);.node (c==0) (.leaf (.tuple [.int .i64 0,.int .i64 4])) (.req (m7 a) (.req (m7 b) (.req (okU (siz a)) (.req (okU (siz b)) (.req (m7 c) (.req (okU (siz a*siz b / 18446744073709551616)&& (okU (siz a*siz b % 18446744073709551616)&&okU (siz c))) (.node (decide (siz a*siz b / 18446744073709551616<siz c)) (.node (!!decide (a<0)==!decide (b<0)==decide (c<0)) (.node (decide (y0 / siz c>9223372036854775807)) y2 (.leaf (.tuple [.int .i64 (i64.wrap (y0 / siz c)),.int .i64 0]))) (.node (decide (y0 / siz c>9223372036854775808)) y2 (.node (y0 / siz c==9223372036854775808) (.node (decide (y0 % siz c>0)) y2 y1) y1))) y2))))))))
  (by kernel_rfl) (by
   have o:=yv7.1 h;obtain⟨h1,h2,h3,h4⟩:=qz1 o.1 o.2.1;have sa:siz a=a:=if_neg (by omega);have sb:siz b=b:=if_neg (by omega);have sc:siz c=c:=if_neg (by omega);have m0:0<=a*b / c:=Int.ediv_nonneg h4 (by omega);have m1:a*b / c<=a*b:=Int.ediv_le_self _ h4;have hi:=qV8 h4 o.2.2.1;have k1:m7 a=true:=j8.2 (by omega);have k2:m7 b=true:=j8.2 (by omega);have k3:m7 c=true:=j8.2 (by omega);have k4:okU a=true:=j8.2 (by omega);have k5:okU b=true:=j8.2 (by omega);have k6:okU c=true:=j8.2 (by omega);have k7:okU (a*b / 18446744073709551616)=true:=j8.2 (by omega);have k8:okU (a*b % 18446744073709551616)=true:=j8.2 (by omega);have na:decide (a<0)=false:=decide_eq_false (by omega);have nb:decide (b<0)=false:=decide_eq_false (by omega);have nc:decide (c<0)=false:=decide_eq_false (by omega)
   have n0:(c==0)=false:=by simp;omega
   simp only[Tree.holds,sa,sb,sc,h3,k1,k2,k3,k4,k5,k6,k7,k8,na,nb,nc,n0,show(false==false)=true from rfl,show(true==false)=false from rfl,show(false==true)=false from rfl,sL,ne_eq,sLb,sLc,eq_self,sLd,sLe,sLf];(repeat' (first|apply And.intro|intro _));
   all_goals first
    |(rw[qV6 (by first|omega|exact hi (by omega))];rfl)
    |(have lt:a*b / c<9223372036854775808:=by omega
      rw[qV7 lt,w64 (by omega) (by omega)];rfl)
    |(rw[j8];omega)) (by kernel_rfl) (by unfold mdS;split<;>rfl)
def fMd:Fact:=qi4 319 λa b c=>.req (yv6 a b c) (.node (decide (a*b / c<9223372036854775808)) (.leaf (.tuple [J (a*b / c),J 0])) (.leaf (.tuple [J 0,J 3])))
def z49:Fact:=qi4 188 λa b c=>.req (yv6 a b c) (.node (decide (a*b / c<9223372036854775808)) (.leaf (.tuple [J (a*b / c),J 0])) (.leaf (.tuple [J 0,J 3])))
theorem yi1:fMd.ok pP:=qi5 (λa b c h=>⟨λk=>qV7 (of_decide_eq_true k)▸xk5 a b c h,λk=>qV6 (of_decide_eq_false k)▸xk5 a b c h⟩)
theorem yi2:z49.ok pP:=qi5 (λa b c h=>⟨λk=>qV7 (of_decide_eq_true k)▸xk6 a b c h,λk=>qV6 (of_decide_eq_false k)▸xk6 a b c h⟩)
def qc4:Fact:=qi9 135 λm i p=>.req (inR i 0 3) (.node (xI8 m p) (.leaf (.tuple [J (e7 (axM m i) p),J 0])) (.leaf (.tuple [J 0,J 1])))
def qc5:Fact:=qi9 303 λm i p=>.req (inR i 0 3) (.node (xI8 m p) (.leaf (.tuple [J (e7 (axM m i) p),J 0])) (.leaf (.tuple [J 0,J 1])))
theorem yq3:qc4.ok pP:=qj0 (λm i p h=>by
 have h:=j8.1 h
 have hi:i=0\/i=1\/i=2\/i=3:=by omega
 rcases hi with rfl|rfl|rfl|rfl
 .exact⟨λhk=>zU1 hk▸xu5 m p,λhk=>zU0 hk▸xu5 m p⟩
 .exact⟨λhk=>zU1 hk▸xu7 m p,λhk=>zU0 hk▸xu7 m p⟩
 .exact⟨λhk=>zU1 hk▸xu9 m p,λhk=>zU0 hk▸xu9 m p⟩
 .exact⟨λhk=>zU1 hk▸xv1 m p,λhk=>zU0 hk▸xv1 m p⟩)
theorem yq4:qc5.ok pP:=qj0 (λm i p h=>by
 have h:=j8.1 h
 have hi:i=0\/i=1\/i=2\/i=3:=by omega
 rcases hi with rfl|rfl|rfl|rfl
 .exact⟨λhk=>zU1 hk▸xu6 m p,λhk=>zU0 hk▸xu6 m p⟩
 .exact⟨λhk=>zU1 hk▸xu8 m p,λhk=>zU0 hk▸xu8 m p⟩
 .exact⟨λhk=>zU1 hk▸xv0 m p,λhk=>zU0 hk▸xv0 m p⟩
 .exact⟨λhk=>zU1 hk▸xv2 m p,λhk=>zU0 hk▸xv2 m p⟩)
def qe0:Fact:=qi9 192 λm i p=>.req (inR i 0 3) (.node (f9 m p) (.leaf (.tuple [J (xW0 (axM m i) p),J 0])) (.leaf (.tuple [J 0,J 1])))
def qe1:Fact:=qi9 112 λm i p=>.req (inR i 0 3) (.node (f9 m p) (.leaf (.tuple [J (xW0 (axM m i) p),J 0])) (.leaf (.tuple [J 0,J 1])))
theorem ys1:qe0.ok pP:=qj0 (λm i p h=>by
 have h:=j8.1 h
 have hi:i=0\/i=1\/i=2\/i=3:=by omega
 rcases hi with rfl|rfl|rfl|rfl
 .exact⟨λhk=>zU1 hk▸xy3 m p,λhk=>zU0 hk▸xy3 m p⟩
 .exact⟨λhk=>zU1 hk▸xy5 m p,λhk=>zU0 hk▸xy5 m p⟩
 .exact⟨λhk=>zU1 hk▸xy7 m p,λhk=>zU0 hk▸xy7 m p⟩
 .exact⟨λhk=>zU1 hk▸xy9 m p,λhk=>zU0 hk▸xy9 m p⟩)
theorem ys2:qe1.ok pP:=qj0 (λm i p h=>by
 have h:=j8.1 h
 have hi:i=0\/i=1\/i=2\/i=3:=by omega
 rcases hi with rfl|rfl|rfl|rfl
 .exact⟨λhk=>zU1 hk▸xy4 m p,λhk=>zU0 hk▸xy4 m p⟩
 .exact⟨λhk=>zU1 hk▸xy6 m p,λhk=>zU0 hk▸xy6 m p⟩
 .exact⟨λhk=>zU1 hk▸xy8 m p,λhk=>zU0 hk▸xy8 m p⟩
 .exact⟨λhk=>zU1 hk▸xz0 m p,λhk=>zU0 hk▸xz0 m p⟩)
theorem xl0(m:Ma)(v:V3)(e:Int):SCall pP 63 [m.sv,V3.sv v,J e] (qZ0 m v e):=
 v8 mix [qc4] ⟨yq3,trivial⟩ 1000 (.go (.lit (.fork (.lit (.go (.lit (.fork (.lit (.go (.lit (.fork (.lit (.go (.lit (.fork (.lit (.go (.lit (.fork (.all) (.all))))) (.lit (.all)))))) (.lit (.all)))))) (.lit (.all)))))) (.lit (.all)))))
  (t:=let y0:Tree SV:=.leaf (.tuple [.agg [.int .i64 0,.int .i64 0,.int .i64 0,.int .i64 0],.int .i64 1]);.req (true) (.req true (.node (xI8 m v.1) (.req true (.req (true) (.req true (.node (xI8 m v.2.1) (.req true (.req (true) (.req true (.node (xI8 m v.2.2) (.req true (.req (true) (.req true (.node (xI8 m e) (.req true (.node (m.xy) (.req true (.req (true) (.req true (.req (true) (.req true (.req (true) (.leaf (.tuple [.agg [.int .i64 (i64.wrap (e7 (axM m 0) v.1+e7 (axM m 1) v.2.1)),.int .i64 (i64.wrap (e7 (axM m 0) v.1-e7 (axM m 1) v.2.1)),.int .i64 (e7 (axM m 2) v.2.2),.int .i64 (e7 (axM m 3) e)],.int .i64 0])))))))) (.leaf (.tuple [.agg [.int .i64 (e7 (axM m 0) v.1),.int .i64 (e7 (axM m 1) v.2.1),.int .i64 (e7 (axM m 2) v.2.2),.int .i64 (e7 (axM m 3) e)],.int .i64 0])))) y0)))) y0)))) y0)))) y0)))
  (by kernel_rfl) (by
   have ax0:axM m 0=m.x:=rfl;have ax1:axM m 1=m.y:=rfl;have ax2:axM m 2=m.z:=rfl;have ax3:axM m 3=m.e:=rfl;simp only[Tree.holds,sL,ne_eq,sLb,sLc,eq_self,sLd,sLe,sLf];simp only[ax0,ax1,ax2,ax3];(repeat' (first|apply And.intro|intro _));
   all_goals first
    |(rw[qZ1 (Bool.eq_false_iff.2 (by rw[ne_eq,qY9];first|omega|grind))];rfl)
    |(have hk:=qY9.1 (show qY8 m v e=true by rw[qY9];grind)
      have ho:=(Ma.ok_iff m).1 (n9.1 hk.1).1;have r1:=(xJ2 ho.1 (n9.1 hk.1).2).2;have r2:=(xJ2 ho.2.1 (n9.1 hk.2.1).2).2;rw[qZ2 (qY9.2 hk)];have w1:=w64 (x:=e7 m.x v.1+e7 m.y v.2.1) (by omega) (by omega);have w2:=w64 (x:=e7 m.x v.1-e7 m.y v.2.1) (by omega) (by omega);unfold qZ3 zF0;rename_i hxy
      simp only[hxy,w1,w2];rfl)) (by kernel_rfl) (by unfold qZ0;split<;>rfl)
theorem xl1(m:Ma)(v:V3)(e:Int):SCall pP 271 [m.sv,V3.sv v,J e] (qZ0 m v e):=
 v8 mix [qc5] ⟨yq4,trivial⟩ 1000 (.go (.lit (.fork (.lit (.go (.lit (.fork (.lit (.go (.lit (.fork (.lit (.go (.lit (.fork (.lit (.go (.lit (.fork (.all) (.all))))) (.lit (.all)))))) (.lit (.all)))))) (.lit (.all)))))) (.lit (.all)))))
  (t:=let y0:Tree SV:=.leaf (.tuple [.agg [.int .i64 0,.int .i64 0,.int .i64 0,.int .i64 0],.int .i64 1]);.req (true) (.req true (.node (xI8 m v.1) (.req true (.req (true) (.req true (.node (xI8 m v.2.1) (.req true (.req (true) (.req true (.node (xI8 m v.2.2) (.req true (.req (true) (.req true (.node (xI8 m e) (.req true (.node (m.xy) (.req true (.req (true) (.req true (.req (true) (.leaf (.tuple [.agg [.int .i64 (i64.wrap (e7 (axM m 0) v.1+e7 (axM m 1) v.2.1)),.int .i64 (i64.wrap (e7 (axM m 0) v.1-e7 (axM m 1) v.2.1)),.int .i64 (e7 (axM m 2) v.2.2),.int .i64 (e7 (axM m 3) e)],.int .i64 0])))))) (.leaf (.tuple [.agg [.int .i64 (e7 (axM m 0) v.1),.int .i64 (e7 (axM m 1) v.2.1),.int .i64 (e7 (axM m 2) v.2.2),.int .i64 (e7 (axM m 3) e)],.int .i64 0])))) y0)))) y0)))) y0)))) y0)))
  (by kernel_rfl) (by
   have ax0:axM m 0=m.x:=rfl;have ax1:axM m 1=m.y:=rfl;have ax2:axM m 2=m.z:=rfl;have ax3:axM m 3=m.e:=rfl;simp only[Tree.holds,sL,ne_eq,sLb,sLc,eq_self,sLd,sLe,sLf];simp only[ax0,ax1,ax2,ax3];(repeat' (first|apply And.intro|intro _));
   all_goals first
    |(rw[qZ1 (Bool.eq_false_iff.2 (by rw[ne_eq,qY9];first|omega|grind))];rfl)
    |(have hk:=qY9.1 (show qY8 m v e=true by rw[qY9];grind)
      have ho:=(Ma.ok_iff m).1 (n9.1 hk.1).1;have r1:=(xJ2 ho.1 (n9.1 hk.1).2).2;have r2:=(xJ2 ho.2.1 (n9.1 hk.2.1).2).2;rw[qZ2 (qY9.2 hk)];have w1:=w64 (x:=e7 m.x v.1+e7 m.y v.2.1) (by omega) (by omega);have w2:=w64 (x:=e7 m.x v.1-e7 m.y v.2.1) (by omega) (by omega);unfold qZ3 zF0;rename_i hxy
      simp only[hxy,w1,w2];rfl)) (by kernel_rfl) (by unfold qZ0;split<;>rfl)
def z52:Fact:=qj8 63 λm v e=>.node (qY8 m v e) (.leaf (.tuple [V4.sv (qZ3 m v e),J 0])) (.leaf (.tuple [V4.sv z4,J 1]))
def z53:Fact:=qj8 271 λm v e=>.node (qY8 m v e) (.leaf (.tuple [V4.sv (qZ3 m v e),J 0])) (.leaf (.tuple [V4.sv z4,J 1]))
theorem yi5:z52.ok pP:=qj9 (λm v e=>⟨λhk=>qZ2 hk▸xl0 m v e,λhk=>qZ1 hk▸xl0 m v e⟩)
theorem yi6:z53.ok pP:=qj9 (λm v e=>⟨λhk=>qZ2 hk▸xl1 m v e,λhk=>qZ1 hk▸xl1 m v e⟩)
theorem xh4(m:Ma)(v:V3):SCall pP 214 [m.sv,V3.sv v] (.bool (qH4 m v)):=
 v8 mix [z45] ⟨yh7,trivial⟩ 1000 (.go (.lit (.fork (.ln 7 (.lit .all)) (.ln 7 (.fork .all (.go (.lit (.fork (.ln 7 (.lit .all)) (.ln 7 (.fork .all (.go (.lit (.fork (.ln 7 (.lit .all)) (.ln 7 (.fork .all (.go (.lit .all)))))))))))))))))
  (t:=let y0:Tree SV:=.leaf (.bool false);.req (true) (.req true (.node (decide (v.1<m.x.min)) y0 (.req true (.node (decide (v.1>m.x.max)) y0 (.req true (.req (true) (.node (decide (v.2.1<m.y.min)) y0 (.req true (.node (decide (v.2.1>m.y.max)) y0 (.req true (.req (true) (.node (decide (v.2.2<m.z.min)) y0 (.req true (.node (decide (v.2.2>m.z.max)) y0 (.leaf (.bool m.ok)))))))))))))))))
  (by kernel_rfl) (by simp only[Tree.holds,sL,ne_eq,sLb,sLc,eq_self,sLd,sLe,sLf];(repeat' (first|apply And.intro|intro _));all_goals(refine qC9 ?_;rw[qH5];(try simp only[sL,ne_eq,sLb,sLc,eq_self,sLd,sLe,sLf]); first|omega|grind)) (by kernel_rfl) (by kernel_rfl)
theorem xh5(m:Ma)(v:V3):SCall pP 272 [m.sv,V3.sv v] (.bool (qH4 m v)):=
 v8 mix [z46] ⟨yh8,trivial⟩ 1000 (.fork (.ln 5 (.fork (.ln 5 (.fork (.ln 5 (.fork (.ln 5 (.fork (.ln 5 (.fork (.ln 4 (.lit .all)) (.ln 4 (.lit .all)))) (.ln 5 (.lit .all)))) (.ln 11 (.lit .all)))) (.ln 12 (.lit .all)))) (.ln 18 (.lit .all)))) (.ln 19 (.lit .all)))
  (t:=let y0:Tree SV:=.leaf (.bool false);.node (m.ok) (.req true (.node (decide (v.1>=m.x.min)) (.node (decide (v.1<=m.x.max)) (.req true (.node (decide (v.2.1>=m.y.min)) (.node (decide (v.2.1<=m.y.max)) (.req true (.node (decide (v.2.2>=m.z.min)) (.leaf (.bool (decide (v.2.2<=m.z.max)))) y0)) y0) y0)) y0) y0)) y0)
  (by kernel_rfl) (by simp only[Tree.holds,sL,ne_eq,sLb,sLc,eq_self,sLd,sLe,sLf];(repeat' (first|apply And.intro|intro _));all_goals(refine qC9 ?_;rw[qH5];(try simp only[sL,ne_eq,sLb,sLc,eq_self,sLd,sLe,sLf]); first|omega|grind)) (by kernel_rfl) (by kernel_rfl)
def z27:Fact:=qj1 214 λm v=>.leaf (.bool (qH4 m v))
def z28:Fact:=qj1 272 λm v=>.leaf (.bool (qH4 m v))
theorem yg0:z27.ok pP:=qk0 (xh4)
theorem yg1:z28.ok pP:=qk0 (xh5)
theorem xp2(m:Ma)(p:V4)(h:(m.ok&&v9 p)=true):SCall pP 193 [m.sv,V4.sv p] (.tuple [V3.sv ((yN7 m p).1,(yN7 m p).2.1,(yN7 m p).2.2.1),J (yN7 m p).2.2.2,J 0]):=
 v8 mix [qe0,z03,z45] ⟨ys1,ye0,yh7,trivial⟩ 1000 (let z0:Plan:=.go (.lit (.fork (.lit (.go (.lit (.fork (.lit (.go (.lit (.fork (.lit (.go (.lit (.fork (.lit (.go (.lit .all))) (.lit .all))))) (.lit .all))))) (.lit .all))))) (.lit .all)));let z1:Plan:=.ln 3 (.lit .all);.go (.lit (.fork (.ln 3 (.fork .all (.go (.lit (.fork (.ln 3 (.fork .all (.go (.lit (.fork (.ln 3 (.fork .all (.go (.lit (.fork (.ln 3 (.fork .all (.go (.lit (.fork z0 z0))))) z1))))) z1))))) z1))))) z1)))
  (t:=let y0:Tree SV:=.leaf (.tuple [.agg [.int .i64 0,.int .i64 0,.int .i64 0],.int .i64 0,.int .i64 1]);.req (true) (.node (decide (p.1>=-281474976710656)) (.node (!decide (p.1<=281474976710656)) y0 (.req true (.node (decide (p.2.1>=-281474976710656)) (.node (!decide (p.2.1<=281474976710656)) y0 (.req true (.node (decide (p.2.2.1>=-281474976710656)) (.node (!decide (p.2.2.1<=281474976710656)) y0 (.req true (.node (decide (p.2.2.2>=-281474976710656)) (.node (!decide (p.2.2.2<=281474976710656)) y0 (.node (m.xy) (.req true (.req (true) (.req (inR (i64.wrap (p.1+p.2.1)) (-4611686018427387904) 4611686018427387904) (.req true (.req (true) (.req (inR (i64.wrap (p.1-p.2.1)) (-4611686018427387904) 4611686018427387904) (.req true (.req (true) (.req true (.req (true) (.node (f9 m (i64.wrap (p.1+p.2.1) / 2)) (.req true (.req (true) (.req true (.node (f9 m (i64.wrap (p.1-p.2.1) / 2)) (.req true (.req (true) (.req true (.node (f9 m p.2.2.1) (.req true (.req (true) (.req true (.node (f9 m p.2.2.2) (.req true (.req (true) (.req true (.req (true) (.req true (.leaf (.tuple [.agg [.int .i64 (xW0 (axM m 0) (i64.wrap (p.1+p.2.1) / 2)),.int .i64 (xW0 (axM m 1) (i64.wrap (p.1-p.2.1) / 2)),.int .i64 (xW0 (axM m 2) p.2.2.1)],.int .i64 (xW0 (axM m 3) p.2.2.2),.int .i64 0]))))))) y0)))) y0)))) y0)))) y0))))))))))) (.req true (.req (true) (.node (f9 m p.1) (.req true (.req (true) (.req true (.node (f9 m p.2.1) (.req true (.req (true) (.req true (.node (f9 m p.2.2.1) (.req true (.req (true) (.req true (.node (f9 m p.2.2.2) (.req true (.req (true) (.req true (.req (true) (.req true (.leaf (.tuple [.agg [.int .i64 (xW0 (axM m 0) p.1),.int .i64 (xW0 (axM m 1) p.2.1),.int .i64 (xW0 (axM m 2) p.2.2.1)],.int .i64 (xW0 (axM m 3) p.2.2.2),.int .i64 0]))))))) y0)))) y0)))) y0)))) y0))))) y0))) y0))) y0))) y0))
  (by kernel_rfl) (by
   rw[Bool.and_eq_true,q26]at h;have ho:=h.1;have n1:=w64 (x:=p.1+p.2.1) (by omega) (by omega);have n2:=w64 (x:=p.1-p.2.1) (by omega) (by omega);have d1:=zQ1 (a:=p.1+p.2.1) (b:=2) (M:=33554432) (by omega) (by omega) (by omega);have d2:=zQ1 (a:=p.1-p.2.1) (b:=2) (M:=33554432) (by omega) (by omega) (by omega)
   have u:∀n:Int,-33554432<=n/\n<=33554432->f9 m n=true:=λn hn=>xV1.2 ⟨ho,by omega⟩
   have u1:=u _ d1;have u2:=u _ d2;have u3:=u p.1 (by omega);have u4:=u p.2.1 (by omega);have u5:=u p.2.2.1 (by omega);have u6:=u p.2.2.2 (by omega);have ax0:axM m 0=m.x:=rfl;have ax1:axM m 1=m.y:=rfl;have ax2:axM m 2=m.z:=rfl;have ax3:axM m 3=m.e:=rfl;have i1:inR (p.1+p.2.1) (-4611686018427387904) 4611686018427387904=true:=j8.2 (by omega);have i2:inR (p.1-p.2.1) (-4611686018427387904) 4611686018427387904=true:=j8.2 (by omega)
   have q0:∀n:Int,-16777216<=n/\n<=16777216->decide (n>=-281474976710656)=true/\decide (n<=281474976710656)=true/\decide (n < -281474976710656)=false/\decide (n>281474976710656)=false:=λn hn=>⟨decide_eq_true (by omega),decide_eq_true (by omega),decide_eq_false (by omega),decide_eq_false (by omega)⟩
   obtain⟨q1,q2,q3,q4⟩:=q0 p.1 (by omega);obtain⟨q5,q6,q7,q8⟩:=q0 p.2.1 (by omega);obtain⟨q9,qa,qb,qc⟩:=q0 p.2.2.1 (by omega);obtain⟨qd,qe,qf,qg⟩:=q0 p.2.2.2 (by omega)
   cases hxy:m.xy
   all_goals simp only[Tree.holds,yN7,xV3,V3.sv,J,hxy,ho,n1,n2,u1,u2,u3,u4,u5,u6,ax0,ax1,ax2,ax3,i1,i2,q1,q2,q3,q4,q5,q6,q7,q8,q9,qa,qb,qc,qd,qe,qf,qg,sL,ne_eq,sLb,sLc,eq_self,sLd,sLe,sLf]) (by kernel_rfl) (by kernel_rfl)
theorem xp3(m:Ma)(p:V4)(h:(m.ok&&v9 p)=true):SCall pP 198 [m.sv,V4.sv p] (.tuple [V3.sv ((yN7 m p).1,(yN7 m p).2.1,(yN7 m p).2.2.1),J (yN7 m p).2.2.2,J 0]):=
 v8 mix [qe1,z04,z46] ⟨ys2,ye1,yh8,trivial⟩ 1000 (let z0:Plan:=.go (.lit (.fork (.lit (.go (.lit (.fork (.lit (.go (.lit (.fork (.lit (.go (.lit (.fork (.lit (.go (.lit .all))) (.lit .all))))) (.lit .all))))) (.lit .all))))) (.lit .all)));let z1:Plan:=.lit (.lit (.lit .all));let z2:Plan:=.ln 5 (.lit .all);.go (.lit (.fork z2 (.lit (.lit (.fork z1 (.lit (.lit (.fork .all (.go (.lit (.fork z2 (.lit (.lit (.fork z1 (.lit (.lit (.fork .all (.go (.lit (.fork z2 (.lit (.lit (.fork z1 (.lit (.lit (.fork .all (.go (.lit (.fork z2 (.lit (.lit (.fork z1 (.lit (.lit (.fork .all (.go (.lit (.fork z0 z0)))))))))))))))))))))))))))))))))))))))
  (t:=let y0:Tree SV:=.leaf (.tuple [.agg [.int .i64 0,.int .i64 0,.int .i64 0],.int .i64 0,.int .i64 1]);.req (true) (.node (!m.ok) y0 (.node (decide (p.1 < -281474976710656)) y0 (.node (decide (p.1>281474976710656)) y0 (.req true (.node (!m.ok) y0 (.node (decide (p.2.1 < -281474976710656)) y0 (.node (decide (p.2.1>281474976710656)) y0 (.req true (.node (!m.ok) y0 (.node (decide (p.2.2.1 < -281474976710656)) y0 (.node (decide (p.2.2.1>281474976710656)) y0 (.req true (.node (!m.ok) y0 (.node (decide (p.2.2.2 < -281474976710656)) y0 (.node (decide (p.2.2.2>281474976710656)) y0 (.node (m.xy) (.req true (.req (true) (.req (inR (i64.wrap (p.1+p.2.1)) (-4611686018427387904) 4611686018427387904) (.req true (.req (true) (.req (inR (i64.wrap (p.1-p.2.1)) (-4611686018427387904) 4611686018427387904) (.req true (.req (true) (.req true (.req (true) (.node (f9 m (i64.wrap (p.1+p.2.1) / 2)) (.req true (.req (true) (.req true (.node (f9 m (i64.wrap (p.1-p.2.1) / 2)) (.req true (.req (true) (.req true (.node (f9 m p.2.2.1) (.req true (.req (true) (.req true (.node (f9 m p.2.2.2) (.req true (.req (true) (.req true (.req (true) (.req true (.leaf (.tuple [.agg [.int .i64 (xW0 (axM m 0) (i64.wrap (p.1+p.2.1) / 2)),.int .i64 (xW0 (axM m 1) (i64.wrap (p.1-p.2.1) / 2)),.int .i64 (xW0 (axM m 2) p.2.2.1)],.int .i64 (xW0 (axM m 3) p.2.2.2),.int .i64 0]))))))) y0)))) y0)))) y0)))) y0))))))))))) (.req true (.req (true) (.node (f9 m p.1) (.req true (.req (true) (.req true (.node (f9 m p.2.1) (.req true (.req (true) (.req true (.node (f9 m p.2.2.1) (.req true (.req (true) (.req true (.node (f9 m p.2.2.2) (.req true (.req (true) (.req true (.req (true) (.req true (.leaf (.tuple [.agg [.int .i64 (xW0 (axM m 0) p.1),.int .i64 (xW0 (axM m 1) p.2.1),.int .i64 (xW0 (axM m 2) p.2.2.1)],.int .i64 (xW0 (axM m 3) p.2.2.2),.int .i64 0]))))))) y0)))) y0)))) y0)))) y0))))))))))))))))))))
  (by kernel_rfl) (by
   rw[Bool.and_eq_true,q26]at h;have ho:=h.1;have n1:=w64 (x:=p.1+p.2.1) (by omega) (by omega);have n2:=w64 (x:=p.1-p.2.1) (by omega) (by omega);have d1:=zQ1 (a:=p.1+p.2.1) (b:=2) (M:=33554432) (by omega) (by omega) (by omega);have d2:=zQ1 (a:=p.1-p.2.1) (b:=2) (M:=33554432) (by omega) (by omega) (by omega)
   have u:∀n:Int,-33554432<=n/\n<=33554432->f9 m n=true:=λn hn=>xV1.2 ⟨ho,by omega⟩
   have u1:=u _ d1;have u2:=u _ d2;have u3:=u p.1 (by omega);have u4:=u p.2.1 (by omega);have u5:=u p.2.2.1 (by omega);have u6:=u p.2.2.2 (by omega);have ax0:axM m 0=m.x:=rfl;have ax1:axM m 1=m.y:=rfl;have ax2:axM m 2=m.z:=rfl;have ax3:axM m 3=m.e:=rfl;have i1:inR (p.1+p.2.1) (-4611686018427387904) 4611686018427387904=true:=j8.2 (by omega);have i2:inR (p.1-p.2.1) (-4611686018427387904) 4611686018427387904=true:=j8.2 (by omega)
   have q0:∀n:Int,-16777216<=n/\n<=16777216->decide (n>=-281474976710656)=true/\decide (n<=281474976710656)=true/\decide (n < -281474976710656)=false/\decide (n>281474976710656)=false:=λn hn=>⟨decide_eq_true (by omega),decide_eq_true (by omega),decide_eq_false (by omega),decide_eq_false (by omega)⟩
   obtain⟨q1,q2,q3,q4⟩:=q0 p.1 (by omega);obtain⟨q5,q6,q7,q8⟩:=q0 p.2.1 (by omega);obtain⟨q9,qa,qb,qc⟩:=q0 p.2.2.1 (by omega);obtain⟨qd,qe,qf,qg⟩:=q0 p.2.2.2 (by omega)
   cases hxy:m.xy
   all_goals simp only[Tree.holds,yN7,xV3,V3.sv,J,hxy,ho,n1,n2,u1,u2,u3,u4,u5,u6,ax0,ax1,ax2,ax3,i1,i2,q1,q2,q3,q4,q5,q6,q7,q8,q9,qa,qb,qc,qd,qe,qf,qg,sL,ne_eq,sLb,sLc,eq_self,sLd,sLe,sLf]) (by kernel_rfl) (by kernel_rfl)
def z86:Fact:=qj2 193 λm p=>.req (m.ok&&v9 p) (.leaf (.tuple [V3.sv ((yN7 m p).1,(yN7 m p).2.1,(yN7 m p).2.2.1),J (yN7 m p).2.2.2,J 0]))
def z87:Fact:=qj2 198 λm p=>.req (m.ok&&v9 p) (.leaf (.tuple [V3.sv ((yN7 m p).1,(yN7 m p).2.1,(yN7 m p).2.2.1),J (yN7 m p).2.2.2,J 0]))
theorem ym2:z86.ok pP:=qj7 (λm p h=>xp2 m p h)
theorem ym3:z87.ok pP:=qj7 (λm p h=>xp3 m p h)
def lst(v a b c:Int):Int:=if a*b / c<v then a*b / c else v
def qi1(f:FuncId)(h:Int->Int->Int->Int->Tree SV):Fact:=⟨f,λargs=>match args with
 |[.int .i64 a,.int .i64 b,.int .i64 c,.int .i64 d] =>some (h a b c d)
 |_=>none⟩
theorem qi2{f:FuncId}{h:Int->Int->Int->Int->Tree SV}(k:∀a b c d,(h a b c d).says (SCall P f [J a,J b,J c,J d])):(qi1 f h).ok P:=λargs t ht=>by
 simp only[qi1]at ht
 split at ht
 .injection ht with ht;subst ht;exact k _ _ _ _
 .cases ht
def okB(v a b c:Int):Bool:=yv6 a b c&&inR v 0 16777216
variable{v:Int}
theorem yu9{c:Int}:okB v a b c=true↔yv6 a b c=true/\0<=v/\v<=16777216:=by simp only[okB,Bool.and_eq_true,j8]
theorem xw3(n:Int)(hn:inR n (-4611686018427387904) 4611686018427387904=true):SCall pP 290 [J n] (J (sz n)):=
 v8 mix [] trivial 1000 (.all)
  (t:=.leaf (SV.int IntKind.i64 (if i64.wrap (0-n)>n then i64.wrap (0-n)else n)))
  (by kernel_rfl) (by
   rw[j8]at hn
   have e:i64.wrap (0-n)= -n:=by rw[w64 (by omega) (by omega)];omega
   simp only[Tree.holds,sL,ne_eq,sLb,sLc,eq_self,sLd,sLe,sLf];(repeat' (first|apply And.intro|intro _));all_goals((try simp only[e]);refine xM6 ?_;unfold sz;(repeat' split)<;>omega)) (by kernel_rfl) (by kernel_rfl)
theorem xw4(n:Int)(hn:inR n (-4611686018427387904) 4611686018427387904=true):SCall pP 99 [J n] (J (sz n)):=
 v8 mix [] trivial 1000 (.fork (.all) (.all))
  (t:=.node (decide (n<0))
 (.leaf (SV.int IntKind.i64 (i64.wrap (0-n))))
 (.leaf (SV.int IntKind.i64 n)))
   (by kernel_rfl) (by
    rw[j8]at hn
    have e:i64.wrap (0-n)= -n:=by rw[w64 (by omega) (by omega)];omega
    simp only[Tree.holds,sL,ne_eq,sLb,sLc,eq_self,sLd,sLe,sLf];(repeat' (first|apply And.intro|intro _));all_goals((try simp only[e]);refine xM6 ?_;unfold sz;(repeat' split)<;>omega)) (by kernel_rfl) (by kernel_rfl)
theorem yq7:(fSz 290).ok pP:=qi7 λn h=>xw3 n h
theorem yq8:(fSz 99).ok pP:=qi7 λn h=>xw4 n h
theorem xb3(a b c v:Int)(h:okB v a b c=true):SCall pP 289 [J a,J b,J c,J v] (J (lst v a b c)):=
 v8 mix [fMd] ⟨yi1,trivial⟩ 1000 (.fork (.lit (.all)) (.lit (.all)))
  (t:=.req (yv6 a b c) (.node (decide (a*b / c<9223372036854775808))
 (.leaf (SV.int IntKind.i64 (if v<a*b / c then v else a*b / c)))
 (.leaf (SV.int IntKind.i64 v))))
  (by kernel_rfl) (by
   have o:=yu9.1 h;have m:=yv7.1 o.1;simp only[Tree.holds,sL,ne_eq,sLb,sLc,eq_self,sLd,sLe,sLf];(repeat' (first|apply And.intro|intro _));
   all_goals first
    |exact o.1
    |(refine xM6 ?_;unfold lst;(repeat' split)<;>omega)) (by kernel_rfl) (by kernel_rfl)
theorem xj8(v a b c:Int)(h:okB v a b c=true):SCall pP 98 [J v,J a,J b,J c] (J (lst v a b c)):=
 v8 mix [z49] ⟨yi2,trivial⟩ 1000 (.fork (.ln 4 (.fork .all .all)) (.ln 4 (.lit .all)))
  (t:=.req (yv6 a b c) (.node (decide (a*b / c<9223372036854775808))
 (.node (decide (a*b / c<v))
  (.leaf (SV.int IntKind.i64 (a*b / c)))
  (.leaf (SV.int IntKind.i64 v)))
 (.leaf (SV.int IntKind.i64 v))))
  (by kernel_rfl) (by
   have o:=yu9.1 h;have m:=yv7.1 o.1;simp only[Tree.holds,sL,ne_eq,sLb,sLc,eq_self,sLd,sLe,sLf];(repeat' (first|apply And.intro|intro _));
   all_goals first
    |exact o.1
    |(refine xM6 ?_;unfold lst;(repeat' split)<;>omega)) (by kernel_rfl) (by kernel_rfl)
def zX3:Fact:=qi1 289 λa b c v=>.req (okB v a b c) (.leaf (J (lst v a b c)))
def z44:Fact:=qi1 98 λv a b c=>.req (okB v a b c) (.leaf (J (lst v a b c)))
theorem yb4:zX3.ok pP:=qi2 λa b c v h=>xb3 a b c v h
theorem yh5:z44.ok pP:=qi2 λv a b c h=>xj8 v a b c h
def stS(n v s k:Int):Int:=if k=0 then v else lst v s n (sz k)
def zf7(m:Ma)(c:V4):Int:=stS (dom c) (stS (dom c) (stS (dom c) (stS (dom c) 16777216 m.x.accel c.1) m.y.accel c.2.1) m.z.accel c.2.2.1) m.e.accel c.2.2.2
theorem qU0{c:Int}(h:okB v a b c=true):0<=lst v a b c/\lst v a b c<=v:=by
 have o:=yu9.1 h;have m:=yv7.1 o.1;have:0<=a*b / c:=Int.ediv_nonneg (Int.mul_nonneg m.1.1 m.2.1.1) (by omega)
 unfold lst;split<;>omega
theorem qU1{c:Int}(h:okB v a b c=true)(hc:c<=a*b)(hv:1<=v):1<=lst v a b c/\lst v a b c<=v:=by
 have o:=yu9.1 h;have m:=yv7.1 o.1;have:1<=a*b / c:=Int.le_ediv_of_mul_le (by omega) (by omega)
 unfold lst;split<;>omega
variable{s n k:Int}
theorem zq0(hs:1<=s/\s<=16777216)(hn:1<=n/\n<=16777216)(hv:1<=v/\v<=16777216)(hk:¬k=0)(hz:sz k<=n):okB v s n (sz k)=true/\sz k<=s*n:=by
 have:1<=sz k:=by unfold sz;split<;>omega
 have h2:1*n<=s*n:=Int.mul_le_mul_of_nonneg_right hs.1 (by omega);exact⟨yu9.2 ⟨yv7.2 (by omega),by omega⟩,by omega⟩
theorem xI9(hs:1<=s/\s<=16777216)(hn:1<=n/\n<=16777216)(hv:1<=v/\v<=16777216)(hz:sz k<=n):1<=stS n v s k/\stS n v s k<=v:=by
 unfold stS
 split
 .omega
 .rename_i hk
  obtain⟨h1,h2⟩:=zq0 hs hn hv hk hz;exact qU1 h1 h2 hv.1
theorem qU2(h:¬k=0):lst v s n (sz k)=stS n v s k:=(if_neg h).symm
theorem xJ1(h:k=0):v=stS n v s k:=(if_pos h).symm
structure Four (M:Int) (m:Ma) (c:V4) (s:Ax->Int):Prop where
 h1:∀v,1<=v/\v<=M->1<=stS (dom c) v (s m.x) c.1/\stS (dom c) v (s m.x) c.1<=M
 h2:∀v,1<=v/\v<=M->1<=stS (dom c) v (s m.y) c.2.1/\stS (dom c) v (s m.y) c.2.1<=M
 h3:∀v,1<=v/\v<=M->1<=stS (dom c) v (s m.z) c.2.2.1/\stS (dom c) v (s m.z) c.2.2.1<=M
 h4:∀v,1<=v/\v<=M->1<=stS (dom c) v (s m.e) c.2.2.2/\stS (dom c) v (s m.e) c.2.2.2<=M
 k1:∀v,1<=v/\v<=M->¬c.1=0->okB v (s m.x) (dom c) (sz c.1)=true
 k2:∀v,1<=v/\v<=M->¬c.2.1=0->okB v (s m.y) (dom c) (sz c.2.1)=true
 k3:∀v,1<=v/\v<=M->¬c.2.2.1=0->okB v (s m.z) (dom c) (sz c.2.2.1)=true
 k4:∀v,1<=v/\v<=M->¬c.2.2.2=0->okB v (s m.e) (dom c) (sz c.2.2.2)=true
variable{M:Int}{m:Ma}{c:V4}
theorem qr7{s:Ax->Int}(hM:M<=16777216)(hc:okC c=true)(hs:∀a:Ax,a.ok=true->1<=s a/\s a<=16777216)(hm:m.ok=true):Four M m c s:=by
 have o:=(Ma.ok_iff m).1 hm;have d:=q22 hc;rw[<-zN1 hc]at d
 have n1:1<=dom c/\dom c<=16777216:=by omega
 refine⟨λv hv=>?_,λv hv=>?_,λv hv=>?_,λv hv=>?_,λv hv k=>(zq0 (hs _ o.1) n1 (by omega) k (by omega)).1,λv hv k=>(zq0 (hs _ o.2.1) n1 (by omega) k (by omega)).1,λv hv k=>(zq0 (hs _ o.2.2.1) n1 (by omega) k (by omega)).1,λv hv k=>(zq0 (hs _ o.2.2.2.1) n1 (by omega) k (by omega)).1⟩
 .have:=xI9 (hs _ o.1) n1 (v:=v) (by omega) (k:=c.1) (by omega);omega
 .have:=xI9 (hs _ o.2.1) n1 (v:=v) (by omega) (k:=c.2.1) (by omega);omega
 .have:=xI9 (hs _ o.2.2.1) n1 (v:=v) (by omega) (k:=c.2.2.1) (by omega);omega
 .have:=xI9 (hs _ o.2.2.2.1) n1 (v:=v) (by omega) (k:=c.2.2.2) (by omega);omega
theorem zq6(a:Ax)(h:a.ok=true):1<=a.speed/\a.speed<=16777216:=by have:=(Ax.ok_iff a).1 h;omega
theorem zp9(a:Ax)(h:a.ok=true):1<=a.accel/\a.accel<=16777216:=by have:=(Ax.ok_iff a).1 h;omega
theorem zq3(a:Ax)(h:a.ok=true):1<=a.jerk/\a.jerk<=1048576:=by have:=(Ax.ok_iff a).1 h;omega
def okL(m:Ma)(c:V4):Bool:=m.ok&&okC c
theorem yv4:okL m c=true↔m.ok=true/\okC c=true:=by simp only[okL,Bool.and_eq_true]
def zg5(m:Ma)(c:V4):Int:=match okL m c with
 |true=>zf7 m c
 |false=>0
theorem zg8(h:okL m c=true):zg5 m c=zf7 m c:=by unfold zg5;rw[h]
theorem zg6(h:okL m c=false):zg5 m c=0:=by unfold zg5;rw[h]
def xJ5(n v s k:Int)(K:Int->Tree SV):Tree SV:=.req true (.node (k != 0) (.req true (.req true (.req (inR k (-4611686018427387904) 4611686018427387904) (.req (okB v s n (sz k)) (K (lst v s n (sz k))))))) (K v))
variable{L:SV->Prop}
theorem xJ6{K:Int->Tree SV}(hk:inR k (-4611686018427387904) 4611686018427387904=true)(hb:¬k=0->okB v s n (sz k)=true)(h:(K (stS n v s k)).holds L):(xJ5 n v s k K).holds L:=by
 refine⟨rfl,λc=>⟨rfl,rfl,hk,hb ?_,?_⟩,λc=>?_⟩
 .simpa using c
 .rw[qU2 (by simpa using c)];exact h
 .rw[xJ1 (n:=n) (v:=v) (s:=s) (k:=k) (by simpa using c)];exact h
def qr8(m:Ma)(c:V4)(s:Ax->Int)(v:Int)(K:Int->Tree SV):Tree SV:=xJ5 (dom c) v (s m.x) c.1 λv=>xJ5 (dom c) v (s m.y) c.2.1 λv=>xJ5 (dom c) v (s m.z) c.2.2.1 λv=>xJ5 (dom c) v (s m.e) c.2.2.2 K
def fourV(m:Ma)(c:V4)(s:Ax->Int)(v:Int):Int:=stS (dom c) (stS (dom c) (stS (dom c) (stS (dom c) v (s m.x) c.1) (s m.y) c.2.1) (s m.z) c.2.2.1) (s m.e) c.2.2.2
theorem qr9{s:Ax->Int}{K:Int->Tree SV}(f:Four M m c s)(hc:okC c=true)(hv:1<=v/\v<=M)(h:(K (fourV m c s v)).holds L):(qr8 m c s v K).holds L:=by
 have b:=(yv1.1 hc).1;have v1:=f.h1 v hv;have v2:=f.h2 _ v1;have v3:=f.h3 _ v2;exact xJ6 (j8.2 (by omega)) (f.k1 v hv) (xJ6 (j8.2 (by omega)) (f.k2 _ v1) (xJ6 (j8.2 (by omega)) (f.k3 _ v2) (xJ6 (j8.2 (by omega)) (f.k4 _ v3) h)))
theorem qs0{s:Ax->Int}(f:Four M m c s)(hv:1<=v/\v<=M):1<=fourV m c s v/\fourV m c s v<=M:=f.h4 _ (f.h3 _ (f.h2 _ (f.h1 v hv)))
theorem y93(m:Ma)(c:V4):SCall pP 260 [m.sv,V4.sv c] (J (zg5 m c)):=
 v8 mix [zZ0,z66,z45,zX3,fSz 290] ⟨yc8,yk2,yh7,yb4,yq7,trivial⟩ 1000 (let z1:Plan:=.go (.lit (.fork (.go (.lit (.all))) (.go (.lit (.all)))));let z0:Plan:=.go (.lit (.fork z1 z1));.go (.lit (.fork (.lit (.all)) (.go (.lit (.fork (.all) (.go (.lit (.fork (.go (.lit (.fork z0 z0))) (.go (.lit (.fork z0 z0))))))))))))
  (t:=.req true (.node (!okC c) (.leaf (J 0)) (.node (!m.ok) (.leaf (J 0)) (qr8 m c Ax.accel 16777216 λv=>.leaf (J v)))))
  (by kernel_rfl) (by
   cases hl:okL m c with
   |false=>
    have:=mt yv4.2 (by rw[hl];exact Bool.false_ne_true);simp only[Tree.holds,zg6 hl,sL,ne_eq,sLb,sLc,eq_self,sLd,sLe,sLf]
    (repeat' (first|apply And.intro|intro _))<;>first|rfl|(exfalso;simp_all)
   |true=>
    obtain⟨hm,hc⟩:=yv4.1 hl;simp only[Tree.holds,zg8 hl,hm,hc,sL,ne_eq,sLb,sLc,eq_self,sLd,sLe,sLf]
    exact qr9 (M:=16777216) (qr7 (by omega) hc zp9 hm) hc (by omega) rfl) (by kernel_rfl) (by kernel_rfl)
theorem y94(m:Ma)(c:V4):SCall pP 36 [m.sv,V4.sv c] (J (zg5 m c)):=
 v8 mix [zZ1,z67,z46,z44,fSz 99] ⟨yc9,yk3,yh8,yh5,yq8,trivial⟩ 1000 (let z1:Plan:=.go (.lit (.fork (.go (.lit .all)) (.go (.lit .all))));let z0:Plan:=.go (.lit (.fork z1 z1));.fork (.ln 3 (.lit .all)) (.ln 3 (.fork .all (.go (.lit (.fork (.go (.lit (.fork z0 z0))) (.go (.lit (.fork z0 z0)))))))))
  (t:=.node (!m.ok) (.leaf (J 0)) (.node (!okC c) (.leaf (J 0)) (qr8 m c Ax.accel 16777216 λv=>.leaf (J v))))
  (by kernel_rfl) (by
   cases hl:okL m c with
   |false=>
    have:=mt yv4.2 (by rw[hl];exact Bool.false_ne_true);simp only[Tree.holds,zg6 hl,sL,ne_eq,sLb,sLc,eq_self,sLd,sLe,sLf]
    (repeat' (first|apply And.intro|intro _))<;>first|rfl|(exfalso;simp_all)
   |true=>
    obtain⟨hm,hc⟩:=yv4.1 hl;simp only[Tree.holds,zg8 hl,hm,hc,sL,ne_eq,sLb,sLc,eq_self,sLd,sLe,sLf]
    exact qr9 (M:=16777216) (qr7 (by omega) hc zp9 hm) hc (by omega) rfl) (by kernel_rfl) (by kernel_rfl)
def zV7:Fact:=qj2 260 λm c=>.leaf (J (zg5 m c))
def zV8:Fact:=qj2 36 λm c=>.leaf (J (zg5 m c))
theorem q93:zV7.ok pP:=qj7 (y93)
theorem q94:zV8.ok pP:=qj7 (y94)
def xH3(v n l f:Int):Int:=if 0<l/\0<f then(if lst v f n l<1 then 1 else lst v f n l)else v
def n8(m:Ma)(c:V4)(l f:Int):Int:=match okL m c with
 |true=>xH3 (fourV m c Ax.speed 1048576) (dom c) l f
 |false=>0
variable{l:Int}
theorem xH6{f:Int}(h:okL m c=true):n8 m c l f=xH3 (fourV m c Ax.speed 1048576) (dom c) l f:=by unfold n8;rw[h]
theorem xH4{f:Int}(h:okL m c=false):n8 m c l f=0:=by unfold n8;rw[h]
theorem zM8(hc:okC c=true):1<=dom c/\dom c<=16777216:=⟨zN2 hc,(zN3 c).2⟩
theorem xH8{f:Int}(hv:1<=v/\v<=1048576)(hn:1<=n/\n<=16777216)(hl:0<l/\l<=9223372036854775807)(hf:0<f/\f<=9223372036854775807):okB v f n l=true:=yu9.2 ⟨yv7.2 (by omega),by omega⟩
def jS(v A B x:Int):Int:=if sz x=0 then v else lst v A B (sz x)
def jd(a b:V4)(x y:Int):Int:=x*dom b-y*dom a
def qM5(m:Ma)(a b:V4):Int:=match okL m a&&okC b with
 |true=>jS (jS (jS (jS 1048576 (m.x.jerk*dom a) (dom b) (jd a b a.1 b.1)) (m.y.jerk*dom a) (dom b) (jd a b a.2.1 b.2.1)) (m.z.jerk*dom a) (dom b) (jd a b a.2.2.1 b.2.2.1)) (m.e.jerk*dom a) (dom b) (jd a b a.2.2.2 b.2.2.2)
 |false=>0
theorem qM6{a b:V4}(h:(okL m a&&okC b)=false):qM5 m a b=0:=by unfold qM5;rw[h]
theorem qM8{a b:V4}(h:(okL m a&&okC b)=true):qM5 m a b=jS (jS (jS (jS 1048576 (m.x.jerk*dom a) (dom b) (jd a b a.1 b.1)) (m.y.jerk*dom a) (dom b) (jd a b a.2.1 b.2.1)) (m.z.jerk*dom a) (dom b) (jd a b a.2.2.1 b.2.2.1)) (m.e.jerk*dom a) (dom b) (jd a b a.2.2.2 b.2.2.2):=by unfold qM5;rw[h]
def jT(e:Int->Bool)(x A B v:Int)(K:Int->Tree SV):Tree SV:=.req true (.req true (.req (inR x (-4611686018427387904) 4611686018427387904) (.node (e (sz x)) (.req true (.req (okB v A B (sz x)) (K (lst v A B (sz x))))) (K v))))
theorem qM1{e:Int->Bool}(he:∀n,0<=n->(e n=true↔¬n=0)){A B:Int}{K:Int->Tree SV}(hx:inR x (-4611686018427387904) 4611686018427387904=true)(hb:¬sz x=0->okB v A B (sz x)=true)(h:(K (jS v A B x)).holds L):(jT e x A B v K).holds L:=by
 have z:=xM9 x;refine⟨rfl,rfl,hx,λc=>⟨rfl,hb ((he _ z).1 c),?_⟩,λc=>?_⟩
 .rw[show lst v A B (sz x)=jS v A B x from(if_neg ((he _ z).1 c)).symm];exact h
 .have:sz x=0:=by
   have hn:=mt (he _ z).2 (by rw[c];exact Bool.false_ne_true);omega
  rw[show v=jS v A B x from(if_pos this).symm];exact h
theorem qM0{A B:Int}(hv:0<=v/\v<=1048576)(h:¬sz x=0->okB v A B (sz x)=true):0<=jS v A B x/\jS v A B x<=1048576:=by
 unfold jS
 split
 .exact hv
 .rename_i c
  have:=qU0 (h c);omega
theorem qM2{a b:V4}{y:Int}(hx: -16777216<=x/\x<=16777216)(hy: -16777216<=y/\y<=16777216):(-281474976710656<=x*dom b/\x*dom b<=281474976710656)/\(-281474976710656<=y*dom a/\y*dom a<=281474976710656):=by
 have h1:=q09 (A:=16777216) (B:=16777216) (by omega) hx (zN3 b);have h2:=q09 (A:=16777216) (B:=16777216) (by omega) hy (zN3 a);omega
theorem qM3{a b:V4}{y:Int}(hx: -16777216<=x/\x<=16777216)(hy: -16777216<=y/\y<=16777216):i64.wrap (i64.wrap (x*dom b)-i64.wrap (y*dom a))=jd a b x y/\inR (jd a b x y) (-4611686018427387904) 4611686018427387904=true/\sz (jd a b x y)<=562949953421312:=by
 have r:=qM2 (a:=a) (b:=b) hx hy;unfold jd;rw[w64 (x:=x*dom b) (by omega) (by omega),w64 (x:=y*dom a) (by omega) (by omega),w64 (by omega) (by omega)];refine⟨rfl,j8.2 (by omega),?_⟩
 unfold sz;split<;>omega
variable{j:Int}
theorem qT9{c:Int}:lst v j (n*k) c=lst v (j*n) k c:=by unfold lst;rw[Int.mul_assoc]
theorem qL9:jS v j (n*k) x=jS v (j*n) k x:=by unfold jS;rw[qT9]
theorem qM4(hj:1<=j/\j<=1048576)(hn:1<=n/\n<=16777216):0<=j*n/\j*n<=17592186044416:=by
 have h1:0<=j*n:=Int.mul_nonneg (by omega) (by omega);have h2:j*n<=1048576*16777216:=Int.mul_le_mul hj.2 hn.2 (by omega) (by omega);omega
theorem zM9(hn:1<=n/\n<=16777216)(hk:1<=k/\k<=16777216):0<=n*k/\n*k<=281474976710656:=by
 have h1:0<=n*k:=Int.mul_nonneg (by omega) (by omega);have h2:n*k<=16777216*16777216:=Int.mul_le_mul hn.2 hk.2 (by omega) (by omega);omega
theorem xu0(m:Ma)(c:V4)(l f:Int)(h:(m7 l&&m7 f)=true):SCall pP 259 [m.sv,V4.sv c,J l,J f] (J (n8 m c l f)):=
 v8 mix [zZ0,z66,z45,zX3,fSz 290] ⟨yc8,yk2,yh7,yb4,yq7,trivial⟩ 1000 (let z1:Plan:=.go (.lit (.fork (.lit (.lit (.fork .all .all))) (.lit (.lit (.lit .all)))));let z0:Plan:=.go (.lit (.fork z1 z1));let z2:Plan:=.go (.lit (.fork z0 z0));.go (.lit (.fork (.lit .all) (.go (.lit (.fork .all (.go (.lit (.fork (.go (.lit (.fork z2 z2))) (.go (.lit (.fork z2 z2))))))))))))
  (t:=.req true (.node (!okC c) (.leaf (J 0)) (.node (!m.ok) (.leaf (J 0)) (qr8 m c Ax.speed 1048576 λv=>.node (decide (l>0)) (.node (decide (f>0)) (.req (okB v f (dom c) l) (.leaf (J (if(if lst v f (dom c) l>1 then lst v f (dom c) l else 1)<v then(if lst v f (dom c) l>1 then lst v f (dom c) l else 1)else v)))) (.leaf (J v))) (.leaf (J v))))))
  (by kernel_rfl) (by
   rw[Bool.and_eq_true]at h;have h1:=j8.1 h.1;have h2:=j8.1 h.2
   cases hl:okL m c with
   |false=>
    have:=mt yv4.2 (by rw[hl];exact Bool.false_ne_true);simp only[Tree.holds,xH4 hl,sL,ne_eq,sLb,sLc,eq_self,sLd,sLe,sLf]
    (repeat' (first|apply And.intro|intro _))<;>first|rfl|(exfalso;simp_all)
   |true=>
    obtain⟨hm,hc⟩:=yv4.1 hl;simp only[Tree.holds,xH6 hl,hm,hc,sL,ne_eq,sLb,sLc,eq_self,sLd,sLe,sLf];have F:=qr7 (M:=1048576) (m:=m) (c:=c) (s:=Ax.speed) (by omega) hc zq6 hm;have fv:=qs0 F (v:=1048576) (by omega);refine qr9 (M:=1048576) F hc (by omega) ?_;unfold xH3;generalize fourV m c Ax.speed 1048576=v at fv ⊢;have dn:=zM8 hc
    have ob:=λ(a:0<l) (b:0<f)=>xH8 (v:=v) (n:=dom c) (l:=l) (f:=f) (by omega) dn (by omega) (by omega)
    simp only[Tree.holds,sL,ne_eq,sLb,sLc,eq_self,sLd,sLe,sLf];refine⟨λa=>⟨λb=>⟨ob a b,?_⟩,λb=>?_⟩,λa=>?_⟩
    .have ln:=qU0 (ob a b)
     rw[if_pos (show 0<l/\0<f from⟨a,b⟩)]
     refine xM6 ?_;(repeat' split)<;>omega
    .rw[if_neg (show ¬(0<l/\0<f) by omega)]
    .rw[if_neg (show ¬(0<l/\0<f) by omega)]) (by kernel_rfl) (by kernel_rfl)
theorem xu1(m:Ma)(c:V4)(l f:Int)(h:(m7 l&&m7 f)=true):SCall pP 35 [m.sv,V4.sv c,J l,J f] (J (n8 m c l f)):=
 v8 mix [zZ1,z67,z46,z44,fSz 99] ⟨yc9,yk3,yh8,yh5,yq8,trivial⟩ 1000 (let z1:Plan:=.go (.lit (.fork (.lit (.lit (.fork (.fork .all .all) .all))) (.lit (.lit (.lit .all)))));let z0:Plan:=.go (.lit (.fork z1 z1));let z2:Plan:=.go (.lit (.fork z0 z0));.fork (.ln 3 (.lit .all)) (.ln 3 (.fork .all (.go (.lit (.fork (.go (.lit (.fork z2 z2))) (.go (.lit (.fork z2 z2)))))))))
  (t:=.node (!m.ok) (.leaf (J 0)) (.node (!okC c) (.leaf (J 0)) (qr8 m c Ax.speed 1048576 λv=>.node (decide (l>0)) (.node (decide (f>0)) (.req (okB v f (dom c) l) (.node (decide (lst v f (dom c) l<1)) (.leaf (J 1)) (.leaf (J (lst v f (dom c) l))))) (.leaf (J v))) (.leaf (J v)))))
  (by kernel_rfl) (by
   rw[Bool.and_eq_true]at h;have h1:=j8.1 h.1;have h2:=j8.1 h.2
   cases hl:okL m c with
   |false=>
    have:=mt yv4.2 (by rw[hl];exact Bool.false_ne_true);simp only[Tree.holds,xH4 hl,sL,ne_eq,sLb,sLc,eq_self,sLd,sLe,sLf]
    (repeat' (first|apply And.intro|intro _))<;>first|rfl|(exfalso;simp_all)
   |true=>
    obtain⟨hm,hc⟩:=yv4.1 hl;simp only[Tree.holds,xH6 hl,hm,hc,sL,ne_eq,sLb,sLc,eq_self,sLd,sLe,sLf];have F:=qr7 (M:=1048576) (m:=m) (c:=c) (s:=Ax.speed) (by omega) hc zq6 hm;have fv:=qs0 F (v:=1048576) (by omega);refine qr9 (M:=1048576) F hc (by omega) ?_;unfold xH3;generalize fourV m c Ax.speed 1048576=v at fv ⊢;have dn:=zM8 hc
    have ob:=λ(a:0<l) (b:0<f)=>xH8 (v:=v) (n:=dom c) (l:=l) (f:=f) (by omega) dn (by omega) (by omega)
    simp only[Tree.holds,sL,ne_eq,sLb,sLc,eq_self,sLd,sLe,sLf];refine⟨λa=>⟨λb=>⟨ob a b,?_⟩,λb=>?_⟩,λa=>?_⟩
    .have ln:=qU0 (ob a b)
     rw[if_pos (show 0<l/\0<f from⟨a,b⟩)];exact⟨λd=>by rw[if_pos d],λd=>by rw[if_neg d]⟩
    .rw[if_neg (show ¬(0<l/\0<f) by omega)]
    .rw[if_neg (show ¬(0<l/\0<f) by omega)]) (by kernel_rfl) (by kernel_rfl)
theorem xi0(m:Ma)(a b:V4):SCall pP 261 [m.sv,V4.sv a,V4.sv b] (J (qM5 m a b)):=
 v8 mix [zZ0,z66,z45,zX3,fSz 290] ⟨yc8,yk2,yh7,yb4,yq7,trivial⟩ 1000 (let z2:Plan:=.lit (.all);let z1:Plan:=.go (.lit (.fork (.go z2) (.go z2)));let z0:Plan:=.go (.lit (.fork z1 z1));.go (.lit (.fork z2 (.go (.lit (.fork z2 (.go (.lit (.fork (.all) (.go (.lit (.fork (.go (.lit (.fork z0 z0))) (.go (.lit (.fork z0 z0)))))))))))))))
  (t:=.req true (.node (!okC a) (.leaf (J 0)) (.req true (.node (!okC b) (.leaf (J 0)) (.node (!m.ok) (.leaf (J 0)) (jT (λn=>decide (n>0)) (i64.wrap (i64.wrap (a.1*dom b)-i64.wrap (b.1*dom a))) (i64.wrap (m.x.jerk*dom a)) (dom b) 1048576 (λv=>jT (λn=>decide (n>0)) (i64.wrap (i64.wrap (a.2.1*dom b)-i64.wrap (b.2.1*dom a))) (i64.wrap (m.y.jerk*dom a)) (dom b) v (λv=>jT (λn=>decide (n>0)) (i64.wrap (i64.wrap (a.2.2.1*dom b)-i64.wrap (b.2.2.1*dom a))) (i64.wrap (m.z.jerk*dom a)) (dom b) v (λv=>jT (λn=>decide (n>0)) (i64.wrap (i64.wrap (a.2.2.2*dom b)-i64.wrap (b.2.2.2*dom a))) (i64.wrap (m.e.jerk*dom a)) (dom b) v (λv=>.leaf (J v)))))))))))
  (by kernel_rfl) (by
   cases hl:okL m a&&okC b with
   |false=>
    have hn:¬((m.ok=true/\okC a=true)/\okC b=true):=λk=>by
     have:(okL m a&&okC b)=true:=by rw[Bool.and_eq_true];exact⟨yv4.2 k.1,k.2⟩
     rw[hl]at this;cases this
    simp only[Tree.holds,qM6 hl,sL,ne_eq,sLb,sLc,eq_self,sLd,sLe,sLf]
    (repeat' (first|apply And.intro|intro _))<;>first|rfl|(exfalso;simp_all)
   |true=>
    have h2:=hl;rw[Bool.and_eq_true]at h2;obtain⟨hm,ha⟩:=yv4.1 h2.1;have hb:=h2.2;have mo:=(Ma.ok_iff m).1 hm;have ra:=(yv1.1 ha).1;have rb:=(yv1.1 hb).1;have da:=zM8 ha;have db:=zM8 hb;have j1:=zq3 _ mo.1;have j2:=zq3 _ mo.2.1;have j3:=zq3 _ mo.2.2.1;have j4:=zq3 _ mo.2.2.2.1;obtain⟨w1,i1,z1⟩:=qM3 (a:=a) (b:=b) (x:=a.1) (y:=b.1) (by omega) (by omega);obtain⟨w2,i2,z2⟩:=qM3 (a:=a) (b:=b) (x:=a.2.1) (y:=b.2.1) (by omega) (by omega);obtain⟨w3,i3,z3⟩:=qM3 (a:=a) (b:=b) (x:=a.2.2.1) (y:=b.2.2.1) (by omega) (by omega);obtain⟨w4,i4,z4'⟩:=qM3 (a:=a) (b:=b) (x:=a.2.2.2) (y:=b.2.2.2) (by omega) (by omega);have m1:=qM4 j1 da;have m2:=qM4 j2 da;have m3:=qM4 j3 da;have m4:=qM4 j4 da;have mm:=zM9 da db
    have ob:∀{v A B x:Int},0<=v/\v<=1048576->0<=A/\A<=17592186044416->0<=B/\B<=281474976710656->sz x<=562949953421312->¬sz x=0->okB v A B (sz x)=true:=λ{v A B x} hv hA hB hx h0=>yu9.2 ⟨yv7.2 (by have:=xM9 x;omega),by omega⟩
    rw[w1,w2,w3,w4];simp only[Tree.holds,qM8 hl,hm,ha,hb,sL,ne_eq,sLb,sLc,eq_self,sLd,sLe,sLf];rw[w64 (x:=m.x.jerk*dom a) (by omega) (by omega),w64 (x:=m.y.jerk*dom a) (by omega) (by omega),w64 (x:=m.z.jerk*dom a) (by omega) (by omega),w64 (x:=m.e.jerk*dom a) (by omega) (by omega)]
    have v0:(0:Int)<=1048576/\(1048576:Int)<=1048576:=by omega
    have b1:=ob (x:=jd a b a.1 b.1) v0 (A:=m.x.jerk*dom a) (B:=dom b) m1 (by omega) z1;have v1:=qM0 v0 b1;have b2:=ob (x:=jd a b a.2.1 b.2.1) v1 (A:=m.y.jerk*dom a) (B:=dom b) m2 (by omega) z2;have v2:=qM0 v1 b2;have b3:=ob (x:=jd a b a.2.2.1 b.2.2.1) v2 (A:=m.z.jerk*dom a) (B:=dom b) m3 (by omega) z3;have v3:=qM0 v2 b3;have b4:=ob (x:=jd a b a.2.2.2 b.2.2.2) v3 (A:=m.e.jerk*dom a) (B:=dom b) m4 (by omega) z4'
    exact qM1 (λn hn=>⟨λk=>by have:=of_decide_eq_true k;omega,λk=>decide_eq_true (by omega)⟩) i1 b1 (qM1 (λn hn=>⟨λk=>by have:=of_decide_eq_true k;omega,λk=>decide_eq_true (by omega)⟩) i2 b2 (qM1 (λn hn=>⟨λk=>by have:=of_decide_eq_true k;omega,λk=>decide_eq_true (by omega)⟩) i3 b3 (qM1 (λn hn=>⟨λk=>by have:=of_decide_eq_true k;omega,λk=>decide_eq_true (by omega)⟩) i4 b4 rfl)))) (by kernel_rfl) (by kernel_rfl)
theorem xi1(m:Ma)(a b:V4):SCall pP 37 [m.sv,V4.sv a,V4.sv b] (J (qM5 m a b)):=
 v8 mix [zZ1,z67,z46,z44,fSz 99] ⟨yc9,yk3,yh8,yh5,yq8,trivial⟩ 1000 (let z1:Plan:=.go (.lit (.fork (.go (.lit .all)) (.go (.lit .all))));let z0:Plan:=.go (.lit (.fork z1 z1));.fork (.ln 7 (.lit .all)) (.ln 3 (.fork (.ln 3 (.lit .all)) (.ln 3 (.fork .all (.go (.lit (.fork (.go (.lit (.fork z0 z0))) (.go (.lit (.fork z0 z0)))))))))))
  (t:=let y0:=i64.wrap (dom a*dom b);.node (!m.ok) (.leaf (J 0)) (.node (!okC a) (.leaf (J 0)) (.node (!okC b) (.leaf (J 0)) (jT (λn=>n != 0) (i64.wrap (i64.wrap (a.1*dom b)-i64.wrap (b.1*dom a))) m.x.jerk y0 1048576 (λv=>jT (λn=>n != 0) (i64.wrap (i64.wrap (a.2.1*dom b)-i64.wrap (b.2.1*dom a))) m.y.jerk y0 v (λv=>jT (λn=>n != 0) (i64.wrap (i64.wrap (a.2.2.1*dom b)-i64.wrap (b.2.2.1*dom a))) m.z.jerk y0 v (λv=>jT (λn=>n != 0) (i64.wrap (i64.wrap (a.2.2.2*dom b)-i64.wrap (b.2.2.2*dom a))) m.e.jerk y0 v (λv=>.leaf (J v)))))))))
  (by kernel_rfl) (by
   cases hl:okL m a&&okC b with
   |false=>
    have hn:¬((m.ok=true/\okC a=true)/\okC b=true):=λk=>by
     have:(okL m a&&okC b)=true:=by rw[Bool.and_eq_true];exact⟨yv4.2 k.1,k.2⟩
     rw[hl]at this;cases this
    simp only[Tree.holds,qM6 hl,sL,ne_eq,sLb,sLc,eq_self,sLd,sLe,sLf]
    (repeat' (first|apply And.intro|intro _))<;>first|rfl|(exfalso;simp_all)
   |true=>
    have h2:=hl;rw[Bool.and_eq_true]at h2;obtain⟨hm,ha⟩:=yv4.1 h2.1;have hb:=h2.2;have mo:=(Ma.ok_iff m).1 hm;have ra:=(yv1.1 ha).1;have rb:=(yv1.1 hb).1;have da:=zM8 ha;have db:=zM8 hb;have j1:=zq3 _ mo.1;have j2:=zq3 _ mo.2.1;have j3:=zq3 _ mo.2.2.1;have j4:=zq3 _ mo.2.2.2.1;obtain⟨w1,i1,z1⟩:=qM3 (a:=a) (b:=b) (x:=a.1) (y:=b.1) (by omega) (by omega);obtain⟨w2,i2,z2⟩:=qM3 (a:=a) (b:=b) (x:=a.2.1) (y:=b.2.1) (by omega) (by omega);obtain⟨w3,i3,z3⟩:=qM3 (a:=a) (b:=b) (x:=a.2.2.1) (y:=b.2.2.1) (by omega) (by omega);obtain⟨w4,i4,z4'⟩:=qM3 (a:=a) (b:=b) (x:=a.2.2.2) (y:=b.2.2.2) (by omega) (by omega);have m1:=qM4 j1 da;have m2:=qM4 j2 da;have m3:=qM4 j3 da;have m4:=qM4 j4 da;have mm:=zM9 da db
    have ob:∀{v A B x:Int},0<=v/\v<=1048576->0<=A/\A<=17592186044416->0<=B/\B<=281474976710656->sz x<=562949953421312->¬sz x=0->okB v A B (sz x)=true:=λ{v A B x} hv hA hB hx h0=>yu9.2 ⟨yv7.2 (by have:=xM9 x;omega),by omega⟩
    rw[w1,w2,w3,w4];simp only[Tree.holds,qM8 hl,hm,ha,hb,sL,ne_eq,sLb,sLc,eq_self,sLd,sLe,sLf];rw[w64 (x:=dom a*dom b) (by omega) (by omega)];simp only[<-qL9]
    have v0:(0:Int)<=1048576/\(1048576:Int)<=1048576:=by omega
    have b1:=ob (x:=jd a b a.1 b.1) v0 (A:=m.x.jerk) (B:=dom a*dom b) (by omega) mm z1;have v1:=qM0 v0 b1;have b2:=ob (x:=jd a b a.2.1 b.2.1) v1 (A:=m.y.jerk) (B:=dom a*dom b) (by omega) mm z2;have v2:=qM0 v1 b2;have b3:=ob (x:=jd a b a.2.2.1 b.2.2.1) v2 (A:=m.z.jerk) (B:=dom a*dom b) (by omega) mm z3;have v3:=qM0 v2 b3;have b4:=ob (x:=jd a b a.2.2.2 b.2.2.2) v3 (A:=m.e.jerk) (B:=dom a*dom b) (by omega) mm z4'
    exact qM1 (λn hn=>by simp) i1 b1 (qM1 (λn hn=>by simp) i2 b2 (qM1 (λn hn=>by simp) i3 b3 (qM1 (λn hn=>by simp) i4 b4 rfl)))) (by kernel_rfl) (by kernel_rfl)
def qj5(f:FuncId)(h:Ma->V4->Int->Int->Tree SV):Fact:=⟨f,λargs=>match args with
 |[.agg [.int .i64 a0,.int .i64 a1,.int .i64 a2,.int .i64 a3,.int .i64 a4,.int .i64 a5,.int .i64 a6,.int .i64 b0,.int .i64 b1,.int .i64 b2,.int .i64 b3,.int .i64 b4,.int .i64 b5,.int .i64 b6,.int .i64 c0,.int .i64 c1,.int .i64 c2,.int .i64 c3,.int .i64 c4,.int .i64 c5,.int .i64 c6,.int .i64 d0,.int .i64 d1,.int .i64 d2,.int .i64 d3,.int .i64 d4,.int .i64 d5,.int .i64 d6,.bool xy,.int .i64 t],.agg [.int .i64 x,.int .i64 y,.int .i64 z,.int .i64 w],.int .i64 i,.int .i64 j] =>some (h ⟨⟨a0,a1,a2,a3,a4,a5,a6⟩,⟨b0,b1,b2,b3,b4,b5,b6⟩,⟨c0,c1,c2,c3,c4,c5,c6⟩,⟨d0,d1,d2,d3,d4,d5,d6⟩,xy,t⟩ (x,y,z,w) i j)
 |_=>none⟩
theorem qj6{f:FuncId}{h:Ma->V4->Int->Int->Tree SV}(k:∀m v i j,(h m v i j).says (SCall P f [m.sv,V4.sv v,J i,J j])):(qj5 f h).ok P:=λargs t ht=>by
 simp only[qj5]at ht
 split at ht
 .injection ht with ht;subst ht;exact k ⟨⟨_,_,_,_,_,_,_⟩,⟨_,_,_,_,_,_,_⟩,⟨_,_,_,_,_,_,_⟩,⟨_,_,_,_,_,_,_⟩,_,_⟩ (_,_,_,_) _ _
 .cases ht
def qj3(f:FuncId)(h:Ma->V4->V4->Tree SV):Fact:=⟨f,λargs=>match args with
 |[.agg [.int .i64 a0,.int .i64 a1,.int .i64 a2,.int .i64 a3,.int .i64 a4,.int .i64 a5,.int .i64 a6,.int .i64 b0,.int .i64 b1,.int .i64 b2,.int .i64 b3,.int .i64 b4,.int .i64 b5,.int .i64 b6,.int .i64 c0,.int .i64 c1,.int .i64 c2,.int .i64 c3,.int .i64 c4,.int .i64 c5,.int .i64 c6,.int .i64 d0,.int .i64 d1,.int .i64 d2,.int .i64 d3,.int .i64 d4,.int .i64 d5,.int .i64 d6,.bool xy,.int .i64 t],.agg [.int .i64 x,.int .i64 y,.int .i64 z,.int .i64 w],.agg [.int .i64 x2,.int .i64 y2,.int .i64 z2,.int .i64 w2]] =>some (h ⟨⟨a0,a1,a2,a3,a4,a5,a6⟩,⟨b0,b1,b2,b3,b4,b5,b6⟩,⟨c0,c1,c2,c3,c4,c5,c6⟩,⟨d0,d1,d2,d3,d4,d5,d6⟩,xy,t⟩ (x,y,z,w) (x2,y2,z2,w2))
 |_=>none⟩
theorem qj4{f:FuncId}{h:Ma->V4->V4->Tree SV}(k:∀m v u,(h m v u).says (SCall P f [m.sv,V4.sv v,V4.sv u])):(qj3 f h).ok P:=λargs t ht=>by
 simp only[qj3]at ht
 split at ht
 .injection ht with ht;subst ht;exact k ⟨⟨_,_,_,_,_,_,_⟩,⟨_,_,_,_,_,_,_⟩,⟨_,_,_,_,_,_,_⟩,⟨_,_,_,_,_,_,_⟩,_,_⟩ (_,_,_,_) (_,_,_,_)
 .cases ht
def qb7:Fact:=qj5 259 λm c l f=>.req (m7 l&&m7 f) (.leaf (J (n8 m c l f)))
def qb8:Fact:=qj5 35 λm c l f=>.req (m7 l&&m7 f) (.leaf (J (n8 m c l f)))
theorem yp6:qb7.ok pP:=qj6 (λm c l f h=>xu0 m c l f h)
theorem yp7:qb8.ok pP:=qj6 (λm c l f h=>xu1 m c l f h)
def z33:Fact:=qj3 261 λm a b=>.leaf (J (qM5 m a b))
def z34:Fact:=qj3 37 λm a b=>.leaf (J (qM5 m a b))
theorem yg6:z33.ok pP:=qj4 (xi0)
theorem yg7:z34.ok pP:=qj4 (xi1)
section
variable {m:Ma} {c:V4}
theorem zg7(h:okL m c=true):1<=zg5 m c/\zg5 m c<=16777216:=by
 obtain⟨hm,hc⟩:=yv4.1 h;rw[zg8 h];exact qs0 (qr7 (M:=16777216) (by omega) hc zp9 hm) (v:=16777216) (by omega)
theorem xH9(h:okL m c=true):1<=fourV m c Ax.speed 1048576/\fourV m c Ax.speed 1048576<=1048576:=by
 obtain⟨hm,hc⟩:=yv4.1 h;exact qs0 (qr7 (M:=1048576) (by omega) hc zq6 hm) (v:=1048576) (by omega)
theorem xH7(h:okL m c=true):n8 m c 0 0=fourV m c Ax.speed 1048576:=by
 rw[xH6 h];unfold xH3;rw[if_neg (by omega)]
theorem xH5(h:okL m c=true){l f:Int}(hl:l<=9223372036854775807)(hf:f<=9223372036854775807):1<=n8 m c l f/\n8 m c l f<=n8 m c 0 0/\n8 m c 0 0<=1048576:=by
 have t:=xH9 h;have hc:=(yv4.1 h).2;rw[xH7 h];refine⟨?_,?_,t.2⟩
 all_goals
  rw[xH6 h];unfold xH3
  split
  .rename_i k
   have b:=xH8 (v:=fourV m c Ax.speed 1048576) (n:=dom c) (l:=l) (f:=f) (by omega) (zM8 hc) (by omega) (by omega);have n:=qU0 b
   split<;>omega
  .omega
theorem qM7(m:Ma)(a b:V4):0<=qM5 m a b/\qM5 m a b<=1048576:=by
 cases hl:okL m a&&okC b with
 |false=>rw[qM6 hl];omega
 |true=>
  have h2:=hl;rw[Bool.and_eq_true]at h2;obtain⟨hm,ha⟩:=yv4.1 h2.1;have hb:=h2.2;have mo:=(Ma.ok_iff m).1 hm;have ra:=(yv1.1 ha).1;have rb:=(yv1.1 hb).1;have da:=zM8 ha;have db:=zM8 hb;have j1:=zq3 _ mo.1;have j2:=zq3 _ mo.2.1;have j3:=zq3 _ mo.2.2.1;have j4:=zq3 _ mo.2.2.2.1;obtain⟨w1,i1,z1⟩:=qM3 (a:=a) (b:=b) (x:=a.1) (y:=b.1) (by omega) (by omega);obtain⟨w2,i2,z2⟩:=qM3 (a:=a) (b:=b) (x:=a.2.1) (y:=b.2.1) (by omega) (by omega);obtain⟨w3,i3,z3⟩:=qM3 (a:=a) (b:=b) (x:=a.2.2.1) (y:=b.2.2.1) (by omega) (by omega);obtain⟨w4,i4,z4'⟩:=qM3 (a:=a) (b:=b) (x:=a.2.2.2) (y:=b.2.2.2) (by omega) (by omega);have m1:=qM4 j1 da;have m2:=qM4 j2 da;have m3:=qM4 j3 da;have m4:=qM4 j4 da
  have ob:∀{v A B x:Int},0<=v/\v<=1048576->0<=A/\A<=17592186044416->0<=B/\B<=281474976710656->sz x<=562949953421312->1<=B->¬sz x=0->okB v A B (sz x)=true:=λ{v A B x} hv hA hB hx _ h0=>yu9.2 ⟨yv7.2 (by have:=xM9 x;omega),by omega⟩
  rw[qM8 hl]
  have v0:(0:Int)<=1048576/\(1048576:Int)<=1048576:=by omega
  have v1:=qM0 v0 (ob (A:=m.x.jerk*dom a) (B:=dom b) (x:=jd a b a.1 b.1) v0 m1 (by omega) z1 db.1);have v2:=qM0 v1 (ob (A:=m.y.jerk*dom a) (B:=dom b) (x:=jd a b a.2.1 b.2.1) v1 m2 (by omega) z2 db.1);have v3:=qM0 v2 (ob (A:=m.z.jerk*dom a) (B:=dom b) (x:=jd a b a.2.2.1 b.2.2.1) v2 m3 (by omega) z3 db.1);exact qM0 v3 (ob (A:=m.e.jerk*dom a) (B:=dom b) (x:=jd a b a.2.2.2 b.2.2.2) v3 m4 (by omega) z4' db.1)
theorem xI2{v M:Int}(hv:0<=v/\v<=M):0<=v*v/\v*v<=M*M:=⟨Int.mul_nonneg hv.1 hv.1,Int.mul_le_mul hv.2 hv.2 hv.1 (by omega)⟩
theorem xI1{v M:Int}(hv:1<=v/\v<=M):1<=v*v/\v*v<=M*M:=by
 have h1:1*1<=v*v:=Int.mul_le_mul hv.1 hv.1 (by omega) (by omega);exact⟨by omega,(xI2 (v:=v) (M:=M) (by omega)).2⟩
end
def qp7:List Int->Int->Int
 |[],d=>d
 |n::l,d=>if 0<n then n else qp7 l d
def qB1:List Int->Bool
 |[] =>false
 |n::_=>n==0
def n7(f:Fw):Int:=if f.moving=true/\0<f.active then f.active else qp7 f.lines (f.line+1)
def y32(f:Fw):Bool:=match f.moving with
 |true=>f.active==0
 |false=>qB1 f.lines
variable{f:Fw}
theorem y35(h:f.moving=true):y32 f=(f.active==0):=by unfold y32;rw[h]
theorem y34(h:f.moving=false):y32 f=qB1 f.lines:=by unfold y32;rw[h]
def xE9(f:Fw):Bool:=zu8 f.pos&& (decide (f.lines.length=f.queue.length)&& (decide (f.queue.length<=32)&& (inR f.line 0 1099511627776&& (inR f.active 0 1099511627776&&f.lines.all λn=>inR n 0 1099511627776))))
theorem xF0:xE9 f=true↔zu8 f.pos=true/\f.lines.length=f.queue.length/\f.queue.length<=32/\(0<=f.line/\f.line<=1099511627776)/\(0<=f.active/\f.active<=1099511627776)/\∀n∈f.lines,0<=n/\n<=1099511627776:=by
 simp only[xE9,Bool.and_eq_true,decide_eq_true_eq,j8,List.all_eq_true]
theorem qq0:∀ (l:List Int) (d:Int),(∀n∈l,0<=n/\n<=1099511627776)->0<=d/\d<=1099511627777->0<=qp7 l d/\qp7 l d<=1099511627777
 |[],d,_,h=>h
 |n::l,d,k,h=>by
  unfold qp7;have:=k n List.mem_cons_self
  split
  .omega
  .exact qq0 l d (λx hx=>k x (List.mem_cons_of_mem _ hx)) h
theorem yC5(h:xE9 f=true):0<=n7 f/\n7 f<=1099511627777:=by
 obtain⟨_,_,_,h1,h2,h3⟩:=xF0.1 h;unfold n7
 split
 .omega
 .exact qq0 _ _ h3 (by omega)
def qT8(f:Fw):V4:=if f.moving=true/\0<f.active then zu2 f else if f.homed=true/\y32 f=false then f.pos else f.ret
def qT7(f:Fw):Fw:={f with ret:=qT8 f,line:=n7 f-1,back:=f.back||f.homed,homed:=false,moving:=false,queue:=[],lines:=[],mo:=m0,active:=0,dwell:=0,waits:=0}
def zA1(f:Fw):Bool:=!f.moving&& (!f.queue.isEmpty&& (!(f.mode==3)&&f.dwell==0))
theorem zA2:zA1 f=true↔f.moving=false/\¬f.queue.length=0/\¬f.mode=3/\f.dwell=0:=by
 simp only[zA1,Bool.and_eq_true,Bool.not_eq_true',beq_iff_eq,beq_eq_false_iff_ne,ne_eq,List.isEmpty_eq_false_iff,List.length_eq_zero_iff]
def yX5(g:Gu)(r:Int):Gu:=if g.fault=0 then g else g.rest r
def yY1(g:Gu)(r:Int):Bool:=g.fault==0||g.resE r==0
theorem yY2{g:Gu}{r:Int}:yY1 g r=true↔g.fault=0\/g.resE r=0:=by simp only[yY1,Bool.or_eq_true,beq_iff_eq]
def xS5(f:Fw):Fw:={f with g0:=f.g0.touch,g1:=f.g1.touch}
def xK3(f:Fw):Fw:={f with g0:=f.g0.stop,g1:=f.g1.stop}
def xK2(f:Fw):Fw:={qT7 (xK3 f)with mode:=3}
def q31(m:Ma)(c:V4)(len feed:Int):Bk:=(c,zg5 m c,0,n8 m c len feed*n8 m c len feed,0)
def zA4(m:Ma)(q:List Bk)(i:Nat):Int:=if i=0 then 0 else qM5 m (q.getD (i-1) dBk).1 (q.getD i dBk).1*qM5 m (q.getD (i-1) dBk).1 (q.getD i dBk).1
def zB0(m:Ma)(q:List Bk):List Int:=(List.range q.length).map (zA4 m q)
def b9(f:Fw):Int:=if f.moving=true then f.mo.1.2.2.2.2 else if f.queue.length=0 then 0 else(f.queue.getD 0 dBk).2.2.1
def t4(f:Fw)(c:V4)(len:Int):List Bk:=f.queue++[q31 f.ma c len f.feed]
def zj1(f:Fw)(c:V4)(len:Int):Bool:=decide (b9 f<=crL (t4 f c len) 0)&&decide (gL (t4 f c len) (zB0 f.ma (t4 f c len)) (b9 f) 0=b9 f)
theorem zj2{len:Int}:zj1 f c len=true↔b9 f<=crL (t4 f c len) 0/\gL (t4 f c len) (zB0 f.ma (t4 f c len)) (b9 f) 0=b9 f:=by simp only[zj1,Bool.and_eq_true,decide_eq_true_eq]
def s9(f:Fw)(c:V4)(len line:Int):Fw:={f with queue:=plB (t4 f c len) (gL (t4 f c len) (zB0 f.ma (t4 f c len)) (b9 f)),lines:=f.lines++[line]}
theorem q47(f:Fw)(h:f.queue=[])(k:f.lines=[]):v5 (o6 f) f.cells:=by
 obtain⟨⟩:=f;dsimp only at h k;subst h k
 repeat(first|exact trivial|refine⟨.same _,?_⟩|refine⟨.nil _,?_⟩)
def qA0(h k:Int):Bool:=!(i64.wrap ((BitVec.ofInt 64 h &&&BitVec.ofInt 64 k).toNat:Int)==0)
theorem qA1{h:Int}:qA0 h k=true↔¬i64.wrap ((BitVec.ofInt 64 h &&&BitVec.ofInt 64 k).toNat:Int)=0:=by simp only[qA0,Bool.not_eq_true',beq_eq_false_iff_ne,ne_eq]
def t6(f:Fw)(c:Gc.C):V3:=(if qA0 c.has 1=true then c.x else f.loc.1,if qA0 c.has 2=true then c.y else f.loc.2.1,if qA0 c.has 4=true then c.z else f.loc.2.2)
def s0(f:Fw)(c:Gc.C):Int:=if qA0 c.has 8=true then c.e else f.e
def sqs(a b:V3):Int:=(b.1-a.1)*(b.1-a.1)+(b.2.1-a.2.1)*(b.2.1-a.2.1)+(b.2.2-a.2.2)*(b.2.2-a.2.2)
def qR3(f:Fw)(p:V3)(e:Int):Int:=if isq (sqs f.loc p)=0 then(if e-f.e<f.e-e then f.e-e else e-f.e)else isq (sqs f.loc p)
def d8(f:Fw)(c:Gc.C):Fw:=if qA0 c.has 16=true then {f with feed:=c.f} else f
def q01(f:Fw)(c:Gc.C):V4:=qZ3 f.ma (t6 f c) (s0 f c)
def qZ7(f:Fw)(c:Gc.C):V4:=xL6 (q01 f c) (qw5 f)
def tlE(g:Fw)(u:V3)(e:Int)(p d:V4):Int:=match v9 p&&v9 d with
 |false=>2
 |true=>match nz4 d with
  |false=>0
  |true=>if 32<=g.queue.length then 18 else if zj1 g d (qR3 g u e)=true then 0 else 2
def tlF(g:Fw)(line:Int)(u:V3)(e:Int)(d:V4):Fw:=match nz4 d with
 |false=>{g with loc:=u,e:=e}
 |true=>{s9 g d (qR3 g u e) line with loc:=u,e:=e}
def tlO(g:Fw)(line:Int)(u:V3)(e:Int)(p d:V4):Fw:=if tlE g u e p d=0 then tlF g line u e d else g
def qZ8(f:Fw)(line:Int)(c:Gc.C):Int:=
 if line<1\/f.homed=false\/f.back=true\/¬f.mode=1 then 14
 else if qH4 f.ma (t6 f c)=false\/qY8 f.ma (t6 f c) (s0 f c)=false then 8
 else if f.e<s0 f c/\f.r0<f.cold then 15
 else 0
def qZ6(f:Fw)(line:Int)(c:Gc.C):Int:=if qZ8 f line c=0 then tlE (d8 f c) (t6 f c) (s0 f c) (q01 f c) (qZ7 f c)else qZ8 f line c
def qZ9(f:Fw)(line:Int)(c:Gc.C):Fw:=tlF (d8 f c) line (t6 f c) (s0 f c) (qZ7 f c)
def q00(f:Fw)(line:Int)(c:Gc.C):Fw:=if qZ8 f line c=0 then tlO (d8 f c) line (t6 f c) (s0 f c) (q01 f c) (qZ7 f c)else if qZ8 f line c=14 then f else d8 f c
def qE3(f:Fw):Int:=if f9 f.ma f.pos.2.2.2=true then xW0 f.ma.e f.pos.2.2.2 else 0
def qD5(f:Fw)(line:Int):Bool:=(line==0&&f.homed)||f.back
def qE6(f:Fw)(line:Int):V4:=if line=0/\f.homed=true then f.pos else f.ret
def qD2(f:Fw)(line:Int):Fw:={f with ret:=qE6 f line,back:=false,pos:=(0,0,0,f.pos.2.2.2),homed:=true,loc:=(0,0,0),e:=qE3 f}
def qD7(f:Fw)(line:Int):V4:=(0,0,(qE6 f line).2.2.1,0)
def qE0(f:Fw)(line:Int):V4:=((qE6 f line).1,(qE6 f line).2.1,0,0)
def backOk(f:Fw)(c:V4):Bool:=!nz4 c||zj1 f c 0
def zs0(f:Fw)(c:V4):Fw:=if nz4 c=true then s9 f c 0 0 else f
def qE8(f:Fw)(line:Int):Int:=
 if qD5 f line=false then 0
 else if backOk (qD2 f line) (qD7 f line)=false then 2
 else if backOk (zs0 (qD2 f line) (qD7 f line)) (qE0 f line)=false then 2 else 0
def yN6(m:Ma)(p:V4):V3:=((yN7 m p).1,(yN7 m p).2.1,(yN7 m p).2.2.1)
def qE4(f:Fw)(line:Int):Fw:=
 if qD5 f line=false then qD2 f line
 else {zs0 (zs0 (qD2 f line) (qD7 f line)) (qE0 f line)with loc:=yN6 f.ma (qE6 f line)}
def resE(f:Fw):Int:=if ¬f.mode=3 then 14 else if yY1 f.g0 f.r0=false\/yY1 f.g1 f.r1=false then 16 else 0
def yX0(f:Fw):Fw:={f with g0:=yX5 f.g0 f.r0,g1:=yX5 f.g1 f.r1,mode:=1}
def qD4(f:Fw)(line:Int):Int:=if qF6 f=false then 18 else if ¬f.mode=1 then 14 else qE8 f line
def orB(a b:Int):Int:=i64.wrap ((BitVec.ofInt 64 a |||BitVec.ofInt 64 b).toNat:Int)
def qS4(f:Fw)(line:Int):Fw:=if line=0 then f else {f with line:=line}
def doE(f:Fw)(line:Int)(c:Gc.C):Int:=
 if c.code=1112 then 0
 else if c.code=1999 then resE f
 else if f.mode=3 then 16
 else if c.code=1025 then(if f.mode=1 then 0 else 14)
 else if c.code=1024 then(if f.mode=2 then 0 else 14)
 else if ¬f.waits=0\/¬f.dwell=0 then 18
 else if c.code=0\/c.code=1 then qZ6 f line c
 else if c.code=4 then(if qF6 f=true then 0 else 18)
 else if c.code=28 then qD4 f line
 else 0
def doF(f:Fw)(line:Int)(c:Gc.C):Fw:=
 if c.code=1112 then xK2 (qS4 f line)
 else if c.code=1999 then yX0 f
 else if c.code=1025 then {f with mode:=2}
 else if c.code=1024 then {f with mode:=1}
 else if c.code=0\/c.code=1 then qZ9 f line c
 else if c.code=4 then {f with dwell:=c.s}
 else if c.code=28 then qE4 f line
 else if c.code=1104 then {f with c0:=f.c0.aim c.s}
 else if c.code=1109 then {f with c0:=f.c0.aim c.s,waits:=orB f.waits 1}
 else if c.code=1140 then {f with c1:=f.c1.aim c.s}
 else if c.code=1190 then {f with c1:=f.c1.aim c.s,waits:=orB f.waits 2}
 else {f with fan:=c.s}
def zf8(f:Fw)(line:Int)(c:Gc.C):Int:=
 if xX9 f=false\/c.valid=false\/(¬line=0/\¬line=f.line+1)\/1099511627776<line then 1 else doE f line c
def zg0(f:Fw)(line:Int)(c:Gc.C):Fw:=xS5 (if c.code=1112 then doF f line c else qS4 (doF f line c) line)
theorem qB2{l:List Int}:qB1 l=true↔0<l.length/\l.getD 0 0=0:=by
 cases l with
 |nil=>simp[qB1]
 |cons n l=>simp[qB1]
def qS2(f:Fw):Bool:=decide (f.lines.length=f.queue.length)
theorem y33:y32 f=true↔(f.moving=true/\f.active=0)\/(f.moving=false/\0<f.lines.length/\f.lines.getD 0 0=0):=by
 cases hm:f.moving
 .rw[y34 hm,qB2];simp
 .rw[y35 hm];simp
theorem qS3:qS2 f=true↔f.lines.length=f.queue.length:=by simp only[qS2,decide_eq_true_eq]
def xs0:Plan:=.fork .all (.fork (.ln 7 (.lit .all)) (.ln 7 (.lit .all)))
noncomputable def xs1(f:Fw):Tree StopX:= .node (f.moving) (.leaf (.fin (.ret (.bool (f.active==0)) [some (.cells (Fw.cells f))]))) (.node (decide ((↑f.queue.length:Int)>0)) (.req (decide (0< (↑f.lines.length:Int))) (.leaf (.fin (.ret (.bool (f.lines.getD 0 0==0)) [some (.cells (Fw.cells f))])))) (.leaf (.fin (.ret (.bool false) [some (.cells (Fw.cells f))]))))
theorem xr9(f:Fw):xD3 (Env.ofB pP (j9 []) (s8 []) (p9 []) (p8 []) (j6 []) (j6 []) (j6 []) (j6 [])) 1000 (x9 pP 227) 1 (x6 31 []) (v7 pP 227) xs0 (v6 pP 227 [.ptr 0 0]) [some (.cells f.cells)] =xs1 f:=by kernel_rfl
theorem xr7(f:Fw)(h:qS2 f=true):zb3 pP 227 [] f (.bool (y32 f),f):=
 qn3 (hB (l:=[]) (k:=[]) (j:=[]) (i:=[]) ([] :List Nat) ([] :List Nat) ([] :List Nat) ([] :List Nat) (trivial) u9 u9 u9) 1000 xs0 (keep:=(x6 31 [])) (t:=xs1 f) (xr9 f) (by
  unfold xs1;have z:=qB2 (l:=f.lines);have hl:=qS3.1 h
  cases hm:f.moving
  .rw[y34 hm]
   simp only[Tree.holds,hm,sL,ne_eq,sLb,sLc,eq_self,sLd,sLe,sLf];(repeat' (first|apply And.intro|intro _));
   all_goals first
    |omega
    |(refine ends (congrArg SV.bool ?_) (v5.refl _) rfl;rw[Bool.eq_iff_iff,z];first|(simp_all;done)|(simp_all;omega)|grind)
  .rw[y35 hm]
   simp only[Tree.holds,hm,sL,ne_eq,sLb,sLc,eq_self,sLd,sLe,sLf];(repeat' (first|apply And.intro|intro _));
   all_goals exact ends rfl (v5.refl _) rfl) (by kernel_rfl) (by kernel_rfl) (by kernel_rfl)
theorem xr8(f:Fw):SCall pP 169 [f.sv] (.bool (y32 f)):=
 v8 mix [] trivial 1000 (.fork .all (.fork (.ln 4 (.lit .all)) (.ln 4 (.lit .all))))
  (t:=.node (f.moving)
 (.leaf (SV.bool (f.active==0)))
 (.node (decide ((↑f.lines.length:Int)>0))
  (.req (decide (0< (↑f.lines.length:Int))) (.leaf (SV.bool (f.lines.getD 0 0==0))))
  (.leaf (SV.bool false))))
   (by kernel_rfl) (by
    have z:=qB2 (l:=f.lines)
    cases hm:f.moving
    .rw[y34 hm]
     simp only[Tree.holds,hm,sL,ne_eq,sLb,sLc,eq_self,sLd,sLe,sLf];(repeat' (first|apply And.intro|intro _));
     all_goals first
      |omega
      |(refine congrArg SV.bool ?_;rw[Bool.eq_iff_iff,z];first|(simp_all;done)|(simp_all;omega)|grind)
    .rw[y35 hm]
     simp only[Tree.holds,hm,sL,ne_eq,sLb,sLc,eq_self,sLd,sLe,sLf];(repeat' (first|apply And.intro|intro _));
     all_goals rfl) (by kernel_rfl) (by kernel_rfl)
def qa5:Fact:=qg2 169 λf=>.leaf (.bool (y32 f))
theorem yo2:qa5.ok pP:=qg3 (λf=>xr8 f)
def yx8:Plan:=.fork (.ln 6 (.fork .all .all)) (.ln 6 (.lit .all))
noncomputable def yx9(f:Fw):Tree StopX:=let y0:Tree StopX:=.leaf (.at (x8 pP 228 0) 43 (x7 43 [(0,.ptr 0 0),(27,.list (Ty.int IntKind.i64) f.lines),(28,J (↑f.lines.length:Int)),(29,J 0)]) [some (.cells (Fw.cells f))]); .node (f.moving) (.node (decide (f.active>0)) (.leaf (.fin (.ret (J f.active) [some (.cells (Fw.cells f))]))) y0) y0
theorem op0(f:Fw):xD3 (Env.ofB pP (j9 []) (s8 []) (p9 []) (p8 []) (j6 []) (j6 []) (j6 []) (j6 [])) 1000 (x9 pP 228) 1 (x6 43 [0,27,28,29]) (v7 pP 228) yx8 (v6 pP 228 [.ptr 0 0]) [some (.cells f.cells)] =yx9 f:=by kernel_rfl
def yy1:Plan:=.fork (.fork (.all) (.all)) (.all)
theorem op1(f:Fw)(n i:Int):xD3 (Env.ofB pP (j9 []) (s8 []) (p9 []) (p8 []) (j6 []) (j6 []) (j6 []) (j6 [])) 1000 (x9 pP 228) 1 (x6 43 [0,27,28,29]) (x8 pP 228 0) yy1 (x7 43 [(0,.ptr 0 0),(27,LI f.lines),(28,J n),(29,J i)]) [some (.cells f.cells)] =(.node (decide (i<n)) (.req (decide (0<=i)&&decide (i< (↑f.lines.length:Int))) (.node (decide (f.lines.getD i.toNat 0>0)) (.leaf (.fin (.ret (J (f.lines.getD i.toNat 0)) [some (.cells (Fw.cells f))]))) (.leaf (.at (x8 pP 228 0) 43 (x7 43 [(0,.ptr 0 0),(27,.list (Ty.int IntKind.i64) f.lines),(28,J n),(29,J (i64.wrap (i+1)))]) [some (.cells (Fw.cells f))])))) (.leaf (.fin (.ret (J (i64.wrap (f.line+1))) [some (.cells (Fw.cells f))])))):=by kernel_rfl
def yC7:Plan:=.fork (.ln 3 (.fork .all .all)) (.ln 3 (.lit .all))
noncomputable def yC8(f:Fw):Tree Stop:=let y0:Tree Stop:=.leaf (.at (x8 pP 170 0) 34 (x7 34 [(1,.ptr 0 0),(3,J 0)]) [some (.cells (Fw.cells f))]); .node (f.moving) (.node (decide (f.active>0)) (.leaf (.done (J f.active))) y0) y0
theorem or0(f:Fw):o7 (Env.of pP (j9 [])) 1000 (x9 pP 170) .unit (x6 34 [1,3]) (v7 pP 170) yC7 (v6 pP 170 [f.sv]) [] =yC8 f:=by kernel_rfl
def yD0:Plan:=.fork (.fork (.all) (.all)) (.all)
theorem or1(f:Fw)(i:Int):o7 (Env.of pP (j9 [])) 1000 (x9 pP 170) .unit (x6 34 [1,3]) (x8 pP 170 0) yD0 (x7 34 [(1,.ptr 0 0),(3,J i)]) [some (.cells f.cells)] =(.node (decide (i< (↑f.lines.length:Int))) (.req (decide (0<=i)&&decide (i< (↑f.lines.length:Int))) (.node (decide (f.lines.getD i.toNat 0>0)) (.req (decide (0<=i)&&decide (i< (↑f.lines.length:Int))) (.leaf (.done (J (f.lines.getD i.toNat 0))))) (.leaf (.at (x8 pP 170 0) 34 (x7 34 [(1,.ptr 0 0),(3,J (i64.wrap (i+1)))]) [some (.cells (Fw.cells f))])))) (.leaf (.done (J (i64.wrap (f.line+1)))))):=by kernel_rfl
theorem qp8(l:List Int)(d:Int)(hi:i<l.length):qp7 (l.drop i) d=if 0<l.getD i 0 then l.getD i 0 else qp7 (l.drop (i+1)) d:=by
 rw[List.drop_eq_getElem_cons hi,List.getD_eq_getElem?_getD,List.getElem?_eq_getElem hi];rfl
theorem qp9(l:List Int)(d:Int):qp7 (l.drop l.length) d=d:=by rw[List.drop_length];rfl
theorem yy0(f:Fw)(h:xE9 f=true):∀ (k i:Nat),i+k=f.lines.length->
  zd4 pP (x9 pP 228) [] 1 (.ret (J (qp7 (f.lines.drop i) (f.line+1))) [some (.cells f.cells)]) (x8 pP 228 0) (x7 43 [(0,.ptr 0 0),(27,LI f.lines),(28,J f.lines.length),(29,J i)]) [some (.cells f.cells)]
 |k,i,hi=>by
  have s:=xF0.1 h;refine y83 (hB (l:=[]) (k:=[]) (j:=[]) (i:=[]) [] [] [] [] trivial u9 u9 u9) (n:=1000) (keep:=x6 43 [0,27,28,29]) (p:=yy1) (Nat.le_refl _) ?_;erw [op1 f f.lines.length i]
  have t0:(i:Int).toNat=i:=by omega
  have w1:i64.wrap ((i:Int)+1)=((i+1:Nat):Int):=by rw[w64 (by omega) (by omega)];omega
  have w2:i64.wrap (f.line+1)=f.line+1:=w64 (by omega) (by omega)
  match k,hi with
  |0,hi=>
   have hi2:¬((i:Int)<f.lines.length):=by omega
   have hie:i=f.lines.length:=by omega
   simp only[t0,w1,w2,hi2,Tree.holds,decide_eq_true_eq,decide_eq_false_iff_not,false_implies,true_and,true_implies,not_false_eq_true]
   rw[hie,qp9]<;>rfl
  |k+1,hi=>
   have hi2:(i:Int)<f.lines.length:=by omega
   have ih:=yy0 f h k (i+1) (by omega);have e:=qp8 f.lines (f.line+1) (i:=i) (by omega);simp only[t0,w1,w2,hi2,Tree.holds,decide_eq_true_eq,decide_eq_false_iff_not,Bool.and_eq_true,not_true_eq_false,false_implies,true_and,and_true,true_implies];refine⟨by omega,λa=>?_,λa=>⟨u7 _ _,?_⟩⟩
   .rw[e,if_pos a]<;>rfl
   .rw[e,if_neg a];exact ih
theorem xn0(f:Fw)(h:xE9 f=true):zb3 pP 228 [] f (J (n7 f),f):=by
 have s:=xF0.1 h;refine qn2 (cs:=f.cells) (by kernel_rfl) rfl rfl rfl (v5.refl _) (y83 (hB (l:=[]) (k:=[]) (j:=[]) (i:=[]) [] [] [] [] trivial u9 u9 u9) (n:=1000) (keep:=x6 43 [0,27,28,29]) (p:=yx8) (Nat.le_refl _) ?_);have q:=op0 f;unfold v6 v7 at q;erw [q];unfold yx9 n7;have lp:=yy0 f h f.lines.length 0 (by omega)
 cases hm:f.moving
 .simp only[hm,Tree.holds,Bool.false_eq_true,false_and,if_false,false_implies,true_implies,true_and]
  exact⟨u7 _ _,lp⟩
 .simp only[hm,Tree.holds,decide_eq_true_eq,decide_eq_false_iff_not,true_and,true_implies,Bool.true_eq_false,false_implies,and_true]
  refine⟨λa=>?_,λa=>⟨u7 _ _,?_⟩⟩
  .rw[if_pos (by omega)]<;>rfl
  .rw[if_neg (by omega)];exact lp
def zr1:BFact:=zu6 228 λf rest=>match rest with
 |[] =>some (.req (xE9 f) (.leaf (J (n7 f),f)))
 |_=>none
theorem ya7:zr1.ok pP:=zu7 λf rest t ht=>by
 split at ht
 .injection ht with ht;subst ht;exact λh=>xn0 f h
 .cases ht
theorem yC9(f:Fw)(h:xE9 f=true):∀ (k i:Nat),i+k=f.lines.length->
  t8 pP (x9 pP 170) (J (qp7 (f.lines.drop i) (f.line+1))) (x8 pP 170 0) (x7 34 [(1,.ptr 0 0),(3,J i)]) [some (.cells f.cells)]
 |k,i,hi=>by
  have s:=xF0.1 h;refine o5 k0 (n:=1000) (hint:=.unit) (keep:=x6 34 [1,3]) (p:=yD0) rfl ?_;erw [or1 f i]
  have t0:(i:Int).toNat=i:=by omega
  have w1:i64.wrap ((i:Int)+1)=((i+1:Nat):Int):=by rw[w64 (by omega) (by omega)];omega
  have w2:i64.wrap (f.line+1)=f.line+1:=w64 (by omega) (by omega)
  match k,hi with
  |0,hi=>
   have hi2:¬((i:Int)<f.lines.length):=by omega
   have hie:i=f.lines.length:=by omega
   simp only[t0,w1,w2,hi2,Tree.holds,decide_eq_true_eq,decide_eq_false_iff_not,false_implies,true_and,true_implies,not_false_eq_true]
   rw[hie,qp9]<;>rfl
  |k+1,hi=>
   have hi2:(i:Int)<f.lines.length:=by omega
   have ih:=yC9 f h k (i+1) (by omega);have e:=qp8 f.lines (f.line+1) (i:=i) (by omega);simp only[t0,w1,w2,hi2,Tree.holds,decide_eq_true_eq,decide_eq_false_iff_not,Bool.and_eq_true,not_true_eq_false,false_implies,true_and,and_true,true_implies];refine⟨by omega,λa=>⟨by omega,?_⟩,λa=>⟨u7 _ _,?_⟩⟩
   .rw[e,if_pos a]<;>rfl
   .rw[e,if_neg a];exact ih
theorem xn1(f:Fw)(h:xE9 f=true):SCall pP 170 [f.sv] (J (n7 f)):=by
 refine s7 rfl rfl (by kernel_rfl) (o5 k0 (n:=1000) (hint:=.unit) (keep:=x6 34 [1,3]) (p:=yC7) (boxes:=[]) rfl ?_);have q:=or0 f;unfold v6 v7 at q;erw [q];unfold yC8 n7;have lp:=yC9 f h f.lines.length 0 (by omega)
 cases hm:f.moving
 .simp only[hm,Tree.holds,Bool.false_eq_true,false_and,if_false,false_implies,true_implies,true_and]
  exact⟨u7 _ _,lp⟩
 .simp only[hm,Tree.holds,decide_eq_true_eq,decide_eq_false_iff_not,true_and,true_implies,Bool.true_eq_false,false_implies,and_true]
  refine⟨λa=>?_,λa=>⟨u7 _ _,?_⟩⟩
  .rw[if_pos (by omega)]<;>rfl
  .rw[if_neg (by omega)];exact lp
def z68:Fact:=qg2 170 λf=>.req (xE9 f) (.leaf (J (n7 f)))
theorem yk4:z68.ok pP:=qg3 λf h=>xn1 f h
theorem q50{g y:Fw}(h:g=y)(q:g.queue=[])(l:g.lines=[]):v5 (o6 g) y.cells:=by subst h;exact q47 g q l
def xj5:Plan:=let z0:Plan:=.fork (.ln 4 (.lit .all)) (.ln 4 (.lit .all));let z1:Plan:=.fork (.lit (.fork (.lit (.lit (.fork z0 z0))) (.fork (.ln 10 (.fork z0 z0)) (.ln 11 z0)))) (.ln 4 z0);.fork (.ln 6 (.fork z0 z1)) (.ln 7 z1)
noncomputable def xj6(f:Fw):Tree StopX:=let y2:=Fw.mk f.ma f.mode f.homed f.pos f.loc f.e f.feed f.queue f.lines f.mo f.moving f.active f.back (zu2 f) f.dwell f.waits f.c0 f.c1 f.g0 f.g1 f.fan f.line f.ticks f.cold f.r0 f.r1;let y3:=Fw.mk f.ma f.mode f.homed f.pos f.loc f.e f.feed f.queue f.lines f.mo f.moving f.active f.back f.pos f.dwell f.waits f.c0 f.c1 f.g0 f.g1 f.fan f.line f.ticks f.cold f.r0 f.r1;let y5:=(((0,0,0,0),0,0,0,0),0,0);let y0:Tree StopX:=.req (xE9 y3) (.node (y3.back) (.leaf (.fin (.ret (.tuple []) [some (.cells (o6 {y3 with homed:=false,queue:=[],lines:=[],mo:=y5,moving:=false,active:=0,back:=true,dwell:=0,waits:=0,line:=(i64.wrap (n7 y3-1))}))]))) (.leaf (.fin (.ret (.tuple []) [some (.cells (o6 {y3 with homed:=false,queue:=[],lines:=[],mo:=y5,moving:=false,active:=0,back:=y3.homed,dwell:=0,waits:=0,line:=(i64.wrap (n7 y3-1))}))]))));let y1:Tree StopX:=.req (xE9 f) (.node (f.back) (.leaf (.fin (.ret (.tuple []) [some (.cells (o6 {f with homed:=false,queue:=[],lines:=[],mo:=y5,moving:=false,active:=0,back:=true,dwell:=0,waits:=0,line:=(i64.wrap (n7 f-1))}))]))) (.leaf (.fin (.ret (.tuple []) [some (.cells (o6 {f with homed:=false,queue:=[],lines:=[],mo:=y5,moving:=false,active:=0,back:=f.homed,dwell:=0,waits:=0,line:=(i64.wrap (n7 f-1))}))]))));let y4:Tree StopX:=.node (f.homed) (.node (f.moving) (.node (!f.active==0) y0 y1) (.node (decide ((↑f.queue.length:Int)>0)) (.req (decide (0< (↑f.lines.length:Int))) (.node (!f.lines.getD 0 0==0) y0 y1)) y0)) y1; .node (f.moving) (.node (decide (f.active>0)) (.req (zu8 f.pos) (.req (xE9 y2) (.node (y2.back) (.leaf (.fin (.ret (.tuple []) [some (.cells (o6 {y2 with homed:=false,queue:=[],lines:=[],mo:=y5,moving:=false,active:=0,back:=true,dwell:=0,waits:=0,line:=(i64.wrap (n7 y2-1))}))]))) (.leaf (.fin (.ret (.tuple []) [some (.cells (o6 {y2 with homed:=false,queue:=[],lines:=[],mo:=y5,moving:=false,active:=0,back:=y2.homed,dwell:=0,waits:=0,line:=(i64.wrap (n7 y2-1))}))])))))) y4) y4
theorem xj4(f:Fw):xD3 (Env.ofB pP (j9 [zX0]) (s8 []) (p9 [BFact.toP zr1]) (p8 [zr1]) (j6 []) (j6 []) (j6 []) (j6 [])) 1000 (x9 pP 164) 1 (x6 101 []) (v7 pP 164) xj5 (v6 pP 164 [.ptr 0 0]) [some (.cells f.cells)] =xj6 f:=by kernel_rfl
theorem xj1(f:Fw)(h:xE9 f=true):zb3 pP 164 [] f (.tuple [],qT7 f):=
 qn3 (hB (l:=[zX0]) (k:=[]) (j:=[BFact.toP zr1]) (i:=[zr1]) ([] :List Nat) ([] :List Nat) ([] :List Nat) ([] :List Nat) (⟨yb0,trivial⟩) u9 (allQ.all (p:=PFact.ok pP) (l:=[BFact.toP zr1]) ⟨BFact.toP_ok ya7,trivial⟩) (allQ.all (p:=BFact.ok pP) (l:=[zr1]) ⟨ya7,trivial⟩)) 1000 xj5 (keep:=(x6 101 [])) (t:=xj6 f) (xj4 f) (by
  unfold xj6;have sh:=xF0.1 h;have rb:=y33 (f:=f);have ov:=yC5 h;have w1:=w64 (x:=n7 f-1) (by omega) (by omega)
  have e3:qT7 f={qT7 f with line:=i64.wrap (n7 f-1)}:=by rw[w1];rfl
  cases hbk:f.back
  all_goals
  simp only[Tree.holds,hbk,sL,ne_eq,sLb,sLc,eq_self,sLd,sLe,sLf];(repeat' (first|apply And.intro|intro _));
  all_goals first
   |exact h
   |exact sh.1
   |omega
   |(have e:qT8 f=zu2 f:=if_pos (by grind)
     refine ends rfl (q50 ?_ rfl rfl) rfl;rw[e3];unfold qT7;rw[e,hbk];rfl)
   |(have e:qT8 f=wsub4 f.pos (qU5 f.mo):=by rw[show qT8 f=zu2 f from if_pos (by grind),zu4 (by assumption),x47 sh.1 (qU9 f.mo)]
     refine ends rfl (q50 ?_ rfl rfl) rfl;rw[e3];unfold qT7;rw[e,hbk];rfl)
   |(have e:qT8 f=f.pos:=by unfold qT8;rw[if_neg (by grind),if_pos (by grind)]
     refine ends rfl (q50 ?_ rfl rfl) rfl;rw[e3];unfold qT7;rw[e,hbk];rfl)
   |(have e:qT8 f=f.ret:=by unfold qT8;rw[if_neg (by grind),if_neg (by grind)]
     refine ends rfl (q50 ?_ rfl rfl) rfl;rw[e3];unfold qT7;rw[e,hbk];rfl)) (by kernel_rfl) (by kernel_rfl) (by kernel_rfl)
def zq9:BFact:=zu6 164 λf rest=>match rest with
 |[] =>some (.req (xE9 f) (.leaf (.tuple [],qT7 f)))
 |_=>none
theorem yb3:zq9.ok pP:=zu7 λf rest t ht=>by
 split at ht
 .injection ht with ht;subst ht;exact λh=>xj1 f h
 .cases ht
theorem xj2(f:Fw)(h:xE9 f=true):SCall pP 81 [f.sv] (.agg (o6 (qT7 f))):=
 v8 mix [qa5,z68,z51,z48] ⟨yo2,yk4,yi4,yi0,trivial⟩ 1000 (let z0:Plan:=.fork (.lit (.lit .all)) (.lit (.lit .all));let z1:Plan:=.fork (.lit (.lit (.fork z0 z0))) (.ln 3 z0);.fork (.ln 3 (.fork z0 z1)) (.ln 4 z1))
  (t:=let y2:=Fw.mk f.ma f.mode f.homed f.pos f.loc f.e f.feed f.queue f.lines f.mo f.moving f.active f.back (wsub4 f.pos (qU5 f.mo)) f.dwell f.waits f.c0 f.c1 f.g0 f.g1 f.fan f.line f.ticks f.cold f.r0 f.r1;let y3:=Fw.mk f.ma f.mode f.homed f.pos f.loc f.e f.feed f.queue f.lines f.mo f.moving f.active f.back f.pos f.dwell f.waits f.c0 f.c1 f.g0 f.g1 f.fan f.line f.ticks f.cold f.r0 f.r1;let y4:=(((0,0,0,0),0,0,0,0),0,0);let y1:Tree SV:=.req (xE9 f) (.node (f.back) (.leaf (.agg (o6 {f with homed:=false,queue:=[],lines:=[],mo:=y4,moving:=false,active:=0,back:=true,dwell:=0,waits:=0,line:=(i64.wrap (n7 f-1))}))) (.leaf (.agg (o6 {f with homed:=false,queue:=[],lines:=[],mo:=y4,moving:=false,active:=0,back:=f.homed,dwell:=0,waits:=0,line:=(i64.wrap (n7 f-1))}))));let y0:Tree SV:=.node (!y32 f) (.node (f.homed) (.req (xE9 y3) (.node (f.back) (.leaf (.agg (o6 {f with homed:=false,queue:=[],lines:=[],mo:=y4,moving:=false,active:=0,back:=true,ret:=f.pos,dwell:=0,waits:=0,line:=(i64.wrap (n7 y3-1))}))) (.leaf (.agg (o6 {f with homed:=false,queue:=[],lines:=[],mo:=y4,moving:=false,active:=0,back:=f.homed,ret:=f.pos,dwell:=0,waits:=0,line:=(i64.wrap (n7 y3-1))}))))) y1) y1;.node (f.moving) (.node (decide (f.active>0)) (.req (xE9 y2) (.node (f.back) (.leaf (.agg (o6 {f with homed:=false,queue:=[],lines:=[],mo:=y4,moving:=false,active:=0,back:=true,ret:=(wsub4 f.pos (qU5 f.mo)),dwell:=0,waits:=0,line:=(i64.wrap (n7 y2-1))}))) (.leaf (.agg (o6 {f with homed:=false,queue:=[],lines:=[],mo:=y4,moving:=false,active:=0,back:=f.homed,ret:=(wsub4 f.pos (qU5 f.mo)),dwell:=0,waits:=0,line:=(i64.wrap (n7 y2-1))}))))) y0) y0)
  (by kernel_rfl) (by
   have sh:=xF0.1 h;have rb:=y33 (f:=f);have ov:=yC5 h;have w1:=w64 (x:=n7 f-1) (by omega) (by omega)
   have e3:qT7 f={qT7 f with line:=i64.wrap (n7 f-1)}:=by rw[w1];rfl
   cases hbk:f.back
   all_goals
   simp only[Tree.holds,hbk,sL,ne_eq,sLb,sLc,eq_self,sLd,sLe,sLf];(repeat' (first|apply And.intro|intro _));
   all_goals first
    |exact h
    |exact sh.1
    |omega
    |(have e:qT8 f=zu2 f:=if_pos (by grind)
      rw[e3];unfold qT7;rw[e,hbk];rfl)
    |(have e:qT8 f=wsub4 f.pos (qU5 f.mo):=by rw[show qT8 f=zu2 f from if_pos (by grind),zu4 (by assumption),x47 sh.1 (qU9 f.mo)]
      rw[e3];unfold qT7;rw[e,hbk];rfl)
    |(have e:qT8 f=f.pos:=by unfold qT8;rw[if_neg (by grind),if_pos (by grind)]
      rw[e3];unfold qT7;rw[e,hbk];rfl)
    |(have e:qT8 f=f.ret:=by unfold qT8;rw[if_neg (by grind),if_neg (by grind)]
      rw[e3];unfold qT7;rw[e,hbk];rfl)) (by kernel_rfl) (by kernel_rfl)
theorem q49{cs ds:List SV}(hn:v5 cs ds)(R:Nat->Prop)(I:Rho)(n:Nat)(w:World)(u:Value)(h:Rep R I n w (.agg cs) u):Rep R I n w (.agg ds) u:=by
 obtain⟨ws,h3,h4⟩:=h;exact⟨ws,h3,hn.rep h4⟩
theorem xj3(f:Fw)(h:xE9 f=true):SCall pP 81 [f.sv] (qT7 f).sv:=xD2 (xj2 f h) (q49 (q47 _ rfl rfl))
def z42:Fact:=qg2 81 λf=>.req (xE9 f) (.leaf (qT7 f).sv)
theorem yh3:z42.ok pP:=qg3 (λf h=>xj3 f h)
def xw9:Plan:=let z1:Plan:=.go (.lit (.fork (.go (.lit (.all))) (.go (.lit (.all)))));let z0:Plan:=.go (.lit (.fork z1 z1));.go (.lit (.fork (.go (.lit (.fork z0 z0))) (.go (.lit (.fork z0 z0)))))
noncomputable def xx0(f:Fw)(c:Gc.C):Tree StopX:=let y0:=i64.wrap (↑(BitVec.ofInt 64 c.has &&&BitVec.ofInt 64 8).toNat:Int) != 0;let y1:Box:=.cells (Fw.cells f);let y2:=i64.wrap (↑(BitVec.ofInt 64 c.has &&&BitVec.ofInt 64 4).toNat:Int) != 0;let y3:=i64.wrap (↑(BitVec.ofInt 64 c.has &&&BitVec.ofInt 64 2).toNat:Int) != 0; .req (true) (.node (i64.wrap (↑(BitVec.ofInt 64 c.has &&&BitVec.ofInt 64 1).toNat:Int) != 0) (.req true (.node y3 (.req true (.node y2 (.req true (.node y0 (.leaf (.fin (.ret (.tuple [.agg [J c.x,J c.y,J c.z],J c.e]) [some y1]))) (.leaf (.fin (.ret (.tuple [.agg [J c.x,J c.y,J c.z],J f.e]) [some y1]))))) (.req true (.node y0 (.leaf (.fin (.ret (.tuple [.agg [J c.x,J c.y,J f.loc.2.2],J c.e]) [some y1]))) (.leaf (.fin (.ret (.tuple [.agg [J c.x,J c.y,J f.loc.2.2],J f.e]) [some y1]))))))) (.req true (.node y2 (.req true (.node y0 (.leaf (.fin (.ret (.tuple [.agg [J c.x,J f.loc.2.1,J c.z],J c.e]) [some y1]))) (.leaf (.fin (.ret (.tuple [.agg [J c.x,J f.loc.2.1,J c.z],J f.e]) [some y1]))))) (.req true (.node y0 (.leaf (.fin (.ret (.tuple [.agg [J c.x,J f.loc.2.1,J f.loc.2.2],J c.e]) [some y1]))) (.leaf (.fin (.ret (.tuple [.agg [J c.x,J f.loc.2.1,J f.loc.2.2],J f.e]) [some y1]))))))))) (.req true (.node y3 (.req true (.node y2 (.req true (.node y0 (.leaf (.fin (.ret (.tuple [.agg [J f.loc.1,J c.y,J c.z],J c.e]) [some y1]))) (.leaf (.fin (.ret (.tuple [.agg [J f.loc.1,J c.y,J c.z],J f.e]) [some y1]))))) (.req true (.node y0 (.leaf (.fin (.ret (.tuple [.agg [J f.loc.1,J c.y,J f.loc.2.2],J c.e]) [some y1]))) (.leaf (.fin (.ret (.tuple [.agg [J f.loc.1,J c.y,J f.loc.2.2],J f.e]) [some y1]))))))) (.req true (.node y2 (.req true (.node y0 (.leaf (.fin (.ret (.tuple [.agg [J f.loc.1,J f.loc.2.1,J c.z],J c.e]) [some y1]))) (.leaf (.fin (.ret (.tuple [.agg [J f.loc.1,J f.loc.2.1,J c.z],J f.e]) [some y1]))))) (.req true (.node y0 (.leaf (.fin (.ret (.tuple [.agg [J f.loc.1,J f.loc.2.1,J f.loc.2.2],J c.e]) [some y1]))) (.leaf (.fin (.ret (.tuple [.agg [J f.loc.1,J f.loc.2.1,J f.loc.2.2],J f.e]) [some y1]))))))))))
theorem xw8(f:Fw)(c:Gc.C):xD3 (Env.ofB pP (j9 []) (s8 []) (p9 []) (p8 []) (j6 []) (j6 []) (j6 []) (j6 [])) 1000 (x9 pP 213) 1 (x6 53 []) (v7 pP 213) xw9 (v6 pP 213 [.ptr 0 0,c.sv]) [some (.cells f.cells)] =xx0 f c:=by kernel_rfl
theorem xw6(f:Fw)(c:Gc.C):zb3 pP 213 [c.sv] f (.tuple [V3.sv (t6 f c),J (s0 f c)],f):=
 qn3 (hB (l:=[]) (k:=[]) (j:=[]) (i:=[]) ([] :List Nat) ([] :List Nat) ([] :List Nat) ([] :List Nat) (trivial) u9 u9 u9) 1000 xw9 (keep:=(x6 53 [])) (t:=xx0 f c) (xw8 f c) (by
  unfold xx0;simp only[Tree.holds,sL,ne_eq,sLb,sLc,eq_self,sLd,sLe,sLf];(repeat' (first|apply And.intro|intro _));
  all_goals first
   |rfl
   |(refine ends ?_ (v5.refl _) rfl;unfold t6 s0;simp only[qA1, *,not_false_eq_true,not_true_eq_false,if_true,if_false];rfl)) (by kernel_rfl) (by kernel_rfl) (by kernel_rfl)
theorem xw7(f:Fw)(c:Gc.C):SCall pP 270 [f.sv,c.sv] (.tuple [V3.sv (t6 f c),J (s0 f c)]):=
 v8 mix [] trivial 1000 (.fork (.fork (.fork (.fork (.all) (.all)) (.fork (.all) (.all))) (.fork (.fork (.all) (.all)) (.fork (.all) (.all)))) (.fork (.fork (.fork (.all) (.all)) (.fork (.all) (.all))) (.fork (.fork (.all) (.all)) (.fork (.all) (.all)))))
  (t:=let y0:=i64.wrap (↑(BitVec.ofInt 64 c.has &&&BitVec.ofInt 64 8).toNat:Int) != 0;let y1:=i64.wrap (↑(BitVec.ofInt 64 c.has &&&BitVec.ofInt 64 4).toNat:Int) != 0;let y2:=i64.wrap (↑(BitVec.ofInt 64 c.has &&&BitVec.ofInt 64 2).toNat:Int) != 0;.node (i64.wrap (↑(BitVec.ofInt 64 c.has &&&BitVec.ofInt 64 1).toNat:Int) != 0) (.node y2 (.node y1 (.node y0 (.leaf (.tuple [.agg [J c.x,J c.y,J c.z],J c.e])) (.leaf (.tuple [.agg [J c.x,J c.y,J c.z],J f.e]))) (.node y0 (.leaf (.tuple [.agg [J c.x,J c.y,J f.loc.2.2],J c.e])) (.leaf (.tuple [.agg [J c.x,J c.y,J f.loc.2.2],J f.e])))) (.node y1 (.node y0 (.leaf (.tuple [.agg [J c.x,J f.loc.2.1,J c.z],J c.e])) (.leaf (.tuple [.agg [J c.x,J f.loc.2.1,J c.z],J f.e]))) (.node y0 (.leaf (.tuple [.agg [J c.x,J f.loc.2.1,J f.loc.2.2],J c.e])) (.leaf (.tuple [.agg [J c.x,J f.loc.2.1,J f.loc.2.2],J f.e]))))) (.node y2 (.node y1 (.node y0 (.leaf (.tuple [.agg [J f.loc.1,J c.y,J c.z],J c.e])) (.leaf (.tuple [.agg [J f.loc.1,J c.y,J c.z],J f.e]))) (.node y0 (.leaf (.tuple [.agg [J f.loc.1,J c.y,J f.loc.2.2],J c.e])) (.leaf (.tuple [.agg [J f.loc.1,J c.y,J f.loc.2.2],J f.e])))) (.node y1 (.node y0 (.leaf (.tuple [.agg [J f.loc.1,J f.loc.2.1,J c.z],J c.e])) (.leaf (.tuple [.agg [J f.loc.1,J f.loc.2.1,J c.z],J f.e]))) (.node y0 (.leaf (.tuple [.agg [J f.loc.1,J f.loc.2.1,J f.loc.2.2],J c.e])) (.leaf (.tuple [.agg [J f.loc.1,J f.loc.2.1,J f.loc.2.2],J f.e]))))))
  (by kernel_rfl) (by
   simp only[Tree.holds,sL,ne_eq,sLb,sLc,eq_self,sLd,sLe,sLf];(repeat' (first|apply And.intro|intro _));
   all_goals first
    |rfl
    |(unfold t6 s0;simp only[qA1, *,not_false_eq_true,not_true_eq_false,if_true,if_false];rfl)) (by kernel_rfl) (by kernel_rfl)
def q52:List SV->Bool
 |[] =>true
 |x::l=>match x with
  |.nilS=>false
  |_=>q52 l
theorem q53:∀{cs ys:List SV},v5 cs ys->q52 cs=true->cs=ys
 |[],[],_,_=>rfl
 |x::xs,y::ys,h,k=>by
  obtain⟨h1,h2⟩:=h;unfold q52 at k
  split at k
  .cases k
  .rename_i hx
   cases h1 with
   |same=>rw[q53 h2 k]
   |nil t=>exact absurd rfl hx
def rdT(cs:List SV):Tree SV->Tree (Bool×SV×Box)
 |.leaf v=>.leaf (false,v,.cells cs)
 |.node b t f=>.node b (rdT cs t) (rdT cs f)
 |.req b t=>.req b (rdT cs t)
 |.fail n=>.fail n
def y36(f:FuncId)(h:Fw->List SV->Option (Tree SV)):BFact:=⟨f,λargs B=>match B with
 |.cells cs=>match q52 cs with
  |true=>match zo5 cs with
   |some x=>match h x args with
    |some t=>some (rdT cs t)
    |none=>none
   |none=>none
  |false=>none
 |_=>none⟩
theorem yU0{f:FuncId}{args cs:List SV}{x:Fw}(he:cs=x.cells):∀t:Tree SV,t.says (λv=>zb3 P f args x (v,x))->(rdT cs t).says (za1 P f args (.cells cs))
 |.leaf v,k=>by subst he;exact k
 |.node _ t u,k=>⟨λhb=>yU0 he t (k.1 hb),λhb=>yU0 he u (k.2 hb)⟩
 |.req _ t,k=>λhb=>yU0 he t (k hb)
 |.fail _,_=>trivial
theorem y37{f:FuncId}{h:Fw->List SV->Option (Tree SV)}(k:∀x rest t,h x rest=some t->t.says λv=>zb3 P f rest x (v,x)):(y36 f h).ok P:=λargs B t ht=>by
 simp only[y36]at ht
 split at ht
 .split at ht
  .rename_i hn
   split at ht
   .rename_i hx
    split at ht
    .rename_i t' ht'
     injection ht with ht;subst ht;exact yU0 (q53 (zo6 hx) hn) t' (k _ _ _ ht')
    .cases ht
   .cases ht
  .cases ht
 .cases ht
def inV(p:V3):Bool:=inR p.1 (-33554432) 33554432&& (inR p.2.1 (-33554432) 33554432&&inR p.2.2 (-33554432) 33554432)
variable{p:V3}
theorem qH1:inV p=true↔(-33554432<=p.1/\p.1<=33554432)/\(-33554432<=p.2.1/\p.2.1<=33554432)/\-33554432<=p.2.2/\p.2.2<=33554432:=by simp only[inV,Bool.and_eq_true,j8]
def inE(n:Int):Bool:=inR n (-1152921504606846976) 1152921504606846976
def qR7(f:Fw)(p:V3)(e:Int):Bool:=inV f.loc&& (inV p&& (inE f.e&&inE e))
variable{e:Int}
theorem qR8:qR7 f p e=true↔inV f.loc=true/\inV p=true/\(-1152921504606846976<=f.e/\f.e<=1152921504606846976)/\-1152921504606846976<=e/\e<=1152921504606846976:=by simp only[qR7,inE,Bool.and_eq_true,j8]
def qR1(a b:V3)(d:Int):Int:=if isq (sqs a b)=0 then(if d < -d then -d else d)else isq (sqs a b)
theorem qR4:qR3 f p e=qR1 f.loc p (e-f.e):=by
 unfold qR3 qR1
 split
 .rw[show -(e-f.e)=f.e-e by omega]
 .rfl
theorem xI0(h: -67108864<=x/\x<=67108864):i64.wrap (x*x)=x*x/\0<=x*x/\x*x<=4503599627370496:=by
 have h1:0<=x*x:=by
  rcases Int.le_total 0 x with k|k
  .exact Int.mul_nonneg k k
  .have:=Int.mul_nonneg (show 0<=-x by omega) (show 0<=-x by omega);rwa [Int.neg_mul_neg]at this
 have h2:x*x<=67108864*67108864:=by
  rcases Int.le_total 0 x with k|k
  .exact Int.mul_le_mul h.2 h.2 k (by omega)
  .have:=Int.mul_le_mul (show -x<=67108864 by omega) (show -x<=67108864 by omega) (show 0<=-x by omega) (by omega)
   rwa [Int.neg_mul_neg]at this
 exact⟨w64 (by omega) (by omega),h1,by omega⟩
theorem xI3{a b:V3}(ha:inV a=true)(hb:inV b=true):i64.wrap (b.1-a.1)=b.1-a.1/\i64.wrap (b.2.1-a.2.1)=b.2.1-a.2.1/\i64.wrap (b.2.2-a.2.2)=b.2.2-a.2.2/\
  i64.wrap (i64.wrap (i64.wrap ((b.1-a.1)*(b.1-a.1))+i64.wrap ((b.2.1-a.2.1)*(b.2.1-a.2.1)))+i64.wrap ((b.2.2-a.2.2)*(b.2.2-a.2.2)))=sqs a b/\inR (sqs a b) 0 9223372036854775807=true:=by
 rw[qH1]at ha hb;obtain⟨e1,p1,q1⟩:=xI0 (x:=b.1-a.1) (by omega);obtain⟨e2,p2,q2⟩:=xI0 (x:=b.2.1-a.2.1) (by omega);obtain⟨e3,p3,q3⟩:=xI0 (x:=b.2.2-a.2.2) (by omega);refine⟨w64 (by omega) (by omega),w64 (by omega) (by omega),w64 (by omega) (by omega),?_,j8.2 (by unfold sqs;omega)⟩;rw[e1,e2,e3,w64 (x:=(b.1-a.1)*(b.1-a.1)+(b.2.1-a.2.1)*(b.2.1-a.2.1)) (by omega) (by omega),w64 (by omega) (by omega)];rfl
def xi9:Plan:=.fork (.all) (.all)
noncomputable def xj0(f:Fw)(p:V3)(e:Int):Tree StopX:=let y0:=i64.wrap (i64.wrap (i64.wrap (i64.wrap (p.1-f.loc.1)*i64.wrap (p.1-f.loc.1))+i64.wrap (i64.wrap (p.2.1-f.loc.2.1)*i64.wrap (p.2.1-f.loc.2.1)))+i64.wrap (i64.wrap (p.2.2-f.loc.2.2)*i64.wrap (p.2.2-f.loc.2.2))); .req (inR y0 0 9223372036854775807) (.node (isq y0==0) (.leaf (.fin (.ret (J (if i64.wrap (f.e-e)>i64.wrap (e-f.e)then i64.wrap (f.e-e)else i64.wrap (e-f.e))) [some (.cells (Fw.cells f))]))) (.leaf (.fin (.ret (J (isq y0)) [some (.cells (Fw.cells f))]))))
theorem xi8(f:Fw)(p:V3)(e:Int):xD3 (Env.ofB pP (j9 [z29]) (s8 []) (p9 []) (p8 []) (j6 []) (j6 []) (j6 []) (j6 [])) 1000 (x9 pP 216) 1 (x6 72 []) (v7 pP 216) xi9 (v6 pP 216 [.ptr 0 0,V3.sv p,J e]) [some (.cells f.cells)] =xj0 f p e:=by kernel_rfl
theorem xi6(f:Fw)(p:V3)(e:Int)(h:qR7 f p e=true):zb3 pP 216 [V3.sv p,J e] f (J (qR3 f p e),f):=
 qn3 (hB (l:=[z29]) (k:=[]) (j:=[]) (i:=[]) ([] :List Nat) ([] :List Nat) ([] :List Nat) ([] :List Nat) (⟨yg2,trivial⟩) u9 u9 u9) 1000 xi9 (keep:=(x6 72 [])) (t:=xj0 f p e) (xi8 f p e) (by
  unfold xj0;have lp:=qR8.1 h;obtain⟨x1,x2,x3,x4,x5⟩:=xI3 lp.1 lp.2.1;have w1:=w64 (x:=e-f.e) (by omega) (by omega);have w2:=w64 (x:=f.e-e) (by omega) (by omega);rw[x1,x2,x3];simp only[x4,x5,w1,w2,Tree.holds,sL,ne_eq,sLb,sLc,eq_self,sLd,sLe,sLf];(repeat' (first|apply And.intro|intro _));
  all_goals first
   |rfl
   |(refine ends ?_ (v5.refl _) rfl;unfold qR3;refine xM6 ?_;(repeat' split)<;>omega)) (by kernel_rfl) (by kernel_rfl) (by kernel_rfl)
def zq8:BFact:=zu6 216 λf rest=>match rest with
 |[.agg [.int .i64 x,.int .i64 y,.int .i64 z],.int .i64 e] =>some (.req (qR7 f (x,y,z) e) (.leaf (J (qR3 f (x,y,z) e),f)))
 |_=>none
theorem xi7(a b:V3)(d:Int)(ha:inV a=true)(hb:inV b=true)(hd:inE d=true):SCall pP 273 [V3.sv a,V3.sv b,J d] (J (qR1 a b d)):=
 v8 mix [z30] ⟨yg3,trivial⟩ 1000 (.fork (.all) (.all))
  (t:=let y0:=i64.wrap (i64.wrap (i64.wrap (i64.wrap (b.1-a.1)*i64.wrap (b.1-a.1))+i64.wrap (i64.wrap (b.2.1-a.2.1)*i64.wrap (b.2.1-a.2.1)))+i64.wrap (i64.wrap (b.2.2-a.2.2)*i64.wrap (b.2.2-a.2.2)));.req (inR y0 0 9223372036854775807) (.node (isq y0==0) (.leaf (J (if i64.wrap (0-d)>d then i64.wrap (0-d)else d))) (.leaf (J (isq y0)))))
  (by kernel_rfl) (by
   obtain⟨x1,x2,x3,x4,x5⟩:=xI3 ha hb;have hd:=j8.1 hd;have w1:=w64 (x:=0-d) (by omega) (by omega);rw[x1,x2,x3];simp only[x4,x5,w1,Tree.holds,sL,ne_eq,sLb,sLc,eq_self,sLd,sLe,sLf];(repeat' (first|apply And.intro|intro _));
   all_goals first
    |rfl
    |(unfold qR1;refine xM6 ?_;(repeat' split)<;>omega)) (by kernel_rfl) (by kernel_rfl)
def z41:Fact:=⟨273,λargs=>match args with
 |[.agg [.int .i64 x,.int .i64 y,.int .i64 z],.agg [.int .i64 u,.int .i64 v,.int .i64 w],.int .i64 d] =>some (.req (inV (x,y,z)) (.req (inV (u,v,w)) (.req (inE d) (.leaf (J (qR1 (x,y,z) (u,v,w) d))))))
 |_=>none⟩
theorem yh2:z41.ok pP:=λargs t ht=>by
 simp only[z41]at ht
 split at ht
 .injection ht with ht;subst ht;exact λha hb hd=>xi7 (_,_,_) (_,_,_) _ ha hb hd
 .cases ht
def zr3:BFact:=zu6 213 λf rest=>match rest with
 |[.agg [.int .i64 a0,.int .i64 a1,.int .i64 a2,.int .i64 a3,.int .i64 a4,.int .i64 a5,.int .i64 a6,.int .i64 a7]] =>some (.leaf (.tuple [V3.sv (t6 f ⟨a0,a1,a2,a3,a4,a5,a6,a7⟩),J (s0 f ⟨a0,a1,a2,a3,a4,a5,a6,a7⟩)],f))
 |_=>none
def qc6:Fact:=⟨270,λargs=>match args with
 |.agg l::rest=>match zo5 l with
  |some f=>match rest with
   |[.agg [.int .i64 a0,.int .i64 a1,.int .i64 a2,.int .i64 a3,.int .i64 a4,.int .i64 a5,.int .i64 a6,.int .i64 a7]] =>some (.leaf (.tuple [V3.sv (t6 f ⟨a0,a1,a2,a3,a4,a5,a6,a7⟩),J (s0 f ⟨a0,a1,a2,a3,a4,a5,a6,a7⟩)]))
   |_=>none
  |none=>none
 |_=>none⟩
theorem yr0:qc6.ok pP:=λargs t ht=>by
 simp only[qc6]at ht
 split at ht
 .split at ht
  .rename_i hx
   split at ht
   .injection ht with ht;subst ht
    exact xC7 (zo6 hx) (xw7 _ ⟨_,_,_,_,_,_,_,_⟩)
   .cases ht
  .cases ht
 .cases ht
def zh7:Plan:=.all
theorem ad0(f:Fw)(c:V4)(len line:Int):xD3 (Env.ofC (Env.ofB pP (j9 [qb7,zV7,z33]) (s8 [z82.frz]) (p9 []) (p8 []) (j6 []) (j6 []) (j6 []) (j6 [])) (yE5 [q85,q86])) 1000 (x9 pP 215) 1 (x6 137 [0,3,10,11,12]) (v7 pP 215) zh7 (v6 pP 215 [.ptr 0 0,V4.sv c,J len,J line]) [some (.cells f.cells)] =(.req (m7 len&&m7 f.feed) (.req (qo0 f.queue.length) (.req (decide ((f.queue.length+ [(c,zg5 f.ma c,0,i64.wrap (n8 f.ma c len f.feed*n8 f.ma c len f.feed),0)].length)*64<=140737488355328)) (.req (decide (0<=(↑(f.queue++[(c,zg5 f.ma c,0,i64.wrap (n8 f.ma c len f.feed*n8 f.ma c len f.feed),0)]).length:Int))&& (↑(f.queue++[(c,zg5 f.ma c,0,i64.wrap (n8 f.ma c len f.feed*n8 f.ma c len f.feed),0)]).length:Int)==(↑(f.queue++[(c,zg5 f.ma c,0,i64.wrap (n8 f.ma c len f.feed*n8 f.ma c len f.feed),0)]).length:Int)&&decide (8*(↑(f.queue++[(c,zg5 f.ma c,0,i64.wrap (n8 f.ma c len f.feed*n8 f.ma c len f.feed),0)]).length:Int)<=140737488355328)&&decide ((↑(f.queue++[(c,zg5 f.ma c,0,i64.wrap (n8 f.ma c len f.feed*n8 f.ma c len f.feed),0)]).length:Int)<=(9223372036854775807:Int))) (.leaf (.at (x8 pP 215 0) 137 (x7 137 [(0,.ptr 0 0),(3,J line),(10,SV.row 1),(11,SV.row 2),(12,J 1)]) [some (.cells (Fw.cells f)),some (.rows o9 (f.queue++[(c,zg5 f.ma c,0,i64.wrap (n8 f.ma c len f.feed*n8 f.ma c len f.feed),0)])),some (.rows (Ty.int IntKind.i64) (List.replicate (↑(f.queue++[(c,zg5 f.ma c,0,i64.wrap (n8 f.ma c len f.feed*n8 f.ma c len f.feed),0)]).length:Int).toNat (0:Int)))])))))):=by kernel_rfl
def zh9:Plan:=let z0:Plan:=.fork (.fork (.lit (.all)) (.lit (.all))) (.lit (.all));.fork (.all) (.fork z0 (.fork z0 z0))
theorem ad1(f:Fw)(line:Int)(q:List Bk)(s:List Int)(i:Int):xD3 (Env.ofC (Env.ofB pP (j9 [qb7,zV7,z33]) (s8 [z82.frz]) (p9 []) (p8 []) (j6 []) (j6 []) (j6 []) (j6 [])) (yE5 [q85,q86])) 1000 (x9 pP 215) 1 (x6 137 [0,3,10,11,12]) (x8 pP 215 0) zh9 (x7 137 [(0,.ptr 0 0),(3,J line),(10,.row 1),(11,.row 2),(12,J i)]) [some (.cells f.cells),some (.rows o9 q),some (.rows (.int .i64) s)] =(let y0:Tree StopX:=.leaf (.fin (.ret (J 2) [some (.cells (Fw.cells f))]));let y1:=decide ((f.lines.length+ [line].length)*8<=140737488355328);let y2:=f.queue.getD 0 dBk; .node (decide (i< (↑q.length:Int))) (.req (decide (0<=i64.wrap (i-1))&&decide (i64.wrap (i-1)< (↑q.length:Int))) (.req (decide ((i64.wrap (i-1)).toNat<q.length)) (.req (decide (0<=i)&&decide (i< (↑q.length:Int))) (.req (decide (i.toNat<q.length)) (.req (decide (0<=i)&&decide (i< (↑s.length:Int))) (.req (decide (i.toNat<s.length)) (.leaf (.at (x8 pP 215 0) 137 (x7 137 [(0,.ptr 0 0),(3,J line),(10,SV.row 1),(11,SV.row 2),(12,J (i64.wrap (i+1)))]) [some (.cells (Fw.cells f)),some (.rows o9 q),some (.rows (Ty.int IntKind.i64) (s.set i.toNat (i64.wrap (qM5 f.ma (q.getD (i64.wrap (i-1)).toNat dBk).1 (q.getD i.toNat dBk).1*qM5 f.ma (q.getD (i64.wrap (i-1)).toNat dBk).1 (q.getD i.toNat dBk).1))))])))))))) (.node (f.moving) (.req (yv8 q s f.mo.1.2.2.2.2) (.node (decide (f.mo.1.2.2.2.2<=crL q 0)) (.node (decide (gL q s f.mo.1.2.2.2.2 0=f.mo.1.2.2.2.2)) (.req (qo0 f.lines.length) (.req y1 (.leaf (.fin (.ret (J 0) [some (.cells (Fw.cells {f with queue:=(plB q (gL q s f.mo.1.2.2.2.2)),lines:=(f.lines++[line])}))]))))) y0) y0)) (.node (decide ((↑f.queue.length:Int)>0)) (.req (decide (0< (↑f.queue.length:Int))) (.req (yv8 q s y2.2.2.1) (.node (decide (y2.2.2.1<=crL q 0)) (.node (decide (gL q s y2.2.2.1 0=y2.2.2.1)) (.req (qo0 f.lines.length) (.req y1 (.leaf (.fin (.ret (J 0) [some (.cells (Fw.cells {f with queue:=(plB q (gL q s y2.2.2.1)),lines:=(f.lines++[line])}))]))))) y0) y0))) (.req (yv8 q s 0) (.node (decide (0<=crL q 0)) (.node (decide (gL q s 0 0=0)) (.req (qo0 f.lines.length) (.req y1 (.leaf (.fin (.ret (J 0) [some (.cells (Fw.cells {f with queue:=(plB q (gL q s 0)),lines:=(f.lines++[line])}))]))))) y0) y0))))):=by kernel_rfl
def zF1:Plan:=.all
theorem cp0(f:Fw):o7 (Env.of pP (j9 [z34])) 1000 (x9 pP 200) (.int .i64) (x6 38 [1,3,4]) (v7 pP 200) zF1 (v6 pP 200 [f.sv]) [] =(.leaf (.at (x8 pP 200 0) 38 (x7 38 [(1,.ptr 0 0),(3,SV.nilS),(4,J 0)]) [some (.cells (Fw.cells f))])):=by kernel_rfl
def zF5:Plan:=.fork (.fork (.all) (.all)) (.all)
theorem zF4(f:Fw)(i:Int):o7 (Env.of pP (j9 [z34])) 1000 (x9 pP 200) (.int .i64) (x6 38 [1,3,4]) (x8 pP 200 0) zF5 (x7 38 [(1,.ptr 0 0),(3,.nilS),(4,J i)]) [some (.cells f.cells)] =(let y0:=qM5 f.ma (f.queue.getD (i64.wrap (i-1)).toNat dBk).1 (f.queue.getD i.toNat dBk).1*qM5 f.ma (f.queue.getD (i64.wrap (i-1)).toNat dBk).1 (f.queue.getD i.toNat dBk).1;let y1:=x7 38 [(1,.ptr 0 0),(3,SV.row 1),(4,J (i64.wrap (i+1)))]; .node (decide (i< (↑f.queue.length:Int))) (.node (decide (i>0)) (.req (decide (0<=i64.wrap (i-1))&&decide (i64.wrap (i-1)< (↑f.queue.length:Int))) (.req (decide (0<=i)&&decide (i< (↑f.queue.length:Int))) (.req (decide ([i64.wrap y0].length*8<=140737488355328)) (.leaf (.at (x8 pP 200 0) 38 y1 [some (.cells (Fw.cells f)),some (.rows (Ty.int IntKind.i64) [i64.wrap y0])]))))) (.req true (.leaf (.at (x8 pP 200 0) 38 y1 [some (.cells (Fw.cells f)),some (.rows (Ty.int IntKind.i64) [(0:Int)])])))) (.leaf (.done (.list (Ty.int IntKind.i64) [])))):=by kernel_rfl
def zF3:Plan:=.fork (.fork (.all) (.all)) (.all)
theorem cp1(f:Fw)(s:List Int)(i:Int):o7 (Env.of pP (j9 [z34])) 1000 (x9 pP 200) (.int .i64) (x6 38 [1,3,4]) (x8 pP 200 0) zF3 (x7 38 [(1,.ptr 0 0),(3,.row 1),(4,J i)]) [some (.cells f.cells),some (.rows (.int .i64) s)] =(let y0:=qM5 f.ma (f.queue.getD (i64.wrap (i-1)).toNat dBk).1 (f.queue.getD i.toNat dBk).1*qM5 f.ma (f.queue.getD (i64.wrap (i-1)).toNat dBk).1 (f.queue.getD i.toNat dBk).1;let y1:=x7 38 [(1,.ptr 0 0),(3,SV.row 1),(4,J (i64.wrap (i+1)))]; .node (decide (i< (↑f.queue.length:Int))) (.node (decide (i>0)) (.req (decide (0<=i64.wrap (i-1))&&decide (i64.wrap (i-1)< (↑f.queue.length:Int))) (.req (decide (0<=i)&&decide (i< (↑f.queue.length:Int))) (.req (decide ((s.length+ [i64.wrap y0].length)*8<=140737488355328)) (.leaf (.at (x8 pP 200 0) 38 y1 [some (.cells (Fw.cells f)),some (.rows (Ty.int IntKind.i64) (s++[i64.wrap y0]))]))))) (.req (decide ((s.length+1)*8<=140737488355328)) (.leaf (.at (x8 pP 200 0) 38 y1 [some (.cells (Fw.cells f)),some (.rows (Ty.int IntKind.i64) (s++[(0:Int)]))])))) (.leaf (.done (.list (Ty.int IntKind.i64) s)))):=by kernel_rfl
def zj3(f:Fw)(c:V4)(len:Int):Bool:=okL f.ma c&& (m7 len&& (m7 f.feed&& (f.queue.all f4&& (qS2 f&& (decide (f.queue.length<=1000)&&inR (b9 f) 0 1099511627776)))))
theorem zj4{len:Int}:zj3 f c len=true↔okL f.ma c=true/\m7 len=true/\m7 f.feed=true/\(∀b∈f.queue,f4 b=true)/\f.lines.length=f.queue.length/\f.queue.length<=1000/\0<=b9 f/\b9 f<=1099511627776:=by
 simp only[zj3,Bool.and_eq_true,List.all_eq_true,qS3,decide_eq_true_eq,j8]
theorem yu7:m7 x=true↔-9223372036854775808<=x/\x<=9223372036854775807:=j8
theorem zA5(m:Ma)(q:List Bk)(i:Nat):0<=zA4 m q i/\zA4 m q i<=1099511627776:=by
 unfold zA4
 split
 .omega
 .have:=xI2 (qM7 m (q.getD (i-1) dBk).1 (q.getD i dBk).1);omega
theorem zB1(m:Ma)(q:List Bk):(zB0 m q).length=q.length:=by simp[zB0]
theorem zj5(f:Fw)(c:V4)(len:Int):(t4 f c len).length=f.queue.length+1:=by simp[t4]
theorem q32{len:Int}(h:zj3 f c len=true):f4 (q31 f.ma c len f.feed)=true:=by
 obtain⟨h1,h2,h3,_⟩:=zj4.1 h;have a:=zg7 h1;have s:=xH5 h1 (l:=len) (f:=f.feed) (yu7.1 h2).2 (yu7.1 h3).2;have q:=xI1 (v:=n8 f.ma c len f.feed) (M:=1048576) (by omega);exact xH1.2 ⟨(yv4.1 h1).2,a,by show 1<=n8 f.ma c len f.feed*n8 f.ma c len f.feed;omega,by show n8 f.ma c len f.feed*n8 f.ma c len f.feed<=1099511627776;omega⟩
theorem zk4{len:Int}(h:zj3 f c len=true):PlOk (t4 f c len) (zB0 f.ma (t4 f c len)) (b9 f):=by
 have p:=zj4.1 h;refine⟨by rw[zj5];omega,λb hb=>?_,zB1 _ _,λx hx=>?_,p.2.2.2.2.2.2⟩
 .unfold t4 at hb
  rcases List.mem_append.1 hb with hb|hb
  .exact p.2.2.2.1 b hb
  .rw[List.mem_singleton.1 hb];exact q32 h
 .unfold zB0 at hx
  obtain⟨i,_,rfl⟩:=List.mem_map.1 hx;exact zA5 _ _ _
theorem zk3{len:Int}(h:zj3 f c len=true):yv8 (t4 f c len) (zB0 f.ma (t4 f c len)) (b9 f)=true:=
 yv9.2 ⟨by have:=(zj4.1 h).2.2.2.2.2.1;rw[zj5];omega,zk4 h⟩
def zj6(f:Fw)(c:V4)(len:Int):Int:=if zj1 f c len=true then 0 else 2
def zj9(f:Fw)(c:V4)(len line:Int):Fw:=if zj1 f c len=true then s9 f c len line else f
theorem zB2{q:List Bk}{s:List Int}(hs:s.length=q.length)(h:∀t,t<q.length->s.getD t 0=zA4 m q t):s=zB0 m q:=qS7 hs h
theorem wsq(hv:0<=v/\v<=1048576):i64.wrap (v*v)=v*v:=by
 have:=xI2 hv;exact w64 (by omega) (by omega)
theorem zA6(m:Ma)(q:List Bk)(h:1<=i):zA4 m q i=qM5 m (q.getD (i-1) dBk).1 (q.getD i dBk).1*qM5 m (q.getD (i-1) dBk).1 (q.getD i dBk).1:=if_neg (by omega)
theorem zj8{len:Int}(h:zj1 f c len=true):zj6 f c len=0:=if_pos h
theorem zj7{len:Int}(h:¬zj1 f c len=true):zj6 f c len=2:=if_neg h
variable{line:Int}
theorem zk1{len:Int}(h:zj1 f c len=true):zj9 f c len line=s9 f c len line:=if_pos h
theorem zk0{len:Int}(h:¬zj1 f c len=true):zj9 f c len line=f:=if_neg h
theorem wrA:∀x∈[z82.frz],x.ok pP:=allQ.all (p:=WFact.ok pP) (l:=[z82.frz]) ⟨Fact.frz_ok yl8,trivial⟩
theorem kA:Known pP (Env.ofC (Env.ofB pP (j9 [qb7,zV7,z33]) (s8 [z82.frz]) (p9 []) (p8 []) (j6 []) (j6 []) (j6 []) (j6 [])) (yE5 [q85,q86])):=
 qO9 (hB (l:=[qb7,zV7,z33]) (k:=[z82.frz]) (j:=[]) (i:=[]) [] [] [] [] ⟨yp6,q93,yg6,trivial⟩ wrA u9 u9) (allQ.all (p:=OFact.ok pP) (l:=[q85,q86]) ⟨yk0,yk1,trivial⟩)
theorem zh8{len:Int}(line:Int)(h:zj3 f c len=true):∀ (k i:Nat) (s:List Int),i+k=f.queue.length+1->1<=i->s.length=f.queue.length+1->(∀t,t<i->s.getD t 0=zA4 f.ma (t4 f c len) t)->
  zd4 pP (x9 pP 215) [] 1 (.ret (J (zj6 f c len)) [some (.cells (zj9 f c len line).cells)]) (x8 pP 215 0) (x7 137 [(0,.ptr 0 0),(3,J line),(10,.row 1),(11,.row 2),(12,J i)]) [some (.cells f.cells),some (.rows o9 (t4 f c len)),some (.rows (.int .i64) s)]
 |k,i,s,hi,h1,hs,hc=>by
  have p:=zj4.1 h;have pl:=zk3 h;have ql:=zj5 f c len;refine y83 kA (n:=1000) (keep:=x6 137 [0,3,10,11,12]) (p:=zh9) (by show 1<=3;omega) ?_;erw [ad1 f line (t4 f c len) s i]
  have t0:(i:Int).toNat=i:=by omega
  have wm:i64.wrap ((i:Int)-1)=((i-1:Nat):Int):=by rw[w64 (by omega) (by omega)];omega
  have tm:((i-1:Nat):Int).toNat=i-1:=by omega
  have w1:i64.wrap ((i:Int)+1)=((i+1:Nat):Int):=by rw[w64 (by omega) (by omega)];omega
  have jr:=qM7 f.ma ((t4 f c len).getD (i-1) dBk).1 ((t4 f c len).getD i dBk).1
  match k,hi with
  |k+1,hi=>
   have hi2:(i:Int)< (t4 f c len).length:=by omega
   have ih:=zh8 line h k (i+1) (s.set i (zA4 f.ma (t4 f c len) i)) (by omega) (by omega) (by simpa using hs) (λt ht=>by
    rw[xE3 (by omega)]
    split
    .rename_i e;rw[e]
    .exact hc t (by omega))
   rw[zA6 f.ma (t4 f c len) h1]at ih;simp only[t0,wm,tm,w1,wsq jr,hi2,Tree.holds,decide_eq_true_eq,decide_eq_false_iff_not,Bool.and_eq_true,not_true_eq_false,false_implies,true_and,and_true,true_implies];exact⟨by omega,by omega,by omega,by omega,by omega,by omega,u7 _ _,ih⟩
  |0,hi=>
   have hi2:¬((i:Int)< (t4 f c len).length):=by omega
   have es:s=zB0 f.ma (t4 f c len):=zB2 (by omega) λt ht=>hc t (by omega)
   subst es;have f2:qo0 f.lines.length=true:=qo1.2 (by omega)
   have l2:(f.lines.length+ [line].length)*8<=140737488355328:=by simp;omega
   have key:∀e,e=b9 f->(yv8 (t4 f c len) (zB0 f.ma (t4 f c len)) e=true/\((e<=crL (t4 f c len) 0->(gL (t4 f c len) (zB0 f.ma (t4 f c len)) e 0=e->Fin.ret (SV.int IntKind.i64 0) [some (Box.cells (Fw.cells {f with queue:=plB (t4 f c len) (gL (t4 f c len) (zB0 f.ma (t4 f c len)) e),lines:=f.lines++[line]}))] =.ret (J (zj6 f c len)) [some (.cells (zj9 f c len line).cells)])/\(¬gL (t4 f c len) (zB0 f.ma (t4 f c len)) e 0=e->Fin.ret (SV.int IntKind.i64 2) [some (Box.cells (Fw.cells f))] =.ret (J (zj6 f c len)) [some (.cells (zj9 f c len line).cells)]))/\(¬e<=crL (t4 f c len) 0->Fin.ret (SV.int IntKind.i64 2) [some (Box.cells (Fw.cells f))] =.ret (J (zj6 f c len)) [some (.cells (zj9 f c len line).cells)]))):=λe he=>by
    subst he;refine⟨pl,λa=>⟨λb=>?_,λb=>?_⟩,λa=>?_⟩
    .have o:=zj2.2 ⟨a,b⟩
     rw[zj8 o,zk1 o];rfl
    .have o:¬zj1 f c len=true:=λo=>b (zj2.1 o).2
     rw[zj7 o,zk0 o];rfl
    .have o:¬zj1 f c len=true:=λo=>a (zj2.1 o).1
     rw[zj7 o,zk0 o];rfl
   have l0:(f.queue.length:Int)>0↔¬f.queue.length=0:=by omega
   cases hm:f.moving
   .by_cases hq:f.queue.length=0
    .have kk:=key 0 (by unfold b9;rw[hm,if_neg (by decide),if_pos hq])
     have hq0:¬((f.queue.length:Int)>0):=by omega
     simp only[hm]at kk;simp only[hi2,hq0,f2,l2,Tree.holds,decide_eq_true_eq,decide_eq_false_iff_not,false_implies,true_and,true_implies,not_false_eq_true,Bool.false_eq_true];exact⟨kk.1,λa=>⟨λb=>(kk.2.1 a).1 b,λb=>(kk.2.1 a).2 b⟩,λa=>kk.2.2 a⟩
    .have kk:=key (f.queue.getD 0 dBk).2.2.1 (by unfold b9;rw[hm,if_neg (by decide),if_neg hq])
     have hq0:(f.queue.length:Int)>0:=by omega
     have hq1:(0:Int)<f.queue.length:=by omega
     simp only[hm]at kk;simp only[hi2,hq0,hq1,f2,l2,Tree.holds,decide_eq_true_eq,decide_eq_false_iff_not,false_implies,true_and,true_implies,not_false_eq_true,not_true_eq_false,Bool.false_eq_true,and_true];exact⟨kk.1,λa=>⟨λb=>(kk.2.1 a).1 b,λb=>(kk.2.1 a).2 b⟩,λa=>kk.2.2 a⟩
   .have kk:=key f.mo.1.2.2.2.2 (by unfold b9;rw[hm,if_pos rfl])
    simp only[hm]at kk;simp only[hi2,hm,f2,l2,Tree.holds,decide_eq_true_eq,decide_eq_false_iff_not,false_implies,true_and,true_implies,not_false_eq_true,Bool.true_eq_false,and_true];exact⟨kk.1,λa=>⟨λb=>(kk.2.1 a).1 b,λb=>(kk.2.1 a).2 b⟩,λa=>kk.2.2 a⟩
theorem y97(f:Fw)(c:V4)(len line:Int)(h:zj3 f c len=true):zb3 pP 215 [V4.sv c,J len,J line] f (J (zj6 f c len),zj9 f c len line):=by
 have p:=zj4.1 h;have ql:=zj5 f c len;have sr:=xH5 p.1 (l:=len) (f:=f.feed) (yu7.1 p.2.1).2 (yu7.1 p.2.2.1).2;have w:=wsq (v:=n8 f.ma c len f.feed) (by omega);refine qn2 (cs:=(zj9 f c len line).cells) (by kernel_rfl) rfl rfl rfl (v5.refl _) (y83 kA (n:=1000) (keep:=x6 137 [0,3,10,11,12]) (p:=zh7) (Nat.le_refl _) ?_);have q:=ad0 f c len line;unfold v6 v7 at q;erw [q]
 have lp:=zh8 line h f.queue.length 1 (List.replicate (t4 f c len).length 0) (by omega) (by omega) (by simp[ql]) (λt ht=>by
  have:t=0:=by omega
  subst this
  rw[ql];rfl)
 have tn:((t4 f c len).length:Int).toNat=(t4 f c len).length:=by omega
 rw[w];simp only[show f.queue++[(c,zg5 f.ma c,0,n8 f.ma c len f.feed*n8 f.ma c len f.feed,0)] =t4 f c len from rfl,tn,Tree.holds,Bool.and_eq_true,decide_eq_true_eq,beq_self_eq_true,and_true,true_and];refine⟨⟨p.2.1,p.2.2.1⟩,qo1.2 (by omega),by simp;omega,⟨⟨by omega,by omega⟩,by omega⟩,u7 _ _,lp⟩
def zq7:BFact:=zu6 215 λf rest=>match rest with
 |[.agg [.int .i64 a,.int .i64 b,.int .i64 c,.int .i64 d],.int .i64 len,.int .i64 line] =>some (.req (zj3 f (a,b,c,d) len) (.node (zj1 f (a,b,c,d) len) (.leaf (J 0,s9 f (a,b,c,d) len line)) (.leaf (J 2,f))))
 |_=>none
theorem ya6:zq7.ok pP:=zu7 λf rest t ht=>by
 split at ht
 .rename_i a b c d len line
  injection ht with ht;subst ht;intro h;have k:=y97 f (a,b,c,d) len line h;refine⟨λo=>?_,λo=>?_⟩
  .rw[zj8 o,zk1 o]at k;exact k
  .have o:¬zj1 f (a,b,c,d) len=true:=by rw[o];exact Bool.false_ne_true
   rw[zj7 o,zk0 o]at k;exact k
 .cases ht
def yS0:BFact:=y36 213 λf rest=>match rest with
 |[.agg [.int .i64 a0,.int .i64 a1,.int .i64 a2,.int .i64 a3,.int .i64 a4,.int .i64 a5,.int .i64 a6,.int .i64 a7]] =>some (.leaf (.tuple [V3.sv (t6 f ⟨a0,a1,a2,a3,a4,a5,a6,a7⟩),J (s0 f ⟨a0,a1,a2,a3,a4,a5,a6,a7⟩)]))
 |_=>none
theorem yo6:yS0.ok pP:=y37 λf rest t ht=>by
 split at ht
 .injection ht with ht;subst ht;exact xw6 f ⟨_,_,_,_,_,_,_,_⟩
 .cases ht
def yR6:BFact:=y36 216 λf rest=>match rest with
 |[.agg [.int .i64 x,.int .i64 y,.int .i64 z],.int .i64 e] =>some (.req (qR7 f (x,y,z) e) (.leaf (J (qR3 f (x,y,z) e))))
 |_=>none
theorem yo3:yR6.ok pP:=y37 λf rest t ht=>by
 split at ht
 .injection ht with ht;subst ht;exact λh=>xi6 f (_,_,_) _ h
 .cases ht
noncomputable def qL0:List Item:=xK4 (xD3 (Env.ofB pP (j9 [z52,z27,z07,z50,z60]) (s8 []) (p9 [BFact.toP yS0]) (p8 [yS0]) (j6 []) (j6 []) (j6 []) (j6 [12])) 1000 (x9 pP 146) 1 (x6 152 []) (v7 pP 146) .all (v6 pP 146 [.ptr 0 0,J 1,(⟨0,0,0,0,0,0,0,0⟩:Gc.C).sv]) [some (.cells fw0.cells)])
def q10:Plan:=let z1:Plan:=.lit (.lit (.lit .all));let z0:Plan:=.fork (.fork z1 (.ln 3 (.fork (.ln 12 (.fork .all .all)) (.ln 12 (.lit .all))))) (.fork z1 z1);.fork (.ln 19 (.lit .all)) (.ln 6 (.fork (.ln 12 (.lit .all)) (.ln 5 (.fork (.ln 6 (.lit .all)) (.ln 6 (.fork .all (.fork z0 z0)))))))
theorem mv0(f:Fw)(line:Int)(c:Gc.C):xD3 (Env.ofB pP (j9 [z52,z27,z07,z50,z60]) (s8 []) (p9 [BFact.toP yS0]) (p8 [yS0]) (j6 []) (j6 []) (j6 []) (j6 [12])) 1000 (x9 pP 146) 1 (x6 152 [0,1,7,8,9,11]) (v7 pP 146) q10 (v6 pP 146 [.ptr 0 0,J line,c.sv]) [some (.cells f.cells)] =(let y3:={f with feed:=c.f};let y5:Tree StopX:=.leaf (.fin (.ret (J 14) [some (.cells (Fw.cells f))]));let y6:Box:=.cells (Fw.cells {f with feed:=c.f});let y7:Tree StopX:=.leaf (.fin (.ret (J 8) [some (.cells (Fw.cells f))]));let y8:=((t6 y3 c).1,(t6 y3 c).2);let y0:=qZ3 f.ma y8 (s0 y3 c);let y2:Tree StopX:=.req (q02 y3&&yR0 y3) (.leaf (.at qL0 152 (x7 152 [(0,.ptr 0 0),(1,J line),(7,.ptr 1 0),(8,J (s0 y3 c)),(9,.ptr 2 0),(11,.ptr 3 0)]) [some y6,some (.cells [J (t6 y3 c).1,J (t6 y3 c).2.1,J (t6 y3 c).2.2]),some (.cells [J y0.1,J y0.2.1,J y0.2.2.1,J y0.2.2.2]),some (.cells [J (wsub4 y0 (qw5 y3)).1,J (wsub4 y0 (qw5 y3)).2.1,J (wsub4 y0 (qw5 y3)).2.2.1,J (wsub4 y0 (qw5 y3)).2.2.2])]));let y9:=((t6 f c).1,(t6 f c).2);let y4:=qZ3 f.ma y9 (s0 f c);let y1:Tree StopX:=.req (q02 f&&yR0 f) (.leaf (.at qL0 152 (x7 152 [(0,.ptr 0 0),(1,J line),(7,.ptr 1 0),(8,J (s0 f c)),(9,.ptr 2 0),(11,.ptr 3 0)]) [some (.cells (Fw.cells f)),some (.cells [J (t6 f c).1,J (t6 f c).2.1,J (t6 f c).2.2]),some (.cells [J y4.1,J y4.2.1,J y4.2.2.1,J y4.2.2.2]),some (.cells [J (wsub4 y4 (qw5 f)).1,J (wsub4 y4 (qw5 f)).2.1,J (wsub4 y4 (qw5 f)).2.2.1,J (wsub4 y4 (qw5 f)).2.2.2])]));let y10:Tree StopX:=.leaf (.fin (.ret (J 8) [some y6])); .node (decide (line<1)) y5 (.node (!f.homed) y5 (.node (f.back) y5 (.node (f.mode != 1) y5 (.node (i64.wrap (↑(BitVec.ofInt 64 c.has &&&BitVec.ofInt 64 16).toNat:Int) != 0) (.node (qY8 f.ma y8 (s0 y3 c)) (.node (!qH4 f.ma y8) y10 (.node (decide (s0 y3 c>f.e)) (.req true (.node (decide (f.r0<f.cold)) (.leaf (.fin (.ret (J 15) [some y6]))) y2)) y2)) (.node (!qH4 f.ma y8) y10 y10)) (.node (qY8 f.ma y9 (s0 f c)) (.node (!qH4 f.ma y9) y7 (.node (decide (s0 f c>f.e)) (.req true (.node (decide (f.r0<f.cold)) (.leaf (.fin (.ret (J 15) [some (.cells (Fw.cells f))]))) y1)) y1)) (.node (!qH4 f.ma y9) y7 y7))))))):=by kernel_rfl
def q11:Plan:=let z0:Plan:=.fork (.fork (.lit .all) (.lit .all)) .all;.fork (.ln 3 (.lit .all)) (.ln 3 (.fork .all (.fork (.ln 7 (.fork .all z0)) (.ln 8 z0))))
theorem mv1(f:Fw)(line:Int)(u:V3)(e:Int)(p d:V4):xD3 (Env.ofB pP (j9 [z52,z27,z07,z50,z60]) (s8 []) (p9 [BFact.toP zq7,BFact.toP yR6]) (p8 [zq7,yR6]) (j6 []) (j6 []) (j6 []) (j6 [])) 1000 (x9 pP 146) 1 (x6 152 [0,1,7,8,9,11]) qL0 q11 (x7 152 [(0,.ptr 0 0),(1,J line),(7,.ptr 1 0),(8,J e),(9,.ptr 2 0),(11,.ptr 3 0)]) [some (.cells f.cells),some (.cells (V3.cells u)),some (.cells (V4.cells p)),some (.cells (V4.cells d))] =(let y1:Tree StopX:=.leaf (.fin (.ret (J 2) [some (.cells (Fw.cells f))]));let y2:=!(d.1==0&& (d.2.1==0&& (d.2.2.1==0&& (d.2.2.2==0&&true))));let y0:Tree StopX:=.node y2 (.req (qR7 f u e) (.req (qR7 f u e) (.req (zj3 f d (qR3 f u e)) (.node (zj1 f d (qR3 f u e)) (.leaf (.fin (.ret (J 0) [some (.cells (Fw.cells { (s9 f d (qR3 f u e) line)with loc:=u,e:=e}))]))) y1)))) (.leaf (.fin (.ret (J 0) [some (.cells (Fw.cells {f with loc:=u,e:=e}))]))); .node (!v9 p) y1 (.node (!v9 d) y1 (.node y2 (.node (decide ((↑f.queue.length:Int)>=32)) (.leaf (.fin (.ret (J 18) [some (.cells (Fw.cells f))]))) y0) y0))):=by kernel_rfl
theorem nzT(d:V4):(!(d.1==0&& (d.2.1==0&& (d.2.2.1==0&& (d.2.2.2==0&&true)))))=nz4 d:=by
 unfold nz4;rw[Bool.and_true]
section
variable {g:Fw} {line e:Int} {u:V3} {p d:V4}
theorem xR2(h:(v9 p&&v9 d)=false):tlE g u e p d=2:=by unfold tlE;rw[h]
theorem xR5(h:(v9 p&&v9 d)=true)(k:nz4 d=false):tlE g u e p d=0:=by unfold tlE;rw[h,k]
theorem xR3(h:(v9 p&&v9 d)=true)(k:nz4 d=true)(q:32<=g.queue.length):tlE g u e p d=18:=by unfold tlE;rw[h,k];exact if_pos q
theorem xR6(h:(v9 p&&v9 d)=true)(k:nz4 d=true)(q:¬32<=g.queue.length)(o:zj1 g d (qR3 g u e)=true):tlE g u e p d=0:=by unfold tlE;rw[h,k];dsimp only;rw[if_neg q,if_pos o]
theorem xR4(h:(v9 p&&v9 d)=true)(k:nz4 d=true)(q:¬32<=g.queue.length)(o:¬zj1 g d (qR3 g u e)=true):tlE g u e p d=2:=by unfold tlE;rw[h,k];dsimp only;rw[if_neg q,if_neg o]
theorem xR9(h:¬tlE g u e p d=0):tlO g line u e p d=g:=if_neg h
theorem xS0(h:tlE g u e p d=0):tlO g line u e p d=tlF g line u e d:=if_pos h
theorem xR7(k:nz4 d=false):tlF g line u e d={g with loc:=u,e:=e}:=by unfold tlF;rw[k]
theorem xR8(k:nz4 d=true):tlF g line u e d={s9 g d (qR3 g u e) line with loc:=u,e:=e}:=by unfold tlF;rw[k]
theorem kMv:Known pP (Env.ofB pP (j9 [z52,z27,z07,z50,z60]) (s8 []) (p9 [BFact.toP zq7,BFact.toP yR6]) (p8 [zq7,yR6]) (j6 []) (j6 []) (j6 []) (j6 [])):=
 hB (l:=[z52,z27,z07,z50,z60]) (k:=[]) (j:=[BFact.toP zq7,BFact.toP yR6]) (i:=[zq7,yR6]) [] [] [] [] ⟨yi5,yg0,ye4,yi3,yj3,trivial⟩ u9 (allQ.all (p:=PFact.ok pP) (l:=[BFact.toP zq7,BFact.toP yR6]) ⟨BFact.toP_ok ya6,BFact.toP_ok yo3,trivial⟩) (allQ.all (p:=BFact.ok pP) (l:=[zq7,yR6]) ⟨ya6,yo3,trivial⟩)
theorem kMh:Known pP (Env.ofB pP (j9 [z52,z27,z07,z50,z60]) (s8 []) (p9 [BFact.toP yS0]) (p8 [yS0]) (j6 []) (j6 []) (j6 []) (j6 [12])):=
 hB (l:=[z52,z27,z07,z50,z60]) (k:=[]) (j:=[BFact.toP yS0]) (i:=[yS0]) [] [] [] [12] ⟨yi5,yg0,ye4,yi3,yj3,trivial⟩ u9 (allQ.all (p:=PFact.ok pP) (l:=[BFact.toP yS0]) ⟨BFact.toP_ok yo6,trivial⟩) (allQ.all (p:=BFact.ok pP) (l:=[yS0]) ⟨yo6,trivial⟩)
theorem q12(hl:v9 d=true->nz4 d=true->¬32<=g.queue.length->qR7 g u e=true/\zj3 g d (qR3 g u e)=true):
  zd4 pP (x9 pP 146) [] 1 (.ret (J (tlE g u e p d)) [some (.cells (tlO g line u e p d).cells)]) qL0 (x7 152 [(0,.ptr 0 0),(1,J line),(7,.ptr 1 0),(8,J e),(9,.ptr 2 0),(11,.ptr 3 0)]) [some (.cells g.cells),some (.cells (V3.cells u)),some (.cells (V4.cells p)),some (.cells (V4.cells d))] :=by
 refine y83 kMv (n:=1000) (keep:=x6 152 [0,1,7,8,9,11]) (p:=q11) (by show 1<=4;omega) ?_;erw [mv1 g line u e p d];rw[nzT]
 cases hp:v9 p
 .have h:(v9 p&&v9 d)=false:=by rw[hp];rfl
  have k:=xR2 (g:=g) (u:=u) (e:=e) h;rw[k,xR9 (by rw[k];decide)];exact⟨λ_=>rfl,λc=>by cases c⟩
 cases hd:v9 d
 .have h:(v9 p&&v9 d)=false:=by rw[hp,hd];rfl
  have k:=xR2 (g:=g) (u:=u) (e:=e) h;rw[k,xR9 (by rw[k];decide)];exact⟨λc=>(by cases c),λ_=>⟨λ_=>rfl,λc=>by cases c⟩⟩
 have h:(v9 p&&v9 d)=true:=by rw[hp,hd];rfl
 refine⟨λc=>(by cases c),λ_=>⟨λc=>(by cases c),λ_=>?_⟩⟩
 cases hz:nz4 d
 .have k:=xR5 (g:=g) (u:=u) (e:=e) h hz
  rw[k,xS0 k,xR7 hz];exact⟨λc=>(by cases c),λ_=>⟨λc=>(by cases c),λ_=>rfl⟩⟩
 by_cases hq:32<=g.queue.length
 .have k:=xR3 (g:=g) (u:=u) (e:=e) h hz hq
  rw[k,xR9 (by rw[k];decide)];exact⟨λ_=>⟨λ_=>rfl,λc=>absurd (of_decide_eq_false c) (λn=>n (by omega))⟩,λc=>by cases c⟩
 .obtain⟨l1,l2⟩:=hl hd hz hq
  refine⟨λ_=>⟨λc=>absurd (of_decide_eq_true c) (by omega),λ_=>⟨λ_=>⟨l1,l1,l2,λo=>?_,λo=>?_⟩,λc=>by cases c⟩⟩,λc=>by cases c⟩
  .have k:=xR6 (g:=g) (u:=u) (e:=e) h hz hq o
   rw[k,xS0 k,xR8 hz];rfl
  .have k:=xR4 (g:=g) (u:=u) (e:=e) h hz hq (by rw[o];exact Bool.false_ne_true)
   rw[k,xR9 (by rw[k];decide)];rfl
end
structure VF (f:Fw):Prop where
 ma:f.ma.ok=true
 c0:f.c0.ok=true
 c1:f.c1.ok=true
 g0:f.g0.ok=true
 g1:f.g1.ok=true
 mode:1<=f.mode/\f.mode<=3
 nums:(-16777216<=f.loc.1/\f.loc.1<=16777216)/\(-16777216<=f.loc.2.1/\f.loc.2.1<=16777216)/\(-16777216<=f.loc.2.2/\f.loc.2.2<=16777216)/\(-16777216<=f.e/\f.e<=16777216)/\(0<=f.feed/\f.feed<=1048576)/\(0<=f.dwell/\f.dwell<=1048576)/\(0<=f.waits/\f.waits<=3)/\(0<=f.fan/\f.fan<=255)/\(0<=f.line/\f.line<=1099511627776)/\(0<=f.active/\f.active<=1099511627776)/\(0<=f.ticks/\f.ticks<=1099511627776)/\0<=f.cold/\f.cold<=400000
 moves:q02 f=true
 queued:yR0 f=true
 ends:(¬f.mode=3/\f.homed=true)\/(f.moving=false/\f.queue.length=0)
 len:f.queue.length<=32
 lens:f.lines.length=f.queue.length
 pos:v9 f.pos=true
 ret:v9 f.ret=true
 beg:v9 (zu2 f)=true
 q0:v9 (yQ6 f)=true
 blk:∀i,i<f.queue.length->zw5 (yQ6 f) f.queue f.lines i=true
theorem x00(h:xX9 f=true):VF f:=by
 obtain⟨h1,h2,h3,h4,h5⟩:=xY0.1 h;obtain⟨a1,a2,a3,a4,a5⟩:=yJ7.1 h1;obtain⟨b1,b2⟩:=qY1.1 h2;obtain⟨q1,q2,q3,q4,q5,q6,q7⟩:=yR1.1 h4;exact⟨a1,a2,a3,a4,a5,b1,q73.1 b2,h3,h4,zR9.1 h5,q1,q2,q3,q4,q5,q6,q7⟩
theorem qu7{O:Type}{l:List O}{x d:O}(h:x∈l):∃i,i<l.length/\l.getD i d=x:=by
 obtain⟨i,hi,e⟩:=List.getElem_of_mem h;exact⟨i,hi,by rw[List.getD_eq_getElem?_getD,List.getElem?_eq_getElem hi];exact e⟩
theorem zw8{p:V4}{q:List Bk}{ls:List Int}(h:zw5 p q ls i=true):xX7 (q.getD i dBk)=true/\(0<=ls.getD i 0/\ls.getD i 0<=1099511627776)/\v9 (yN4 p q (i+1))=true:=by
 simp only[zw5,Bool.and_eq_true,j8]at h;exact h
theorem VF.blocks(v:VF f):∀b∈f.queue,xX7 b=true:=λb hb=>by
 obtain⟨i,hi,rfl⟩:=qu7 (d:=dBk) hb;exact(zw8 (v.blk i hi)).1
theorem VF.linesR(v:VF f):∀n∈f.lines,0<=n/\n<=1099511627776:=λn hn=>by
 obtain⟨i,hi,rfl⟩:=qu7 (d:=(0:Int)) hn;exact(zw8 (v.blk i (by have:=v.lens;omega))).2.1
theorem VF.shape(v:VF f):xE9 f=true:=xF0.2 ⟨q29 v.pos,v.lens,v.len,by have:=v.nums;omega,by have:=v.nums;omega,v.linesR⟩
theorem VF.goal(v:VF f):v9 (qw5 f)=true:=by
 unfold qw5
 cases hq:f.queue.length with
 |zero=>exact v.q0
 |succ n=>exact(zw8 (v.blk n (by omega))).2.2
theorem VF.sound(v:VF f):∀b∈f.queue,f4 b=true:=λb hb=>by
 have:=v.blocks b hb;unfold xX7 at this;rw[Bool.and_eq_true]at this;exact this.1
theorem VF.entry(v:VF f):0<=b9 f/\b9 f<=1099511627776:=by
 unfold b9
 split
 .rename_i hm
  have m:=v.moves;rw[q04 hm]at m;have r:=xX8.1 (y80.1 m).1;omega
 .split
  .omega
  .rename_i hq
   have r:=xX8.1 (zw8 (v.blk 0 (by omega))).1;omega
theorem qZ4{u:V3}(h:qY8 m u e=true):zu8 (qZ3 m u e)=true:=by
 obtain⟨h1,h2,h3,h4⟩:=qY9.1 h;have o:=(Ma.ok_iff m).1 (n9.1 h1).1;have r1:=(xJ2 o.1 (n9.1 h1).2).2;have r2:=(xJ2 o.2.1 (n9.1 h2).2).2;have r3:=(xJ2 o.2.2.1 (n9.1 h3).2).2;have r4:=(xJ2 o.2.2.2.1 (n9.1 h4).2).2;rw[zu9];unfold qZ3 zF0
 split<;>dsimp only<;>omega
theorem qR5{u:V3}(h:qR7 f u e=true):0<=qR3 f u e/\qR3 f u e<=4611686018427387904:=by
 have p:=qR8.1 h;have a:=qK6 (sqs f.loc u);have b:=qK4 (sqs f.loc u);unfold qR3
 split
 .split<;>omega
 .omega
theorem xW8{c:Gc.C}(h:c.valid=true):0<=c.f/\c.f<=1048576:=by
 unfold Gc.C.valid at h;rw[Bool.and_eq_true]at h;have r:=h.2;simp only[Gc.rest,Bool.and_eq_true]at r;have h4:Gc.okW c 4=true:=r.2.2.2.2.1;unfold Gc.okW at h4
 have e:c.num 4=c.f:=by unfold Gc.C.num;simp
 have e1:Gc.lo c.code 4=1:=by unfold Gc.lo;simp
 have e2:Gc.hi c.code 4=1048576:=by unfold Gc.hi;simp
 rw[e,e1,e2]at h4
 split at h4
 .have:=beq_iff_eq.1 h4;omega
 .have:=j8.1 h4;omega
section
variable {f:Fw} {line:Int} {c:Gc.C}
theorem q14(k:line<1\/f.homed=false\/f.back=true\/¬f.mode=1):qZ6 f line c=14/\q00 f line c=f:=by
 have e:qZ8 f line c=14:=if_pos k;unfold qZ6 q00;rw[e];exact⟨if_neg (by decide),by rw[if_neg (by decide),if_pos rfl]⟩
theorem q16(k:¬(line<1\/f.homed=false\/f.back=true\/¬f.mode=1))(k2:qH4 f.ma (t6 f c)=false\/qY8 f.ma (t6 f c) (s0 f c)=false):qZ6 f line c=8/\q00 f line c=d8 f c:=by
 have e:qZ8 f line c=8:=by unfold qZ8;rw[if_neg k,if_pos k2]
 unfold qZ6 q00;rw[e];exact⟨if_neg (by decide),by rw[if_neg (by decide),if_neg (by decide)]⟩
theorem q15(k:¬(line<1\/f.homed=false\/f.back=true\/¬f.mode=1))(k2:¬(qH4 f.ma (t6 f c)=false\/qY8 f.ma (t6 f c) (s0 f c)=false))(k3:f.e<s0 f c/\f.r0<f.cold):qZ6 f line c=15/\q00 f line c=d8 f c:=by
 have e:qZ8 f line c=15:=by unfold qZ8;rw[if_neg k,if_neg k2,if_pos k3]
 unfold qZ6 q00;rw[e];exact⟨if_neg (by decide),by rw[if_neg (by decide),if_neg (by decide)]⟩
theorem q13(k:¬(line<1\/f.homed=false\/f.back=true\/¬f.mode=1))(k2:¬(qH4 f.ma (t6 f c)=false\/qY8 f.ma (t6 f c) (s0 f c)=false))(k3:¬(f.e<s0 f c/\f.r0<f.cold)):qZ6 f line c=tlE (d8 f c) (t6 f c) (s0 f c) (q01 f c) (qZ7 f c)/\q00 f line c=tlO (d8 f c) line (t6 f c) (s0 f c) (q01 f c) (qZ7 f c):=by
 have e:qZ8 f line c=0:=by unfold qZ8;rw[if_neg k,if_neg k2,if_neg k3]
 unfold qZ6 q00;rw[e];exact⟨if_pos rfl,if_pos rfl⟩
theorem qn8(h:qA0 c.has 16=true):d8 f c={f with feed:=c.f}:=if_pos h
theorem qn7(h:¬qA0 c.has 16=true):d8 f c=f:=if_neg h
theorem qn9(v:VF f)(hc:c.valid=true):0<=(d8 f c).feed/\(d8 f c).feed<=1048576:=by
 unfold d8
 split
 .exact xW8 hc
 .have:=v.nums;omega
theorem q19(v:VF f)(hc:c.valid=true)(ki:qH4 f.ma (t6 f c)=true)(km:qY8 f.ma (t6 f c) (s0 f c)=true){d:V4}(hd:v9 d=true)(hz:nz4 d=true):qR7 (d8 f c) (t6 f c) (s0 f c)=true/\zj3 (d8 f c) d (qR3 (d8 f c) (t6 f c) (s0 f c))=true:=by
 have n:=v.nums;have o:=(Ma.ok_iff f.ma).1 v.ma;have ii:=qH5.1 ki;have a1:=(Ax.ok_iff _).1 o.1;have a2:=(Ax.ok_iff _).1 o.2.1;have a3:=(Ax.ok_iff _).1 o.2.2.1;have mm:=(qY9.1 km).2.2.2;have me:=(n9.1 mm).2;have iu:inV (t6 f c)=true:=qH1.2 (by omega);have il:inV f.loc=true:=qH1.2 (by omega)
 have fl:(d8 f c).loc=f.loc:=by unfold d8;split<;>rfl
 have fe:(d8 f c).e=f.e:=by unfold d8;split<;>rfl
 have fm:(d8 f c).ma=f.ma:=by unfold d8;split<;>rfl
 have fq:(d8 f c).queue=f.queue:=by unfold d8;split<;>rfl
 have fn:(d8 f c).lines=f.lines:=by unfold d8;split<;>rfl
 have fy:b9 (d8 f c)=b9 f:=by unfold d8;split<;>rfl
 have lp:qR7 (d8 f c) (t6 f c) (s0 f c)=true:=qR8.2 ⟨by rw[fl];exact il,iu,by rw[fe];omega,by omega⟩;have lr:=qR5 lp;have fr:=qn9 v hc;have en:=v.entry;refine⟨lp,zj4.2 ⟨yv4.2 ⟨by rw[fm];exact v.ma,?_⟩,yu7.2 (by omega),yu7.2 (by omega),by rw[fq];exact v.sound,by rw[fn,fq];exact v.lens,by rw[fq];have:=v.len;omega,by rw[fy];exact en⟩⟩;unfold okC;rw[hd,hz];rfl
theorem xl3(h:xX9 f=true)(hc:c.valid=true):zb3 pP 146 [J line,c.sv] f (J (qZ6 f line c),q00 f line c):=by
 have v:=x00 h;refine qn2 (cs:=(q00 f line c).cells) (by kernel_rfl) rfl rfl rfl (v5.refl _) (y83 kMh (n:=1000) (keep:=x6 152 [0,1,7,8,9,11]) (p:=q10) (Nat.le_refl _) ?_);have q:=mv0 f line c;unfold v6 v7 at q;erw [q]
 by_cases k:line<1\/f.homed=false\/f.back=true\/¬f.mode=1
 .obtain⟨eA,eO⟩:=q14 (c:=c) k
  rw[eA,eO];refine⟨λ_=>rfl,λa=>⟨λ_=>rfl,λb=>⟨λ_=>rfl,λd=>⟨λ_=>rfl,λe=>?_⟩⟩⟩⟩;exfalso;have a:=of_decide_eq_false a;have e:=bne_eq_false_iff_eq.1 e;rcases k with k|k|k|k
  .exact a k
  .rw[k]at b;cases b
  .rw[k]at d;cases d
  .exact k e
 .have mq:(q02 f&&yR0 f)=true:=by rw[v.moves,v.queued];rfl
  refine⟨λa=>absurd (.inl (of_decide_eq_true a)) k,λ_=>⟨λa=>absurd (.inr (.inl (by simpa using a))) k,λ_=>⟨λa=>absurd (.inr (.inr (.inl a))) k,λ_=>⟨λa=>absurd (.inr (.inr (.inr (bne_iff_ne.1 a)))) k,λ_=>?_⟩⟩⟩⟩
  have out:∀g:Fw,d8 f c=g->(qH4 f.ma (t6 f c)=true->qY8 f.ma (t6 f c) (s0 f c)=true->¬(f.e<s0 f c/\f.r0<f.cold)->
    zd4 pP (x9 pP 146) [] 1 (.ret (J (qZ6 f line c)) [some (.cells (q00 f line c).cells)]) qL0 (x7 152 [(0,.ptr 0 0),(1,J line),(7,.ptr 1 0),(8,J (s0 f c)),(9,.ptr 2 0),(11,.ptr 3 0)]) [some (.cells g.cells),some (.cells (V3.cells (t6 f c))),some (.cells (V4.cells (q01 f c))),some (.cells (V4.cells (wsub4 (q01 f c) (qw5 f))))]):=λg hg ki km kk=>by
   obtain⟨eA,eO⟩:=q13 k (λn=>by rcases n with n|n;rw[ki]at n;cases n;rw[km]at n;cases n) kk;have hw:wsub4 (q01 f c) (qw5 f)=qZ7 f c:=x47 (qZ4 km) (q29 v.goal);rw[eA,eO,hw,<-hg]
   exact q12 λhd hz _=>q19 v hc ki km hd hz
  refine⟨λw=>?_,λw=>?_⟩
  .have hf:d8 f c={f with feed:=c.f}:=qn8 (qA1.2 (bne_iff_ne.1 w))
   refine⟨λm=>⟨λi=>?_,λi=>⟨λt=>⟨rfl,λr=>?_,λr=>⟨mq,u7 _ _,?_⟩⟩,λt=>⟨mq,u7 _ _,?_⟩⟩⟩,λm=>⟨λi=>?_,λi=>?_⟩⟩
   .obtain⟨eA,eO⟩:=q16 (c:=c) k (.inl (by have i:(!qH4 f.ma (t6 f c))=true:=i;simpa using i))
    rw[eA,eO,hf];rfl
   .have i:(!qH4 f.ma (t6 f c))=false:=i
    have m:qY8 f.ma (t6 f c) (s0 f c)=true:=m;obtain⟨eA,eO⟩:=q15 (c:=c) k (λn=>by rcases n with n|n;rw[n]at i;cases i;rw[m]at n;cases n) ⟨of_decide_eq_true t,of_decide_eq_true r⟩;rw[eA,eO,hf];rfl
   .have i:(!qH4 f.ma (t6 f c))=false:=i
    exact out _ hf (by simpa using i) m λn=>absurd n.2 (of_decide_eq_false r)
   .have i:(!qH4 f.ma (t6 f c))=false:=i
    exact out _ hf (by simpa using i) m λn=>absurd n.1 (of_decide_eq_false t)
   .obtain⟨eA,eO⟩:=q16 (c:=c) k (.inr m)
    rw[eA,eO,hf];rfl
   .obtain⟨eA,eO⟩:=q16 (c:=c) k (.inr m)
    rw[eA,eO,hf];rfl
  .have hf:d8 f c=f:=qn7 (λn=>by rw[bne_eq_false_iff_eq]at w;exact qA1.1 n w)
   refine⟨λm=>⟨λi=>?_,λi=>⟨λt=>⟨rfl,λr=>?_,λr=>⟨mq,u7 _ _,?_⟩⟩,λt=>⟨mq,u7 _ _,?_⟩⟩⟩,λm=>⟨λi=>?_,λi=>?_⟩⟩
   .obtain⟨eA,eO⟩:=q16 (c:=c) k (.inl (by have i:(!qH4 f.ma (t6 f c))=true:=i;simpa using i))
    rw[eA,eO,hf];rfl
   .have i:(!qH4 f.ma (t6 f c))=false:=i
    have m:qY8 f.ma (t6 f c) (s0 f c)=true:=m;obtain⟨eA,eO⟩:=q15 (c:=c) k (λn=>by rcases n with n|n;rw[n]at i;cases i;rw[m]at n;cases n) ⟨of_decide_eq_true t,of_decide_eq_true r⟩;rw[eA,eO,hf];rfl
   .have i:(!qH4 f.ma (t6 f c))=false:=i
    exact out _ hf (by simpa using i) m λn=>absurd n.2 (of_decide_eq_false r)
   .have i:(!qH4 f.ma (t6 f c))=false:=i
    exact out _ hf (by simpa using i) m λn=>absurd n.1 (of_decide_eq_false t)
   .obtain⟨eA,eO⟩:=q16 (c:=c) k (.inr m)
    rw[eA,eO,hf];rfl
   .obtain⟨eA,eO⟩:=q16 (c:=c) k (.inr m)
    rw[eA,eO,hf];rfl
end
noncomputable def x10:WFact:=x31 146 λf rest=>match rest with
 |[.int .i64 line,.agg [.int .i64 a0,.int .i64 a1,.int .i64 a2,.int .i64 a3,.int .i64 a4,.int .i64 a5,.int .i64 a6,.int .i64 a7]] =>some (.req (xX9 f) (.req (Gc.C.valid ⟨a0,a1,a2,a3,a4,a5,a6,a7⟩) (.leaf (J (qZ6 f line ⟨a0,a1,a2,a3,a4,a5,a6,a7⟩),q00 f line ⟨a0,a1,a2,a3,a4,a5,a6,a7⟩))))
 |_=>none
theorem ys9:x10.ok pP:=x32 λf rest t ht=>by
 split at ht
 .injection ht with ht;subst ht;exact λh hc=>xl3 (c:=⟨_,_,_,_,_,_,_,_⟩) h hc
 .cases ht
def qB5:Plan:=let z0:Plan:=.fork .all .all;.fork .all (.fork .all (.fork (.ln 5 (.fork (.fork (.lit .all) (.lit .all)) (.fork z0 z0))) (.ln 6 (.fork z0 z0))))
theorem hm0(f:Fw)(line:Int)(c:Gc.C):xD3 (Env.ofB pP (j9 [z21,qe0,z86]) (s8 []) (p9 [BFact.toP zq7]) (p8 [zq7]) (j6 []) (j6 []) (j6 []) (j6 [])) 1000 (x9 pP 148) 1 (x6 148 [0,115,116]) (v7 pP 148) qB5 (v6 pP 148 [.ptr 0 0,J line,c.sv]) [some (.cells f.cells)] =(let y1:=x7 148 [(0,.ptr 0 0),(115,.agg [J 0,J 0,J f.pos.2.2.1,J 0,J f.pos.1,J f.pos.2.1,J 0,J 0]),(116,J 0)];let y2:=x7 148 [(0,.ptr 0 0),(115,.agg [J 0,J 0,J f.ret.2.2.1,J 0,J f.ret.1,J f.ret.2.1,J 0,J 0]),(116,J 0)];let y3:=(0,0,0,f.pos.2.2.2);let y4:=x8 pP 148 0;let y5:=xW0 (axM f.ma 3) f.pos.2.2.2;let y0:Tree StopX:=.req true (.req (true) (.req true (.node (f9 f.ma f.pos.2.2.2) (.node (!f.back) (.leaf (.fin (.ret (J 0) [some (.cells (Fw.cells {f with homed:=true,pos:=y3,loc:=(0,0,0),e:=y5}))]))) (.req true (.req (true) (.req true (.leaf (.at y4 148 y2 [some (.cells (Fw.cells {f with homed:=true,pos:=y3,loc:=(0,0,0),e:=y5,back:=false}))])))))) (.node (!f.back) (.leaf (.fin (.ret (J 0) [some (.cells (Fw.cells {f with homed:=true,pos:=y3,loc:=(0,0,0),e:=0}))]))) (.req true (.req (true) (.req true (.leaf (.at y4 148 y2 [some (.cells (Fw.cells {f with homed:=true,pos:=y3,loc:=(0,0,0),e:=0,back:=false}))]))))))))); .node (!qF6 f) (.leaf (.fin (.ret (J 18) [some (.cells (Fw.cells f))]))) (.node (f.mode != 1) (.leaf (.fin (.ret (J 14) [some (.cells (Fw.cells f))]))) (.node (line==0) (.node (f.homed) (.req true (.req (true) (.req true (.node (f9 f.ma f.pos.2.2.2) (.req true (.req (true) (.req true (.leaf (.at y4 148 y1 [some (.cells (Fw.cells {f with homed:=true,pos:=y3,loc:=(0,0,0),e:=y5,back:=false,ret:=f.pos}))]))))) (.req true (.req (true) (.req true (.leaf (.at y4 148 y1 [some (.cells (Fw.cells {f with homed:=true,pos:=y3,loc:=(0,0,0),e:=0,back:=false,ret:=f.pos}))]))))))))) y0) y0))):=by kernel_rfl
def qB6:Plan:=.lit (.fork (.all) (.fork (.lit (.all)) (.lit (.all))))
theorem hm1(g:Fw)(c d:V4):xD3 (Env.ofB pP (j9 [z21,qe0,z86]) (s8 []) (p9 [BFact.toP zq7]) (p8 [zq7]) (j6 []) (j6 []) (j6 []) (j6 [])) 1000 (x9 pP 148) 1 (x6 148 [0,115,116]) (x8 pP 148 0) qB6 (x7 148 [(0,.ptr 0 0),(115,.agg (V4.cells c++V4.cells d)),(116,J 0)]) [some (.cells g.cells)] =(let y0:=x7 148 [(0,.ptr 0 0),(115,.agg [J c.1,J c.2.1,J c.2.2.1,J c.2.2.2,J d.1,J d.2.1,J d.2.2.1,J d.2.2.2]),(116,J 1)]; .req (true) (.node (c.1==0&& (c.2.1==0&& (c.2.2.1==0&& (c.2.2.2==0&&true)))) (.leaf (.at (x8 pP 148 0) 148 y0 [some (.cells (Fw.cells g))])) (.req (zj3 g c 0) (.node (zj1 g c 0) (.leaf (.at (x8 pP 148 0) 148 y0 [some (.cells (Fw.cells (s9 g c 0 0)))])) (.leaf (.fin (.ret (J 2) [some (.cells (Fw.cells g))]))))))):=by kernel_rfl
def qB8:Plan:=.lit (.fork (.all) (.fork (.lit (.all)) (.lit (.all))))
theorem hm2(g:Fw)(c d:V4):xD3 (Env.ofB pP (j9 [z21,qe0,z86]) (s8 []) (p9 [BFact.toP zq7]) (p8 [zq7]) (j6 []) (j6 []) (j6 []) (j6 [])) 1000 (x9 pP 148) 1 (x6 148 [0,115,116]) (x8 pP 148 0) qB8 (x7 148 [(0,.ptr 0 0),(115,.agg (V4.cells c++V4.cells d)),(116,J 1)]) [some (.cells g.cells)] =(let y0:=x7 148 [(0,.ptr 0 0),(115,.agg [J c.1,J c.2.1,J c.2.2.1,J c.2.2.2,J d.1,J d.2.1,J d.2.2.1,J d.2.2.2]),(116,J 2)]; .req (true) (.node (d.1==0&& (d.2.1==0&& (d.2.2.1==0&& (d.2.2.2==0&&true)))) (.leaf (.at (x8 pP 148 0) 148 y0 [some (.cells (Fw.cells g))])) (.req (zj3 g d 0) (.node (zj1 g d 0) (.leaf (.at (x8 pP 148 0) 148 y0 [some (.cells (Fw.cells (s9 g d 0 0)))])) (.leaf (.fin (.ret (J 2) [some (.cells (Fw.cells g))]))))))):=by kernel_rfl
def qC0:Plan:=.lit (.all)
theorem hm3(g:Fw)(c d:V4):xD3 (Env.ofB pP (j9 [z21,qe0,z86]) (s8 []) (p9 [BFact.toP zq7]) (p8 [zq7]) (j6 []) (j6 []) (j6 []) (j6 [])) 1000 (x9 pP 148) 1 (x6 148 [0,115,116]) (x8 pP 148 0) qC0 (x7 148 [(0,.ptr 0 0),(115,.agg (V4.cells c++V4.cells d)),(116,J 2)]) [some (.cells g.cells)] =(.req (g.ma.ok&&v9 g.ret) (.leaf (.fin (.ret (J 0) [some (.cells (Fw.cells {g with loc:=((yN7 g.ma g.ret).1,(yN7 g.ma g.ret).2.1,(yN7 g.ma g.ret).2.2.1)}))])))):=by kernel_rfl
theorem yM3(l:List Bk)(g:Nat->Int):(plB l g).length=l.length:=by simp[plB]
theorem yM2{l:List Bk}{g:Nat->Int}(h:i<l.length):(plB l g).getD i dBk=xD7 (l.getD i dBk) (g i) (g (i+1)):=by
 unfold plB;rw[List.getD_eq_getElem?_getD,List.getElem?_map,List.getElem?_range h];rfl
theorem xH2(b:Bk)(x y:Int):f4 (xD7 b x y)=f4 b:=rfl
section
variable {g:Fw} {c:V4} {len line:Int}
theorem zi2:(s9 g c len line).queue.length=g.queue.length+1:=by
 show(plB _ _).length=_;rw[yM3,zj5]
theorem zi3(h:g.lines.length=g.queue.length):(s9 g c len line).lines.length=(s9 g c len line).queue.length:=by
 rw[zi2];show(g.lines++[line]).length=_;simp[h]
theorem zi6(h:zj3 g c len=true):∀b∈(s9 g c len line).queue,f4 b=true:=λb hb=>by
 obtain⟨i,hi,e⟩:=qu7 (d:=dBk) hb
 have hi2:i< (t4 g c len).length:=by rw[zi2]at hi;rw[zj5];exact hi
 have e2:=yM2 (g:=gL (t4 g c len) (zB0 g.ma (t4 g c len)) (b9 g)) hi2;rw[<-e];show f4 ((plB _ _).getD i dBk)=true;rw[e2,xH2];exact qu6 (p:=λb=>f4 b=true) (zk4 h).snd hi2
theorem zi1(o:zj1 g c len=true):b9 (s9 g c len line)=b9 g:=by
 have k:=(zj2.1 o).2;have hl:(s9 g c len line).queue.length=g.queue.length+1:=zi2
 by_cases hm:g.moving=true
 .unfold b9
  rw[show(s9 g c len line).moving=g.moving from rfl,if_pos hm,if_pos hm];rfl
 .have e1:b9 (s9 g c len line)=((s9 g c len line).queue.getD 0 dBk).2.2.1:=by
   unfold b9;rw[show(s9 g c len line).moving=g.moving from rfl,if_neg hm,if_neg (by omega)]
  rw[e1];show((plB _ _).getD 0 dBk).2.2.1=_;rw[yM2 (by rw[zj5];omega)];exact k
theorem zi5{d:V4}{len2:Int}(h:zj3 g c len=true)(o:zj1 g c len=true)(hd:okL g.ma d=true)(hl:m7 len2=true)(hq:g.queue.length<=900):zj3 (s9 g c len line) d len2=true:=by
 have p:=zj4.1 h;exact zj4.2 ⟨hd,hl,p.2.2.1,zi6 h,zi3 p.2.2.2.2.1,by rw[zi2];omega,by rw[zi1 o];exact p.2.2.2.2.2.2⟩
end
def hE2(g:Fw)(d:V4):Int:=if backOk g d=true then 0 else 2
def hO2(g:Fw)(d:V4):Fw:=if backOk g d=true then {zs0 g d with loc:=yN6 g.ma g.ret} else g
def hE1(g:Fw)(c d:V4):Int:=if backOk g c=true then hE2 (zs0 g c) d else 2
def hO1(g:Fw)(c d:V4):Fw:=if backOk g c=true then hO2 (zs0 g c) d else g
theorem q84(d:V4):(d.1==0&& (d.2.1==0&& (d.2.2.1==0&& (d.2.2.2==0&&true))))=!nz4 d:=by
 unfold nz4;rw[Bool.and_true,Bool.not_not]
theorem kHm:Known pP (Env.ofB pP (j9 [z21,qe0,z86]) (s8 []) (p9 [BFact.toP zq7]) (p8 [zq7]) (j6 []) (j6 []) (j6 []) (j6 [])):=
 hB (l:=[z21,qe0,z86]) (k:=[]) (j:=[BFact.toP zq7]) (i:=[zq7]) [] [] [] [] ⟨yf5,ys1,ym2,trivial⟩ u9 (allQ.all (p:=PFact.ok pP) (l:=[BFact.toP zq7]) ⟨BFact.toP_ok ya6,trivial⟩) (allQ.all (p:=BFact.ok pP) (l:=[zq7]) ⟨ya6,trivial⟩)
section
variable {g:Fw} {c d:V4}
theorem zs4(h:nz4 c=true):zs0 g c=s9 g c 0 0:=if_pos h
theorem zs2(h:nz4 c=false):zs0 g c=g:=if_neg (by rw[h];exact Bool.false_ne_true)
theorem zs5(h:nz4 c=false):backOk g c=true:=by unfold backOk;rw[h];rfl
theorem zs6(h:nz4 c=true):backOk g c=zj1 g c 0:=by unfold backOk;rw[h];rfl
theorem zs1:(zs0 g c).ma=g.ma:=by unfold zs0;split<;>rfl
theorem zs3:(zs0 g c).ret=g.ret:=by unfold zs0;split<;>rfl
theorem qC1(h:g.ma.ok=true/\v9 g.ret=true):zd4 pP (x9 pP 148) [] 1 (.ret (J 0) [some (.cells ({g with loc:=yN6 g.ma g.ret}:Fw).cells)]) (x8 pP 148 0) (x7 148 [(0,.ptr 0 0),(115,.agg (V4.cells c++V4.cells d)),(116,J 2)]) [some (.cells g.cells)] :=by
 refine y83 kHm (n:=1000) (keep:=x6 148 [0,115,116]) (p:=qC0) (Nat.le_refl _) ?_;erw [hm3 g c d];exact⟨by rw[h.1,h.2];rfl,rfl⟩
theorem qB9(h:g.ma.ok=true/\v9 g.ret=true)(hd:nz4 d=true->zj3 g d 0=true):zd4 pP (x9 pP 148) [] 1 (.ret (J (hE2 g d)) [some (.cells (hO2 g d).cells)]) (x8 pP 148 0) (x7 148 [(0,.ptr 0 0),(115,.agg (V4.cells c++V4.cells d)),(116,J 1)]) [some (.cells g.cells)] :=by
 refine y83 kHm (n:=1000) (keep:=x6 148 [0,115,116]) (p:=qB8) (Nat.le_refl _) ?_;erw [hm2 g c d];rw[q84]
 cases hz:nz4 d
 .have o:=zs5 (g:=g) hz
  have e1:hE2 g d=0:=if_pos o
  have e2:hO2 g d={g with loc:=yN6 g.ma g.ret}:=by unfold hO2;rw[if_pos o,zs2 hz]
  rw[e1,e2];exact⟨rfl,λ_=>⟨u7 _ _,qC1 h⟩,λk=>by cases k⟩
 .have o:=zs6 (g:=g) hz
  refine⟨rfl,λk=>(by cases k),λ_=>⟨hd hz,λa=>⟨u7 _ _,?_⟩,λa=>?_⟩⟩
  .have e1:hE2 g d=0:=if_pos (by rw[o,a])
   have e2:hO2 g d={s9 g d 0 0 with loc:=yN6 g.ma g.ret}:=by unfold hO2;rw[if_pos (by rw[o,a]),zs4 hz]
   rw[e1,e2];exact qC1 (g:=s9 g d 0 0) h
  .have e1:hE2 g d=2:=if_neg (by rw[o,a];exact Bool.false_ne_true)
   have e2:hO2 g d=g:=if_neg (by rw[o,a];exact Bool.false_ne_true);rw[e1,e2];rfl
theorem qB7(h:g.ma.ok=true/\v9 g.ret=true)(hc:nz4 c=true->zj3 g c 0=true)(hd:backOk g c=true->nz4 d=true->zj3 (zs0 g c) d 0=true):zd4 pP (x9 pP 148) [] 1 (.ret (J (hE1 g c d)) [some (.cells (hO1 g c d).cells)]) (x8 pP 148 0) (x7 148 [(0,.ptr 0 0),(115,.agg (V4.cells c++V4.cells d)),(116,J 0)]) [some (.cells g.cells)] :=by
 refine y83 kHm (n:=1000) (keep:=x6 148 [0,115,116]) (p:=qB6) (Nat.le_refl _) ?_;erw [hm1 g c d];rw[q84]
 cases hz:nz4 c
 .have o:=zs5 (g:=g) hz
  have e1:hE1 g c d=hE2 g d:=by unfold hE1;rw[if_pos o,zs2 hz]
  have e2:hO1 g c d=hO2 g d:=by unfold hO1;rw[if_pos o,zs2 hz]
  have hd:=hd o;rw[zs2 hz]at hd;rw[e1,e2];exact⟨rfl,λ_=>⟨u7 _ _,qB9 h hd⟩,λk=>by cases k⟩
 .have o:=zs6 (g:=g) hz
  refine⟨rfl,λk=>(by cases k),λ_=>⟨hc hz,λa=>⟨u7 _ _,?_⟩,λa=>?_⟩⟩
  .have oo:backOk g c=true:=by rw[o,a]
   have e1:hE1 g c d=hE2 (s9 g c 0 0) d:=by unfold hE1;rw[if_pos oo,zs4 hz]
   have e2:hO1 g c d=hO2 (s9 g c 0 0) d:=by unfold hO1;rw[if_pos oo,zs4 hz]
   have hd:=hd oo;rw[zs4 hz]at hd;rw[e1,e2];exact qB9 (g:=s9 g c 0 0) h hd
  .have e1:hE1 g c d=2:=if_neg (by rw[o,a];exact Bool.false_ne_true)
   have e2:hO1 g c d=g:=if_neg (by rw[o,a];exact Bool.false_ne_true);rw[e1,e2];rfl
end
def qE5(f:Fw)(line:Int):Fw:=if qF6 f=false then f else if ¬f.mode=1 then f else if qD5 f line=false then qD2 f line else hO1 (qD2 f line) (qD7 f line) (qE0 f line)
theorem yv5(hm:m.ok=true)(hn:v9 c=true)(hz:nz4 c=true):okL m c=true:=yv4.2 ⟨hm,by unfold okC;rw[hn,hz];rfl⟩
section
variable {f:Fw} {line:Int}
theorem qE7(v:VF f):v9 (qE6 f line)=true:=by
 unfold qE6
 split
 .exact v.pos
 .exact v.ret
theorem qD9(v:VF f):v9 (qD7 f line)=true:=by
 have r:=q26.1 (qE7 (line:=line) v);exact q26.2 (by unfold qD7;dsimp only;omega)
theorem qE2(v:VF f):v9 (qE0 f line)=true:=by
 have r:=q26.1 (qE7 (line:=line) v);exact q26.2 (by unfold qE0;dsimp only;omega)
theorem qE9(v:VF f)(hi:qF6 f=true){c:V4}(hn:v9 c=true)(hz:nz4 c=true):zj3 (qD2 f line) c 0=true:=by
 obtain⟨i1,i2,i3⟩:=qF7.1 hi;have n:=v.nums
 have en:b9 (qD2 f line)=0:=by
  unfold b9;rw[if_neg (show ¬(qD2 f line).moving=true by show ¬f.moving=true;rw[i1];exact Bool.false_ne_true),if_pos (show(qD2 f line).queue.length=0 from i2)]
 exact zj4.2 ⟨yv5 v.ma hn hz,by decide,yu7.2 (show -9223372036854775808<=f.feed/\f.feed<=9223372036854775807 by omega),v.sound,v.lens,(show f.queue.length<=1000 by omega),by omega,by omega⟩
theorem qF0(v:VF f)(hi:qF6 f=true)(o:backOk (qD2 f line) (qD7 f line)=true)(hz:nz4 (qE0 f line)=true):zj3 (zs0 (qD2 f line) (qD7 f line)) (qE0 f line) 0=true:=by
 obtain⟨i1,i2,i3⟩:=qF7.1 hi
 cases hc:nz4 (qD7 f line)with
 |false=>rw[zs2 hc];exact qE9 v hi (qE2 v) hz
 |true=>
  rw[zs4 hc];rw[zs6 hc]at o;exact zi5 (qE9 v hi (qD9 v) hc) o (yv5 v.ma (qE2 v) hz) (by decide) (show f.queue.length<=900 by omega)
theorem qC4(v:VF f)(hi:qF6 f=true)(hm:f.mode=1)(hb:qD5 f line=true){g:Fw}{c d:V4}(hg:qD2 f line=g)(hc:qD7 f line=c)(hd:qE0 f line=d):
  zd4 pP (x9 pP 148) [] 1 (.ret (J (qD4 f line)) [some (.cells (qE5 f line).cells)]) (x8 pP 148 0) (x7 148 [(0,.ptr 0 0),(115,.agg (V4.cells c++V4.cells d)),(116,J 0)]) [some (.cells g.cells)] :=by
 have n1:¬qF6 f=false:=by rw[hi];decide
 have n2:¬¬f.mode=1:=λk=>k hm
 have n3:¬qD5 f line=false:=by rw[hb];decide
 have eO:qE5 f line=hO1 (qD2 f line) (qD7 f line) (qE0 f line):=by unfold qE5;rw[if_neg n1,if_neg n2,if_neg n3]
 have eA:qD4 f line=hE1 (qD2 f line) (qD7 f line) (qE0 f line):=by
  unfold qD4 qE8 hE1 hE2;rw[if_neg n1,if_neg n2,if_neg n3]
  cases backOk (qD2 f line) (qD7 f line)<;>cases backOk (zs0 (qD2 f line) (qD7 f line)) (qE0 f line)<;>rfl
 rw[eO,eA];subst hg hc hd
 exact qB7 ⟨v.ma,qE7 v⟩ (λhz=>qE9 v hi (qD9 v) hz) λo hz=>qF0 v hi o hz
theorem qC7(hi:qF6 f=true)(hm:f.mode=1)(hb:qD5 f line=false):qD4 f line=0/\qE5 f line=qD2 f line:=by
 have n1:¬qF6 f=false:=by rw[hi];decide
 have n2:¬¬f.mode=1:=λk=>k hm
 unfold qD4 qE8 qE5;rw[if_neg n1,if_neg n2,if_pos hb,if_neg n1,if_neg n2,if_pos hb];exact⟨rfl,rfl⟩
theorem qD6:qD5 f line=true↔(line=0/\f.homed=true)\/f.back=true:=by simp only[qD5,Bool.or_eq_true,Bool.and_eq_true,beq_iff_eq]
variable{r:V4}
theorem qD3{e:Int}(hr:qE6 f line=r)(he:qE3 f=e):qD2 f line={f with ret:=r,back:=false,pos:=(0,0,0,f.pos.2.2.2),homed:=true,loc:=(0,0,0),e:=e}:=by subst hr he;rfl
theorem qD8(hr:qE6 f line=r):qD7 f line=(0,0,r.2.2.1,0):=by subst hr;rfl
theorem qE1(hr:qE6 f line=r):qE0 f line=(r.1,r.2.1,0,0):=by subst hr;rfl
set_option maxHeartbeats 4000000 in
theorem xg8(c:Gc.C)(h:xX9 f=true):zb3 pP 148 [J line,c.sv] f (J (qD4 f line),qE5 f line):=by
 have v:=x00 h;refine qn2 (cs:=(qE5 f line).cells) (by kernel_rfl) rfl rfl rfl (v5.refl _) (y83 kHm (n:=1000) (keep:=x6 148 [0,115,116]) (p:=qB5) (Nat.le_refl _) ?_);have q:=hm0 f line c;unfold v6 v7 at q;erw [q]
 cases hi:qF6 f
 .have eA:qD4 f line=18:=if_pos hi
  have eO:qE5 f line=f:=if_pos hi;rw[eA,eO];exact⟨λ_=>rfl,λk=>by cases k⟩
 refine⟨λk=>(by cases k),λ_=>⟨λk=>?_,λk=>?_⟩⟩
 .have k:=bne_iff_ne.1 k
  have n1:¬qF6 f=false:=by rw[hi];decide
  have eA:qD4 f line=14:=by unfold qD4;rw[if_neg n1,if_pos k]
  have eO:qE5 f line=f:=by unfold qE5;rw[if_neg n1,if_pos k]
  rw[eA,eO];rfl
 have hm:f.mode=1:=bne_eq_false_iff_eq.1 k
 have eE:∀b,f9 f.ma f.pos.2.2.2=b->qE3 f=(if b=true then xW0 f.ma.e f.pos.2.2.2 else 0):=λb hb=>by unfold qE3;rw[hb]
 have rNo:¬(line=0/\f.homed=true)->qE6 f line=f.ret:=λn=>if_neg n
 have rYes:line=0/\f.homed=true->qE6 f line=f.pos:=λn=>if_pos n
 have bNo:¬(line=0/\f.homed=true)->f.back=false->qD5 f line=false:=λn b=>by
  rw[Bool.eq_false_iff,ne_eq,qD6];rintro (k|k)
  .exact n k
  .rw[b]at k;cases k
 -- with the nozzle to be led back, and without
 have fin:∀e,qE3 f=e->¬(line=0/\f.homed=true)->f.back=false->Fin.ret (SV.int IntKind.i64 0) [some (Box.cells (Fw.cells {f with homed:=true,pos:=(0,0,0,f.pos.2.2.2),loc:=(0,0,0),e:=e}))] =.ret (J (qD4 f line)) [some (.cells (qE5 f line).cells)] :=λe he n b=>by
  obtain⟨eA,eO⟩:=qC7 hi hm (bNo n b);rw[eA,eO,qD3 (rNo n) he,<-b];rfl
 refine⟨λl=>⟨λo=>⟨rfl,rfl,rfl,λu=>⟨rfl,rfl,rfl,u7 _ _,?_⟩,λu=>⟨rfl,rfl,rfl,u7 _ _,?_⟩⟩,λo=>⟨rfl,rfl,rfl,λu=>⟨λb=>?_,λb=>⟨rfl,rfl,rfl,u7 _ _,?_⟩⟩,λu=>⟨λb=>?_,λb=>⟨rfl,rfl,rfl,u7 _ _,?_⟩⟩⟩⟩,λl=>⟨rfl,rfl,rfl,λu=>⟨λb=>?_,λb=>⟨rfl,rfl,rfl,u7 _ _,?_⟩⟩,λu=>⟨λb=>?_,λb=>⟨rfl,rfl,rfl,u7 _ _,?_⟩⟩⟩⟩
 .have r:=rYes ⟨beq_iff_eq.1 l,o⟩
  exact qC4 v hi hm (qD6.2 (.inl ⟨beq_iff_eq.1 l,o⟩)) (qD3 r (eE _ u)) (qD8 r) (qE1 r)
 .have r:=rYes ⟨beq_iff_eq.1 l,o⟩
  exact qC4 v hi hm (qD6.2 (.inl ⟨beq_iff_eq.1 l,o⟩)) (qD3 r (eE _ u)) (qD8 r) (qE1 r)
 .exact fin _ (eE _ u) (λn=>by rw[o]at n;cases n.2) (by simpa using b)
 .have r:=rNo (λn=>by rw[o]at n;cases n.2)
  exact qC4 v hi hm (qD6.2 (.inr (by simpa using b))) (qD3 r (eE _ u)) (qD8 r) (qE1 r)
 .exact fin _ (eE _ u) (λn=>by rw[o]at n;cases n.2) (by simpa using b)
 .have r:=rNo (λn=>by rw[o]at n;cases n.2)
  exact qC4 v hi hm (qD6.2 (.inr (by simpa using b))) (qD3 r (eE _ u)) (qD8 r) (qE1 r)
 .exact fin _ (eE _ u) (λn=>beq_eq_false_iff_ne.1 l n.1) (by simpa using b)
 .have r:=rNo (λn=>beq_eq_false_iff_ne.1 l n.1)
  exact qC4 v hi hm (qD6.2 (.inr (by simpa using b))) (qD3 r (eE _ u)) (qD8 r) (qE1 r)
 .exact fin _ (eE _ u) (λn=>beq_eq_false_iff_ne.1 l n.1) (by simpa using b)
 .have r:=rNo (λn=>beq_eq_false_iff_ne.1 l n.1)
  exact qC4 v hi hm (qD6.2 (.inr (by simpa using b))) (qD3 r (eE _ u)) (qD8 r) (qE1 r)
end
noncomputable def x09:WFact:=x31 148 λf rest=>match rest with
 |[.int .i64 line,.agg [.int .i64 a0,.int .i64 a1,.int .i64 a2,.int .i64 a3,.int .i64 a4,.int .i64 a5,.int .i64 a6,.int .i64 a7]] =>some (.req (xX9 f) (.leaf (J (qD4 f line),qE5 f line)))
 |_=>none
theorem ys8:x09.ok pP:=x32 λf rest t ht=>by
 split at ht
 .injection ht with ht;subst ht;exact λh=>xg8 ⟨_,_,_,_,_,_,_,_⟩ h
 .cases ht
def xK5(f:Fw)(line:Int):Bool:=xE9 f&&inR line 0 1099511627776
theorem xK6:xK5 f line=true↔xE9 f=true/\0<=line/\line<=1099511627776:=by simp only[xK5,Bool.and_eq_true,j8]
theorem qS5(h:line=0):qS4 f line=f:=if_pos h
theorem qS6(h:¬line=0):qS4 f line={f with line:=line}:=if_neg h
theorem xF2(h:xE9 f=true)(hl:0<=line/\line<=1099511627776):xE9 {f with line:=line}=true:=by
 have s:=xF0.1 h;exact xF0.2 ⟨s.1,s.2.1,s.2.2.1,hl,s.2.2.2.2⟩
def yX8(f:Fw):Fw:=if ¬f.mode=3 then f else if yY1 f.g0 f.r0=false then f else if yY1 f.g1 f.r1=false then {f with g0:=yX5 f.g0 f.r0} else yX0 f
def yJ9(f:Fw)(c:Gc.C):Int:=if c.code=1024 then(if f.mode=2 then 0 else 14)else(if f.mode=1 then 0 else 14)
def yK0(f:Fw)(c:Gc.C):Fw:=if c.code=1024 then(if f.mode=2 then {f with mode:=1} else f)else(if f.mode=1 then {f with mode:=2} else f)
def zO5(f:Fw):Int:=if qF6 f=true then 0 else 18
def zO6(f:Fw)(c:Gc.C):Fw:=if qF6 f=true then {f with dwell:=c.s} else f
def zt6(c:Gc.C):Bool:=c.code==1140||c.code==1190
def x18(c:Gc.C):Bool:=c.code==1109||c.code==1190
def qA2(f:Fw)(c:Gc.C):Int:=if zt6 c=true then(if zl5 f.c1 c.s=true then 0 else 1)else(if zl5 f.c0 c.s=true then 0 else 1)
def qA4(f:Fw)(c:Gc.C):Fw:=if zt6 c=true then {f with c1:=f.c1.aim c.s} else {f with c0:=f.c0.aim c.s}
def qA5(f:Fw)(c:Gc.C):Int:=if x18 c=true then(if zt6 c=true then orB f.waits 2 else orB f.waits 1)else f.waits
def qA3(f:Fw)(c:Gc.C):Fw:=if qA2 f c=0 then {qA4 f c with waits:=qA5 f c} else f
def xv9:Plan:=let z0:Plan:=.go (.lit (.go (.lit (.go (.lit (.all))))));.fork z0 z0
noncomputable def xw0(f:Fw)(line:Int)(c:Gc.C):Tree StopX:=let y0:={f with g0:=f.g0.stop,g1:=f.g1.stop,line:=line}; .node (decide (line>0)) (.req true (.req (true) (.req true (.req (true) (.req (xE9 y0) (.leaf (.fin (.ret (.int .i64 0) [some (.cells (Fw.cells { (qT7 y0)with mode:=3}))])))))))) (.req true (.req (true) (.req true (.req (true) (.req (xE9 ({f with g0:=f.g0.stop,g1:=f.g1.stop})) (.leaf (.fin (.ret (.int .i64 0) [some (.cells (Fw.cells { (qT7 ({f with g0:=f.g0.stop,g1:=f.g1.stop}))with mode:=3}))]))))))))
theorem xv8(f:Fw)(line:Int)(c:Gc.C):xD3 (Env.ofB pP (j9 [qc2]) (s8 []) (p9 [BFact.toP zq9]) (p8 [zq9]) (j6 []) (j6 []) (j6 []) (j6 [])) 1000 (x9 pP 143) 1 (x6 39 []) (v7 pP 143) xv9 (v6 pP 143 [.ptr 0 0,J line,c.sv]) [some (.cells f.cells)] =xw0 f line c:=by kernel_rfl
theorem xv7(f:Fw)(line:Int)(c:Gc.C)(h:xK5 f line=true):zb3 pP 143 [J line,c.sv] f (J 0,xK2 (qS4 f line)):=
 qn3 (hB (l:=[qc2]) (k:=[]) (j:=[BFact.toP zq9]) (i:=[zq9]) ([] :List Nat) ([] :List Nat) ([] :List Nat) ([] :List Nat) (⟨yq1,trivial⟩) u9 (allQ.all (p:=PFact.ok pP) (l:=[BFact.toP zq9]) ⟨BFact.toP_ok yb3,trivial⟩) (allQ.all (p:=BFact.ok pP) (l:=[zq9]) ⟨yb3,trivial⟩)) 1000 xv9 (keep:=(x6 39 [])) (t:=xw0 f line c) (xv8 f line c) (by
  unfold xw0;have sp:=xK6.1 h;have s1:=sp.1;have s2:=xF2 sp.1 sp.2;simp only[Tree.holds,sL,ne_eq,sLb,sLc,eq_self,sLd,sLe,sLf];(repeat' (first|apply And.intro|intro _));
  all_goals first
   |exact s1
   |exact s2
   |omega
   |(rw[qS6 (by omega)];exact ends rfl (v5.refl _) rfl)
   |(rw[qS5 (by omega)];exact ends rfl (v5.refl _) rfl)) (by kernel_rfl) (by kernel_rfl) (by kernel_rfl)
noncomputable def x14:WFact:=x31 143 λf rest=>match rest with
 |[.int .i64 line,.agg [.int .i64 a0,.int .i64 a1,.int .i64 a2,.int .i64 a3,.int .i64 a4,.int .i64 a5,.int .i64 a6,.int .i64 a7]] =>some (.req (xK5 f line) (.leaf (J 0,xK2 (qS4 f line))))
 |_=>none
theorem yu1:x14.ok pP:=x32 λf rest t ht=>by
 split at ht
 .injection ht with ht;subst ht;exact λh=>xv7 f _ ⟨_,_,_,_,_,_,_,_⟩ h
 .cases ht
def xs6:Plan:=let z1:Plan:=.go (.lit (.all));let z0:Plan:=.go (.lit (.fork z1 (.fork (.lit z1) (.fork (.all) z1))));.fork (.all) (.go (.lit (.fork z0 (.fork (.lit z0) (.fork (.all) z0)))))
noncomputable def xs7(f:Fw)(line:Int)(c:Gc.C):Tree StopX:=let y0:=Gu.mk 0 0 0 0 0 0 0 0 0 0 false;let y1:SV:=.int .i64 0;let y2:=decide (f.g1.resE f.r1=0); .node (f.mode != 3) (.leaf (.fin (.ret (.int .i64 14) [some (.cells (Fw.cells f))]))) (.req true (.node (f.g0.fault==0) (.req true (.node (f.g1.fault==0) (.leaf (.fin (.ret y1 [some (.cells (Fw.cells {f with mode:=1}))]))) (.req true (.node y2 (.req true (.leaf (.fin (.ret y1 [some (.cells (Fw.cells {f with mode:=1,g1:=(f.g1.rest f.r1)}))])))) (.node (f.g1.resE f.r1 != 0) (.leaf (.fin (.ret (.int .i64 16) [some (.cells (Fw.cells f))]))) (.req true (.leaf (.fin (.ret y1 [some (.cells (Fw.cells {f with mode:=1,g1:=y0}))]))))))))) (.req true (.node (decide (f.g0.resE f.r0=0)) (.req true (.req (true) (.node (f.g1.fault==0) (.leaf (.fin (.ret y1 [some (.cells (Fw.cells {f with mode:=1,g0:=(f.g0.rest f.r0)}))]))) (.req true (.node y2 (.req true (.leaf (.fin (.ret y1 [some (.cells (Fw.cells {f with mode:=1,g0:=(f.g0.rest f.r0),g1:=(f.g1.rest f.r1)}))])))) (.node (f.g1.resE f.r1 != 0) (.leaf (.fin (.ret (.int .i64 16) [some (.cells (Fw.cells {f with g0:=(f.g0.rest f.r0)}))]))) (.req true (.leaf (.fin (.ret y1 [some (.cells (Fw.cells {f with mode:=1,g0:=(f.g0.rest f.r0),g1:=y0}))])))))))))) (.node (f.g0.resE f.r0 != 0) (.leaf (.fin (.ret (.int .i64 16) [some (.cells (Fw.cells f))]))) (.req true (.req (true) (.node (f.g1.fault==0) (.leaf (.fin (.ret y1 [some (.cells (Fw.cells {f with mode:=1,g0:=y0}))]))) (.req true (.node y2 (.req true (.leaf (.fin (.ret y1 [some (.cells (Fw.cells {f with mode:=1,g0:=y0,g1:=(f.g1.rest f.r1)}))])))) (.node (f.g1.resE f.r1 != 0) (.leaf (.fin (.ret (.int .i64 16) [some (.cells (Fw.cells {f with g0:=y0}))]))) (.req true (.leaf (.fin (.ret y1 [some (.cells (Fw.cells {f with mode:=1,g0:=y0,g1:=y0}))])))))))))))))))
theorem xs5(f:Fw)(line:Int)(c:Gc.C):xD3 (Env.ofB pP (j9 [qa0]) (s8 []) (p9 []) (p8 []) (j6 []) (j6 []) (j6 []) (j6 [])) 1000 (x9 pP 144) 1 (x6 55 []) (v7 pP 144) xs6 (v6 pP 144 [.ptr 0 0,J line,c.sv]) [some (.cells f.cells)] =xs7 f line c:=by kernel_rfl
theorem xs4(f:Fw)(line:Int)(c:Gc.C):zb3 pP 144 [J line,c.sv] f (J (resE f),yX8 f):=
 qn3 (hB (l:=[qa0]) (k:=[]) (j:=[]) (i:=[]) ([] :List Nat) ([] :List Nat) ([] :List Nat) ([] :List Nat) (⟨yn7,trivial⟩) u9 u9 u9) 1000 xs6 (keep:=(x6 55 [])) (t:=xs7 f line c) (xs5 f line c) (by
  unfold xs7;have a:=yY2 (g:=f.g0) (r:=f.r0);have b:=yY2 (g:=f.g1) (r:=f.r1)
  have m3:f.mode=3\/¬f.mode=3:=by omega
  simp only[Tree.holds,sL,ne_eq,sLb,sLc,eq_self,sLd,sLe,sLf];(repeat' (first|apply And.intro|intro _));
  all_goals first
   |omega
   |(refine ends (xM6 ?_) ?_ rfl
     .unfold resE;simp_all
     .first
      |(rw[show yX8 f=f by unfold yX8 yX5;rw[if_neg (by simp_all),if_neg (by simp_all),if_pos (by simp_all),if_pos (by assumption)]];exact v5.refl _)
      |(rw[show yX8 f=f by unfold yX8 yX0 yX5;simp_all];exact v5.refl _)
      |(rw[show yX8 f={f with g0:=f.g0.rest f.r0} by unfold yX8 yX0 yX5;simp_all];exact v5.refl _)
      |(rw[show yX8 f={f with mode:=1} by unfold yX8 yX0 yX5;simp_all];exact v5.refl _)
      |(rw[show yX8 f={f with g0:=f.g0.rest f.r0,mode:=1} by unfold yX8 yX0 yX5;simp_all];exact v5.refl _)
      |(rw[show yX8 f={f with g1:=f.g1.rest f.r1,mode:=1} by unfold yX8 yX0 yX5;simp_all];exact v5.refl _)
      |(rw[show yX8 f={f with g0:=f.g0.rest f.r0,g1:=f.g1.rest f.r1,mode:=1} by unfold yX8 yX0 yX5;simp_all];exact v5.refl _)
     )) (by kernel_rfl) (by kernel_rfl) (by kernel_rfl)
noncomputable def x12:WFact:=x31 144 λf rest=>match rest with
 |[.int .i64 line,.agg [.int .i64 a0,.int .i64 a1,.int .i64 a2,.int .i64 a3,.int .i64 a4,.int .i64 a5,.int .i64 a6,.int .i64 a7]] =>some (.leaf (J (resE f),yX8 f))
 |_=>none
theorem yt9:x12.ok pP:=x32 λf rest t ht=>by
 split at ht
 .injection ht with ht;subst ht;exact xs4 f _ ⟨_,_,_,_,_,_,_,_⟩
 .cases ht
def xo2:Plan:=.fork (.fork (.all) (.all)) (.fork (.all) (.all))
noncomputable def xo3(f:Fw)(line:Int)(c:Gc.C):Tree StopX:= .node (c.code==1024) (.node (f.mode != 2) (.leaf (.fin (.ret (.int .i64 14) [some (.cells (Fw.cells f))]))) (.leaf (.fin (.ret (.int .i64 0) [some (.cells (Fw.cells {f with mode:=1}))])))) (.node (f.mode != 1) (.leaf (.fin (.ret (.int .i64 14) [some (.cells (Fw.cells f))]))) (.leaf (.fin (.ret (.int .i64 0) [some (.cells (Fw.cells {f with mode:=2}))]))))
theorem xo1(f:Fw)(line:Int)(c:Gc.C):xD3 (Env.ofB pP (j9 []) (s8 []) (p9 []) (p8 []) (j6 []) (j6 []) (j6 []) (j6 [])) 1000 (x9 pP 145) 1 (x6 26 []) (v7 pP 145) xo2 (v6 pP 145 [.ptr 0 0,J line,c.sv]) [some (.cells f.cells)] =xo3 f line c:=by kernel_rfl
theorem xo0(f:Fw)(line:Int)(c:Gc.C):zb3 pP 145 [J line,c.sv] f (J (yJ9 f c),yK0 f c):=
 qn3 (hB (l:=[]) (k:=[]) (j:=[]) (i:=[]) ([] :List Nat) ([] :List Nat) ([] :List Nat) ([] :List Nat) (trivial) u9 u9 u9) 1000 xo2 (keep:=(x6 26 [])) (t:=xo3 f line c) (xo1 f line c) (by
  unfold xo3;simp only[Tree.holds,sL,ne_eq,sLb,sLc,eq_self,sLd,sLe,sLf];(repeat' (first|apply And.intro|intro _));
  all_goals first
   |(unfold yJ9 yK0;simp only[*,if_true,if_false,not_false_eq_true,not_true_eq_false];exact ends rfl (v5.refl _) rfl)) (by kernel_rfl) (by kernel_rfl) (by kernel_rfl)
noncomputable def x11:WFact:=x31 145 λf rest=>match rest with
 |[.int .i64 line,.agg [.int .i64 a0,.int .i64 a1,.int .i64 a2,.int .i64 a3,.int .i64 a4,.int .i64 a5,.int .i64 a6,.int .i64 a7]] =>some (.leaf (J (yJ9 f ⟨a0,a1,a2,a3,a4,a5,a6,a7⟩),yK0 f ⟨a0,a1,a2,a3,a4,a5,a6,a7⟩))
 |_=>none
theorem yt6:x11.ok pP:=x32 λf rest t ht=>by
 split at ht
 .injection ht with ht;subst ht;exact xo0 f _ ⟨_,_,_,_,_,_,_,_⟩
 .cases ht
def xd2:Plan:=.fork (.all) (.all)
noncomputable def xd3(f:Fw)(line:Int)(c:Gc.C):Tree StopX:= .node (!qF6 f) (.leaf (.fin (.ret (.int .i64 18) [some (.cells (Fw.cells f))]))) (.leaf (.fin (.ret (.int .i64 0) [some (.cells (Fw.cells {f with dwell:=c.s}))])))
theorem xd1(f:Fw)(line:Int)(c:Gc.C):xD3 (Env.ofB pP (j9 [z21]) (s8 []) (p9 []) (p8 []) (j6 []) (j6 []) (j6 []) (j6 [])) 1000 (x9 pP 147) 1 (x6 19 []) (v7 pP 147) xd2 (v6 pP 147 [.ptr 0 0,J line,c.sv]) [some (.cells f.cells)] =xd3 f line c:=by kernel_rfl
theorem xd0(f:Fw)(line:Int)(c:Gc.C):zb3 pP 147 [J line,c.sv] f (J (zO5 f),zO6 f c):=
 qn3 (hB (l:=[z21]) (k:=[]) (j:=[]) (i:=[]) ([] :List Nat) ([] :List Nat) ([] :List Nat) ([] :List Nat) (⟨yf5,trivial⟩) u9 u9 u9) 1000 xd2 (keep:=(x6 19 [])) (t:=xd3 f line c) (xd1 f line c) (by
  unfold xd3;simp only[Tree.holds,sL,ne_eq,sLb,sLc,eq_self,sLd,sLe,sLf];(repeat' (first|apply And.intro|intro _));
  all_goals(unfold zO5 zO6;simp only[*,if_true,if_false,Bool.false_eq_true];exact ends rfl (v5.refl _) rfl)) (by kernel_rfl) (by kernel_rfl) (by kernel_rfl)
noncomputable def x06:WFact:=x31 147 λf rest=>match rest with
 |[.int .i64 line,.agg [.int .i64 a0,.int .i64 a1,.int .i64 a2,.int .i64 a3,.int .i64 a4,.int .i64 a5,.int .i64 a6,.int .i64 a7]] =>some (.leaf (J (zO5 f),zO6 f ⟨a0,a1,a2,a3,a4,a5,a6,a7⟩))
 |_=>none
theorem yt1:x06.ok pP:=x32 λf rest t ht=>by
 split at ht
 .injection ht with ht;subst ht;exact xd0 f _ ⟨_,_,_,_,_,_,_,_⟩
 .cases ht
def xe1:Plan:=.all
noncomputable def xe2(f:Fw)(line:Int)(c:Gc.C):Tree StopX:= .leaf (.fin (.ret (.int .i64 0) [some (.cells (Fw.cells {f with fan:=c.s}))]))
theorem xe0(f:Fw)(line:Int)(c:Gc.C):xD3 (Env.ofB pP (j9 []) (s8 []) (p9 []) (p8 []) (j6 []) (j6 []) (j6 []) (j6 [])) 1000 (x9 pP 149) 1 (x6 13 []) (v7 pP 149) xe1 (v6 pP 149 [.ptr 0 0,J line,c.sv]) [some (.cells f.cells)] =xe2 f line c:=by kernel_rfl
theorem xd9(f:Fw)(line:Int)(c:Gc.C):zb3 pP 149 [J line,c.sv] f (J 0,{f with fan:=c.s}):=
 qn3 (hB (l:=[]) (k:=[]) (j:=[]) (i:=[]) ([] :List Nat) ([] :List Nat) ([] :List Nat) ([] :List Nat) (trivial) u9 u9 u9) 1000 xe1 (keep:=(x6 13 [])) (t:=xe2 f line c) (xe0 f line c) (by
  unfold xe2
  exact ends rfl (v5.refl _) rfl) (by kernel_rfl) (by kernel_rfl) (by kernel_rfl)
noncomputable def x07:WFact:=x31 149 λf rest=>match rest with
 |[.int .i64 line,.agg [.int .i64 a0,.int .i64 a1,.int .i64 a2,.int .i64 a3,.int .i64 a4,.int .i64 a5,.int .i64 a6,.int .i64 a7]] =>some (.leaf (J 0,{f with fan:=a7}))
 |_=>none
theorem yt2:x07.ok pP:=x32 λf rest t ht=>by
 split at ht
 .injection ht with ht;subst ht;exact xd9 f _ ⟨_,_,_,_,_,_,_,_⟩
 .cases ht
def xg6:Plan:=let z0:Plan:=.fork (.lit (.fork (.ln 3 (.lit .all)) (.ln 3 (.fork .all .all)))) (.lit .all);.fork (.ln 4 z0) (.ln 3 (.fork z0 z0))
noncomputable def xg7(f:Fw)(line:Int)(c:Gc.C):Tree StopX:=let y1:Tree StopX:=.req true (.leaf (.fin (.ret (.int .i64 0) [some (.cells (Fw.cells {f with waits:=(i64.wrap (↑(BitVec.ofInt 64 f.waits |||BitVec.ofInt 64 1).toNat:Int)),c0:=(f.c0.aim c.s)}))])));let y2:Tree StopX:=.req true (.leaf (.fin (.ret (.int .i64 0) [some (.cells (Fw.cells {f with waits:=(i64.wrap (↑(BitVec.ofInt 64 f.waits |||BitVec.ofInt 64 2).toNat:Int)),c1:=(f.c1.aim c.s)}))])));let y0:Tree StopX:=.req true (.node (zl5 f.c1 c.s) (.req true (.node (c.code==1109) y2 (.node (c.code==1190) y2 (.leaf (.fin (.ret (.int .i64 0) [some (.cells (Fw.cells {f with c1:=(f.c1.aim c.s)}))])))))) (.leaf (.fin (.ret (.int .i64 1) [some (.cells (Fw.cells f))])))); .node (c.code==1140) y0 (.node (c.code==1190) y0 (.req true (.node (zl5 f.c0 c.s) (.req true (.node (c.code==1109) y1 (.node (c.code==1190) y1 (.leaf (.fin (.ret (.int .i64 0) [some (.cells (Fw.cells {f with c0:=(f.c0.aim c.s)}))])))))) (.leaf (.fin (.ret (.int .i64 1) [some (.cells (Fw.cells f))]))))))
theorem xg5(f:Fw)(line:Int)(c:Gc.C):xD3 (Env.ofB pP (j9 [zW1]) (s8 []) (p9 []) (p8 []) (j6 []) (j6 []) (j6 []) (j6 [])) 1000 (x9 pP 150) 1 (x6 60 []) (v7 pP 150) xg6 (v6 pP 150 [.ptr 0 0,J line,c.sv]) [some (.cells f.cells)] =xg7 f line c:=by kernel_rfl
theorem xg4(f:Fw)(line:Int)(c:Gc.C):zb3 pP 150 [J line,c.sv] f (J (qA2 f c),qA3 f c):=
 qn3 (hB (l:=[zW1]) (k:=[]) (j:=[]) (i:=[]) ([] :List Nat) ([] :List Nat) ([] :List Nat) ([] :List Nat) (⟨q97,trivial⟩) u9 u9 u9) 1000 xg6 (keep:=(x6 60 [])) (t:=xg7 f line c) (xg5 f line c) (by
  unfold xg7
  have b1:zt6 c=true↔c.code=1140\/c.code=1190:=by simp only[zt6,Bool.or_eq_true,beq_iff_eq]
  have b2:x18 c=true↔c.code=1109\/c.code=1190:=by simp only[x18,Bool.or_eq_true,beq_iff_eq]
  simp only[Tree.holds,sL,ne_eq,sLb,sLc,eq_self,sLd,sLe,sLf];(repeat' (first|apply And.intro|intro _));
  all_goals first
   |omega
   |(unfold qA3 qA4 qA2 qA5 orB;simp only[b1,b2];simp_all;first|done|exact ends rfl (v5.refl _) rfl)) (by kernel_rfl) (by kernel_rfl) (by kernel_rfl)
noncomputable def x08:WFact:=x31 150 λf rest=>match rest with
 |[.int .i64 line,.agg [.int .i64 a0,.int .i64 a1,.int .i64 a2,.int .i64 a3,.int .i64 a4,.int .i64 a5,.int .i64 a6,.int .i64 a7]] =>some (.leaf (J (qA2 f ⟨a0,a1,a2,a3,a4,a5,a6,a7⟩),qA3 f ⟨a0,a1,a2,a3,a4,a5,a6,a7⟩))
 |_=>none
theorem yt3:x08.ok pP:=x32 λf rest t ht=>by
 split at ht
 .injection ht with ht;subst ht;exact xg4 f _ ⟨_,_,_,_,_,_,_,_⟩
 .cases ht
section
variable {m:Mo} {t:Int}
end
def fGv:Fact:=Gc.factC 71 λc=>.leaf (.bool c.valid)
def z17:Fact:=Gc.factC 74 λc=>.leaf (.bool c.validR)
def zg2(f:Fw)(line:Int)(c:Gc.C):SV:=if zf8 f line c=0 then .tuple [(zg0 f line c).sv,J 0]else .tuple [.agg (o6 fw0),J (zf8 f line c)]
theorem yf0:fGv.ok pP:=Gc.factC_ok λc=>Gc.s_valid c
theorem yf1:z17.ok pP:=Gc.factC_ok λc=>Gc.s_validR c
noncomputable def qK8:List Item:=xK4 (xD3 (Env.ofB pP (j9 [qe2,fGv,qd1]) (s8 [x14,x12,x11,x10,x06,x09,x07,x08]) (p9 []) (p8 []) (j6 []) (j6 []) (j6 []) (j6 [3])) 1000 (x9 pP 24) 0 (x6 114 []) (v7 pP 24) .all (v6 pP 24 [fw0.sv,J 0,(⟨0,0,0,0,0,0,0,0⟩:Gc.C).sv]) [])
def zf1:Plan:=.fork (.ln 11 (.lit .all)) (.ln 3 (.fork (.ln 7 (.lit .all)) (.lit (.lit (.fork (.ln 7 (.fork (.lit (.lit (.lit .all))) (.lit (.lit (.fork .all .all))))) (.ln 10 (.fork .all .all)))))))
theorem ac0(f:Fw)(line:Int)(c:Gc.C):o7 (Env.ofB pP (j9 [qe2,fGv,qd1]) (s8 [x14,x12,x11,x10,x06,x09,x07,x08]) (p9 []) (p8 []) (j6 []) (j6 []) (j6 []) (j6 [3])) 1000 (x9 pP 24) .unit (x6 114 [1,3,5,6]) (v7 pP 24) zf1 (v6 pP 24 [f.sv,J line,c.sv]) [] =(let y1:Tree Stop:=.leaf (.done (.tuple [.agg (o6 fw0),J 1]));let y0:Tree Stop:=.node (decide (line>1099511627776)) y1 (.leaf (.at qK8 114 (x7 114 [(1,J line),(3,.ptr 0 0),(5,.ptr 1 0),(6,.ptr 2 0)]) [some (.cells (Fw.cells f)),some (.cells [J c.code,J c.has,J c.x,J c.y,J c.z,J c.e,J c.f,J c.s]),some (.cells (o6 fw0))])); .node (!xX9 f) y1 (.node (!c.valid) y1 (.node (line != 0) (.node (line != i64.wrap (f.line+1)) y1 y0) y0))):=by kernel_rfl
def zf5:Plan:=let z4:Plan:=.fork .all .all;let z1:Plan:=.ln 4 (.fork .all (.ln 4 (.fork (.ln 5 (.lit .all)) (.ln 5 (.fork .all z4)))));let z2:Plan:=.fork (.ln 4 (.fork .all (.ln 4 (.fork (.ln 5 (.lit .all)) (.ln 5 (.fork .all (.lit .all))))))) z1;let z0:Plan:=.fork z1 (.fork z1 (.fork z1 (.fork z2 z2)));let z3:Plan:=.fork (.ln 4 (.fork .all (.ln 7 z4))) (.fork z0 z0);.fork (.ln 12 (.lit .all)) (.fork (.ln 12 z4) (.fork z3 z3))
theorem acT(f:Fw)(line:Int)(c:Gc.C):o7 (Env.ofB pP (j9 [qe2,fGv,qd1]) (s8 [x14,x12,x11,x10,x06,x09,x07,x08]) (p9 []) (p8 []) (j6 []) (j6 []) (j6 []) (j6 [])) 1000 (x9 pP 24) .unit (x6 114 [1,5,6,11,80]) qK8 zf5 (x7 114 [(1,J line),(3,.ptr 0 0),(5,.ptr 1 0),(6,.ptr 2 0)]) [some (.cells f.cells),some (.cells c.cells),some (.cells (o6 fw0))] =(let y2:=x7 114 [(1,J line),(5,.ptr 0 0),(6,.ptr 1 0),(11,.ptr 2 0),(80,J 0)];let y3:Box:=.cells [J c.code,J c.has,J c.x,J c.y,J c.z,J c.e,J c.f,J c.s];let y4:Tree Stop:=.leaf (.done (.tuple [.agg (o6 fw0),J 18]));let y5:Tree Stop:=.leaf (.done (.tuple [.agg (o6 fw0),J 16]));let y9:=x8 pP 24 0;let y10:Box:=.cells (o6 fw0);let y1:Tree Stop:=.node (f.mode==3) y5 (.node (f.waits != 0) y4 (.node (f.dwell != 0) y4 (.req (xX9 f) (.req (c.valid) (.node (qZ6 f line c != 0) (.leaf (.done (.tuple [.agg (o6 fw0),J (qZ6 f line c)]))) (.leaf (.at y9 114 y2 [some y3,some y10,some (.cells (Fw.cells (q00 f line c)))])))))));let y6:Tree Stop:=.node (f.mode==3) y5 (.node (f.waits != 0) y4 (.node (f.dwell != 0) y4 (.node (qA2 f c != 0) (.leaf (.done (.tuple [.agg (o6 fw0),J (qA2 f c)]))) (.leaf (.at y9 114 y2 [some y3,some y10,some (.cells (Fw.cells (qA3 f c)))])))));let y7:Tree Stop:=.node (f.mode==3) y5 (.node (yJ9 f c != 0) (.leaf (.done (.tuple [.agg (o6 fw0),J (yJ9 f c)]))) (.leaf (.at y9 114 y2 [some y3,some y10,some (.cells (Fw.cells (yK0 f c)))])));let y8:Tree Stop:=.node (f.mode==3) y5 (.node (f.waits != 0) y4 (.node (f.dwell != 0) y4 (.leaf (.at y9 114 y2 [some y3,some y10,some (.cells (Fw.cells {f with fan:=c.s}))]))));let y0:Tree Stop:=.node (c.code==4) (.node (f.mode==3) y5 (.node (f.waits != 0) y4 (.node (f.dwell != 0) y4 (.node (zO5 f != 0) (.leaf (.done (.tuple [.agg (o6 fw0),J (zO5 f)]))) (.leaf (.at y9 114 y2 [some y3,some y10,some (.cells (Fw.cells (zO6 f c)))])))))) (.node (c.code==28) (.node (f.mode==3) y5 (.node (f.waits != 0) y4 (.node (f.dwell != 0) y4 (.req (xX9 f) (.node (qD4 f line != 0) (.leaf (.done (.tuple [.agg (o6 fw0),J (qD4 f line)]))) (.leaf (.at y9 114 y2 [some y3,some y10,some (.cells (Fw.cells (qE5 f line)))]))))))) (.node (c.code==1106) (.node (c.code==1106) y8 y6) (.node (c.code==1107) y8 y6)));let y11:Tree Stop:=.node (c.code==0) (.node (c.code==0) y1 y0) (.node (c.code==1) y1 y0); .node (c.code==1112) (.req (xK5 f line) (.leaf (.at y9 114 y2 [some y3,some y10,some (.cells (Fw.cells (xK2 (qS4 f line))))]))) (.node (c.code==1999) (.node (resE f != 0) (.leaf (.done (.tuple [.agg (o6 fw0),J (resE f)]))) (.leaf (.at y9 114 y2 [some y3,some y10,some (.cells (Fw.cells (yX8 f)))]))) (.node (c.code==1025) (.node (c.code==1025) y7 y11) (.node (c.code==1024) y7 y11)))):=by kernel_rfl
def zf2:Plan:=.lit (.go (.lit (.go (.lit (.fork (.ln 3 (.fork .all .all)) (.ln 3 (.lit .all)))))))
noncomputable def zf4(g:Fw)(line:Int)(c:Gc.C):Tree Stop:=let y0:Tree Stop:=.leaf (.done (.tuple [.agg (Fw.cells {g with g0:=g.g0.touch,g1:=g.g1.touch}),J 0])); .req (true) (.req true (.req (true) (.req true (.node (line != 0) (.node (c.code != 1112) (.leaf (.done (.tuple [.agg (Fw.cells {g with g0:=g.g0.touch,g1:=g.g1.touch,line:=line}),J 0]))) y0) y0))))
theorem ac1(g:Fw)(line:Int)(c:Gc.C):o7 (Env.ofB pP (j9 [qe2,fGv,qd1]) (s8 [x14,x12,x11,x10,x06,x09,x07,x08]) (p9 []) (p8 []) (j6 []) (j6 []) (j6 []) (j6 [])) 1000 (x9 pP 24) .unit (x6 114 [1,5,6,11,80]) (x8 pP 24 0) zf2 (x7 114 [(1,J line),(5,.ptr 0 0),(6,.ptr 1 0),(11,.ptr 2 0),(80,J 0)]) [some (.cells c.cells),some (.cells (o6 fw0)),some (.cells g.cells)] =zf4 g line c:=by kernel_rfl
theorem kAc:Known pP (Env.ofB pP (j9 [qe2,fGv,qd1]) (s8 [x14,x12,x11,x10,x06,x09,x07,x08]) (p9 []) (p8 []) (j6 []) (j6 []) (j6 []) (j6 [])):=(hB (l:=[qe2,fGv,qd1]) (k:=[x14,x12,x11,x10,x06,x09,x07,x08]) (j:=[]) (i:=[]) ([] :List Nat) ([] :List Nat) ([] :List Nat) ([] :List Nat) (⟨ys3,yf0,yr4,trivial⟩) (allQ.all (p:=WFact.ok pP) (l:=[x14,x12,x11,x10,x06,x09,x07,x08]) ⟨yu1,yt9,yt6,ys9,yt1,ys8,yt2,yt3,trivial⟩) u9 u9)
section
variable {f:Fw} {line:Int} {c:Gc.C}
theorem qZ5(h:qZ6 f line c=0):q00 f line c=qZ9 f line c:=by
 unfold qZ6 at h
 split at h
 .rename_i e
  unfold q00 qZ9;rw[if_pos e,xS0 h]
 .rename_i e;exact absurd h e
theorem y64(h:resE f=0):yX8 f=yX0 f:=by
 unfold resE at h;unfold yX8
 split at h
 .omega
 .rename_i m
  rw[if_neg m]
  split at h
  .omega
  .rename_i n
   rw[if_neg (λk=>n (.inl k)),if_neg (λk=>n (.inr k))]
theorem qD1(h:qD4 f line=0):qE5 f line=qE4 f line:=by
 unfold qD4 at h
 split at h
 .omega
 .rename_i n1
  split at h
  .omega
  .rename_i n2
   unfold qE5 qE4;rw[if_neg n1,if_neg n2]
   split
   .rfl
   .rename_i n3
    unfold qE8 at h;rw[if_neg n3]at h
    split at h
    .omega
    .rename_i n4
     split at h
     .omega
     .rename_i n5
      have n4:backOk (qD2 f line) (qD7 f line)=true:=by simpa using n4
      have n5:backOk (zs0 (qD2 f line) (qD7 f line)) (qE0 f line)=true:=by simpa using n5
      unfold hO1 hO2;rw[if_pos n4,if_pos n5,zs1,zs3];rfl
theorem zO7(h:zO5 f=0):zO6 f c={f with dwell:=c.s}:=by
 unfold zO5 at h
 split at h
 .rename_i e;exact if_pos e
 .omega
theorem yK1(hc:c.code=1025):yJ9 f c=(if f.mode=1 then 0 else 14)/\(yJ9 f c=0->yK0 f c={f with mode:=2}):=by
 have n:¬c.code=1024:=by omega
 have e:yJ9 f c=(if f.mode=1 then 0 else 14):=if_neg n;refine⟨e,λh=>?_⟩;rw[e]at h
 split at h
 .rename_i k
  unfold yK0;rw[if_neg n,if_pos k]
 .omega
theorem yK2(hc:c.code=1024):yJ9 f c=(if f.mode=2 then 0 else 14)/\(yJ9 f c=0->yK0 f c={f with mode:=1}):=by
 have e:yJ9 f c=(if f.mode=2 then 0 else 14):=if_pos hc;refine⟨e,λh=>?_⟩;rw[e]at h
 split at h
 .rename_i k
  unfold yK0;rw[if_pos hc,if_pos k]
 .omega
def zS0(g:Fw)(line:Int)(c:Gc.C):Fw:=if line=0\/c.code=1112 then xS5 g else {xS5 g with line:=line}
theorem zf3(g:Fw):t8 pP (x9 pP 24) (.tuple [(zS0 g line c).sv,J 0]) (x8 pP 24 0) (x7 114 [(1,J line),(5,.ptr 0 0),(6,.ptr 1 0),(11,.ptr 2 0),(80,J 0)]) [some (.cells c.cells),some (.cells (o6 fw0)),some (.cells g.cells)] :=by
 refine o5 kAc (n:=1000) (hint:=.unit) (keep:=x6 114 [1,5,6,11,80]) (p:=zf2) rfl ?_;erw [ac1 g line c];unfold zf4 zS0;refine⟨rfl,rfl,rfl,rfl,λl=>⟨λk=>?_,λk=>?_⟩,λl=>?_⟩
 .rw[if_neg (by have:=bne_iff_ne.1 l;have:=bne_iff_ne.1 k;omega)];rfl
 .rw[if_pos (.inr (bne_eq_false_iff_eq.1 k))];rfl
 .rw[if_pos (.inl (bne_eq_false_iff_eq.1 l))];rfl
end
theorem xX0{c:Gc.C}(h:c.valid=true)(n4:¬c.code=4):0<=c.s/\c.s<=400000:=by
 unfold Gc.C.valid at h;rw[Bool.and_eq_true]at h;have r:=h.2;simp only[Gc.rest,Bool.and_eq_true]at r;have h5:Gc.okW c 5=true:=r.2.2.2.2.2.1;unfold Gc.okW at h5
 have e:c.num 5=c.s:=by unfold Gc.C.num;simp
 have e1:Gc.lo c.code 5=0:=by unfold Gc.lo;simp
 have e2:Gc.hi c.code 5<=400000:=by unfold Gc.hi;simp[n4];split<;>omega
 rw[e,e1]at h5
 split at h5
 .have:=beq_iff_eq.1 h5;omega
 .have:=j8.1 h5;omega
section
variable {f:Fw} {c:Gc.C}
theorem qB0(v:VF f)(hc:c.valid=true)(n4:¬c.code=4):qA2 f c=0/\qA3 f c={qA4 f c with waits:=qA5 f c}:=by
 have s:=xX0 hc n4;have a0:zl5 f.c0 c.s=true:=zl6.2 ⟨v.c0,s⟩;have a1:zl5 f.c1 c.s=true:=zl6.2 ⟨v.c1,s⟩
 have e:qA2 f c=0:=by unfold qA2;rw[if_pos a0,if_pos a1];split<;>rfl
 exact⟨e,if_pos e⟩
theorem qA6(h:c.code=1104):({qA4 f c with waits:=qA5 f c}:Fw)={f with c0:=f.c0.aim c.s}:=by
 have b:zt6 c=false:=by unfold zt6;rw[h];rfl
 have w:x18 c=false:=by unfold x18;rw[h];rfl
 unfold qA4 qA5;rw[b,w];rfl
theorem qA7(h:c.code=1109):({qA4 f c with waits:=qA5 f c}:Fw)={f with c0:=f.c0.aim c.s,waits:=orB f.waits 1}:=by
 have b:zt6 c=false:=by unfold zt6;rw[h];rfl
 have w:x18 c=true:=by unfold x18;rw[h];rfl
 unfold qA4 qA5;rw[b,w];rfl
theorem qA8(h:c.code=1140):({qA4 f c with waits:=qA5 f c}:Fw)={f with c1:=f.c1.aim c.s}:=by
 have b:zt6 c=true:=by unfold zt6;rw[h];rfl
 have w:x18 c=false:=by unfold x18;rw[h];rfl
 unfold qA4 qA5;rw[b,w];rfl
theorem qA9(h:c.code=1190):({qA4 f c with waits:=qA5 f c}:Fw)={f with c1:=f.c1.aim c.s,waits:=orB f.waits 2}:=by
 have b:zt6 c=true:=by unfold zt6;rw[h];rfl
 have w:x18 c=true:=by unfold x18;rw[h];rfl
 unfold qA4 qA5;rw[b,w];rfl
end
def doS(f:Fw)(line:Int)(c:Gc.C):SV:=if doE f line c=0 then .tuple [(zS0 (doF f line c) line c).sv,J 0]else .tuple [.agg (o6 fw0),J (doE f line c)]
section
variable {f:Fw} {line:Int} {c:Gc.C}
theorem zM4:(doS f line c).data=true:=by unfold doS;split<;>rfl
theorem zM5{k:Int}(e:doE f line c=k)(n:¬k=0):SV.tuple [.agg (o6 fw0),.int .i64 k] =doS f line c:=by unfold doS;rw[e,if_neg n]<;>rfl
theorem zM6(e:doE f line c=0){g:Fw}(d:doF f line c=g):doS f line c=.tuple [(zS0 g line c).sv,J 0] :=by unfold doS;rw[if_pos e,d]
abbrev AtL(f g:Fw)(line:Int)(c:Gc.C):Prop:=t8 pP (x9 pP 24) (doS f line c) (x8 pP 24 0) (x7 114 [(1,J line),(5,.ptr 0 0),(6,.ptr 1 0),(11,.ptr 2 0),(80,J 0)]) [some (.cells c.cells),some (.cells (o6 fw0)),some (.cells g.cells)]
theorem zp5(e:doE f line c=0){g:Fw}(d:doF f line c=g):AtL f g line c:=by unfold AtL;rw[zM6 e d];exact zf3 g
theorem zE5(h:c.valid=true):c.code=0\/c.code=1\/c.code=4\/c.code=28\/c.code=1024\/c.code=1025\/c.code=1104\/c.code=1106\/c.code=1107\/c.code=1109\/c.code=1112\/c.code=1140\/c.code=1190\/c.code=1999:=by
 unfold Gc.C.valid Gc.C.pre at h;simp only[Bool.and_eq_true]at h;have o:=h.1.1;simp only[Gc.okC,Bool.or_eq_true,decide_eq_true_eq]at o;rcases o with o|o|o|o
 .omega
 .omega
 .unfold Gc.oneS at o;omega
 .unfold Gc.none0 at o;omega
theorem zM2(h:c.code=1112):doE f line c=0:=if_pos h
theorem zM3(h:c.code=1112):doF f line c=xK2 (qS4 f line):=if_pos h
end
end Go.Proofs.YtnkaepnblikcdaaGreat
