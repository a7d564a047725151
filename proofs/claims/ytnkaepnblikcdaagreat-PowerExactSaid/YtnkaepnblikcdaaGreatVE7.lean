/-
  What the statement needs: an evaluator of the model, contracts of the functions that it reaches, and the plain law.
-/
import Derived.Test.YtnkaepnblikcdaaGreatVE6
import Derived.Test.YtnkaepnblikcdaaGreatVE5
set_option maxRecDepth 100000
set_option linter.unusedVariables false
set_option linter.unusedSimpArgs false
open Go.IntKind (i64 u64)
namespace Go.Proofs.YtnkaepnblikcdaaGreat
open Go.Sx
theorem qR8:Known pP (Env.of pP (v6 [z60])):=kW (l:=[z60]) ⟨yk3,trivial⟩
theorem qR2:Known pP (Env.ofW pP (v6 [z51]) (d7 [x00])):=qS6 mix (l:=[z51]) (k:=[x00]) (by intro x hx;rcases List.mem_cons.1 hx with rfl|hx;exact yj4;cases hx) (by intro x hx;rcases List.mem_cons.1 hx with rfl|hx;exact yv2;cases hx)
abbrev slP(f:Fl)(i:Int):List SV:=j8 48 [(1,.ptr 0 0),(3,.row 1),(16,.list .str f.pages),(17,I64 f.pages.length),(18,I64 i)]
abbrev bxP(f:Fl)(l:List Rc):List (Option Box):=[some (.cells f.cells),some (.rows xS8 (l.map Rc.t))]
theorem zf2(f:Fl)(hl:f.pages.length≤1000)(hp:∀p∈f.pages,p.length=64)(R:List Rc)(hR:zS4 R):∀ (k i:Nat) (acc:List Rc),i+k=f.pages.length→acc.length≤i→R=acc++yX2 f.pages.length i (f.pages.drop i)→
  b8 pP (j7 pP 191) (LR (xw5 R)) (j9 pP 191 0) (slP f i) (bxP f acc)
 |k,i,acc,hi,hn,hL=>by
  have w1:i64.wrap ((i:Int)+1)=(i:Int)+1:=w64 (by omega) (by omega)
  have t0:(i:Int).toNat=i:=by omega
  refine w6 qR2 (n:=1000) (hint:=xS8) (keep:=x8 48 [1,3,16,17,18]) (p:=zf0) rfl ?_
  erw [aa1 f (acc.map Rc.t) i]
  unfold zf1
  rw[w1,t0]
  match k,hi with
  |0,hi=>
   refine o5 (fun a=>absurd a (by omega)) fun _=>?_
   have z:f.pages.drop i=[] :=List.drop_eq_nil_of_le (by omega)
   rw[z,show yX2 f.pages.length i [] =[]from rfl,List.append_nil]at hL
   subst hL
   rw[yV2,List.length_map]
   exact x6 (by rw[Bool.and_eq_true];exact⟨decide_eq_true (by omega),zS3.2 hR⟩) rfl
  |k+1,hi=>
   have hip:i<f.pages.length:=by omega
   have p64:(f.pages.getD i ([] :List UInt8)).length=64:=by
    rw[List.getD_eq_getElem?_getD,List.getElem?_eq_getElem hip];exact hp _ (List.getElem_mem hip)
   rw[zU5 (d:=([] :List UInt8)) hip,yX3]at hL
   have nx:((i:Int)+1)=((i+1:Nat):Int):=by omega
   have skip:yW2 f.pages.length i (f.pages.getD i ([] :List UInt8))=none→b8 pP (j7 pP 191) (LR (xw5 R)) (j9 pP 191 0) (slP f ((i:Int)+1)) (bxP f acc):=fun e=>by
    rw[e]at hL
    rw[nx]
    exact zf2 f hl hp R hR k (i+1) acc (by omega) (by omega) hL
   have nz:(!(((f.pages.length:Nat):Int)==0))=true:=by
    rw[Bool.not_eq_true',beq_eq_false_iff_ne];omega
   refine o5 (fun _=>x6 (by simp;omega) (x6 (decide_eq_true (by rw[p64];omega)) (o5 (fun c=>absurd c (by rw[p64];omega)) fun _=>f9 (fun b=>x6 nz (q82 (fun c=>x6 (decide_eq_true ?_) ?_) fun c=>?_)) fun b=>?_))) fun a=>absurd (by omega) a
   ·rw[List.length_map]
    show(acc.length+1)*96≤_
    omega
   ·have e:yW2 f.pages.length i (f.pages.getD i ([] :List UInt8))=some (m9 (f.pages.getD i ([] :List UInt8))):=yW3.2 ⟨b,c,rfl⟩
    rw[e]at hL
    have el:(acc.map Rc.t)++[(m9 (f.pages.getD i ([] :List UInt8))).t] =(acc++[m9 (f.pages.getD i ([] :List UInt8))]).map Rc.t:=by rw[List.map_append];rfl
    rw[el,nx]
    refine⟨o8 _ _,?_⟩
    refine zf2 f hl hp R hR k (i+1) (acc++[m9 (f.pages.getD i ([] :List UInt8))]) (by omega) (by rw[List.length_append];show acc.length+1≤_;omega) ?_
    rw[hL,List.append_assoc];rfl
   ·refine⟨o8 _ _,skip ?_⟩
    cases e:yW2 f.pages.length i (f.pages.getD i ([] :List UInt8))with
    |none=>rfl
    |some r=>exact absurd (yW3.1 e).2.1 c
   ·refine⟨o8 _ _,skip ?_⟩
    cases e:yW2 f.pages.length i (f.pages.getD i ([] :List UInt8))with
    |none=>rfl
    |some r=>have:=(yW3.1 e).1;rw[this]at b;cases b
theorem y87(f:Fl)(h:o7 f=true):SCall pP 191 [f.sv] (LR (e9 f)):=by
 have hl:f.pages.length≤1000:=of_decide_eq_true h
 refine m6 rfl rfl (by kernel_rfl) (w6 qR8 (n:=1000) (hint:=xS8) (keep:=x8 48 [1,3,16,17,18]) (p:=ze8) (boxes:=[]) rfl ?_)
 have q:=aa0 f
 unfold v9 u7 at q
 erw [q]
 unfold ze9
 refine x6 h (q84 (fun b=>?_) fun b=>f9 (fun d=>?_) fun d=>⟨o8 _ _,?_⟩)
 ·have:e9 f=[] :=by unfold e9;rw[b];rfl
  rw[this];rfl
 ·have:e9 f=[] :=by unfold e9;rw[b,d];rfl
  rw[this];rfl
 ·have e:e9 f=xw5 (yX2 f.pages.length 0 f.pages):=by unfold e9;rw[b,d];rfl
  rw[e]
  have r:=zf2 f hl (qs4.1 b).1 (yX2 f.pages.length 0 f.pages) yX4 f.pages.length 0 [] (by omega) (Nat.le_refl _) rfl
  exact y68 true [] (slots':=slP f 0) (boxes':=bxP f []) (xw0 ⟨rfl,.same _,rfl,.nil rfl,rfl,.same _,rfl,.same _,rfl,.same _,trivial⟩) ⟨by simp,.same _,trivial⟩ r
def z33:Fact:=qg8 191 fun f=>.req (o7 f) (.leaf (LR (e9 f)))
theorem yg9:z33.ok pP:=qh7 fun f h=>y87 f h
theorem xf6(f:Fl)(h:o7 f=true):SCall pP 103 [f.sv] (qT5 f):=
 o9 mix [z33] ⟨yg9,trivial⟩ 1000 (.fork (.all) (.all))
  (t:=let y1:=(↑(List.map Rc.t (e9 f)).length:Int);let y0:=(List.map Rc.t (e9 f)).getD (i64.wrap (y1-1)).toNat rcZ.t;.req (o7 f) (.node (y1==0) (.leaf (.tuple [.agg [I64 0,I64 0,I64 0,I64 0,I64 0,I64 0,I64 0,I64 0,I64 0,I64 0,I64 0,I64 0],.bool false])) (.req (decide (0≤i64.wrap (y1-1))&&decide (i64.wrap (y1-1)<y1)) (.leaf (.tuple [.agg [I64 y0.1,I64 y0.2.1,I64 y0.2.2.1,I64 y0.2.2.2.1,I64 y0.2.2.2.2.1.1,I64 y0.2.2.2.2.1.2.1,I64 y0.2.2.2.2.1.2.2.1,I64 y0.2.2.2.2.1.2.2.2,I64 y0.2.2.2.2.2.1,I64 y0.2.2.2.2.2.2.1,I64 y0.2.2.2.2.2.2.2.1,I64 y0.2.2.2.2.2.2.2.2],.bool true])))))
  (by kernel_rfl) (by
   refine x6 h (q82 (fun e=>?_) fun e=>?_)
   ·have e:e9 f=[] :=by
     rw[List.length_map]at e
     exact List.eq_nil_of_length_eq_zero (by omega)
    rw[qT6 e];rfl
   ·have hl:f.pages.length≤1000:=of_decide_eq_true h
    have len:=zo3 f
    rw[List.length_map]at e ⊢
    have w:i64.wrap (((e9 f).length:Int)-1)=((e9 f).length:Int)-1:=w64 (by omega) (by omega)
    rw[w]
    obtain⟨A,x,hA⟩:∃A x,e9 f=A++[x] :=⟨(e9 f).dropLast,(e9 f).getLast (by intro k;rw[k]at e;exact e rfl),(List.dropLast_concat_getLast _).symm⟩
    have g:((e9 f).map Rc.t).getD (((e9 f).length:Int)-1).toNat rcZ.t=x.t:=by
     rw[q15 (by omega),hA]
     have:((((A++[x]).length:Nat):Int)-1).toNat=A.length:=by simp
     rw[this,List.getD_eq_getElem?_getD,List.getElem?_append_right (Nat.le_refl _)];simp
    rw[g,qT7 hA]
    exact x6 (by simp;omega) rfl) (by kernel_rfl) (by kernel_rfl)
theorem ym8:z87.ok pP:=qh7 fun f h=>xf6 f h
theorem y89(f:Fl)(r:Rc)(h:o7 f=true):SCall pP 202 [f.sv,r.sv] (apV f r):=
 o9 mix [z55,z60,z87,fWr] ⟨yj8,yk3,ym8,yu9,trivial⟩ 1000 (.fork (.ln 4 (.fork .all (.fork .all (.fork .all .all)))) (.ln 4 (.lit .all)))
  (t:=let y0:=wrF f (r.seq.tmod (↑f.pages.length:Int)) (enc r);.node (rcB r) (.req (o7 f) (.req (o7 f) (.node (!flB f) (.leaf (.tuple [.agg f.cells,I64 1])) (.node (f.dead) (.leaf (.tuple [.agg f.cells,I64 17])) (.node (r.seq != i64.wrap ((qT0 f).seq+1)) (.leaf (.tuple [.agg f.cells,I64 11])) (.req (!(↑f.pages.length:Int)==0) (.req (o7 f) (.leaf (.tuple [.agg [.list Ty.str y0.pages,I64 y0.fuse,.bool y0.dead,I64 y0.keep],I64 (wrE f (r.seq.tmod (↑f.pages.length:Int)) (enc r))]))))))))) (.req (o7 f) (.leaf (.tuple [.agg f.cells,I64 1]))))
  (by kernel_rfl) (by
   have w:i64.wrap ((qT0 f).seq+1)=qT2 f+1:=by rw[qT3,w64 (by have:=qT1 f;omega) (by have:=qT1 f;omega)]
   rw[w]
   refine f9 (fun a=>x6 h (x6 h (q84 (fun b=>(zp1 (.inr b)).symm) fun b=>f9 (fun d=>(zp2 a b d).symm) fun d=>q83 (fun s=>(zp4 a b d s).symm) fun s=>x6 ?_ (x6 h ?_)))) fun a=>x6 h (zp1 (.inl a)).symm
   ·have:=(qs4.1 b).2.1
    rw[Bool.not_eq_true',beq_eq_false_iff_ne];omega
   ·rw[zp3 a b d s];rfl) (by kernel_rfl) (by kernel_rfl)
theorem yh1:fAp.ok pP:=qh6 fun f r h=>y89 f r h
theorem qS1:Known pP (Env.ofB pP (v6 [z87,fAp]) (d7 []) (d9 []) (d8 []) (x7 []) (x7 []) (x7 []) (x7 [])):=hB (l:=[z87,fAp]) (k:=[]) (j:=[]) (i:=[]) [] [] [] [] ⟨ym8,yh1,trivial⟩ o4 o4 o4
theorem yb0(f:Fl):i64.wrap ((qT0 f).seq+1)=qT2 f+1:=by rw[qT3,w64 (by have:=qT1 f;omega) (by have:=qT1 f;omega)]
theorem zu0(f:Fl)(r:Rc)(h:o7 f=true)(e:yW4 f r=0):za1 pP 119 [r.sv] (.cells f.cells) (false,.tuple [],.cells (t9 f r).cells):=by
 refine zw0 (r:=.ret (.tuple []) [some (.cells (t9 f r).cells)]) (by kernel_rfl) (y70 qS1 (n:=1000) (keep:=x8 37 []) (p:=yV0) (Nat.le_refl _) ?_) rfl rfl rfl rfl rfl
 erw [rcX f r]
 unfold yV1
 rw[yb0]
 exact x6 h (x6 h (q83 (fun k=>absurd e k) fun _=>rfl))
theorem zu1(f:Fl)(r:Rc)(h:o7 f=true)(e:¬yW4 f r=0):za1 pP 119 [r.sv] (.cells f.cells) (true,qn6,.cells (t9 f r).cells):=by
 refine zw0 (r:=.pan qn6 [some (.cells (t9 f r).cells)]) (by kernel_rfl) (y70 qS1 (n:=1000) (keep:=x8 37 []) (p:=yV0) (Nat.le_refl _) ?_) rfl rfl rfl rfl rfl
 erw [rcX f r]
 unfold yV1
 rw[yb0]
 exact x6 h (x6 h (q83 (fun _=>rfl) fun k=>absurd k e))
theorem yr1:zt4.ok pP:=fun args B t ht=>by
 simp only[zt4]at ht
 split at ht
 ·split at ht
  ·injection ht with ht;subst ht
   intro h
   exact⟨fun e=>zu0 ⟨_,_,_,_⟩ ⟨_,_,_,_,(_,_,_,_),(_,_,_,_)⟩ h (beq_iff_eq.1 e),fun e=>zu1 ⟨_,_,_,_⟩ ⟨_,_,_,_,(_,_,_,_),(_,_,_,_)⟩ h (beq_eq_false_iff_ne.1 e)⟩
  ·cases ht
 ·cases ht
def zx5(f:Fw):Rc:=match qD2 f.lines with
 |true=>⟨1,0,n8 f,0,f.ret,f.ret⟩
 |false=>⟨1,0,n8 f,0,f.pos,m8 f.pos (f.queue.getD 0 dBk).1⟩
def zx3(f:Fw):Bool:=xv2 f&& (!f.moving&&decide (0<f.lines.length))
def qn5(f:Fw):Rc:=match y29 f with
 |true=>⟨3,0,n8 f-1,0,f.pos,(f.ret.1,f.ret.2.1,f.ret.2.2.1,f.pos.2.2.2)⟩
 |false=>match f.moving with
  |true=>⟨2,0,f.active,f.mo.2.1,f.pos,m8 (wsub4 f.pos (q02 f.mo)) f.mo.1.1⟩
  |false=>⟨2,0,n8 f-1,0,f.pos,f.pos⟩
def zv1(f:Fw)(line:Int):V4:=if line=0∧f.homed=true then f.pos else if f.back=true then(f.ret.1,f.ret.2.1,f.ret.2.2.1,f.pos.2.2.2)else(0,0,0,f.pos.2.2.2)
theorem zx4{f:Fw}:zx3 f=true↔xv2 f=true∧f.moving=false∧0<f.lines.length:=by simp[zx3]
theorem zx7{f:Fw}(h:0<f.lines.length)(k:f.lines.getD 0 0=0):zx5 f=⟨1,0,n8 f,0,f.ret,f.ret⟩:=by
 have e:qD2 f.lines=true:=qD3.2 ⟨h,k⟩
 unfold zx5;rw[e]
theorem zx6{f:Fw}(k:¬f.lines.getD 0 0=0):zx5 f=⟨1,0,n8 f,0,f.pos,m8 f.pos (f.queue.getD 0 dBk).1⟩:=by
 have e:qD2 f.lines=false:=by rw[Bool.eq_false_iff];intro h;exact k (qD3.1 h).2
 unfold zx5;rw[e]
theorem qo3{f:Fw}(a:y29 f=true):qn5 f=⟨3,0,n8 f-1,0,f.pos,(f.ret.1,f.ret.2.1,f.ret.2.2.1,f.pos.2.2.2)⟩:=by unfold qn5;rw[a]
theorem qn9{f:Fw}(a:y29 f=false)(m:f.moving=true):qn5 f=⟨2,0,f.active,f.mo.2.1,f.pos,m8 (wsub4 f.pos (q02 f.mo)) f.mo.1.1⟩:=by unfold qn5;rw[a,m]
theorem qo1{f:Fw}(a:y29 f=false)(m:f.moving=false):qn5 f=⟨2,0,n8 f-1,0,f.pos,f.pos⟩:=by unfold qn5;rw[a,m]
theorem yD9{f:Fw}(h:xv2 f=true):i64.wrap (n8 f-1)=n8 f-1:=w64 (by have:=yD7 h;omega) (by have:=yD7 h;omega)
theorem zv4{f:Fw}{n:Int}(a:n=0)(b:f.homed=true):zv1 f n=f.pos:=if_pos ⟨a,b⟩
theorem zv5{f:Fw}{n:Int}(a:¬(n=0∧f.homed=true))(b:f.back=true):zv1 f n=(f.ret.1,f.ret.2.1,f.ret.2.2.1,f.pos.2.2.2):=by unfold zv1;rw[if_neg a,if_pos b]
theorem zv8{f:Fw}{n:Int}(a:¬(n=0∧f.homed=true))(b:f.back=false):zv1 f n=(0,0,0,f.pos.2.2.2):=by unfold zv1;rw[if_neg a,if_neg (by rw[b];exact Bool.false_ne_true)]
theorem y96(f:Fw)(h:zx3 f=true):SCall pP 120 [f.sv] ((zx5 f).sv):=
 o9 mix [qa8,fPP,qa9,z94] ⟨yp3,yp4,yp5,yn5,trivial⟩ 1000 (.fork (.all) (.all))
  (t:=.req (decide (0< (↑f.lines.length:Int))) (.node (f.lines.getD 0 0==0) (.req (xv2 f) (.leaf (.agg [I64 1,I64 0,I64 (n8 f),I64 0,I64 f.ret.1,I64 f.ret.2.1,I64 f.ret.2.2.1,I64 f.ret.2.2.2,I64 f.ret.1,I64 f.ret.2.1,I64 f.ret.2.2.1,I64 f.ret.2.2.2]))) (.req (xv2 f) (.req (decide (0< (↑f.queue.length:Int))) (.leaf (.agg [I64 1,I64 0,I64 (n8 f),I64 0,I64 f.pos.1,I64 f.pos.2.1,I64 f.pos.2.2.1,I64 f.pos.2.2.2,I64 (m8 f.pos (f.queue.getD 0 dBk).1).1,I64 (m8 f.pos (f.queue.getD 0 dBk).1).2.1,I64 (m8 f.pos (f.queue.getD 0 dBk).1).2.2.1,I64 (m8 f.pos (f.queue.getD 0 dBk).1).2.2.2]))))))
  (by kernel_rfl) (by
   obtain⟨sh,nm,ln⟩:=zx4.1 h
   have lens:=(xv3.1 sh).2.1
   refine x6 (decide_eq_true (by omega)) (q82 (fun k=>x6 sh (by rw[zx7 ln k];rfl)) fun k=>x6 sh (x6 (decide_eq_true (by omega)) (by rw[zx6 k];rfl)))) (by kernel_rfl) (by kernel_rfl)
theorem xd2(f:Fw)(h:xv2 f=true):SCall pP 124 [f.sv] ((qn5 f).sv):=
 o9 mix [qa8,fPP,qa9,z94] ⟨yp3,yp4,yp5,yn5,trivial⟩ 1000 (.fork (.all) (.fork (.all) (.all)))
  (t:=let y0:=m8 (wsub4 f.pos (q02 f.mo)) f.mo.1.1;.req (xv2 f) (.req (qW2 f) (.node (y29 f) (.req true (.req (true) (.leaf (.agg [I64 3,I64 0,I64 (i64.wrap (n8 f-1)),I64 0,I64 f.pos.1,I64 f.pos.2.1,I64 f.pos.2.2.1,I64 f.pos.2.2.2,I64 f.ret.1,I64 f.ret.2.1,I64 f.ret.2.2.1,I64 f.pos.2.2.2])))) (.node (f.moving) (.leaf (.agg [I64 2,I64 0,I64 f.active,I64 f.mo.2.1,I64 f.pos.1,I64 f.pos.2.1,I64 f.pos.2.2.1,I64 f.pos.2.2.2,I64 y0.1,I64 y0.2.1,I64 y0.2.2.1,I64 y0.2.2.2])) (.leaf (.agg [I64 2,I64 0,I64 (i64.wrap (n8 f-1)),I64 0,I64 f.pos.1,I64 f.pos.2.1,I64 f.pos.2.2.1,I64 f.pos.2.2.2,I64 f.pos.1,I64 f.pos.2.1,I64 f.pos.2.2.1,I64 f.pos.2.2.2]))))))
  (by kernel_rfl) (by
   have lens:=(xv3.1 h).2.1
   exact x6 h (x6 (qW3.2 lens) (f9 (fun a=>x6 rfl (x6 rfl (by rw[qo3 a,yD9 h];rfl))) fun a=>f9 (fun m=>by rw[qn9 a m];rfl) fun m=>by rw[qo1 a m,yD9 h];rfl))) (by kernel_rfl) (by kernel_rfl)
theorem y93(f:Fw)(n:Int):SCall pP 126 [f.sv,I64 n] (V4.sv (zv1 f n)):=
 o9 mix [] trivial 1000 (.fork (.lit (.lit (.fork .all (.fork .all .all)))) (.ln 3 (.fork .all .all)))
  (t:=let y0:Tree SV:=.node (f.back) (.req true (.req (true) (.leaf (.agg [I64 f.ret.1,I64 f.ret.2.1,I64 f.ret.2.2.1,I64 f.pos.2.2.2])))) (.req true (.req (true) (.leaf (.agg [I64 0,I64 0,I64 0,I64 f.pos.2.2.2]))));.node (n==0) (.node (f.homed) (.leaf (.agg [I64 f.pos.1,I64 f.pos.2.1,I64 f.pos.2.2.1,I64 f.pos.2.2.2])) y0) y0)
  (by kernel_rfl) (by
   exact q82 (fun a=>f9 (fun b=>by rw[zv4 a b];rfl) fun b=>f9 (fun c=>x6 rfl (x6 rfl ((by rw[zv5 (fun q=>by rw[b]at q;cases q.2) c];rfl)))) fun c=>x6 rfl (x6 rfl ((by rw[zv8 (fun q=>by rw[b]at q;cases q.2) c];rfl)))) fun a=>f9 (fun c=>x6 rfl (x6 rfl ((by rw[zv5 (fun q=>a q.1) c];rfl)))) fun c=>x6 rfl (x6 rfl ((by rw[zv8 (fun q=>a q.1) c];rfl)))) (by kernel_rfl) (by kernel_rfl)
def z40:Fact:=qg6 120 fun f=>.req (zx3 f) (.leaf (zx5 f).sv)
def z68:Fact:=qg6 124 fun f=>.req (xv2 f) (.leaf (qn5 f).sv)
def z37:Fact:=qh8 126 fun f rest=>match rest with
 |[.int .i64 n] =>some (.leaf (V4.sv (zv1 f n)))
 |_=>none
theorem yi0:z40.ok pP:=qg7 fun f h=>y96 f h
theorem yl1:z68.ok pP:=qg7 fun f h=>xd2 f h
theorem yh7:z37.ok pP:=qh9 fun f rest t ht=>by
 split at ht
 ·injection ht with ht;subst ht;exact y93 f _
 ·cases ht
def q87(r:Rc):Bool:=v7 r.src&& (v7 r.dst&&v7 (wsub4 r.dst r.src))
def yT1(f:Fw)(r:Rc):Fw:={f with line:=if r.line-1>0 then r.line-1 else 0,pos:=r.src,e:=xU6 f.ma.e r.src.2.2.2,back:=true,ret:=r.src}
def yT2(f:Fw)(r:Rc):Fw:={f with homed:=true,pos:=r.src,loc:=yP0 f.ma r.dst,e:=(yP1 f.ma r.dst).2.2.2,line:=r.line}
def yT3(f:Fw)(r:Rc):Fw:={yT2 f r with ret:=r.dst}
def rsF(f:Fw)(r:Rc):Fw:=if r.kind=3 then y07 (yT3 f r) (wsub4 r.dst r.src)else if r.src=r.dst then yT2 f r else f7 (yT2 f r) (wsub4 r.dst r.src) 0 r.line
def rgE(r:Rc):Int:=if q87 r=true then 0 else 19
def rgF(f:Fw)(r:Rc):Fw:=if r.kind=1 then yT1 f r else rsF f r
def rvB(f:Fw)(l:Fl):Bool:=v5 f&& (qJ4 f&& (flB l&&!f.homed))
def rvE(f:Fw)(l:Fl):Int:=if rvB f l=false then 1 else if l.dead=true then 17 else match lastO l with
 |none=>0
 |some r=>rgE r
def rvF(f:Fw)(l:Fl):Fw:=match lastO l with
 |none=>f
 |some r=>rgF f r
def rvS(f:Fw)(l:Fl):SV:=if rvE f l=0 then .tuple [(rvF f l).sv,I64 0]else .tuple [.agg (f4 fw0),I64 (rvE f l)]
theorem zl8{f:Fw}{c:V4}{len:Int}(h:zk6 f c len=true)(e:z02 f=0):zk4 f c len=true:=by
 have p:=zm0 h
 have ql:=zk8 f c len
 rw[zk5,e]
 rw[e]at p
 have g:=qw1 p (i:=0) (Nat.zero_le _)
 have k:gL (r9 f c len) (zG2 f.ma (r9 f c len)) 0 0≤0:=by
  rw[qw2 (by omega)]
  exact Int.le_trans (Int.min_le_left _ _) (Int.le_refl _)
 exact⟨(p.crR 0).1,by omega⟩
theorem y00{f g:Fw}(v:VF f)(hi:qJ4 f=true)(e1:g.ma=f.ma)(e2:g.feed=f.feed)(e3:g.queue=f.queue)(e4:g.lines=f.lines)(e5:g.moving=f.moving){c:V4}(hn:v7 c=true)(hz:nz4 c=true):zk6 g c 0=true∧z02 g=0:=by
 obtain⟨i1,i2,i3⟩:=qJ5.1 hi
 have n:=v.nums
 have en:z02 g=0:=by
  unfold z02
  rw[if_neg (show ¬g.moving=true by rw[e5,i1];exact Bool.false_ne_true),if_pos (show g.queue.length=0 by rw[e3];exact i2)]
 exact⟨zk7.2 ⟨by rw[e1];exact yw5 v.ma hn hz,by decide,by rw[e2];exact yw0.2 (by omega),by rw[e3];exact v.sound,by rw[e3,e4];exact v.lens,by rw[e3];omega,by omega,by omega⟩,en⟩
theorem y04{d:V4}(h:v7 d=true):v7 (y03 d)=true:=by have:=t8.1 h;exact t8.2 (by unfold y03;dsimp only;omega)
theorem y06{d:V4}(h:v7 d=true):v7 (y05 d)=true:=by have:=t8.1 h;exact t8.2 (by unfold y05;dsimp only;omega)
theorem y28{f g:Fw}(v:VF f)(hi:qJ4 f=true)(e1:g.ma=f.ma)(e2:g.feed=f.feed)(e3:g.queue=f.queue)(e4:g.lines=f.lines)(e5:g.moving=f.moving){d:V4}(hn:v7 d=true):
  y09 g d=true∧z02 g=0∧z02 (f5 g (y03 d))=0∧y08 g d=true:=by
 obtain⟨i1,i2,i3⟩:=qJ5.1 hi
 have en:z02 g=0:=by
  unfold z02
  rw[if_neg (show ¬g.moving=true by rw[e5,i1];exact Bool.false_ne_true),if_pos (show g.queue.length=0 by rw[e3];exact i2)]
 have p1:nz4 (y03 d)=true→zk6 g (y03 d) 0=true:=fun z=>(y00 v hi e1 e2 e3 e4 e5 (y04 hn) z).1
 have o1:backOk g (y03 d)=true:=by
  cases z:nz4 (y03 d)with
  |false=>exact zu9 z
  |true=>rw[zv0 z];exact zl8 (p1 z) en
 have en2:z02 (f5 g (y03 d))=0:=by
  cases z:nz4 (y03 d)with
  |false=>rw[zu6 z];exact en
  |true=>
   rw[zu8 z,zj1 (by rw[←zv0 z];exact o1)];exact en
 have p2:nz4 (y05 d)=true→zk6 (f5 g (y03 d)) (y05 d) 0=true:=fun y=>by
  cases z:nz4 (y03 d)with
  |false=>rw[zu6 z];exact(y00 v hi e1 e2 e3 e4 e5 (y06 hn) y).1
  |true=>
   rw[zu8 z]
   exact zj7 (p1 z) (by rw[←zv0 z];exact o1) (by rw[e1];exact yw5 v.ma (y06 hn) y) (by decide) (by rw[e3];omega)
 have o2:backOk (f5 g (y03 d)) (y05 d)=true:=by
  cases y:nz4 (y05 d)with
  |false=>exact zu9 y
  |true=>rw[zv0 y];exact zl8 (p2 y) en2
 exact⟨y26.2 ⟨p1,fun _=>p2⟩,en,en2,by unfold y08;rw[o1,o2];rfl⟩
section
variable {f:Fw} {r s line:Int} {c:Gc.C}
theorem xI7:zz3 (xI6 f r s)=true:=by
 have z:zz3 z4=true:=by decide
 unfold xI6 y45
 split
 ·exact z
 ·split
  ·exact z
  ·split
   ·exact z
   ·split
    ·exact xI5 _ _
    ·exact z
theorem xK0(v:v5 f=true):m8 f.pos (xI6 f r s)=(xH9 f r s).pos:=by
 rw[xJ8 v];exact x03 (q89 (p7 v).pos) xI7
theorem zS9(e:doE f line c=0):(doF f line c).pos=if c.code=28 then(0,0,0,f.pos.2.2.2)else f.pos:=by
 by_cases k1:c.code=1112
 ·rw[zS8 k1,if_neg (by omega)]
  show(qW4 f line).pos=f.pos
  unfold qW4;split<;>rfl
 by_cases k2:c.code=1999
 ·rw[if_neg (by omega)];unfold doF;rw[if_neg k1,if_pos k2];rfl
 by_cases k3:c.code=1025
 ·rw[if_neg (by omega)];unfold doF;rw[if_neg k1,if_neg k2,if_pos k3]
 by_cases k4:c.code=1024
 ·rw[if_neg (by omega)];unfold doF;rw[if_neg k1,if_neg k2,if_neg k3,if_pos k4]
 have kk:¬c.code=1112∧¬c.code=1999∧¬c.code=1024∧¬c.code=1025:=⟨k1,k2,k4,k3⟩
 by_cases m:f.mode=3
 ·rw[zW8 k1 k2 m]at e;omega
 by_cases w:¬f.waits=0∨¬f.dwell=0
 ·rw[zX5 kk m w]at e;omega
 rw[zX0 kk m (by omega)]at e
 rw[zO7 kk]
 by_cases a:c.code=0∨c.code=1
 ·rw[if_pos a,if_neg (by omega)]
  unfold q62 tlF
  have fp:(b7 f c).pos=f.pos:=by unfold b7;split<;>rfl
  split
  ·exact fp
  ·exact fp
 rw[if_neg a]
 rw[if_neg a]at e
 by_cases b:c.code=4
 ·rw[if_pos b,if_neg (by omega)]
 rw[if_neg b]
 rw[if_neg b]at e
 by_cases d:c.code=28
 ·rw[if_pos d,if_pos d]
  rw[if_pos d]at e
  exact qH9 e
 rw[if_neg d,if_neg d]
 repeat' (first|rfl|split)
theorem zh7(h:zg2 f line c=0):(zg4 f line c).pos=if c.code=28 then(0,0,0,f.pos.2.2.2)else f.pos:=by
 obtain⟨_,_,_,_,e⟩:=zg3 h
 rw[←zS9 e]
 unfold zg4
 split
 ·rfl
 ·show(qW4 (doF f line c) line).pos=_
  unfold qW4;split<;>rfl
end
theorem xV4{a b:V4}(h:a=b):(a.1==b.1&& (a.2.1==b.2.1&& (a.2.2.1==b.2.2.1&& (a.2.2.2==b.2.2.2&&true))))=true:=by subst h;simp
section
variable {kd:Int} {nb:Bool} {c:Gc.C} {n r s:Int}
end
def qU6(p c r:V4):Prop:=p.1+c.1=r.1∧p.2.1+c.2.1=r.2.1∧p.2.2.1+c.2.2.1=r.2.2.1
def noZ(ls:List Int):Prop:=∀n∈ls,¬n=0
def Zs(p r:V4)(cs:List V4)(ls:List Int):Prop:=
 noZ ls∨(∃c cs' ls',cs=c::cs'∧ls=0::ls'∧noZ ls'∧qU6 p c r)∨
 (∃z x y cs' ls',cs=(0,0,z,0)::(x,y,0,0)::cs'∧ls=0::0::ls'∧noZ ls'∧p.1+x=r.1∧p.2.1+y=r.2.1∧p.2.2.1+z=r.2.2.1)
theorem yb9:noZ [] :=fun _ h=>by cases h
theorem Zs.tail{p r c:V4}{cs:List V4}{n:Int}{ls:List Int}(h:Zs p r (c::cs) (n::ls)):Zs (r8 p c) r cs ls:=by
 rcases h with h|⟨c',cs',ls',e1,e2,h,l⟩|⟨z,x,y,cs',ls',e1,e2,h,h1,h2,h3⟩
 ·exact .inl fun m hm=>h m (List.mem_cons_of_mem _ hm)
 ·injection e2 with _ e2;subst e2;exact .inl h
 ·injection e1 with a e1
  injection e2 with b e2
  subst e1;subst e2;subst a
  refine .inr (.inl ⟨(x,y,0,0),cs',ls',rfl,rfl,h,?_⟩)
  unfold qU6 r8;dsimp only;omega
theorem Zs.add{p r c:V4}{cs:List V4}{n:Int}{ls:List Int}(h:Zs p r cs ls)(hn:¬n=0):Zs p r (cs++[c]) (ls++[n]):=by
 have nz:∀l,noZ l→noZ (l++[n]):=fun l h m hm=>by
  rcases List.mem_append.1 hm with k|k
  ·exact h m k
  ·rw[List.mem_singleton.1 k];exact hn
 rcases h with h|⟨c',cs',ls',e1,e2,h,l⟩|⟨z,x,y,cs',ls',e1,e2,h,h1⟩
 ·exact .inl (nz _ h)
 ·subst e1;subst e2;exact .inr (.inl ⟨c',cs'++[c],ls'++[n],rfl,rfl,nz _ h,l⟩)
 ·subst e1;subst e2;exact .inr (.inr ⟨z,x,y,cs'++[c],ls'++[n],rfl,rfl,nz _ h,h1⟩)
def csF(f:Fw):List V4:=(if f.moving=true then [f.mo.1.1]else [])++f.queue.map (·.1)
def lsF(f:Fw):List Int:=(if f.moving=true then [f.active]else [])++f.lines
theorem zM6{f:Fw}(h:f.moving=false):csF f=f.queue.map (·.1):=by unfold csF;rw[if_neg (by rw[h];exact Bool.false_ne_true)];rfl
theorem zM7{f:Fw}(h:f.moving=true):csF f=f.mo.1.1::f.queue.map (·.1):=by unfold csF;rw[if_pos h];rfl
theorem qZ5{f:Fw}(h:f.moving=false):lsF f=f.lines:=by unfold lsF;rw[if_neg (by rw[h];exact Bool.false_ne_true)];rfl
theorem qZ6{f:Fw}(h:f.moving=true):lsF f=f.active::f.lines:=by unfold lsF;rw[if_pos h];rfl
structure Way (f:Fw) (B:Int):Prop where
 bk:Zs (begin4 f) f.ret (csF f) (lsF f)
 ln:∀n∈lsF f,n≤B
theorem Way.mono{f:Fw}{B C:Int}(h:Way f B)(k:B≤C):Way f C:=⟨h.bk,fun n hn=>Int.le_trans (h.ln n hn) k⟩
theorem Way.same{f g:Fw}{B:Int}(h:Way f B)(e1:g.moving=f.moving)(e2:g.mo=f.mo)(e3:g.queue=f.queue)(e4:g.lines=f.lines)(e5:g.pos=f.pos)(e6:g.ret=f.ret)(e7:g.active=f.active):Way g B:=by
 have b:begin4 g=begin4 f:=by
  cases m:f.moving with
  |false=>rw[zy8 (e1.trans m),zy8 m,e5]
  |true=>rw[zy9 (e1.trans m),zy9 m,e5,e2]
 have c:csF g=csF f:=by unfold csF;rw[e1,e2,e3]
 have l:lsF g=lsF f:=by unfold lsF;rw[e1,e4,e7]
 exact⟨by rw[b,e6,c,l];exact h.bk,by rw[l];exact h.ln⟩
theorem Way.empty{f:Fw}{B:Int}(h:f.moving=false)(l:f.lines=[]):Way f B:=by
 have e:lsF f=[] :=by rw[qZ5 h,l]
 exact⟨.inl (by rw[e];exact yb9),by rw[e];intro n hn;cases hn⟩
theorem yN0(l:List Bk)(g:Nat→Int):(plB l g).map (·.1)=l.map (·.1):=by
 refine List.ext_getElem (by simp[plB]) fun i h1 h2=>?_
 have hi:i<l.length:=by simpa using h2
 simp[plB,xt9,List.getD_eq_getElem?_getD,List.getElem?_eq_getElem hi]
theorem zj4(g:Fw)(c:V4)(len n:Int):(f7 g c len n).queue.map (·.1)=g.queue.map (·.1)++[c] :=by
 show(plB (r9 g c len) _).map (·.1)=_
 rw[yN0];unfold r9;rw[List.map_append];rfl
theorem zj9{g:Fw}{c:V4}{len n B:Int}(h:Way g B)(hn:¬n=0)(hB:n≤B):Way (f7 g c len n) B:=by
 have b:begin4 (f7 g c len n)=begin4 g:=by
  cases m:g.moving with
  |false=>rw[zy8 (f:=f7 g c len n) m,zy8 m];rfl
  |true=>rw[zy9 (f:=f7 g c len n) m,zy9 m];rfl
 have cs:csF (f7 g c len n)=csF g++[c] :=by
  unfold csF;rw[zj4,←List.append_assoc];rfl
 have ls:lsF (f7 g c len n)=lsF g++[n] :=by
  unfold lsF;rw[List.append_assoc];rfl
 refine⟨by rw[b,cs,ls];exact h.bk.add hn,fun m hm=>?_⟩
 rw[ls]at hm
 rcases List.mem_append.1 hm with k|k
 ·exact h.ln m k
 ·rw[List.mem_singleton.1 k];exact hB
theorem xA9{f:Fw}{B:Int}(v:v5 f=true)(hc:zE5 f=true)(h:Way f B):Way (xz7 f) B:=by
 obtain⟨c1,c2,c3,c4⟩:=zE6.1 hc
 have hv:=p7 v
 obtain⟨_,m⟩:=xA6 v hc
 have b:=(xA5 v hc).1
 have hq:f.queue=f.queue.getD 0 dBk::f.queue.drop 1:=by
  cases q:f.queue with
  |nil=>rw[q]at c2;exact absurd rfl c2
  |cons x l=>rfl
 have hl:f.lines=f.lines.getD 0 0::f.lines.drop 1:=by
  have:=hv.lens
  cases q:f.lines with
  |nil=>rw[q]at this;exact absurd this.symm c2
  |cons x l=>rfl
 have cs:csF (xz7 f)=csF f:=by
  rw[zM7 (f:=xz7 f) rfl,zM6 c1,m]
  show(f.queue.getD 0 dBk).1::(f.queue.drop 1).map (·.1)=_
  conv=>rhs;rw[hq]
  rfl
 have ls:lsF (xz7 f)=lsF f:=by
  rw[qZ6 (f:=xz7 f) rfl,qZ5 c1]
  exact hl.symm
 have k:=h.bk
 rw[zy8 c1]at k
 exact⟨by rw[b,cs,ls];exact k,by rw[ls];exact h.ln⟩
theorem zy7{f:Fw}{B:Int}(v:v5 f=true)(h:Way f B):Way (t7 f) B:=by
 cases c:zE5 f with
 |true=>rw[zx2 c];exact xA9 v c h
 |false=>rw[zx0 c];exact h
theorem xC1{f:Fw}{B:Int}(v:v5 f=true)(hm:f.moving=true)(h:Way f B):Way (xB0 f) B:=by
 obtain⟨q,b⟩:=xB4 v hm
 cases e:zZ8 (xI1 f.mo f.ma.ticks)with
 |true=>
  rw[e,if_pos rfl]at b
  have k:=h.bk
  have l:=h.ln
  rw[zM7 hm,qZ6 hm]at k
  rw[qZ6 hm]at l
  have kt:=k.tail
  have o:(xB0 f).moving=false:=by rw[xC2 e]
  refine⟨?_,?_⟩
  ·rw[b,zM6 o,qZ5 o,xC2 e];exact kt
  ·rw[qZ5 o,xC2 e];exact fun n hn=>l n (List.mem_cons_of_mem _ hn)
 |false=>
  rw[e,if_neg Bool.false_ne_true]at b
  have o:(xB0 f).moving=true:=by rw[xB6 e];exact hm
  have k:=h.bk
  have l:=h.ln
  rw[zM7 hm,qZ6 hm]at k
  rw[qZ6 hm]at l
  have tb:(xB0 f).mo.1=f.mo.1:=by rw[xB6 e];exact xJ5 _ _
  have s:(xB0 f).queue=f.queue∧(xB0 f).lines=f.lines∧(xB0 f).active=f.active∧(xB0 f).ret=f.ret:=by rw[xB6 e];exact⟨rfl,rfl,rfl,rfl⟩
  refine⟨?_,?_⟩
  ·rw[b,zM7 o,qZ6 o,tb,s.1,s.2.1,s.2.2.1,s.2.2.2];exact k
  ·rw[qZ6 o,s.2.1,s.2.2.1];exact l
theorem y63{f:Fw}{B:Int}(v:v5 f=true)(h:Way f B):Way (y44 f) B:=by
 unfold y44
 split
 ·exact h.same rfl rfl rfl rfl rfl rfl rfl
 ·split
  ·rename_i k;exact xC1 (zy6 v) k (zy7 v h)
  ·exact zy7 v h
theorem hot_cases(f:Fw)(r s:Int):((qI4 f r s).moving=false∧(qI4 f r s).lines=[] ∧(qI4 f r s).queue=[] ∧(qI4 f r s).mode=3∧(qI4 f r s).homed=false)∨((qI4 f r s).moving=f.moving∧(qI4 f r s).mo=f.mo∧(qI4 f r s).queue=f.queue∧(qI4 f r s).lines=f.lines∧(qI4 f r s).ret=f.ret∧(qI4 f r s).active=f.active∧(qI4 f r s).mode=f.mode∧(qI4 f r s).dwell=f.dwell∧(qI4 f r s).homed=f.homed∧(qI4 f r s).line=f.line):=by
 by_cases q:qY9 (yV7 f r s)=true
 ·left
  have l:qZ1 (yV7 f r s)={qY1 (qD4 (yV7 f r s))with mode:=3}:=if_pos q
  show(qZ1 (yV7 f r s)).moving=false∧(qZ1 (yV7 f r s)).lines=[] ∧(qZ1 (yV7 f r s)).queue=[] ∧(qZ1 (yV7 f r s)).mode=3∧(qZ1 (yV7 f r s)).homed=false
  rw[l];exact⟨rfl,rfl,rfl,rfl,rfl⟩
 ·right
  have l:qZ1 (yV7 f r s)=qD4 (yV7 f r s):=if_neg q
  show(qZ1 (yV7 f r s)).moving=f.moving∧(qZ1 (yV7 f r s)).mo=f.mo∧(qZ1 (yV7 f r s)).queue=f.queue∧(qZ1 (yV7 f r s)).lines=f.lines∧(qZ1 (yV7 f r s)).ret=f.ret∧(qZ1 (yV7 f r s)).active=f.active∧(qZ1 (yV7 f r s)).mode=f.mode∧(qZ1 (yV7 f r s)).dwell=f.dwell∧(qZ1 (yV7 f r s)).homed=f.homed∧(qZ1 (yV7 f r s)).line=f.line
  rw[l];exact⟨rfl,rfl,rfl,rfl,rfl,rfl,rfl,rfl,rfl,rfl⟩
theorem qI8{f:Fw}{r s B:Int}(h:Way f B):Way (qI4 f r s) B:=by
 rcases hot_cases f r s with k|k
 ·exact .empty k.1 k.2.1
 ·exact h.same k.1 k.2.1 k.2.2.1 k.2.2.2.1 qI6 k.2.2.2.2.1 k.2.2.2.2.2.1
theorem y51(f:Fw):(y44 f).line=f.line:=by
 have b:(t7 f).line=f.line:=by unfold t7;split<;>rfl
 unfold y44
 split
 ·rfl
 ·split
  ·rw[show(xB0 (t7 f)).line=(t7 f).line by unfold xB0;split<;>rfl,b]
  ·exact b
theorem xK2{f:Fw}{r s:Int}(v:v5 f=true)(h:Way f f.line):Way (xH9 f r s) (xH9 f r s).line:=by
 rw[xI0 v]
 split
 ·rcases hot_cases f r s with k|k
  ·exact .empty k.1 k.2.1
  ·rw[k.2.2.2.2.2.2.2.2.2];exact qI8 h
 ·rename_i m
  rcases hot_cases f r s with k|k
  ·exact absurd k.2.2.2.1 m
  ·rw[y51,k.2.2.2.2.2.2.2.2.2];exact y63 (qI7 v) (qI8 h)
def y69(f:Fw):Bool:=f.moving||zE5 f
theorem xI9{f:Fw}{r s:Int}(v:v5 f=true)(h:y69 f=false):xI6 f r s=z4∧(xH9 f r s).moving=false:=by
 obtain⟨h1,h2⟩:=(Bool.or_eq_false_iff).1 h
 rw[xI8 v,xI0 v]
 rcases hot_cases f r s with k|k
 ·rw[if_pos k.2.2.2.1,if_pos k.2.2.2.1];exact⟨rfl,k.1⟩
 ·have m:(qI4 f r s).moving=false:=k.1.trans h1
  have c:zE5 (qI4 f r s)=false:=by
   rw[←h2];unfold zE5;rw[k.1,k.2.2.1,k.2.2.2.2.2.2.1,k.2.2.2.2.2.2.2.1]
  have b:(t7 (qI4 f r s)).moving=false:=by rw[zx0 c];exact m
  split
  ·exact⟨rfl,m⟩
  ·unfold y45 y44
   split
   ·exact⟨rfl,m⟩
   ·rw[if_neg (by rw[b];exact Bool.false_ne_true),if_neg (by rw[b];exact Bool.false_ne_true)]
    exact⟨rfl,b⟩
theorem xC8{f:Fw}(v:v5 f=true)(h:f.homed=false):y69 f=false:=by
 rcases(p7 v).ends with k|k
 ·rw[h]at k;cases k.2
 ·unfold y69
  rw[k.1,Bool.false_or,Bool.eq_false_iff,ne_eq,zE6]
  exact fun q=>q.2.1 k.2
theorem xJ6{f:Fw}{r s:Int}(v:v5 f=true)(h:(xH9 f r s).homed=true):f.homed=true:=by
 rw[xI0 v]at h
 rcases hot_cases f r s with k|k
 ·rw[if_pos k.2.2.2.1,k.2.2.2.2]at h;cases h
 ·split at h
  ·rw[k.2.2.2.2.2.2.2.2.1]at h;exact h
  ·rw[y49,k.2.2.2.2.2.2.2.2.1]at h;exact h
theorem xJ7{f:Fw}{r s:Int}(v:v5 f=true)(h:¬(xH9 f r s).homed=true):xI6 f r s=z4:=by
 rw[xI0 v]at h
 rw[xI8 v]
 rcases hot_cases f r s with k|k
 ·rw[if_pos k.2.2.2.1]
 ·split
  ·rfl
  ·rename_i m
   rw[if_neg m,y49,k.2.2.2.2.2.2.2.2.1]at h
   have n:=xI9 (r:=r) (s:=s) v (xC8 v (by simpa using h))
   rw[xI8 v,if_neg m]at n;exact n.1
theorem zv2{g:Fw}{c:V4}(hm:g.moving=false):csF (f5 g c)=csF g++(if nz4 c=true then [c]else [])∧lsF (f5 g c)=lsF g++(if nz4 c=true then [0]else [])∧(f5 g c).moving=false∧(f5 g c).ret=g.ret∧(f5 g c).pos=g.pos∧(f5 g c).line=g.line:=by
 cases z:nz4 c with
 |false=>
  rw[zu6 z,if_neg Bool.false_ne_true,if_neg Bool.false_ne_true,List.append_nil,List.append_nil]
  exact⟨rfl,rfl,hm,rfl,rfl,rfl⟩
 |true=>
  rw[zu8 z,if_pos rfl,if_pos rfl]
  refine⟨?_,?_,hm,rfl,rfl,rfl⟩
  ·rw[zM6 (f:=f7 g c 0 0) hm,zM6 hm,zj4]
  ·rw[qZ5 (f:=f7 g c 0 0) hm,qZ5 hm];rfl
theorem zv7{g:Fw}{d:V4}{B:Int}(hm:g.moving=false)(hq:g.queue=[])(hl:g.lines=[])(hr:qU6 g.pos d g.ret)(hB:0≤B):Way (f5 (f5 g (y03 d)) (y05 d)) B:=by
 obtain⟨a1,a2,a3,a4,a5,a6⟩:=zv2 (g:=g) (c:=y03 d) hm
 obtain⟨b1,b2,b3,b4,b5,b6⟩:=zv2 (g:=f5 g (y03 d)) (c:=y05 d) a3
 have c0:csF g=[] :=by rw[zM6 hm,hq];rfl
 have l0:lsF g=[] :=by rw[qZ5 hm,hl]
 rw[a1,c0]at b1
 rw[a2,l0]at b2
 obtain⟨r1,r2,r3⟩:=hr
 refine⟨?_,fun n hn=>?_⟩
 ·rw[zy8 b3,b5,a5,b4,a4,b1,b2]
  cases z:nz4 (y03 d)with
  |false=>
   have z3:d.2.2.1=0:=by have:=yf5 z;unfold y03 z4 at this;simpa using this
   cases y:nz4 (y05 d)with
   |false=>exact .inl (by rw[if_neg Bool.false_ne_true];exact yb9)
   |true=>
    refine .inr (.inl ⟨y05 d,[],[],?_,?_,yb9,?_⟩)
    ·rw[if_neg Bool.false_ne_true,if_pos rfl];rfl
    ·rw[if_neg Bool.false_ne_true,if_pos rfl];rfl
    ·unfold qU6 y05;dsimp only;omega
  |true=>
   cases y:nz4 (y05 d)with
   |false=>
    have y3:d.1=0∧d.2.1=0:=by have:=yf5 y;unfold y05 z4 at this;simpa using this
    refine .inr (.inl ⟨y03 d,[],[],?_,?_,yb9,?_⟩)
    ·rw[if_neg Bool.false_ne_true,if_pos rfl];rfl
    ·rw[if_neg Bool.false_ne_true,if_pos rfl];rfl
    ·unfold qU6 y03;dsimp only;omega
   |true=>
    refine .inr (.inr ⟨d.2.2.1,d.1,d.2.1,[],[],?_,?_,yb9,r1,r2,r3⟩)
    ·rfl
    ·rfl
 ·rw[b2]at hn
  have:n=0:=by
   rcases List.mem_append.1 hn with k|k
   ·rcases List.mem_append.1 k with k|k
    ·cases k
    ·split at k
     ·exact List.mem_singleton.1 k
     ·cases k
   ·split at k
    ·exact List.mem_singleton.1 k
    ·cases k
  omega
section
variable {f:Fw} {line:Int} {c:Gc.C}
theorem qH3(h:qG0 f line=0)(v:v5 f=true){B:Int}(hB:0≤B):Way (qH2 f line) B∧(qH2 f line).line=f.line∧(qH2 f line).homed=true∧(qH2 f line).moving=false:=by
 obtain⟨hi,_,_⟩:=qG1 h
 obtain⟨i1,i2,i3⟩:=qJ5.1 hi
 have q0:f.queue=[] :=List.length_eq_zero_iff.1 i2
 have l0:f.lines=[] :=List.length_eq_zero_iff.1 (by rw[(p7 v).lens,i2])
 unfold qH2
 split
 ·exact⟨.empty (f:=qF7 f line) i1 l0,rfl,rfl,i1⟩
 ·have w:=zv7 (g:=qF7 f line) (d:=qH5 f line) (B:=B) i1 q0 l0 (by unfold qU6 qF7;dsimp only;omega) hB
  have e1:=zv2 (g:=qF7 f line) (c:=qG4 f line) i1
  have e2:=zv2 (g:=f5 (qF7 f line) (qG4 f line)) (c:=qG7 f line) e1.2.2.1
  refine⟨w.same rfl rfl rfl rfl rfl rfl rfl,?_,?_,e2.2.2.1⟩
  ·exact e2.2.2.2.2.2.trans e1.2.2.2.2.2
  ·exact(zu5.2.1).trans (zu5.2.1)
theorem zT4(v:v5 f=true)(hl:line=0∨line=f.line+1)(e:doE f line c=0)(w:Way f f.line):
  Way (doF f line c) (if line=0 then f.line else line)∧(¬c.code=1112→(doF f line c).line=f.line)∧(¬c.code=28→(doF f line c).homed=true→f.homed=true)∧((doF f line c).moving=true→f.moving=true)∧(c.code=28→(doF f line c).homed=true∧(doF f line c).moving=false):=by
 have hv:=p7 v
 have ln:=hv.nums.2.2.2.2.2.2.2.2.1
 have hB:f.line≤(if line=0 then f.line else line):=by split<;>omega
 have w':=w.mono hB
 have same:∀g:Fw,g.moving=f.moving→g.mo=f.mo→g.queue=f.queue→g.lines=f.lines→g.pos=f.pos→g.ret=f.ret→g.active=f.active→Way g (if line=0 then f.line else line):=fun g a b c d e h i=>w'.same a b c d e h i
 by_cases k1:c.code=1112
 ·rw[zS8 k1]
  exact⟨.empty rfl rfl,fun k=>absurd k1 k,fun _ k=>(Bool.false_ne_true k).elim,fun k=>(Bool.false_ne_true k).elim,fun k=>by omega⟩
 by_cases k2:c.code=1999
 ·have:doF f line c=yY5 f:=by unfold doF;rw[if_neg k1,if_pos k2]
  rw[this];exact⟨same _ rfl rfl rfl rfl rfl rfl rfl,fun _=>rfl,fun _ k=>k,fun k=>k,fun k=>by omega⟩
 by_cases m:f.mode=3
 ·rw[zW8 k1 k2 m]at e;omega
 by_cases k3:c.code=1025
 ·have:doF f line c={f with mode:=2}:=by unfold doF;rw[if_neg k1,if_neg k2,if_pos k3]
  rw[this];exact⟨same _ rfl rfl rfl rfl rfl rfl rfl,fun _=>rfl,fun _ k=>k,fun k=>k,fun k=>by omega⟩
 by_cases k4:c.code=1024
 ·have:doF f line c={f with mode:=1}:=by unfold doF;rw[if_neg k1,if_neg k2,if_neg k3,if_pos k4]
  rw[this];exact⟨same _ rfl rfl rfl rfl rfl rfl rfl,fun _=>rfl,fun _ k=>k,fun k=>k,fun k=>by omega⟩
 have kk:¬c.code=1112∧¬c.code=1999∧¬c.code=1024∧¬c.code=1025:=⟨k1,k2,k4,k3⟩
 by_cases wt:¬f.waits=0∨¬f.dwell=0
 ·rw[zX5 kk m wt]at e;omega
 rw[zX0 kk m (by omega)]at e
 rw[zO7 kk]
 by_cases a:c.code=0∨c.code=1
 ·rw[if_pos a]at e ⊢
  obtain⟨s,_,_,_⟩:=q59 e
  have fs:(b7 f c).moving=f.moving∧(b7 f c).mo=f.mo∧(b7 f c).queue=f.queue∧(b7 f c).lines=f.lines∧(b7 f c).pos=f.pos∧(b7 f c).ret=f.ret∧(b7 f c).active=f.active∧(b7 f c).line=f.line∧(b7 f c).homed=f.homed:=by unfold b7;split<;>exact⟨rfl,rfl,rfl,rfl,rfl,rfl,rfl,rfl,rfl⟩
  have wf:=same (b7 f c) fs.1 fs.2.1 fs.2.2.1 fs.2.2.2.1 fs.2.2.2.2.1 fs.2.2.2.2.2.1 fs.2.2.2.2.2.2.1
  unfold q62
  cases z:nz4 (q60 f c)with
  |false=>
   rw[xP0 z]
   exact⟨wf.same rfl rfl rfl rfl rfl rfl rfl,fun _=>fs.2.2.2.2.2.2.2.1,fun _ k=>fs.2.2.2.2.2.2.2.2▸k,fun k=>fs.1▸k,fun k=>by omega⟩
  |true=>
   rw[xP1 z]
   have wa:=zj9 (c:=q60 f c) (len:=qV4 (b7 f c) (f6 f c) (xH1 f c)) (n:=line) wf (by omega) (by rw[if_neg (show ¬line=0 by omega)];exact Int.le_refl _)
   exact⟨wa.same rfl rfl rfl rfl rfl rfl rfl,fun _=>fs.2.2.2.2.2.2.2.1,fun _ k=>fs.2.2.2.2.2.2.2.2▸k,fun k=>fs.1▸k,fun k=>by omega⟩
 rw[if_neg a]at e ⊢
 by_cases b:c.code=4
 ·rw[if_pos b];exact⟨same _ rfl rfl rfl rfl rfl rfl rfl,fun _=>rfl,fun _ k=>k,fun k=>k,fun k=>by omega⟩
 rw[if_neg b]at e ⊢
 by_cases d:c.code=28
 ·rw[if_pos d]at e ⊢
  obtain⟨h1,h2,h3,h4⟩:=qH3 (B:=if line=0 then f.line else line) e v (by split<;>omega)
  exact⟨h1,fun _=>h2,fun k=>absurd d k,fun k=>(by rw[h4]at k;cases k),fun _=>⟨h3,h4⟩⟩
 rw[if_neg d]
 generalize (if line=0 then f.line else line)=B at same ⊢
 repeat' split
 all_goals exact⟨same _ rfl rfl rfl rfl rfl rfl rfl,fun _=>rfl,fun _ k=>k,fun k=>k,fun k=>absurd k d⟩
theorem zh8(h:zg2 f line c=0)(w:Way f f.line):Way (zg4 f line c) (zg4 f line c).line∧(¬c.code=28→(zg4 f line c).homed=true→f.homed=true)∧((zg4 f line c).moving=true→f.moving=true)∧(c.code=28→(zg4 f line c).homed=true∧(zg4 f line c).moving=false):=by
 obtain⟨v,_,hl,_,e⟩:=zg3 h
 obtain⟨r1,r2,r3,r4,r5⟩:=zT4 v hl e w
 by_cases k:c.code=1112
 ·have a:zg4 f line c=xQ2 (doF f line c):=by unfold zg4;rw[if_pos k]
  rw[a,zS8 k]
  exact⟨.empty rfl rfl,fun _ q=>(Bool.false_ne_true q).elim,fun q=>(Bool.false_ne_true q).elim,fun q=>by omega⟩
 ·have a:zg4 f line c=xQ2 (qW4 (doF f line c) line):=by unfold zg4;rw[if_neg k]
  have s:∀x:Fw,(xQ2 (qW4 x line)).moving=x.moving∧(xQ2 (qW4 x line)).mo=x.mo∧(xQ2 (qW4 x line)).queue=x.queue∧(xQ2 (qW4 x line)).lines=x.lines∧(xQ2 (qW4 x line)).pos=x.pos∧(xQ2 (qW4 x line)).ret=x.ret∧(xQ2 (qW4 x line)).active=x.active∧(xQ2 (qW4 x line)).homed=x.homed:=fun x=>by unfold qW4;split<;>exact⟨rfl,rfl,rfl,rfl,rfl,rfl,rfl,rfl⟩
  obtain⟨s1,s2,s3,s4,s5,s6,s7,s8⟩:=s (doF f line c)
  have l:(zg4 f line c).line=if line=0 then f.line else line:=by
   rw[a];show(qW4 (doF f line c) line).line=_
   unfold qW4
   split
   ·exact r2 k
   ·rfl
  rw[l,a]
  exact⟨r1.same s1 s2 s3 s4 s5 s6 s7,fun k=>by rw[s8];exact r3 k,by rw[s1];exact r4,fun k=>by rw[s8,s1];exact r5 k⟩
end
theorem q07{m:Mo}(h:v7 m.1.1=true):v7 (xE8 m.1.1 (q02 m))=true:=by
 have c:=t8.1 h
 have k:=t8.1 (q08 (m:=m) (p:=(-m.1.1.1,-m.1.1.2.1,-m.1.1.2.2.1,-m.1.1.2.2.2)) (t8.2 (by dsimp only;omega)) (t8.2 (by unfold r8;dsimp only;omega)))
 unfold r8 at k
 dsimp only at k
 exact t8.2 (by unfold xE8;dsimp only;omega)
theorem q11{m:Mo}{z:Int}(h:v7 m.1.1=true)(e:m.1.1=(0,0,z,0)):(q02 m).1=0∧(q02 m).2.1=0:=by
 have c:=t8.1 h
 rw[e]at c
 dsimp only at c
 have k1:=t8.1 (q08 (m:=m) (p:=(16777216,16777216,-z,0)) (t8.2 (by dsimp only;omega)) (t8.2 (by rw[e];unfold r8;dsimp only;omega)))
 have k2:=t8.1 (q08 (m:=m) (p:=(-16777216,-16777216,-z,0)) (t8.2 (by dsimp only;omega)) (t8.2 (by rw[e];unfold r8;dsimp only;omega)))
 unfold r8 at k1 k2
 dsimp only at k1 k2
 omega
section
variable {f:Fw}
theorem zK7(v:VF f){c:V4}(h:c∈f.queue.map (·.1)):v7 c=true:=by
 obtain⟨b,hb,rfl⟩:=List.mem_map.1 h
 exact t8.2 (yw3.1 (xW8.1 (v.blocks b hb)).1.1).1
theorem y27(v:v5 f=true){B:Int}(w:Way f B)(hr:y29 f=true):(-16777216≤f.ret.1-f.pos.1∧f.ret.1-f.pos.1≤16777216)∧(-16777216≤f.ret.2.1-f.pos.2.1∧f.ret.2.1-f.pos.2.1≤16777216)∧-16777216≤f.ret.2.2.1-f.pos.2.2.1∧f.ret.2.2.1-f.pos.2.2.1≤16777216:=by
 have hv:=p7 v
 have bk:=w.bk
 cases hm:f.moving with
 |false=>
  rw[y31 hm]at hr
  rw[zy8 hm,zM6 hm,qZ5 hm]at bk
  rcases bk with k|⟨c,cs',ls',e1,e2,k,l⟩|⟨z,x,y,cs',ls',e1,e2,k,h1,h2,h3⟩
  ·cases q:f.lines with
   |nil=>rw[q]at hr;cases hr
   |cons n l=>rw[q]at hr k;exact absurd (beq_iff_eq.1 hr) (k n List.mem_cons_self)
  ·have nc:=t8.1 (zK7 hv (c:=c) (by rw[e1];exact List.mem_cons_self))
   obtain⟨l1,l2,l3⟩:=l
   omega
  ·have n1:=t8.1 (zK7 hv (c:=(0,0,z,0)) (by rw[e1];exact List.mem_cons_self))
   have n2:=t8.1 (zK7 hv (c:=(x,y,0,0)) (by rw[e1];exact List.mem_cons_of_mem _ List.mem_cons_self))
   dsimp only at n1 n2
   omega
 |true=>
  rw[y32 hm]at hr
  have ha:=beq_iff_eq.1 hr
  have mc:=q69 hv.moves
  have ml:=t8.1 (q07 mc)
  rw[zy9 hm,zM7 hm,qZ6 hm]at bk
  unfold xE8 at ml
  dsimp only at ml
  rcases bk with k|⟨c,cs',ls',e1,e2,k,l⟩|⟨z,x,y,cs',ls',e1,e2,k,h1,h2,h3⟩
  ·exact absurd ha (k f.active List.mem_cons_self)
  ·injection e1 with e1 _
   subst e1
   unfold qU6 xE8 at l
   dsimp only at l
   omega
  ·injection e1 with e1 e3
   have n2:=t8.1 (zK7 hv (c:=(x,y,0,0)) (by rw[e3];exact List.mem_cons_self))
   have mz:=q11 mc e1
   rw[e1]at ml
   unfold xE8 at h1 h2 h3
   dsimp only at n2 ml h1 h2 h3
   omega
theorem yD8(v:v5 f=true)(w:Way f f.line):n8 f≤f.line+1:=by
 have l:=w.ln
 unfold n8
 split
 ·rename_i h
  rw[qZ6 h.1]at l
  have:=l f.active List.mem_cons_self
  omega
 ·have k:∀n∈f.lines,n≤f.line:=fun n hn=>l n (by unfold lsF;exact List.mem_append_right _ hn)
  have:∀ (ls:List Int) (d:Int),(∀n∈ls,n≤d)→qs0 ls (d+1)≤d+1:=fun ls d=>by
   induction ls with
   |nil=>intro _;exact Int.le_refl _
   |cons n ls ih=>
    intro h
    unfold qs0
    split
    ·have:=h n List.mem_cons_self;omega
    ·exact ih fun m hm=>h m (List.mem_cons_of_mem _ hm)
  exact this _ _ k
theorem qK6{c:V4}(h:v7 c=true):qK5 c=true:=by
 have:=t8.1 h
 simp only[qK5,Bool.and_eq_true,v8]
 omega
theorem yU5{k l d:Int}{s t:V4}(hk:1≤k∧k≤3)(hl:0≤l∧l≤1099511627776)(hd:0≤d∧d≤16777216)(hs:v7 s=true)(ht:v7 t=true):rcB ⟨k,1,l,d,s,t⟩=true:=by
 simp only[rcB,Bool.and_eq_true,v8,qK6 hs,qK6 ht,and_true]
 omega
theorem x49{a b:V4}(ha:v7 a=true)(hb:v7 b=true):wsub4 a b=xE8 a b:=x48 (q89 ha) (q89 hb)
theorem x04{a b:V4}(ha:v7 a=true)(hb:v7 b=true):m8 a b=r8 a b:=x03 (q89 ha) (q89 hb)
structure Rec (r:Rc) (real:V4):Prop where
 near:q87 r=true
 kd:1≤r.kind∧r.kind≤3
 ln:0≤r.line∧r.line≤1099511627776
 real:¬r.kind=1→r.src=real
 blk:r.kind=2→¬r.src=r.dst→1≤r.line
theorem q88{r:Rc}:q87 r=true↔v7 r.src=true∧v7 r.dst=true∧v7 (wsub4 r.dst r.src)=true:=by simp only[q87,Bool.and_eq_true]
theorem xE9(a:V4):xE8 a a=z4:=by
 unfold xE8 z4
 simp only[Int.sub_self]
theorem q91:v7 z4=true:=by decide
theorem qo2(v:v5 f=true)(w:Way f f.line):Rec (qn5 f) f.pos∧rcB {qn5 f with seq:=1}=true∧¬(qn5 f).kind=1∧(qn5 f).line≤f.line∧((qn5 f).kind=3→(qn5 f).dst.2.2.2=(qn5 f).src.2.2.2)∧(qn5 f).dst=(if y29 f=true then(f.ret.1,f.ret.2.1,f.ret.2.2.1,f.pos.2.2.2)else if f.moving=true then m8 (wsub4 f.pos (q02 f.mo)) f.mo.1.1 else f.pos):=by
 have hv:=p7 v
 have np:=t8.1 hv.pos
 have nr:=t8.1 hv.ret
 have op:=yD6 hv.shape
 have ol:=yD8 v w
 have fl:=hv.nums.2.2.2.2.2.2.2.2.1
 have fa:=hv.nums.2.2.2.2.2.2.2.2.2.1
 cases a:y29 f with
 |true=>
  rw[qo3 a,if_pos rfl]
  have dn:v7 (f.ret.1,f.ret.2.1,f.ret.2.2.1,f.pos.2.2.2)=true:=t8.2 ⟨nr.1,nr.2.1,nr.2.2.1,np.2.2.2⟩
  have rn:=y27 v w a
  refine⟨⟨q88.2 ⟨hv.pos,dn,?_⟩,⟨show(1:Int)≤3 by decide,show(3:Int)≤3 by decide⟩,⟨show 0≤n8 f-1 by omega,show n8 f-1≤1099511627776 by omega⟩,fun _=>rfl,fun k=>absurd (show(3:Int)=2 from k) (by decide)⟩,yU5 (k:=3) (l:=n8 f-1) (d:=0) (by omega) (by omega) (by omega) hv.pos dn,show ¬(3:Int)=1 by decide,show n8 f-1≤f.line by omega,fun _=>rfl,rfl⟩
  dsimp only
  rw[x49 dn hv.pos]
  exact t8.2 (by unfold xE8;dsimp only;omega)
 |false=>
  rw[if_neg Bool.false_ne_true]
  cases m:f.moving with
  |true=>
   rw[qn9 a m,if_pos rfl]
   have mc:=q69 hv.moves
   have mn:v7 (q02 f.mo)=true:=by
    have k:=q08 (m:=f.mo) (p:=z4) q91 (by unfold r8 z4;exact t8.2 (by have:=t8.1 mc;dsimp only;omega))
    have e:r8 z4 (q02 f.mo)=q02 f.mo:=by unfold r8 z4;simp
    rw[e]at k;exact k
   have bg:wsub4 f.pos (q02 f.mo)=begin4 f:=by rw[x49 hv.pos mn,zy9 m]
   have q:m8 (wsub4 f.pos (q02 f.mo)) f.mo.1.1=yS4 f:=by rw[bg,x04 hv.beg mc];rfl
   have mv:=hv.moves
   rw[q68 m]at mv
   have r:=y66.1 mv
   have dr:=zU0 f.mo.1.1
   have act:1≤f.active:=by
    rw[y32 m]at a
    have:=beq_eq_false_iff_ne.1 a
    omega
   have al:f.active≤f.line:=w.ln f.active (by rw[qZ6 m];exact List.mem_cons_self)
   rw[q]
   refine⟨⟨q88.2 ⟨hv.pos,hv.q0,?_⟩,⟨show(1:Int)≤2 by decide,show(2:Int)≤3 by decide⟩,⟨show 0≤f.active by omega,show f.active≤1099511627776 by omega⟩,fun _=>rfl,fun _ _=>act⟩,yU5 (k:=2) (l:=f.active) (d:=f.mo.2.1) (by omega) (by omega) (by omega) hv.pos hv.q0,show ¬(2:Int)=1 by decide,al,fun k=>absurd (show(2:Int)=3 from k) (by decide),rfl⟩
   dsimp only
   rw[x49 hv.q0 hv.pos]
   have ml:=t8.1 (q07 mc)
   unfold yS4
   rw[zy9 m]
   unfold xE8 at ml
   dsimp only at ml
   exact t8.2 (by unfold xE8 r8;dsimp only;omega)
  |false=>
   rw[qo1 a m,if_neg Bool.false_ne_true]
   refine⟨⟨q88.2 ⟨hv.pos,hv.pos,?_⟩,⟨show(1:Int)≤2 by decide,show(2:Int)≤3 by decide⟩,⟨show 0≤n8 f-1 by omega,show n8 f-1≤1099511627776 by omega⟩,fun _=>rfl,fun _ k=>absurd rfl k⟩,yU5 (k:=2) (l:=n8 f-1) (d:=0) (by omega) (by omega) (by omega) hv.pos hv.pos,show ¬(2:Int)=1 by decide,show n8 f-1≤f.line by omega,fun _=>rfl,rfl⟩
   dsimp only
   rw[x49 hv.pos hv.pos,xE9];exact q91
theorem zy5(v:v5 f=true)(hc:zE5 f=true)(real:V4)(hl:0≤(zx5 f).line∧(zx5 f).line≤1099511627776):Rec (zx5 f) real∧(zx5 f).kind=1:=by
 have hv:=p7 v
 obtain⟨c1,c2,c3,c4⟩:=zE6.1 hc
 have ln:0<f.lines.length:=by have:=hv.lens;omega
 by_cases k:f.lines.getD 0 0=0
 ·rw[zx7 ln k]at hl ⊢
  refine⟨⟨q88.2 ⟨hv.ret,hv.ret,?_⟩,⟨show(1:Int)≤1 by decide,show(1:Int)≤3 by decide⟩,hl,fun q=>absurd rfl q,fun q=>absurd (show(1:Int)=2 from q) (by decide)⟩,rfl⟩
  dsimp only
  rw[x49 hv.ret hv.ret,xE9];exact q91
 ·rw[zx6 k]at hl ⊢
  have b:=zA9 (hv.blk 0 (by omega))
  have bn:v7 (f.queue.getD 0 dBk).1=true:=t8.2 (yw3.1 (xW8.1 b.1).1.1).1
  have e:yO6 (yS4 f) f.queue 1=m8 f.pos (f.queue.getD 0 dBk).1:=by
   rw[x04 hv.pos bn,yS6 hv.moves c1,zy8 c1];rfl
  have dn:v7 (m8 f.pos (f.queue.getD 0 dBk).1)=true:=by rw[←e];exact b.2.2
  refine⟨⟨q88.2 ⟨hv.pos,dn,?_⟩,⟨show(1:Int)≤1 by decide,show(1:Int)≤3 by decide⟩,hl,fun q=>absurd rfl q,fun q=>absurd (show(1:Int)=2 from q) (by decide)⟩,rfl⟩
  dsimp only
  rw[x49 dn hv.pos,x04 hv.pos bn]
  have:=t8.1 bn
  exact t8.2 (by unfold xE8 r8;dsimp only;omega)
theorem qZ2{r:Rc}(v:v5 f=true)(i:qJ4 f=true)(h:f.homed=false)(n:q87 r=true)(hl:r.line≤1099511627776):v5 (yT1 f r)=true:=by
 have hv:=p7 v
 obtain⟨i1,i2,i3⟩:=qJ5.1 i
 have q0:f.queue=[] :=List.length_eq_zero_iff.1 i2
 have l0:f.lines=[] :=List.length_eq_zero_iff.1 (by rw[hv.lens,i2])
 have k:=hv.nums
 obtain⟨n1,_,_⟩:=q88.1 n
 have vp:=xX4 v
 have er: -16777216≤xU6 f.ma.e r.src.2.2.2∧xU6 f.ma.e r.src.2.2.2≤16777216:=xU7 ((Ma.ok_iff _).1 hv.ma).2.2.2.1 (by omega) (t8.1 n1).2.2.2
 refine xY9 vp hv.mode (ye0.2 ⟨k.1,k.2.1,k.2.2.1,er,k.2.2.2.2.1,k.2.2.2.2.2.1,k.2.2.2.2.2.2.1,k.2.2.2.2.2.2.2.1,?_,k.2.2.2.2.2.2.2.2.2⟩) hv.moves (yS9 i1 (show f.mo.1.1=z4 from xC9 v i1) q0 l0 n1 n1) (.inr ⟨i1,i2⟩)
 show 0≤(if r.line-1>0 then r.line-1 else 0)∧(if r.line-1>0 then r.line-1 else 0)≤1099511627776
 split<;>omega
theorem yZ9{r:Rc}{t:V4}(v:v5 f=true)(i:qJ4 f=true)(m:¬f.mode=3)(n:q87 r=true)(hl:0≤r.line∧r.line≤1099511627776)(ht:v7 t=true):v5 {yT2 f r with ret:=t}=true∧qy4 {yT2 f r with ret:=t}=r.src:=by
 have hv:=p7 v
 obtain⟨i1,i2,i3⟩:=qJ5.1 i
 have q0:f.queue=[] :=List.length_eq_zero_iff.1 i2
 have l0:f.lines=[] :=List.length_eq_zero_iff.1 (by rw[hv.lens,i2])
 have k:=hv.nums
 obtain⟨n1,n2,_⟩:=q88.1 n
 have vp:=xX4 v
 have pr:=yP2 (m:=f.ma) hv.ma n2
 refine⟨xY9 vp hv.mode (ye0.2 ⟨pr.1,pr.2.1,pr.2.2.1,pr.2.2.2,k.2.2.2.2.1,k.2.2.2.2.2.1,k.2.2.2.2.2.2.1,k.2.2.2.2.2.2.2.1,hl,k.2.2.2.2.2.2.2.2.2⟩) hv.moves (yS9 i1 (show f.mo.1.1=z4 from xC9 v i1) q0 l0 n1 ht) (.inl ⟨m,rfl⟩),?_⟩
 exact qy5 (f:={yT2 f r with ret:=t}) i1 (show f.mo.1.1=z4 from xC9 v i1) i2
theorem yX0{r:Rc}{real:V4}(v:v5 f=true)(i:qJ4 f=true)(h:f.homed=false)(m:¬f.mode=3)(k:Rec r real):
  rgE r=0∧v5 (rgF f r)=true∧Way (rgF f r) (rgF f r).line∧(rgF f r).moving=false∧(r.kind=1→(rgF f r).homed=false)∧(¬r.kind=1→(rgF f r).homed=true∧(rgF f r).pos=r.src∧(rgF f r).line=r.line∧qy4 (rgF f r)=(r.dst.1,r.dst.2.1,r.dst.2.2.1,if r.kind=3 then r.src.2.2.2 else r.dst.2.2.2)):=by
 have hv:=p7 v
 obtain⟨i1,i2,i3⟩:=qJ5.1 i
 have q0:f.queue=[] :=List.length_eq_zero_iff.1 i2
 have l0:f.lines=[] :=List.length_eq_zero_iff.1 (by rw[hv.lens,i2])
 obtain⟨n1,n2,n3⟩:=q88.1 k.near
 have b1:=t8.1 n1
 have b2:=t8.1 n2
 have d0:=x49 n2 n1
 unfold rgE rgF
 rw[if_pos k.near]
 by_cases k1:r.kind=1
 ·rw[if_pos k1]
  exact⟨rfl,qZ2 v i h k.near k.ln.2,.empty i1 l0,i1,fun _=>h,fun q=>absurd k1 q⟩
 ·rw[if_neg k1]
  unfold rsF
  by_cases k3:r.kind=3
  ·rw[if_pos k3]
   obtain⟨p,e1,e2,o⟩:=y28 (g:=yT3 f r) hv i rfl rfl rfl rfl rfl n3
   obtain⟨p1,p2⟩:=y26.1 p
   obtain⟨rv,rg⟩:=yZ9 (t:=r.dst) v i m k.near k.ln n2
   have md:¬(yT3 f r).mode=3∧(yT3 f r).homed=true:=⟨m,rfl⟩
   unfold y08 at o
   obtain⟨o1,o2⟩:=(Bool.and_eq_true _ _).mp o
   have g1:qy4 (yT3 f r)=r.src:=rg
   have l1:(yT3 f r).queue.length<32:=by show f.queue.length<32;omega
   have v1:=zv6 (g:=yT3 f r) rv md p1 o1 l1 (by
    rw[g1,d0];refine t8.2 ?_;unfold y03 xE8 r8;dsimp only;omega)
   have v2:=zv6 v1 (by rw[zu5.1,zu5.2.1];exact md) (p2 o1) o2 (by have:=zu3 (g:=yT3 f r) (d:=y03 (wsub4 r.dst r.src));have e:(yT3 f r).queue.length=f.queue.length:=rfl;omega) (by
    rw[zu2,g1,d0];refine t8.2 ?_;unfold y03 y05 xE8 r8;dsimp only;omega)
   obtain⟨a1,a2,a3,a4,a5,a6⟩:=zv2 (g:=yT3 f r) (c:=y03 (wsub4 r.dst r.src)) i1
   obtain⟨c1,c2,c3,c4,c5,c6⟩:=zv2 (g:=f5 (yT3 f r) (y03 (wsub4 r.dst r.src))) (c:=y05 (wsub4 r.dst r.src)) a3
   have wy:=zv7 (g:=yT3 f r) (d:=wsub4 r.dst r.src) (B:=(y07 (yT3 f r) (wsub4 r.dst r.src)).line) i1 q0 l0 (by rw[d0];unfold qU6 yT3 yT2 xE8;dsimp only;omega) (by
    show 0≤(f5 (f5 (yT3 f r) (y03 (wsub4 r.dst r.src))) (y05 (wsub4 r.dst r.src))).line
    rw[c6,a6];exact k.ln.1)
   refine⟨rfl,v2,wy,c3,fun q=>absurd q k1,fun _=>⟨?_,c5.trans a5,c6.trans a6,?_⟩⟩
   ·exact(zu5.2.1).trans (zu5.2.1)
   ·unfold y07
    rw[zu2,zu2,g1,d0,if_pos k3]
    unfold y03 y05 xE8 r8
    exact v4x ⟨by dsimp only;omega,by dsimp only;omega,by dsimp only;omega,by dsimp only;omega⟩
  ·rw[if_neg k3]
   obtain⟨rv,rg⟩:=yZ9 (t:=f.ret) v i m k.near k.ln hv.ret
   have k2:r.kind=2:=by have:=k.kd;omega
   by_cases s:r.src=r.dst
   ·rw[if_pos s]
    refine⟨rfl,rv,.empty i1 l0,i1,fun q=>absurd q k1,fun _=>⟨rfl,rfl,rfl,?_⟩⟩
    rw[show qy4 (yT2 f r)=r.src from rg,s,if_neg k3]
   ·rw[if_neg s]
    have z:nz4 (wsub4 r.dst r.src)=true:=by
     cases z:nz4 (wsub4 r.dst r.src)with
     |true=>rfl
     |false=>
      have e:=yf5 z
      rw[d0]at e
      unfold xE8 z4 at e
      simp only[Prod.mk.injEq]at e
      exact absurd (v4x (by omega)) s
    obtain⟨p,e1⟩:=y00 (g:=yT2 f r) hv i rfl rfl rfl rfl rfl n3 z
    have o:=zl8 p e1
    have g1:qy4 (yT2 f r)=r.src:=rg
    have e4:r8 r.src (wsub4 r.dst r.src)=r.dst:=by
     rw[d0];unfold xE8 r8
     exact v4x ⟨by dsimp only;omega,by dsimp only;omega,by dsimp only;omega,by dsimp only;omega⟩
    have l:=k.blk k2 s
    refine⟨rfl,zm2 rv ⟨m,rfl⟩ p o (by show f.queue.length<32;omega) (by rw[g1,e4];exact n2) k.ln,?_,i1,fun q=>absurd q k1,fun _=>⟨rfl,rfl,rfl,?_⟩⟩
    ·exact zj9 (g:=yT2 f r) (B:=r.line) (.empty i1 l0) (by omega) (Int.le_refl _)
    ·rw[zl7,g1,e4,if_neg k3]
end
noncomputable def zW6:Env:=Env.ofB pP (v6 [z40,z68]) (d7 []) (d9 [BFact.toP zt4]) (d8 [zt4]) (x7 []) (x7 []) (x7 []) (x7 [])
theorem qR6:Known pP zW6:=hB (l:=[z40,z68]) (k:=[]) (j:=[BFact.toP zt4]) (i:=[zt4]) [] [] [] [] ⟨yi0,yl1,trivial⟩ o4 (allQ.all (p:=PFact.ok pP) (l:=[BFact.toP zt4]) ⟨BFact.toP_ok yr1,trivial⟩) (allQ.all (p:=BFact.ok pP) (l:=[zt4]) ⟨yr1,trivial⟩)
noncomputable def yH0:PFact:=goP zW6 1000 118
noncomputable def yG9:PFact:=goP zW6 1000 123
noncomputable def yG8:PFact:=goP zW6 1000 127
noncomputable def zW3:Env:=Env.ofB pP (v6 []) (d7 []) (d9 []) (d8 []) (x7 []) (x7 []) (x7 []) (x7 [1])
noncomputable def zW4:Env:=Env.ofB pP (v6 []) (d7 []) (d9 [yH0,yG9,yG8]) (d8 []) (x7 []) (x7 []) (x7 []) (x7 [])
noncomputable def zW5:Env:=Env.ofB pP (v6 []) (d7 []) (d9 []) (d8 []) (x7 []) (x7 []) (x7 []) (x7 [0])
theorem qR3:Known pP zW3:=hB (l:=[]) (k:=[]) (j:=[]) (i:=[]) [] [] [] [1] trivial o4 o4 o4
theorem qR4:Known pP zW4:=hB (l:=[]) (k:=[]) (j:=[yH0,yG9,yG8]) (i:=[]) [] [] [] [] trivial o4 (allQ.all (p:=PFact.ok pP) (l:=[yH0,yG9,yG8]) ⟨qy3 qR6 1000 _,qy3 qR6 1000 _,qy3 qR6 1000 _,trivial⟩) o4
theorem qR5:Known pP zW5:=hB (l:=[]) (k:=[]) (j:=[]) (i:=[]) [] [] [] [0] trivial o4 o4 o4
noncomputable def xZ2:WFact:=zR0 zW3 zW4 zW5 1000 117
theorem yu2:xZ2.ok pP:=zR1 qR3 qR4 qR5 1000 _
section
variable {f g:Fw} {r s:Int}
end
def qn4(f:Fw)(l:Fl):Fl:=match v5 f&&f.homed with
 |true=>t9 l (qn5 f)
 |false=>l
def goB(f:Fw)(l:Fl):Bool:=!zw7 f||yW4 l (zx5 f)==0
def pwL(f:Fw)(l:Fl):Fl:=match zw7 f with
 |true=>t9 l (zx5 f)
 |false=>l
def pwF(f:Fw)(l:Fl)(r s:Int):Fw:=match goB f l with
 |true=>xH9 f r s
 |false=>f
def pwQ(f:Fw)(l:Fl)(r s:Int):V4:=match goB f l with
 |true=>xI6 f r s
 |false=>z4
def pwD(f:Fw)(l:Fl)(r s:Int):Int×Int:=match goB f l with
 |true=>xH7 f r s
 |false=>(0,0)
def pwV(f:Fw)(l:Fl)(r s:Int):SV:=.tuple [(pwF f l r s).sv,(pwL f l).sv,V4.sv (pwQ f l r s),.agg [I64 (pwD f l r s).1,I64 (pwD f l r s).2]]
def qE9(f:Fw)(n:Int):Rc:=⟨1,0,f.line+1,0,zv1 f n,zv1 f n⟩
def qF0(f:Fw)(n:Int)(c:Gc.C):Rc:=⟨3,0,(zg4 f n c).line,0,(zg4 f n c).pos,zv1 f n⟩
def axE(f:Fw)(l:Fl)(n:Int)(c:Gc.C):Int:=if zg2 f n c=0 then(if c.code=28 then(if yW4 l (qE9 f n)=0∧yW4 (t9 l (qE9 f n)) (qF0 f n c)=0 then 0 else 17)else 0)else zg2 f n c
def axL(f:Fw)(l:Fl)(n:Int)(c:Gc.C):Fl:=if zg2 f n c=0∧c.code=28 then(if yW4 l (qE9 f n)=0 then t9 (t9 l (qE9 f n)) (qF0 f n c)else t9 l (qE9 f n))else l
def axF(f:Fw)(l:Fl)(n:Int)(c:Gc.C):Fw:=if axE f l n c=0 then zg4 f n c else f
def axH(f:Fw)(l:Fl)(n:Int)(c:Gc.C):Bool:=decide (zg2 f n c=0)&& (decide (c.code=28)&&decide (yW4 l (qE9 f n)=0))
def axV(f:Fw)(l:Fl)(n:Int)(c:Gc.C):SV:=.tuple [(axF f l n c).sv,(axL f l n c).sv,.bool (axH f l n c),I64 (axE f l n c)]
theorem qr1{l:Fl}{r:Rc}(h:o7 l=true):o7 (t9 l r)=true:=by
 have h:=of_decide_eq_true h
 refine decide_eq_true ?_
 unfold t9 apF wrF
 repeat' split
 all_goals(first|exact h|(show(List.set _ _ _).length≤1000;rw[List.length_set];exact h))
theorem qo4{f:Fw}{l:Fl}(v:v5 f=true)(k:f.homed=true):qn4 f l=t9 l (qn5 f):=by unfold qn4;rw[v,k];rfl
theorem qo0{f:Fw}{l:Fl}(v:v5 f=false):qn4 f l=l:=by unfold qn4;rw[v];rfl
theorem qn8{f:Fw}{l:Fl}(k:f.homed=false):qn4 f l=l:=by unfold qn4;rw[k,Bool.and_false]
theorem zw8{f:Fw}:zw7 f=true↔v5 f=true∧zE5 f=true:=by unfold zw7;rw[Bool.and_eq_true]
theorem zw9{f:Fw}(b:zw7 f=true):zx3 f=true:=by
 obtain⟨v,c⟩:=zw8.1 b
 obtain⟨c1,c2,_,_⟩:=zE6.1 c
 exact zx4.2 ⟨(p7 v).shape,c1,by have:=(p7 v).lens;omega⟩
theorem yR1{f:Fw}{l:Fl}{r s:Int}(v:v5 f=false):SV.tuple [.agg f.cells,.agg l.cells,.agg [.int .i64 0,.int .i64 0,.int .i64 0,.int .i64 0],.agg [.int .i64 0,.int .i64 0]] =pwV f l r s:=by
 have b:zw7 f=false:=by unfold zw7;rw[v];rfl
 have g:goB f l=true:=by unfold goB;rw[b];rfl
 unfold pwV pwF pwL pwQ pwD
 rw[g,b]
 unfold xH9 xI6 xH7
 rw[v];rfl
theorem yR4{f:Fw}{l:Fl}{r s:Int}(b:zw7 f=true)(e:(yW4 l (zx5 f)==0)=true):SV.tuple [.agg (xH9 f r s).cells,.agg (t9 l (zx5 f)).cells,V4.sv (xI6 f r s),.agg [I64 (xH7 f r s).1,I64 (xH7 f r s).2]] =pwV f l r s:=by
 have g:goB f l=true:=by unfold goB;rw[e,Bool.or_true]
 unfold pwV pwF pwL pwQ pwD
 rw[g,b];rfl
theorem yR3{f:Fw}{l:Fl}{r s:Int}(b:zw7 f=true)(e:(yW4 l (zx5 f)==0)=false):SV.tuple [.agg f.cells,.agg (t9 l (zx5 f)).cells,.agg [.int .i64 0,.int .i64 0,.int .i64 0,.int .i64 0],.agg [.int .i64 0,.int .i64 0]] =pwV f l r s:=by
 have g:goB f l=false:=by unfold goB;rw[e,b];rfl
 unfold pwV pwF pwL pwQ pwD
 rw[g,b];rfl
theorem yR2{f:Fw}{l:Fl}{r s:Int}(b:zw7 f=false):SV.tuple [.agg (xH9 f r s).cells,.agg l.cells,V4.sv (xI6 f r s),.agg [I64 (xH7 f r s).1,I64 (xH7 f r s).2]] =pwV f l r s:=by
 have g:goB f l=true:=by unfold goB;rw[b];rfl
 unfold pwV pwF pwL pwQ pwD
 rw[g,b];rfl
theorem zs4{f:Fw}{l:Fl}{n:Int}{c:Gc.C}(e:¬zg2 f n c=0):SV.tuple [.agg f.cells,.agg l.cells,.bool false,.int .i64 (zg2 f n c)] =axV f l n c:=by
 have a1:axE f l n c=zg2 f n c:=if_neg e
 have a2:axL f l n c=l:=if_neg (fun k=>e k.1)
 have a3:axF f l n c=f:=if_neg (by rw[a1];exact e)
 have a4:axH f l n c=false:=by unfold axH;rw[decide_eq_false e];rfl
 unfold axV;rw[a1,a2,a3,a4];rfl
theorem zs6{f:Fw}{l:Fl}{n:Int}{c:Gc.C}(e:zg2 f n c=0)(k:¬c.code=28):SV.tuple [.agg (zg4 f n c).cells,.agg l.cells,.bool false,.int .i64 0] =axV f l n c:=by
 have a1:axE f l n c=0:=by unfold axE;rw[if_pos e,if_neg k]
 have a2:axL f l n c=l:=if_neg (fun q=>k q.2)
 have a3:axF f l n c=zg4 f n c:=if_pos a1
 have a4:axH f l n c=false:=by unfold axH;rw[decide_eq_false k,Bool.false_and,Bool.and_false]
 unfold axV;rw[a1,a2,a3,a4];rfl
theorem zr9{f:Fw}{l:Fl}{n:Int}{c:Gc.C}(e:zg2 f n c=0)(k:c.code=28)(a:(yW4 l (qE9 f n)==0)=false):SV.tuple [.agg f.cells,.agg (t9 l (qE9 f n)).cells,.bool false,.int .i64 17] =axV f l n c:=by
 have a:=beq_eq_false_iff_ne.1 a
 have a1:axE f l n c=17:=by unfold axE;rw[if_pos e,if_pos k,if_neg (fun q=>a q.1)]
 have a2:axL f l n c=t9 l (qE9 f n):=by unfold axL;rw[if_pos ⟨e,k⟩,if_neg a]
 have a3:axF f l n c=f:=if_neg (by rw[a1];decide)
 have a4:axH f l n c=false:=by unfold axH;rw[decide_eq_false a,Bool.and_false,Bool.and_false]
 unfold axV;rw[a1,a2,a3,a4];rfl
theorem zs0{f:Fw}{l:Fl}{n:Int}{c:Gc.C}(e:zg2 f n c=0)(k:c.code=28)(a:(yW4 l (qE9 f n)==0)=true)(b:(yW4 (t9 l (qE9 f n)) (qF0 f n c)==0)=false):SV.tuple [.agg f.cells,.agg (t9 (t9 l (qE9 f n)) (qF0 f n c)).cells,.bool true,.int .i64 17] =axV f l n c:=by
 have a:=beq_iff_eq.1 a
 have b:=beq_eq_false_iff_ne.1 b
 have a1:axE f l n c=17:=by unfold axE;rw[if_pos e,if_pos k,if_neg (fun q=>b q.2)]
 have a2:axL f l n c=t9 (t9 l (qE9 f n)) (qF0 f n c):=by unfold axL;rw[if_pos ⟨e,k⟩,if_pos a]
 have a3:axF f l n c=f:=if_neg (by rw[a1];decide)
 have a4:axH f l n c=true:=by unfold axH;rw[decide_eq_true a,decide_eq_true e,decide_eq_true k];rfl
 unfold axV;rw[a1,a2,a3,a4];rfl
theorem zs1{f:Fw}{l:Fl}{n:Int}{c:Gc.C}(e:zg2 f n c=0)(k:c.code=28)(a:(yW4 l (qE9 f n)==0)=true)(b:(yW4 (t9 l (qE9 f n)) (qF0 f n c)==0)=true):SV.tuple [.agg (zg4 f n c).cells,.agg (t9 (t9 l (qE9 f n)) (qF0 f n c)).cells,.bool true,.int .i64 0] =axV f l n c:=by
 have a:=beq_iff_eq.1 a
 have b:=beq_iff_eq.1 b
 have a1:axE f l n c=0:=by unfold axE;rw[if_pos e,if_pos k,if_pos ⟨a,b⟩]
 have a2:axL f l n c=t9 (t9 l (qE9 f n)) (qF0 f n c):=by unfold axL;rw[if_pos ⟨e,k⟩,if_pos a]
 have a3:axF f l n c=zg4 f n c:=if_pos a1
 have a4:axH f l n c=true:=by unfold axH;rw[decide_eq_true a,decide_eq_true e,decide_eq_true k];rfl
 unfold axV;rw[a1,a2,a3,a4];rfl
theorem qF2{f:Fw}{n:Int}{c:Gc.C}(e:zg2 f n c=0):Rc.mk 1 0 (i64.wrap (f.line+1)) 0 (zv1 f n) (zv1 f n)=qE9 f n:=by
 have k:=(p7 (zg3 e).1).nums.2.2.2.2.2.2.2.2.1
 unfold qE9;rw[w64 (by omega) (by omega)]
theorem xj2(f:Fw)(l:Fl)(h:o7 l=true):SCall pP 46 [f.sv,l.sv] ((qn4 f l).sv):=
 xt3 (hB (l:=[z63,qf0]) (k:=[xZ2]) (j:=[]) (i:=[]) ([] :List Nat) ([] :List Nat) ([] :List Nat) ([] :List Nat) (⟨yk6,yt8,trivial⟩) (allQ.all (p:=WFact.ok pP) (l:=[xZ2]) ⟨yu2,trivial⟩) o4 o4) 1000 (.fork (.lit (.lit (.fork (.fork (.fork (.ln 3 (.lit .all)) .all) (.ln 3 (.lit .all))) .all))) (.lit (.lit (.lit .all))))
  (t:=.req (o7 l) (.node (v5 f) (.node (f.homed) (.req (xv2 f) (.req (o7 l) (.node (yW4 l (qn5 f)==0) (.req (xv2 f) (.req (o7 l) (.node (yW4 l (qn5 f)==0) (.leaf (.agg (Fl.cells (t9 l (qn5 f))))) (.fail 177)))) (.leaf (.agg (Fl.cells (t9 l (qn5 f)))))))) (.leaf (.agg (Fl.cells l)))) (.leaf (.agg (Fl.cells l)))))
  (by kernel_rfl) (by
   refine x6 h (f9 (fun v=>f9 (fun k=>?_) fun k=>by rw[qn8 k];rfl) fun v=>by rw[qo0 v];rfl)
   have s:=(p7 v).shape
   rw[qo4 v k]
   exact x6 s (x6 h (f9 (fun e=>x6 s (x6 h (f9 (fun _=>rfl) fun q=>by rw[e]at q;cases q))) fun _=>rfl))) (by kernel_rfl) (by kernel_rfl)
theorem xj3(f:Fw)(l:Fl)(r s:Int)(h:o7 l=true)(k:shF f=true):SCall pP 43 [f.sv,l.sv,.agg [I64 r,I64 s]] (pwV f l r s):=
 xt3 (hB (l:=[z63,qf0,z43,z38,qe0]) (k:=[xZ2]) (j:=[]) (i:=[]) ([] :List Nat) ([] :List Nat) ([] :List Nat) ([] :List Nat) (⟨yk6,yt8,yi7,yh8,yt0,trivial⟩) (allQ.all (p:=WFact.ok pP) (l:=[xZ2]) ⟨yu2,trivial⟩) o4 o4) 1000 (.fork .all (.fork (.lit (.fork (.fork (.ln 6 (.lit .all)) .all) (.ln 6 (.lit .all)))) (.ln 3 (.lit .all))))
  (t:=.req (o7 l) (.node (!v5 f) (.req (shF f) (.leaf (.tuple [.agg (Fw.cells f),.agg (Fl.cells l),.agg [I64 0,I64 0,I64 0,I64 0],.agg [I64 0,I64 0]]))) (.node (zw7 f) (.req (zx3 f) (.req (o7 l) (.node (yW4 l (zx5 f)==0) (.req (zx3 f) (.req (o7 l) (.node (yW4 l (zx5 f)==0) (.leaf (.tuple [.agg (Fw.cells (xH9 f r s)),.agg (Fl.cells (t9 l (zx5 f))),.agg [I64 (xI6 f r s).1,I64 (xI6 f r s).2.1,I64 (xI6 f r s).2.2.1,I64 (xI6 f r s).2.2.2],.agg [I64 (xH7 f r s).1,I64 (xH7 f r s).2]])) (.fail 177)))) (.req (shF f) (.leaf (.tuple [.agg (Fw.cells f),.agg (Fl.cells (t9 l (zx5 f))),.agg [I64 0,I64 0,I64 0,I64 0],.agg [I64 0,I64 0]])))))) (.leaf (.tuple [.agg (Fw.cells (xH9 f r s)),.agg (Fl.cells l),.agg [I64 (xI6 f r s).1,I64 (xI6 f r s).2.1,I64 (xI6 f r s).2.2.1,I64 (xI6 f r s).2.2.2],.agg [I64 (xH7 f r s).1,I64 (xH7 f r s).2]])))))
  (by kernel_rfl) (by
   refine x6 h (q84 (fun v=>x6 k (yR1 v)) fun v=>f9 (fun b=>?_) fun b=>yR2 b)
   have p:=zw9 b
   exact x6 p (x6 h (f9 (fun e=>x6 p (x6 h (f9 (fun _=>yR4 b e) fun q=>by rw[e]at q;cases q))) fun e=>x6 k (yR3 b e)))) (by kernel_rfl) (by kernel_rfl)
theorem xj1(f:Fw)(l:Fl)(n:Int)(c:Gc.C)(h:o7 l=true)(k:shF f=true):SCall pP 48 [f.sv,l.sv,I64 n,c.sv] (axV f l n c):=
 xt3 (hB (l:=[z63,z43,z29,z37]) (k:=[xZ2]) (j:=[]) (i:=[]) ([] :List Nat) ([] :List Nat) ([] :List Nat) ([] :List Nat) (⟨yk6,yi7,yg5,yh7,trivial⟩) (allQ.all (p:=WFact.ok pP) (l:=[xZ2]) ⟨yu2,trivial⟩) o4 o4) 1000 (.fork (.lit (.fork .all (.fork (.fork (.ln 4 (.lit .all)) (.ln 4 (.lit .all))) (.ln 4 (.lit .all))))) (.fork .all (.fork .all (.fork (.fork (.ln 4 (.lit .all)) (.ln 4 (.lit .all))) (.ln 4 (.lit .all))))))
  (t:=let y0:=Rc.mk 1 0 (i64.wrap (f.line+1)) 0 (zv1 f n) (zv1 f n);let y1:=Rc.mk 3 0 (zg4 f n c).line 0 (zg4 f n c).pos (zv1 f n);let y2:Tree SV:=.req (shF f) (.leaf (.tuple [.agg (Fw.cells f),.agg (Fl.cells (t9 l y0)),.bool false,I64 17]));let y3:=Rc.mk 3 0 0 0 (0,0,fw0.pos.2.2) (zv1 f n);.node (decide (zg2 f n c=0)) (.node (c.code != 28) (.req (o7 l) (.leaf (.tuple [.agg (Fw.cells (zg4 f n c)),.agg (Fl.cells l),.bool false,I64 0]))) (.req (o7 l) (.req (o7 l) (.node (yW4 l y0==0) (.req (o7 (t9 l y0)) (.node (yW4 (t9 l y0) y1==0) (.leaf (.tuple [.agg (Fw.cells (zg4 f n c)),.agg (Fl.cells (t9 (t9 l y0) y1)),.bool true,I64 0])) (.req (shF f) (.leaf (.tuple [.agg (Fw.cells f),.agg (Fl.cells (t9 (t9 l y0) y1)),.bool true,I64 17]))))) y2)))) (.node (zg2 f n c != 0) (.req (shF f) (.req (o7 l) (.leaf (.tuple [.agg (Fw.cells f),.agg (Fl.cells l),.bool false,I64 (zg2 f n c)])))) (.node (c.code != 28) (.req (o7 l) (.leaf (.tuple [.agg (Fw.cells fw0),.agg (Fl.cells l),.bool false,I64 0]))) (.req (o7 l) (.req (o7 l) (.node (yW4 l y0==0) (.req (o7 (t9 l y0)) (.node (yW4 (t9 l y0) y3==0) (.leaf (.tuple [.agg (Fw.cells fw0),.agg (Fl.cells (t9 (t9 l y0) y3)),.bool true,I64 0])) (.req (shF f) (.leaf (.tuple [.agg (Fw.cells f),.agg (Fl.cells (t9 (t9 l y0) y3)),.bool true,I64 17]))))) y2))))))
  (by kernel_rfl) (by
   refine o5 (fun e=>q83 (fun a=>x6 h (zs6 e a)) fun a=>?_) fun e=>q83 (fun _=>x6 k (x6 h (zs4 e))) fun q=>absurd q e
   rw[qF2 e]
   exact x6 h (x6 h (f9 (fun x=>x6 (qr1 h) (f9 (fun y=>zs1 e a x y) fun y=>x6 k (zs0 e a x y))) fun x=>x6 k (zr9 e a x)))) (by kernel_rfl) (by kernel_rfl)
theorem Rec.next{r:Rc}{real:V4}(h:Rec r real)(l:Fl):Rec (ya3 l r) real:=⟨h.near,h.kd,h.ln,h.real,h.blk⟩
theorem Rec.one{r:Rc}{a b:V4}(h:Rec r a)(k:r.kind=1):Rec r b:=⟨h.near,h.kd,h.ln,fun q=>absurd k q,h.blk⟩
structure Inv (f:Fw) (l:Fl) (real:V4) (L:Int) (last:Option Rc):Prop where
 v:v5 f=true
 j:Jn l L last
 fu:l.fuse=0
 hp:f.homed=true→f.pos=real
 nr:v7 real=true
 rc:∀r,last=some r→Rec r real
 mv:f.moving=true→∃r,last=some r∧r.kind=1
 wy:Way f f.line
theorem yU7{l:Fl}{r:Rc}(h:rcB (ya3 l r)=true):rcB {r with seq:=1}=true:=by
 have k:=yU4.1 h
 exact yU4.2 ⟨k.1,⟨show(1:Int)≤1 by decide,show(1:Int)≤1099511627776 by decide⟩,k.2.2⟩
theorem rec_cases{l:Fl}{L:Int}{last:Option Rc}(j:Jn l L last)(hL:L+1≤1000000)(fu:l.fuse=0)(r:Rc):
  (yW4 l r=0∧Jn (t9 l r) (L+1) (some (ya3 l r))∧(t9 l r).fuse=0)∨(¬yW4 l r=0∧t9 l r=l):=by
 cases b:rcB {r with seq:=1} with
 |true=>
  obtain⟨a,c,_,e⟩:=qQ4 j hL b (by omega)
  exact .inl ⟨a,c,by rw[e,fu];rfl⟩
 |false=>
  have n:rcB (ya3 l r)=false:=by
   cases q:rcB (ya3 l r)with
   |false=>rfl
   |true=>rw[yU7 q]at b;cases b
  right
  constructor
  ·unfold yW4 apE;rw[n,Bool.false_and];exact(by decide:¬(1:Int)=0)
  ·unfold t9 apF;rw[n,Bool.false_and,Bool.false_and,Bool.false_and]
theorem x05{a:V4}(h:v7 a=true):m8 a z4=a:=by rw[x04 h q91];exact zi9 _
theorem yW1{f:Fw}{real:V4}{r s:Int}(v:v5 f=true)(hp:f.homed=true→f.pos=real)(nr:v7 real=true):v7 (m8 real (xI6 f r s))=true∧((xH9 f r s).homed=true→(xH9 f r s).pos=m8 real (xI6 f r s)):=by
 cases h:f.homed with
 |true=>
  have e:=hp h
  have t:=xK0 (r:=r) (s:=s) v
  rw[e]at t
  exact⟨by rw[t];exact(p7 (xK1 v)).pos,fun _=>t.symm⟩
 |false=>
  have n:¬(xH9 f r s).homed=true:=fun k=>by rw[xJ6 v k]at h;cases h
  rw[xJ7 v n,x05 nr]
  exact⟨nr,fun k=>absurd k n⟩
theorem qM5{f:Fw}{l:Fl}{real:V4}{L L':Int}{last last':Option Rc}{r s:Int}{l':Fl}(h:Inv f l real L last)(j:Jn l' L' last')(fu:l'.fuse=0)(rc:∀x,last'=some x→Rec x real)(mv:y69 f=true→∃x,last'=some x∧x.kind=1):Inv (xH9 f r s) l' (m8 real (xI6 f r s)) L' last':=by
 obtain⟨n,p⟩:=yW1 (r:=r) (s:=s) h.v h.hp h.nr
 refine⟨xK1 h.v,j,fu,p,n,fun x hx=>?_,fun m=>?_,xK2 h.v h.wy⟩
 ·cases q:y69 f with
  |true=>
   obtain⟨y,hy,k⟩:=mv q
   rw[hx]at hy;injection hy with hy;subst hy
   exact(rc x hx).one k
  |false=>
   rw[(xI9 (r:=r) (s:=s) h.v q).1,x05 h.nr];exact rc x hx
 ·cases q:y69 f with
  |true=>exact mv q
  |false=>rw[(xI9 (r:=r) (s:=s) h.v q).2]at m;cases m
theorem qM4{f:Fw}{l:Fl}{real:V4}{L:Int}{last:Option Rc}(r s:Int)(h:Inv f l real L last)(hL:L+1≤1000000):∃L' last',L'≤L+1∧Inv (pwF f l r s) (pwL f l) (m8 real (pwQ f l r s)) L' last':=by
 unfold pwF pwL pwQ goB
 cases b:zw7 f with
 |false=>
  refine⟨L,last,by omega,qM5 h h.j h.fu h.rc fun q=>h.mv ?_⟩
  have c:zE5 f=false:=by
   unfold zw7 at b
   rw[h.v,Bool.true_and]at b;exact b
  unfold y69 at q
  rw[c,Bool.or_false]at q;exact q
 |true=>
  obtain⟨_,c⟩:=zw8.1 b
  rcases rec_cases h.j hL h.fu (zx5 f)with⟨e,j,fu⟩|⟨e,k⟩
  ·rw[e]
   have ln:=(yU4.1 ((j.some _ rfl).2.1)).2.2.1
   obtain⟨rb,k1⟩:=zy5 h.v c real ln
   exact⟨L+1,_,by omega,qM5 h j fu (fun x hx=>by injection hx with hx;subst hx;exact rb.next l) fun _=>⟨_,rfl,k1⟩⟩
  ·rw[show(yW4 l (zx5 f)==0)=false from beq_eq_false_iff_ne.2 e]
   refine⟨L,last,by omega,?_⟩
   show Inv f (t9 l (zx5 f)) (m8 real z4) L last
   rw[k,x05 h.nr];exact h
def yW0(f:Fw)(l:Fl)(real:V4)(n:Int)(c:Gc.C):V4:=if axH f l n c=true then(if axE f l n c=0 then(axF f l n c).pos else(0,0,0,f.pos.2.2.2))else real
theorem zv3{f:Fw}(v:VF f)(n:Int):v7 (zv1 f n)=true∧(zv1 f n).2.2.2=f.pos.2.2.2:=by
 have p:=t8.1 v.pos
 have q:=t8.1 v.ret
 unfold zv1
 split
 ·exact⟨v.pos,rfl⟩
 ·split
  ·exact⟨t8.2 ⟨q.1,q.2.1,q.2.2.1,p.2.2.2⟩,rfl⟩
  ·exact⟨t8.2 (by dsimp only;omega),rfl⟩
theorem qM2{f:Fw}{l:Fl}{real:V4}{L:Int}{last:Option Rc}(n:Int)(c:Gc.C)(h:Inv f l real L last)(hL:L+2≤1000000):∃L' last',L'≤L+2∧Inv (axF f l n c) (axL f l n c) (yW0 f l real n c) L' last':=by
 by_cases e:zg2 f n c=0
 ·obtain⟨r1,r2,r3,r4⟩:=zh8 e h.wy
  have av:=zh9 e
  have ap:=zh7 e
  by_cases k:c.code=28
  ·rw[if_pos k]at ap
   obtain⟨hh,hm⟩:=r4 k
   have hv:=p7 h.v
   have hl:=(p7 av).nums.2.2.2.2.2.2.2.2.1
   obtain⟨bn,b4⟩:=zv3 hv n
   rcases rec_cases h.j (by omega) h.fu (qE9 f n)with⟨e1,j1,f1⟩|⟨e1,k1⟩
   ·have rb:rcB {qF0 f n c with seq:=1}=true:=yU5 (k:=3) (l:=(zg4 f n c).line) (d:=0) (by omega) hl (by omega) (p7 av).pos bn
    obtain⟨e2,j2,_,f2⟩:=qQ4 j1 (by omega) rb (by omega)
    have a1:axE f l n c=0:=by unfold axE;rw[if_pos e,if_pos k,if_pos ⟨e1,e2⟩]
    have a2:axL f l n c=t9 (t9 l (qE9 f n)) (qF0 f n c):=by unfold axL;rw[if_pos ⟨e,k⟩,if_pos e1]
    have a3:axF f l n c=zg4 f n c:=if_pos a1
    have a4:axH f l n c=true:=by unfold axH;rw[decide_eq_true e1,decide_eq_true e,decide_eq_true k];rfl
    have a5:yW0 f l real n c=(zg4 f n c).pos:=by unfold yW0;rw[if_pos a4,if_pos a1,a3]
    rw[a2,a3,a5]
    have rr:Rec (qF0 f n c) (zg4 f n c).pos:=by
     refine⟨q88.2 ⟨(p7 av).pos,bn,?_⟩,⟨show(1:Int)≤3 by decide,show(3:Int)≤3 by decide⟩,hl,fun _=>rfl,fun q=>absurd (show(3:Int)=2 from q) (by decide)⟩
     show v7 (wsub4 (zv1 f n) (zg4 f n c).pos)=true
     rw[x49 bn (p7 av).pos,ap]
     have:=t8.1 bn
     exact t8.2 (by unfold xE8;dsimp only;omega)
    refine⟨L+1+1,_,by omega,⟨av,j2,by rw[f2,f1];rfl,fun _=>rfl,(p7 av).pos,fun x hx=>by injection hx with hx;subst hx;exact rr.next _,fun m=>(by rw[hm]at m;cases m),r1⟩⟩
   ·have a1:axE f l n c=17:=by unfold axE;rw[if_pos e,if_pos k,if_neg (fun q=>e1 q.1)]
    have a2:axL f l n c=l:=by unfold axL;rw[if_pos ⟨e,k⟩,if_neg e1,k1]
    have a3:axF f l n c=f:=if_neg (by rw[a1];decide)
    have a4:axH f l n c=false:=by unfold axH;rw[decide_eq_false e1,Bool.and_false,Bool.and_false]
    have a5:yW0 f l real n c=real:=by unfold yW0;rw[if_neg (by rw[a4];decide)]
    rw[a2,a3,a5];exact⟨L,last,by omega,h⟩
  ·rw[if_neg k]at ap
   have a1:axE f l n c=0:=by unfold axE;rw[if_pos e,if_neg k]
   have a2:axL f l n c=l:=if_neg (fun q=>k q.2)
   have a3:axF f l n c=zg4 f n c:=if_pos a1
   have a4:axH f l n c=false:=by unfold axH;rw[decide_eq_false k,Bool.false_and,Bool.and_false]
   have a5:yW0 f l real n c=real:=by unfold yW0;rw[if_neg (by rw[a4];decide)]
   rw[a2,a3,a5]
   exact⟨L,last,by omega,⟨av,h.j,h.fu,fun q=>by rw[ap];exact h.hp (r2 k q),h.nr,h.rc,fun m=>h.mv (r3 m),r1⟩⟩
 ·have a1:axE f l n c=zg2 f n c:=if_neg e
  have a2:axL f l n c=l:=if_neg (fun k=>e k.1)
  have a3:axF f l n c=f:=if_neg (by rw[a1];exact e)
  have a4:axH f l n c=false:=by unfold axH;rw[decide_eq_false e];rfl
  have a5:yW0 f l real n c=real:=by unfold yW0;rw[if_neg (by rw[a4];decide)]
  rw[a2,a3,a5];exact⟨L,last,by omega,h⟩
theorem Jn.re{f g:Fl}{L:Int}{last:Option Rc}(h:Jn f L last)(p:g.pages=f.pages)(d:g.dead=false)(b:flB g=true):Jn g L last:=
 ⟨by rw[p];exact h.len,b,d,h.L0,h.L1,by rw[p];exact h.pg,h.none,by rw[p];exact h.some⟩
theorem qs5{f g:Fl}(h:flB f=true)(p:g.pages=f.pages)(a:0≤g.fuse∧g.fuse≤1048576)(k:0≤g.keep∧g.keep≤64):flB g=true:=by
 unfold flB at h ⊢
 rw[p,v8.2 a,v8.2 k]
 obtain⟨h1,h2⟩:=(Bool.and_eq_true _ _).mp h
 obtain⟨h2,_⟩:=(Bool.and_eq_true _ _).mp h2
 obtain⟨h2,_⟩:=(Bool.and_eq_true _ _).mp h2
 rw[h1,h2];rfl
theorem yP4{f:Fl}(h:flB f=true):flPow f=⟨f.pages,0,false,0⟩:=by unfold flPow;rw[h]
theorem qQ2{f:Fl}{L:Int}{last:Option Rc}(h:Jn {f with dead:=false} L last):Jn (flPow f) L last∧(flPow f).fuse=0:=by
 have b:flB f=true:=h.fl
 rw[yP4 b]
 exact⟨h.re rfl rfl (qs5 b rfl ⟨by show(0:Int)≤0;decide,by show(0:Int)≤1048576;decide⟩ ⟨by show(0:Int)≤0;decide,by show(0:Int)≤64;decide⟩),rfl⟩
theorem rec_keep{l:Fl}{r:Rc}:(t9 l r).keep=l.keep∨(t9 l r).keep=0:=by
 unfold t9 apF wrF
 repeat' split
 all_goals(first|exact .inl rfl|exact .inr rfl)
theorem yW9{l:Fl}{r:Rc}(h:l.dead=true):t9 l r=l:=by
 unfold t9 apF
 rw[h]
 simp
def zU1(f:Fw)(l:Fl)(n k:Int):Fl:=flPow (qn4 f (qs6 l n k))
theorem qM3{f:Fw}{l:Fl}{real:V4}{L:Int}{last:Option Rc}(n k:Int)(h:Inv f l real L last)(hL:L+1≤1000000):∃L' last',L'≤L+1∧Jn (zU1 f l n k) L' last'∧(zU1 f l n k).fuse=0∧∀r,last'=some r→Rec r real:=by
 have fl:=h.j.fl
 have dd:=h.j.live
 unfold zU1
 by_cases hn:n<1
 ·have e:qs6 l n k=⟨l.pages,0,true,0⟩:=by unfold qs6;rw[dd,fl,decide_eq_true hn];rfl
  have e2:qn4 f ⟨l.pages,0,true,0⟩=⟨l.pages,0,true,0⟩:=by
   unfold qn4
   split
   ·exact yW9 rfl
   ·rfl
  rw[e,e2]
  have j:Jn { (⟨l.pages,0,true,0⟩:Fl)with dead:=false} L last:=h.j.re rfl rfl (qs5 fl rfl ⟨by show(0:Int)≤0;decide,by show(0:Int)≤1048576;decide⟩ ⟨by show(0:Int)≤0;decide,by show(0:Int)≤64;decide⟩)
  exact⟨L,last,by omega,(qQ2 j).1,(qQ2 j).2,h.rc⟩
 ·generalize hx:qs6 l n k=l1
  have e:l1.pages=l.pages∧l1.dead=false∧(1≤l1.fuse∧l1.fuse≤1048576)∧0≤l1.keep∧l1.keep≤64:=by
   rw[←hx]
   unfold qs6
   rw[dd,fl,decide_eq_false hn]
   refine⟨rfl,rfl,?_,?_⟩
   ·show 1≤(if 1048576<n then 1048576 else n)∧(if 1048576<n then 1048576 else n)≤1048576
    split<;>omega
   ·show 0≤(if(if 64<k then 64 else k)>0 then if 64<k then 64 else k else 0)∧(if(if 64<k then 64 else k)>0 then if 64<k then 64 else k else 0)≤64
    repeat' split
    all_goals omega
  have b1:flB l1=true:=qs5 fl e.1 (by omega) e.2.2.2
  have j1:Jn l1 L last:=h.j.re e.1 e.2.1 b1
  cases hh:f.homed with
  |false=>
   rw[qn8 hh]
   have j:Jn {l1 with dead:=false} L last:=j1.re rfl rfl b1
   exact⟨L,last,by omega,(qQ2 j).1,(qQ2 j).2,h.rc⟩
  |true=>
   rw[qo4 h.v hh]
   obtain⟨rr,rb,_⟩:=qo2 h.v h.wy
   rw[h.hp hh]at rr
   by_cases f1:l1.fuse=1
   ·obtain⟨_,t⟩:=qQ3 j1 hL rb f1
    have kr:0≤(t9 l1 (qn5 f)).keep∧(t9 l1 (qn5 f)).keep≤64:=by
     rcases rec_keep (l:=l1) (r:=qn5 f)with q|q
     ·rw[q];exact e.2.2.2
     ·omega
    obtain⟨t,_⟩:=t _ kr.1 kr.2
    rcases t with t|t
    ·exact⟨L,last,by omega,(qQ2 t).1,(qQ2 t).2,h.rc⟩
    ·exact⟨L+1,_,by omega,(qQ2 t).1,(qQ2 t).2,fun x hx=>by injection hx with hx;subst hx;exact rr.next _⟩
   ·obtain⟨_,t,_,_⟩:=qQ4 j1 hL rb f1
    have j:Jn {t9 l1 (qn5 f)with dead:=false} (L+1) (some (ya3 l1 (qn5 f))):=t.re rfl rfl t.fl
    exact⟨L+1,_,by omega,(qQ2 j).1,(qQ2 j).2,fun x hx=>by injection hx with hx;subst hx;exact rr.next _⟩
theorem qM6{f:Fw}{l:Fl}{real:V4}{L:Int}{last:Option Rc}(v:v5 f=true)(i:qJ4 f=true)(h:f.homed=false)(m:¬f.mode=3)(nr:v7 real=true)(j:Jn l L last)(fu:l.fuse=0)(rc:∀r,last=some r→Rec r real):rvE f l=0∧Inv (rvF f l) l real L last:=by
 have hv:=p7 v
 obtain⟨i1,i2,i3⟩:=qJ5.1 i
 have l0:f.lines=[] :=List.length_eq_zero_iff.1 (by rw[hv.lens,i2])
 have lo:=qS9 j
 have b:rvB f l=true:=by unfold rvB;rw[v,i,j.fl,h];rfl
 unfold rvE rvF
 rw[b,j.live,lo,if_neg (by decide),if_neg (by decide)]
 cases last with
 |none=>
  exact⟨rfl,⟨v,j,fu,fun k=>(by rw[h]at k;cases k),nr,rc,fun k=>(by rw[i1]at k;cases k),.empty i1 l0⟩⟩
 |some r=>
  obtain⟨a1,a2,a3,a4,a5,a6⟩:=yX0 v i h m (rc r rfl)
  refine⟨a1,⟨a2,j,fu,fun k=>?_,nr,rc,fun k=>(by rw[a4]at k;cases k),a3⟩⟩
  by_cases k1:r.kind=1
  ·rw[a5 k1]at k;cases k
  ·rw[(a6 k1).2.1];exact(rc r rfl).real k1
def ya0(f:Fw)(c:V4):Bk:=(c,zg9 f.ma c,0,i64.wrap (xx7 f.ma c 0 f.feed*xx7 f.ma c 0 f.feed),0)
def yK7:Plan:=.fork (.lit (.all)) (.all)
noncomputable def yK8(f:Fw)(c:V4)(line:Int):Tree Stop:= .req (yv9 f.feed) (.node (f.queue.isEmpty) (.req (decide ((0+ [ya0 f c].length)*64≤140737488355328)) (.req (decide (0≤(↑[ya0 f c].length:Int))&& (↑[ya0 f c].length:Int)==(↑[ya0 f c].length:Int)&&decide (8*(↑[ya0 f c].length:Int)≤140737488355328)&&decide ((↑[ya0 f c].length:Int)≤(9223372036854775807:Int))) (.leaf (.at (j9 pP 195 0) 85 (j8 85 [(2,I64 line),(3,.ptr 0 0),(6,.ptr 1 0),(9,SV.row 2),(10,SV.row 3),(11,I64 1)]) [some (.cells (Fw.cells f)),some (.cells (f4 fw0)),some (.rows t6 [ya0 f c]),some (.rows (Ty.int IntKind.i64) (List.replicate (↑[ya0 f c].length:Int).toNat (0:Int)))])))) (.req (decide ((0+f.queue.length)*64≤140737488355328)) (.req (decide ((f.queue.length+ [ya0 f c].length)*64≤140737488355328)) (.req (decide (0≤(↑(f.queue++[ya0 f c]).length:Int))&& (↑(f.queue++[ya0 f c]).length:Int)==(↑(f.queue++[ya0 f c]).length:Int)&&decide (8*(↑(f.queue++[ya0 f c]).length:Int)≤140737488355328)&&decide ((↑(f.queue++[ya0 f c]).length:Int)≤(9223372036854775807:Int))) (.leaf (.at (j9 pP 195 0) 85 (j8 85 [(2,I64 line),(3,.ptr 0 0),(6,.ptr 1 0),(9,SV.row 2),(10,SV.row 3),(11,I64 1)]) [some (.cells (Fw.cells f)),some (.cells (f4 fw0)),some (.rows t6 (f.queue++[ya0 f c])),some (.rows (Ty.int IntKind.i64) (List.replicate (↑(f.queue++[ya0 f c]).length:Int).toNat (0:Int)))]))))))
theorem pd0(f:Fw)(c:V4)(line:Int):w9 (Env.ofB pP (v6 [qd1,z28,z84]) (d7 [qb5.frz]) (d9 []) (d8 []) (x7 []) (x7 []) (x7 []) (x7 [])) 1000 (j7 pP 195) .unit (x8 85 [2,3,6,9,10,11]) (u7 pP 195) yK7 (v9 pP 195 [f.sv,V4.sv c,I64 line]) [] =yK8 f c line:=by kernel_rfl
def yL0:Plan:=.fork (.all) (.fork (.fork (.lit (.fork (.lit (.all)) (.all))) (.lit (.all))) (.lit (.all)))
noncomputable def yL1(f:Fw)(line:Int)(q:List Bk)(s:List Int)(i:Int):Tree Stop:= .node (decide (i< (↑q.length:Int))) (.req (decide (0≤i64.wrap (i-1))&&decide (i64.wrap (i-1)< (↑q.length:Int))) (.req (decide ((i64.wrap (i-1)).toNat<q.length)) (.req (decide (0≤i)&&decide (i< (↑q.length:Int))) (.req (decide (i.toNat<q.length)) (.req (decide (0≤i)&&decide (i< (↑s.length:Int))) (.req (decide (i.toNat<s.length)) (.leaf (.at (j9 pP 195 0) 85 (j8 85 [(2,I64 line),(3,.ptr 0 0),(6,.ptr 1 0),(9,SV.row 2),(10,SV.row 3),(11,I64 (i64.wrap (i+1)))]) [some (.cells (Fw.cells f)),some (.cells (f4 fw0)),some (.rows t6 q),some (.rows (Ty.int IntKind.i64) (s.set i.toNat (i64.wrap (qQ5 f.ma (q.getD (i64.wrap (i-1)).toNat dBk).1 (q.getD i.toNat dBk).1*qQ5 f.ma (q.getD (i64.wrap (i-1)).toNat dBk).1 (q.getD i.toNat dBk).1))))])))))))) (.req (yw8 q s 0) (.node (decide (0≤crL q 0)) (.node (decide (gL q s 0 0=0)) (.node (f.lines.isEmpty) (.req (decide ((0+ [line].length)*8≤140737488355328)) (.leaf (.done (.tuple [.agg (Fw.cells {f with queue:=(plB q (gL q s 0)),lines:=[line]}),I64 0])))) (.req (decide ((0+f.lines.length)*8≤140737488355328)) (.req (decide ((f.lines.length+ [line].length)*8≤140737488355328)) (.leaf (.done (.tuple [.agg (Fw.cells {f with queue:=(plB q (gL q s 0)),lines:=(f.lines++[line])}),I64 0])))))) (.leaf (.done (.tuple [.agg (f4 fw0),I64 2])))) (.leaf (.done (.tuple [.agg (f4 fw0),I64 2])))))
theorem pd1(f:Fw)(line:Int)(q:List Bk)(s:List Int)(i:Int):w9 (Env.ofB pP (v6 [qd1,z28,z84]) (d7 [qb5.frz]) (d9 []) (d8 []) (x7 []) (x7 []) (x7 []) (x7 [])) 1000 (j7 pP 195) .unit (x8 85 [2,3,6,9,10,11]) (j9 pP 195 0) yL0 (j8 85 [(2,I64 line),(3,.ptr 0 0),(6,.ptr 1 0),(9,.row 2),(10,.row 3),(11,I64 i)]) [some (.cells f.cells),some (.cells (f4 fw0)),some (.rows t6 q),some (.rows (.int .i64) s)] =yL1 f line q s i:=by kernel_rfl
def yI9(f:Fw)(c:V4)(line:Int):SV:=.tuple [(f7 f c 0 line).sv,I64 0]
theorem kPA:Known pP (Env.ofB pP (v6 [qd1,z28,z84]) (d7 [qb5.frz]) (d9 []) (d8 []) (x7 []) (x7 []) (x7 []) (x7 [])):=
 hB (l:=[qd1,z28,z84]) (k:=[qb5.frz]) (j:=[]) (i:=[]) [] [] [] [] ⟨ys0,yg4,ym7,trivial⟩ wrA o4 o4
theorem yK9{f:Fw}{c:V4}(line:Int)(h:zk6 f c 0=true)(en:z02 f=0):∀ (k i:Nat) (s:List Int),i+k=f.queue.length+1→1≤i→s.length=f.queue.length+1→(∀t,t<i→s.getD t 0=zF5 f.ma (r9 f c 0) t)→
  b8 pP (j7 pP 195) (yI9 f c line) (j9 pP 195 0) (j8 85 [(2,I64 line),(3,.ptr 0 0),(6,.ptr 1 0),(9,.row 2),(10,.row 3),(11,I64 i)]) [some (.cells f.cells),some (.cells (f4 fw0)),some (.rows t6 (r9 f c 0)),some (.rows (.int .i64) s)]
 |k,i,s,hi,h1,hs,hc=>by
  have p:=zk7.1 h
  have pl:=zl9 h
  have ok:=zk5.1 (zl8 h en)
  rw[en]at pl ok
  have ql:=zk8 f c 0
  refine w6 kPA (n:=1000) (hint:=.unit) (keep:=x8 85 [2,3,6,9,10,11]) (p:=yL0) rfl ?_
  erw [pd1 f line (r9 f c 0) s i]
  unfold yL1
  have t0:(i:Int).toNat=i:=by omega
  have wm:i64.wrap ((i:Int)-1)=((i-1:Nat):Int):=by rw[w64 (by omega) (by omega)];omega
  have tm:((i-1:Nat):Int).toNat=i-1:=by omega
  have w1:i64.wrap ((i:Int)+1)=((i+1:Nat):Int):=by rw[w64 (by omega) (by omega)];omega
  have jr:=qQ7 f.ma ((r9 f c 0).getD (i-1) dBk).1 ((r9 f c 0).getD i dBk).1
  have an:∀{a b:Bool},a=true→b=true→(a&&b)=true:=fun ha hb=>by rw[ha,hb];rfl
  match k,hi with
  |k+1,hi=>
   have ih:=yK9 line h en k (i+1) (s.set i (zF5 f.ma (r9 f c 0) i)) (by omega) (by omega) (by simpa using hs) (fun t ht=>by
    rw[xu5 (by omega)]
    split
    ·rename_i e;rw[e]
    ·exact hc t (by omega))
   rw[zF7 f.ma (r9 f c 0) h1]at ih
   rw[wm,tm,t0,wsq jr,w1]
   exact o5 (fun _=>x6 (an (decide_eq_true (by omega)) (decide_eq_true (by omega))) (x6 (decide_eq_true (by omega)) (x6 (an (decide_eq_true (by omega)) (decide_eq_true (by omega))) (x6 (decide_eq_true (by omega)) (x6 (an (decide_eq_true (by omega)) (decide_eq_true (by omega))) (x6 (decide_eq_true (by omega)) ⟨o8 _ _,ih⟩)))))) fun a=>absurd (by omega) a
  |0,hi=>
   have es:s=zG2 f.ma (r9 f c 0):=zG4 (by omega) fun t ht=>hc t (by omega)
   subst es
   have fin:SV.tuple [SV.agg (Fw.cells {f with queue:=plB (r9 f c 0) (gL (r9 f c 0) (zG2 f.ma (r9 f c 0)) 0),lines:=f.lines++[line]}),SV.int IntKind.i64 0] =yI9 f c line:=by
    unfold yI9 f7;rw[en];rfl
   refine o5 (fun a=>absurd a (by omega)) fun _=>x6 pl (o5 (fun _=>o5 (fun _=>f9 (fun e=>x6 rfl ?_) fun e=>x6 (decide_eq_true (by omega)) (x6 (decide_eq_true (by simp;omega)) fin)) fun a=>absurd ok.2 a) fun a=>absurd ok.1 a)
   have e0:f.lines=[] :=by simpa using e
   rw[e0]at fin;exact fin
theorem xj6(f:Fw)(c:V4)(line:Int)(h:zk6 f c 0=true)(en:z02 f=0):SCall pP 195 [f.sv,V4.sv c,I64 line] (yI9 f c line):=by
 have p:=zk7.1 h
 have ql:=zk8 f c 0
 have sr:=xx9 p.1 (l:=0) (f:=f.feed) (yw0.1 p.2.1).2 (yw0.1 p.2.2.1).2
 have w:=wsq (v:=xx7 f.ma c 0 f.feed) (by omega)
 have nw:ya0 f c=q92 f.ma c 0 f.feed:=by unfold ya0 q92;rw[w]
 refine m6 rfl rfl (by kernel_rfl) (w6 kPA (n:=1000) (hint:=.unit) (keep:=x8 85 [2,3,6,9,10,11]) (p:=yK7) (boxes:=[]) rfl ?_)
 have q:=pd0 f c line
 unfold v9 u7 at q
 erw [q]
 unfold yK8
 rw[nw]
 have an:∀{a b:Bool},a=true→b=true→(a&&b)=true:=fun ha hb=>by rw[ha,hb];rfl
 have lp:=yK9 line h en f.queue.length 1 (List.replicate (r9 f c 0).length 0) (by omega) (by omega) (by simp[ql]) (fun t ht=>by
  have:t=0:=by omega
  subst this
  rw[ql];rfl)
 refine x6 p.2.2.1 (f9 (fun e=>?_) fun e=>?_)
 ·have e0:f.queue=[] :=by simpa using e
  have aq:r9 f c 0=[q92 f.ma c 0 f.feed] :=by unfold r9;rw[e0];rfl
  rw[aq]at lp
  exact x6 rfl (x6 rfl ⟨o8 _ _,lp⟩)
 ·have aq:f.queue++[q92 f.ma c 0 f.feed] =r9 f c 0:=rfl
  rw[aq]
  have tn:((r9 f c 0).length:Int).toNat=(r9 f c 0).length:=by omega
  rw[tn]
  exact x6 (decide_eq_true (by omega)) (x6 (decide_eq_true (by simp;omega)) (x6 (an (an (an (decide_eq_true (by omega)) (beq_self_eq_true _)) (decide_eq_true (by omega))) (decide_eq_true (by omega))) ⟨o8 _ _,lp⟩))
def qI9(f:Fw)(p:V4):Bool:=y09 f (wsub4 p f.pos)&& (decide (z02 f=0)&& (decide (z02 (f5 f (y03 (wsub4 p f.pos)))=0)&&y08 f (wsub4 p f.pos)))
theorem qJ0{f:Fw}{p:V4}:qI9 f p=true↔y09 f (wsub4 p f.pos)=true∧z02 f=0∧z02 (f5 f (y03 (wsub4 p f.pos)))=0∧y08 f (wsub4 p f.pos)=true:=by simp only[qI9,Bool.and_eq_true,decide_eq_true_eq]
def qX3(f:Fw)(r:Rc):Bool:=f.ma.ok&& (v7 r.src&&inR r.line 0 1099511627776)
def yV4(f:Fw)(r:Rc):Bool:=v5 f&& (qJ4 f&&q87 r)
def yH6(f:Fw)(c:V4):Bool:=zk6 f c 0&&decide (z02 f=0)
theorem yH7{f:Fw}{c:V4}:yH6 f c=true↔zk6 f c 0=true∧z02 f=0:=by simp only[yH6,Bool.and_eq_true,decide_eq_true_eq]
def qa6:Fact:=qh8 195 fun f rest=>match rest with
 |[.agg [.int .i64 a,.int .i64 b,.int .i64 c,.int .i64 d],.int .i64 line] =>some (.req (yH6 f (a,b,c,d)) (.leaf (.tuple [(f7 f (a,b,c,d) 0 line).sv,I64 0])))
 |_=>none
theorem yp1:qa6.ok pP:=qh9 fun f rest t ht=>by
 split at ht
 ·injection ht with ht;subst ht;exact fun h=>xj6 f (_,_,_,_) _ (yH7.1 h).1 (yH7.1 h).2
 ·cases ht
theorem qX4{f:Fw}{r:Rc}:qX3 f r=true↔f.ma.ok=true∧v7 r.src=true∧0≤r.line∧r.line≤1099511627776:=by simp only[qX3,Bool.and_eq_true,v8]
theorem yV5{f:Fw}{r:Rc}:yV4 f r=true↔v5 f=true∧qJ4 f=true∧q87 r=true:=by simp only[yV4,Bool.and_eq_true]
theorem q86{r:Rc}:q87 r=true↔v7 r.src=true∧v7 r.dst=true∧v7 (wsub4 r.dst r.src)=true:=by simp only[q87,Bool.and_eq_true]
theorem xV5{a b:V4}(h:(a.1==b.1&& (a.2.1==b.2.1&& (a.2.2.1==b.2.2.1&& (a.2.2.2==b.2.2.2&&true))))=true):a=b:=by
 simp only[Bool.and_eq_true,beq_iff_eq]at h
 obtain⟨a1,a2,a3,a4⟩:=a
 obtain⟨b1,b2,b3,b4⟩:=b
 simp only[Prod.mk.injEq]
 exact⟨h.1,h.2.1,h.2.2.1,h.2.2.2.1⟩
theorem x50{a b:V4}(ha:v7 a=true)(hb:v7 b=true)(ne:¬a=b):nz4 (wsub4 b a)=true:=by
 rw[x48 (q89 hb) (q89 ha),yf3]
 unfold xE8
 intro h
 refine ne ?_
 obtain⟨a1,a2,a3,a4⟩:=a
 obtain⟨b1,b2,b3,b4⟩:=b
 dsimp only at h
 simp only[Prod.mk.injEq];omega
theorem y73{f:Fw}{l:Fl}(b:rvB f l=false):SV.tuple [SV.agg (f4 fw0),SV.int IntKind.i64 1] =rvS f l:=by
 have e:rvE f l=1:=if_pos b
 unfold rvS;rw[e];rfl
theorem y74{f:Fw}{l:Fl}(b:rvB f l=true)(d:l.dead=true):SV.tuple [SV.agg (f4 fw0),SV.int IntKind.i64 17] =rvS f l:=by
 have e:rvE f l=17:=by unfold rvE;rw[b,d];rfl
 unfold rvS;rw[e];rfl
theorem y78{f:Fw}{l:Fl}(b:rvB f l=true)(d:l.dead=false)(o:(lastO l).isSome=false):SV.tuple [SV.agg f.cells,SV.int IntKind.i64 0] =rvS f l:=by
 have n:lastO l=none:=by simpa using o
 have e:rvE f l=0:=by unfold rvE;rw[b,d,n];rfl
 have g:rvF f l=f:=by unfold rvF;rw[n]
 unfold rvS;rw[e,g];rfl
theorem qT9{l:Fl}(o:(lastO l).isSome=true):lastO l=some (qT0 l):=by
 unfold qT0
 cases q:lastO l with
 |none=>rw[q]at o;cases o
 |some r=>rfl
theorem y75{f:Fw}{l:Fl}(b:rvB f l=true)(d:l.dead=false)(o:(lastO l).isSome=true)(n:q87 (qT0 l)=false):SV.tuple [SV.agg (f4 fw0),SV.int IntKind.i64 19] =rvS f l:=by
 have e:rvE f l=19:=by unfold rvE;rw[b,d,qT9 o];show rgE (qT0 l)=19;unfold rgE;rw[n];rfl
 unfold rvS;rw[e];rfl
theorem y79{f g:Fw}{l:Fl}(b:rvB f l=true)(d:l.dead=false)(o:(lastO l).isSome=true)(n:q87 (qT0 l)=true)(h:rgF f (qT0 l)=g):SV.tuple [SV.agg g.cells,SV.int IntKind.i64 0] =rvS f l:=by
 have e:rvE f l=0:=by unfold rvE;rw[b,d,qT9 o];show rgE (qT0 l)=0;unfold rgE;rw[n];rfl
 have q:rvF f l=g:=by unfold rvF;rw[qT9 o];exact h
 unfold rvS;rw[e,q];rfl
theorem qT8{l:Fl}(o:(lastO l).isSome=true):rcB (qT0 l)=true:=zo4 (List.mem_of_getLast? (qT9 o))
theorem y76{f:Fw}{l:Fl}(h:v5 f=false∨zb7 f=false∨flB l=false∨f.homed=true):rvB f l=false:=by
 unfold zb7 at h
 unfold rvB
 rcases h with h|h|h|h
 ·rw[h];rfl
 ·cases v:v5 f
  ·rfl
  ·rw[v,Bool.true_and]at h;rw[h];rfl
 ·rw[h,Bool.false_and,Bool.and_false,Bool.and_false]
 ·rw[h,Bool.not_true,Bool.and_false,Bool.and_false,Bool.and_false]
theorem qJ3{f:Fw}(h:zb7 f=true):v5 f=true∧qJ4 f=true:=by
 unfold zb7 at h
 exact(Bool.and_eq_true _ _).mp h
theorem y77{f:Fw}{l:Fl}(i:zb7 f=true)(b:flB l=true)(h:f.homed=false):rvB f l=true:=by
 obtain⟨v,i⟩:=qJ3 i
 unfold rvB;rw[v,i,b,h];rfl
theorem q90{r:Rc}(h:v7 r.src=false∨v7 r.dst=false∨v7 (wsub4 r.dst r.src)=false):q87 r=false:=by
 unfold q87
 rcases h with h|h|h<;>rw[h]<;>simp
theorem xf0(f:Fw)(p:V4)(h:qI9 f p=true):SCall pP 194 [f.sv,V4.sv p] (.tuple [(y07 f (wsub4 p f.pos)).sv,I64 0]):=
 xt3 (hB (l:=[fPP,qa6]) (k:=[]) (j:=[]) (i:=[]) ([] :List Nat) ([] :List Nat) ([] :List Nat) ([] :List Nat) (⟨yp4,yp1,trivial⟩) o4 o4 o4) 1000 (.fork (.ln 4 (.fork (.ln 5 (.lit .all)) (.ln 5 (.fork .all .all)))) (.ln 4 (.fork (.ln 5 (.lit .all)) (.ln 5 (.fork .all .all)))))
  (t:=let y0:=wsub4 p f.pos;let y3:=f7 f (0,0,y0.2.2.1,0) 0 0;let y4:=(y0.1,y0.2.1,0,0);let y1:Tree SV:=.req true (.req (true) (.req (yH6 y3 y4) (.leaf (.tuple [.agg (Fw.cells (f7 y3 y4 0 0)),I64 0]))));let y2:Tree SV:=.req true (.req (true) (.req (yH6 f y4) (.leaf (.tuple [.agg (Fw.cells (f7 f y4 0 0)),I64 0]))));.req (true) (.node (y0.2.2.1 != 0) (.req true (.req (yH6 f (0,0,y0.2.2.1,0)) (.req true (.node (y0.1 != 0) y1 (.req true (.node (y0.2.1 != 0) y1 (.leaf (.tuple [.agg (Fw.cells y3),I64 0])))))))) (.req true (.node (y0.1 != 0) y2 (.req true (.node (y0.2.1 != 0) y2 (.leaf (.tuple [.agg (Fw.cells f),I64 0]))))))))
  (by kernel_rfl) (by
   obtain⟨p0,en,en2,ok⟩:=qJ0.1 h
   obtain⟨p1,p2⟩:=y26.1 p0
   unfold y08 at ok
   obtain⟨o1,_⟩:=(Bool.and_eq_true _ _).mp ok
   generalize wsub4 p f.pos=d at p1 p2 en2 o1 ⊢
   have p2:=p2 o1
   have fin:∀g:Fw,y07 f d=g→SV.tuple [SV.agg g.cells,SV.int IntKind.i64 0] =SV.tuple [(y07 f d).sv,I64 0] :=fun g e=>by rw[e];rfl
   refine x6 rfl (q83 (fun a=>?_) fun a=>?_)
   ·have z:=nzC.2 a
    rw[zu8 z]at p2 en2
    refine x6 rfl (x6 (yH7.2 ⟨p1 z,en⟩) (x6 rfl (q83 (fun b=>?_) fun b=>x6 rfl (q83 (fun c=>?_) fun c=>?_))))
    ·have y:=nzD.2 (.inl b)
     exact x6 rfl (x6 rfl (x6 (yH7.2 ⟨p2 y,en2⟩) (fin _ (by unfold y07;rw[zu8 z,zu8 y];rfl))))
    ·have y:=nzD.2 (.inr c)
     exact x6 rfl (x6 rfl (x6 (yH7.2 ⟨p2 y,en2⟩) (fin _ (by unfold y07;rw[zu8 z,zu8 y];rfl))))
    ·exact fin _ (by unfold y07;rw[zu8 z,zu6 (Bool.eq_false_iff.2 fun y=>by have:=nzD.1 y;omega)];rfl)
   ·have z:nz4 (y03 d)=false:=Bool.eq_false_iff.2 fun y=>nzC.1 y a
    rw[zu6 z]at p2 en2
    refine x6 rfl (q83 (fun b=>?_) fun b=>x6 rfl (q83 (fun c=>?_) fun c=>?_))
    ·have y:=nzD.2 (.inl b)
     exact x6 rfl (x6 rfl (x6 (yH7.2 ⟨p2 y,en2⟩) (fin _ (by unfold y07;rw[zu6 z,zu8 y];rfl))))
    ·have y:=nzD.2 (.inr c)
     exact x6 rfl (x6 rfl (x6 (yH7.2 ⟨p2 y,en2⟩) (fin _ (by unfold y07;rw[zu6 z,zu8 y];rfl))))
    ·exact fin _ (by unfold y07;rw[zu6 z,zu6 (Bool.eq_false_iff.2 fun y=>by have:=nzD.1 y;omega)])) (by kernel_rfl) (by kernel_rfl)
def z75:Fact:=qh8 194 fun f rest=>match rest with
 |[.agg [.int .i64 a,.int .i64 b,.int .i64 c,.int .i64 d]] =>some (.req (qI9 f (a,b,c,d)) (.leaf (.tuple [(y07 f (wsub4 (a,b,c,d) f.pos)).sv,I64 0])))
 |_=>none
theorem yl9:z75.ok pP:=qh9 fun f rest t ht=>by
 split at ht
 ·injection ht with ht;subst ht;exact fun h=>xf0 f (_,_,_,_) h
 ·cases ht
theorem xg8(f:Fw)(r:Rc)(h:qX3 f r=true):SCall pP 107 [f.sv,r.sv] (.tuple [(yT1 f r).sv,I64 0]):=
 xt3 (hB (l:=[qe9]) (k:=[]) (j:=[]) (i:=[]) ([] :List Nat) ([] :List Nat) ([] :List Nat) ([] :List Nat) (⟨yt7,trivial⟩) o4 o4 o4) 1000 (.fork (.lit (.all)) (.lit (.all)))
  (t:=.req (true) (.req true (.node (xT6 f.ma r.src.2.2.2) (.leaf (.tuple [.agg (Fw.cells {f with pos:=r.src,e:=(xU6 (axM f.ma 3) r.src.2.2.2),back:=true,ret:=r.src,line:=(if i64.wrap (r.line-1)>0 then i64.wrap (r.line-1)else 0)}),I64 0])) (.leaf (.tuple [.agg (f4 fw0),I64 1])))))
  (by kernel_rfl) (by
   obtain⟨h1,h2,h3⟩:=qX4.1 h
   have n:=t8.1 h2
   have u:xT6 f.ma r.src.2.2.2=true:=xT7.2 ⟨h1,by omega⟩
   have w:i64.wrap (r.line-1)=r.line-1:=w64 (by omega) (by omega)
   rw[w]
   exact x6 rfl (x6 rfl (f9 (fun _=>rfl) fun q=>by rw[u]at q;cases q))) (by kernel_rfl) (by kernel_rfl)
def z92:Fact:=qh8 107 fun f rest=>match rest with
 |[.agg [.int .i64 r0,.int .i64 r1,.int .i64 r2,.int .i64 r3,.int .i64 p0,.int .i64 p1,.int .i64 p2,.int .i64 p3,.int .i64 q0,.int .i64 q1,.int .i64 q2,.int .i64 q3]] =>some (.req (qX3 f ⟨r0,r1,r2,r3,(p0,p1,p2,p3),(q0,q1,q2,q3)⟩) (.leaf (.tuple [(yT1 f ⟨r0,r1,r2,r3,(p0,p1,p2,p3),(q0,q1,q2,q3)⟩).sv,I64 0])))
 |_=>none
theorem yn2:z92.ok pP:=qh9 fun f rest t ht=>by
 split at ht
 ·injection ht with ht;subst ht;exact fun h=>xg8 f ⟨_,_,_,_,(_,_,_,_),(_,_,_,_)⟩ h
 ·cases ht
theorem xl8(f:Fw)(r:Rc)(h:yV4 f r=true):SCall pP 108 [f.sv,r.sv] (.tuple [(rsF f r).sv,I64 0]):=
 xt3 (hB (l:=[qb7,fPP,z75,qa6]) (k:=[]) (j:=[]) (i:=[]) ([] :List Nat) ([] :List Nat) ([] :List Nat) ([] :List Nat) (⟨yq3,yp4,yl9,yp1,trivial⟩) o4 o4 o4) 1000 (.lit (.fork (.all) (.fork (.all) (.all))))
  (t:=let y0:=yP1 f.ma r.dst;let y1:={f with homed:=true,pos:=r.src,loc:=(y0.1,y0.2.1,y0.2.2.1),e:=y0.2.2.2,ret:=r.dst,line:=r.line};let y2:={f with homed:=true,pos:=r.src,loc:=(y0.1,y0.2.1,y0.2.2.1),e:=y0.2.2.2,line:=r.line};.req (f.ma.ok&&v7 r.dst) (.node (r.kind==3) (.req (qI9 y1 r.dst) (.leaf (.tuple [.agg (Fw.cells (y07 y1 (wsub4 r.dst r.src))),I64 0]))) (.node (!(r.src.1==r.dst.1&& (r.src.2.1==r.dst.2.1&& (r.src.2.2.1==r.dst.2.2.1&& (r.src.2.2.2==r.dst.2.2.2&&true))))) (.req (yH6 y2 (wsub4 r.dst r.src)) (.leaf (.tuple [.agg (Fw.cells (f7 y2 (wsub4 r.dst r.src) 0 r.line)),I64 0]))) (.leaf (.tuple [.agg (Fw.cells {f with homed:=true,pos:=r.src,loc:=(y0.1,y0.2.1,y0.2.2.1),e:=y0.2.2.2,line:=r.line}),I64 0])))))
  (by kernel_rfl) (by
   obtain⟨v,i,n⟩:=yV5.1 h
   have hv:=p7 v
   obtain⟨n1,n2,n3⟩:=q86.1 n
   refine x6 (by rw[hv.ma,n2];rfl) (q82 (fun k=>?_) fun k=>q84 (fun e=>?_) fun e=>?_)
   ·obtain⟨p,e1,e2,o⟩:=y28 (g:=yT3 f r) hv i rfl rfl rfl rfl rfl n3
    exact x6 (qJ0.2 ⟨p,e1,e2,o⟩) (by unfold rsF;rw[if_pos k];rfl)
   ·have ne:¬r.src=r.dst:=fun q=>by rw[q]at e;simp at e
    have z:nz4 (wsub4 r.dst r.src)=true:=x50 n1 n2 ne
    obtain⟨p,e1⟩:=y00 (g:=yT2 f r) hv i rfl rfl rfl rfl rfl n3 z
    exact x6 (yH7.2 ⟨p,e1⟩) (by unfold rsF;rw[if_neg k,if_neg ne];rfl)
   ·have eq:r.src=r.dst:=xV5 e
    show SV.tuple [(yT2 f r).sv,I64 0] =_
    unfold rsF;rw[if_neg k,if_pos eq]) (by kernel_rfl) (by kernel_rfl)
def qc6:Fact:=qh8 108 fun f rest=>match rest with
 |[.agg [.int .i64 r0,.int .i64 r1,.int .i64 r2,.int .i64 r3,.int .i64 p0,.int .i64 p1,.int .i64 p2,.int .i64 p3,.int .i64 q0,.int .i64 q1,.int .i64 q2,.int .i64 q3]] =>some (.req (yV4 f ⟨r0,r1,r2,r3,(p0,p1,p2,p3),(q0,q1,q2,q3)⟩) (.leaf (.tuple [(rsF f ⟨r0,r1,r2,r3,(p0,p1,p2,p3),(q0,q1,q2,q3)⟩).sv,I64 0])))
 |_=>none
theorem yr3:qc6.ok pP:=qh9 fun f rest t ht=>by
 split at ht
 ·injection ht with ht;subst ht;exact fun h=>xl8 f ⟨_,_,_,_,(_,_,_,_),(_,_,_,_)⟩ h
 ·cases ht
theorem xl5(f:Fw)(l:Fl)(h:o7 l=true)(k:shF f=true):SCall pP 41 [f.sv,l.sv] (rvS f l):=
 xt3 (hB (l:=[qf0,z77,z60,z87,qb0,fPP,z43,z92,qc6]) (k:=[]) (j:=[]) (i:=[]) ([] :List Nat) ([] :List Nat) ([] :List Nat) ([] :List Nat) (⟨yt8,ym1,yk3,ym8,yp6,yp4,yi7,yn2,yr3,trivial⟩) o4 o4 o4) 1000 (.fork (.ln 10 (.lit .all)) (.ln 3 (.fork (.ln 6 (.lit .all)) (.ln 3 (.fork (.lit (.lit (.lit .all))) (.lit (.lit (.fork .all (.fork .all (.fork .all (.fork (.ln 12 (.lit .all)) (.ln 4 (.fork (.ln 7 (.lit .all)) (.ln 7 (.fork .all (.fork .all .all))))))))))))))))
  (t:=let y0:Tree SV:=.leaf (.tuple [.agg (f4 fw0),I64 1]);let y1:Tree SV:=.leaf (.tuple [.agg (f4 fw0),I64 19]);.node (!v5 f) y0 (.node (!zb7 f) y0 (.req (o7 l) (.node (!flB l) y0 (.node (f.homed) y0 (.node (l.dead) (.leaf (.tuple [.agg (f4 fw0),I64 17])) (.req (o7 l) (.node (!(lastO l).isSome) (.req (shF f) (.leaf (.tuple [.agg (Fw.cells f),I64 0]))) (.node (!v7 (qT0 l).src) y1 (.node (!v7 (qT0 l).dst) y1 (.node (!v7 (wsub4 (qT0 l).dst (qT0 l).src)) y1 (.node ((qT0 l).kind==1) (.req (shF f) (.req (qX3 f (qT0 l)) (.leaf (.tuple [.agg (Fw.cells (yT1 f (qT0 l))),I64 0])))) (.req (shF f) (.req (yV4 f (qT0 l)) (.leaf (.tuple [.agg (Fw.cells (rsF f (qT0 l))),I64 0]))))))))))))))))
  (by kernel_rfl) (by
   refine q84 (fun v=>y73 (y76 (.inl v))) fun v=>q84 (fun i=>y73 (y76 (.inr (.inl i)))) fun i=>x6 h (q84 (fun b=>y73 (y76 (.inr (.inr (.inl b))))) fun b=>f9 (fun hh=>y73 (y76 (.inr (.inr (.inr hh))))) fun hh=>?_)
   have B:=y77 i b hh
   obtain⟨_,i2⟩:=qJ3 i
   refine f9 (fun d=>y74 B d) fun d=>x6 h (q84 (fun o=>x6 k (y78 B d o)) fun o=>q84 (fun n=>y75 B d o (q90 (.inl n))) fun n1=>q84 (fun n=>y75 B d o (q90 (.inr (.inl n)))) fun n2=>q84 (fun n=>y75 B d o (q90 (.inr (.inr n)))) fun n3=>?_)
   have N:q87 (qT0 l)=true:=q86.2 ⟨n1,n2,n3⟩
   have rb:=yU4.1 (qT8 o)
   exact q82 (fun q=>x6 k (x6 (qX4.2 ⟨(p7 v).ma,n1,rb.2.2.1⟩) (y79 B d o N (if_pos q)))) fun q=>x6 k (x6 (yV5.2 ⟨v,i2,N⟩) (y79 B d o N (if_neg q)))) (by kernel_rfl) (by unfold rvS;split<;>rfl)
def qa5:Fact:=qh8 48 fun f rest=>match rest with
 |[.agg [.list .str p,.int .i64 a,.bool d,.int .i64 k],.int .i64 n,.agg [.int .i64 c0,.int .i64 c1,.int .i64 c2,.int .i64 c3,.int .i64 c4,.int .i64 c5,.int .i64 c6,.int .i64 c7]] =>some (.req (o7 ⟨p,a,d,k⟩) (.req (shF f) (.leaf (axV f ⟨p,a,d,k⟩ n ⟨c0,c1,c2,c3,c4,c5,c6,c7⟩))))
 |_=>none
def qb1:Fact:=qh8 43 fun f rest=>match rest with
 |[.agg [.list .str p,.int .i64 a,.bool d,.int .i64 k],.agg [.int .i64 r,.int .i64 s]] =>some (.req (o7 ⟨p,a,d,k⟩) (.req (shF f) (.leaf (pwV f ⟨p,a,d,k⟩ r s))))
 |_=>none
def qa7:Fact:=qh8 46 fun f rest=>match rest with
 |[.agg [.list .str p,.int .i64 a,.bool d,.int .i64 k]] =>some (.req (o7 ⟨p,a,d,k⟩) (.leaf (qn4 f ⟨p,a,d,k⟩).sv))
 |_=>none
def qc3:Fact:=qh8 41 fun f rest=>match rest with
 |[.agg [.list .str p,.int .i64 a,.bool d,.int .i64 k]] =>some (.req (o7 ⟨p,a,d,k⟩) (.req (shF f) (.node (decide (rvE f ⟨p,a,d,k⟩=0)) (.leaf (.tuple [(rvF f ⟨p,a,d,k⟩).sv,I64 0])) (.leaf (.tuple [fw0.sv,I64 (rvE f ⟨p,a,d,k⟩)])))))
 |_=>none
def plC(f:Fw)(l:Fl)(q:V4)(g:Bool):List SV:=f.cells++(l.cells++(V4.cells q++[.bool g]))
def yN3:List SV→Option (Fl×V4×Bool)
 |[.list .str p,.int .i64 a,.bool d,.int .i64 k,.int .i64 x,.int .i64 y,.int .i64 z,.int .i64 w,.bool g] =>some (⟨p,a,d,k⟩,(x,y,z,w),g)
 |_=>none
def zi0(f:Fw)(l:Fl)(q:V4)(r s:Int):Nat→Fw×Fl×V4
 |0=>(f,l,q)
 |n+1=>zi0 (pwF f l r s) (pwL f l) (m8 q (pwQ f l r s)) r s n
def actP(f:Fw)(l:Fl)(q:V4)(kd:Int)(nb:Bool)(c:Gc.C)(n r s:Int):Fw×Fl×V4:=if kd=0 then(axF f l (lineV f nb) c,axL f l (lineV f nb) c,yW0 f l q (lineV f nb) c)else zi0 f l q r s n.toNat
noncomputable def qM0(f:Fw)(l:Fl)(q:V4):Bool:=@decide (∃L last,L≤900000∧Inv f l q L last) (Classical.propDecidable _)
theorem qM1{f:Fw}{l:Fl}{q:V4}:qM0 f l q=true↔∃L last,L≤900000∧Inv f l q L last:=@decide_eq_true_iff _ (Classical.propDecidable _)
noncomputable def z30:Fact:=⟨53,fun args=>match args with
 |[.agg pl,.agg [.int .i64 kd,.bool nb,.int .i64 c0,.int .i64 c1,.int .i64 c2,.int .i64 c3,.int .i64 c4,.int .i64 c5,.int .i64 c6,.int .i64 c7,.int .i64 n,.int .i64 r,.int .i64 s]] =>match zq3 (pl.take 102)with
  |some f=>match yN3 (pl.drop 102)with
   |some (l,q,true)=>some (.req (qM0 f l q) (.req (inR n (-9223372036854775808) 90000) (.leaf (.agg (plC (actP f l q kd nb ⟨c0,c1,c2,c3,c4,c5,c6,c7⟩ n r s).1 (actP f l q kd nb ⟨c0,c1,c2,c3,c4,c5,c6,c7⟩ n r s).2.1 (actP f l q kd nb ⟨c0,c1,c2,c3,c4,c5,c6,c7⟩ n r s).2.2 true)))))
   |_=>none
  |none=>none
 |_=>none⟩
def qf3:Fact:=⟨40,fun args=>match args with
 |[] =>some (.leaf (.bool true))
 |_=>none⟩
def z65:Fact:=⟨51,fun args=>match args with
 |[.int .i64 n] =>match n==6 with
  |true=>some (.leaf (.tuple [(flN 6).sv,I64 0]))
  |false=>match n==4 with
   |true=>some (.leaf (.tuple [(flN 4).sv,I64 0]))
   |false=>none
 |_=>none⟩
def yH1:Plan:=.fork (.fork (.lit (.lit (.fork .all (.fork .all .all)))) (.ln 3 (.fork .all .all))) .all
noncomputable def yH2(f:Fw)(l:Fl)(q:V4)(kd:Int)(nb:Bool)(c:Gc.C)(n r s:Int):Tree Stop:= .node (kd==0) (.req (inR f.line 0 1099511627776) (.req (o7 l) (.req (shF f) (.node (axH f l (lineV f nb) c) (.node (axE f l (lineV f nb) c==0) (.leaf (.done (.agg (plC (axF f l (lineV f nb) c) (axL f l (lineV f nb) c) ((axF f l (lineV f nb) c).pos) true)))) (.node (axH f l (lineV f nb) c) (.req true (.leaf (.done (.agg (plC (axF f l (lineV f nb) c) (axL f l (lineV f nb) c) (0,0,0,f.pos.2.2.2) true))))) (.leaf (.done (.agg (plC (axF f l (lineV f nb) c) (axL f l (lineV f nb) c) q true)))))) (.node (axH f l (lineV f nb) c) (.req true (.leaf (.done (.agg (plC (axF f l (lineV f nb) c) (axL f l (lineV f nb) c) (0,0,0,f.pos.2.2.2) true))))) (.leaf (.done (.agg (plC (axF f l (lineV f nb) c) (axL f l (lineV f nb) c) q true))))))))) (.leaf (.at (j9 pP 53 0) 96 (j8 96 [(2,.ptr 0 0),(3,.ptr 1 0),(4,.ptr 2 0),(9,I64 0)]) [some (.cells (plC f l q true)),some (.cells [I64 kd,.bool nb,I64 c.code,I64 c.has,I64 c.x,I64 c.y,I64 c.z,I64 c.e,I64 c.f,I64 c.s,I64 n,I64 r,I64 s]),some (.cells (f4 fw0++([.nilS,I64 0,.bool false,I64 0] ++(V4.cells z4++[.bool false]))))]))
theorem pa0(f:Fw)(l:Fl)(q:V4)(kd:Int)(nb:Bool)(c:Gc.C)(n r s:Int):w9 (Env.ofB pP (v6 [qa5,qb1,z91,z31]) (d7 []) (d9 []) (d8 []) (x7 []) (x7 []) (x7 []) (x7 [])) 1000 (j7 pP 53) .unit (x8 96 [2,3,4,9]) (u7 pP 53) yH1 (v9 pP 53 [.agg (plC f l q true),.agg (opL kd nb c n r s)]) [] =yH2 f l q kd nb c n r s:=by kernel_rfl
def yH4:Plan:=.fork (.ln 4 (.fork (.ln 6 (.lit .all)) (.ln 6 (.lit .all)))) .all
noncomputable def yH5(f:Fw)(l:Fl)(q:V4)(kd:Int)(nb:Bool)(c:Gc.C)(n r s k:Int):Tree Stop:= .node (decide (k<n)) (.req (o7 l) (.req (shF f) (.node (!(pwF f l r s).homed) (.leaf (.at (j9 pP 53 0) 96 (j8 96 [(2,.ptr 0 0),(3,.ptr 1 0),(4,.ptr 2 0),(9,I64 (i64.wrap (k+1)))]) [some (.cells (plC (pwF f l r s) (pwL f l) (m8 q (pwQ f l r s)) true)),some (.cells [I64 kd,.bool nb,I64 c.code,I64 c.has,I64 c.x,I64 c.y,I64 c.z,I64 c.e,I64 c.f,I64 c.s,I64 n,I64 r,I64 s]),some (.cells (f4 fw0++([.nilS,I64 0,.bool false,I64 0] ++(V4.cells z4++[.bool false]))))])) (.leaf (.at (j9 pP 53 0) 96 (j8 96 [(2,.ptr 0 0),(3,.ptr 1 0),(4,.ptr 2 0),(9,I64 (i64.wrap (k+1)))]) [some (.cells (plC (pwF f l r s) (pwL f l) (m8 q (pwQ f l r s)) ((pwF f l r s).pos.1==(m8 q (pwQ f l r s)).1&& ((pwF f l r s).pos.2.1==(m8 q (pwQ f l r s)).2.1&& ((pwF f l r s).pos.2.2.1==(m8 q (pwQ f l r s)).2.2.1&& ((pwF f l r s).pos.2.2.2==(m8 q (pwQ f l r s)).2.2.2&&true)))))),some (.cells [I64 kd,.bool nb,I64 c.code,I64 c.has,I64 c.x,I64 c.y,I64 c.z,I64 c.e,I64 c.f,I64 c.s,I64 n,I64 r,I64 s]),some (.cells (f4 fw0++([.nilS,I64 0,.bool false,I64 0] ++(V4.cells z4++[.bool false]))))]))))) (.leaf (.done (.agg (plC f l q true))))
theorem pa1(f:Fw)(l:Fl)(q:V4)(kd:Int)(nb:Bool)(c:Gc.C)(n r s k:Int):w9 (Env.ofB pP (v6 [qa5,qb1,z91,z31]) (d7 []) (d9 []) (d8 []) (x7 []) (x7 []) (x7 []) (x7 [])) 1000 (j7 pP 53) .unit (x8 96 [2,3,4,9]) (j9 pP 53 0) yH4 (j8 96 [(2,.ptr 0 0),(3,.ptr 1 0),(4,.ptr 2 0),(9,I64 k)]) [some (.cells (plC f l q true)),some (.cells (opL kd nb c n r s)),some (.cells (f4 fw0++([.nilS,I64 0,.bool false,I64 0] ++(V4.cells z4++[.bool false]))))] =yH5 f l q kd nb c n r s k:=by kernel_rfl
theorem qr0{l:Fl}:o7 l=true↔l.pages.length≤1000:=by unfold o7;rw[decide_eq_true_eq]
section
variable {f:Fw} {l:Fl} {r s n:Int} {c:Gc.C}
theorem qn7(h:o7 l=true):o7 (qn4 f l)=true:=by
 unfold qn4;split
 ·exact qr1 h
 ·exact h
theorem qs7{k:Int}(h:o7 l=true):o7 (qs6 l n k)=true:=by
 have h:=qr0.1 h
 unfold qs6
 repeat' split
 all_goals exact qr0.2 h
theorem qs8(h:o7 l=true):o7 (flPow l)=true:=by
 have h:=qr0.1 h
 unfold flPow
 split
 all_goals exact qr0.2 h
end
theorem yp0:qa5.ok pP:=qh9 fun f rest t ht=>by
 split at ht
 ·injection ht with ht;subst ht;exact fun h k=>xj1 f ⟨_,_,_,_⟩ _ ⟨_,_,_,_,_,_,_,_⟩ h k
 ·cases ht
theorem yp7:qb1.ok pP:=qh9 fun f rest t ht=>by
 split at ht
 ·injection ht with ht;subst ht;exact fun h k=>xj3 f ⟨_,_,_,_⟩ _ _ h k
 ·cases ht
theorem yp2:qa7.ok pP:=qh9 fun f rest t ht=>by
 split at ht
 ·injection ht with ht;subst ht;exact fun h=>xj2 f ⟨_,_,_,_⟩ h
 ·cases ht
theorem y72{g:FuncId}{f:Fw}{l:Fl}{args:List SV}(h:SCall pP g args (rvS f l)):(Tree.node (decide (rvE f l=0)) (.leaf (.tuple [(rvF f l).sv,I64 0])) (.leaf (.tuple [fw0.sv,I64 (rvE f l)]))).says (SCall pP g args):=by
 refine⟨fun e=>?_,fun e=>?_⟩
 ·have e:=of_decide_eq_true e
  unfold rvS at h;rw[if_pos e]at h;exact h
 ·have e:=of_decide_eq_false e
  unfold rvS at h;rw[if_neg e]at h
  exact xt4 h (yb5 (yb1 _ rfl rfl))
theorem yq9:qc3.ok pP:=qh9 fun f rest t ht=>by
 split at ht
 ·injection ht with ht;subst ht;exact fun h k=>y72 (xl5 f ⟨_,_,_,_⟩ h k)
 ·cases ht
theorem xc9:SCall pP 51 [I64 6] (.tuple [(flN 6).sv,I64 0]):=by
 refine m6 rfl rfl (by kernel_rfl) (w6 k00 (n:=1000) (hint:=.str) (keep:=x8 25 []) (p:=qt7) (boxes:=[]) rfl ?_)
 have q:=fn6 ()
 unfold v9 u7 at q
 erw [q]
 unfold qt8
 repeat' first
  |refine x6 rfl ?_
  |rfl
theorem xc8:SCall pP 51 [I64 4] (.tuple [(flN 4).sv,I64 0]):=by
 refine m6 rfl rfl (by kernel_rfl) (w6 k00 (n:=1000) (hint:=.str) (keep:=x8 25 []) (p:=qt5) (boxes:=[]) rfl ?_)
 have q:=fn4 ()
 unfold v9 u7 at q
 erw [q]
 unfold qt6
 repeat' first
  |refine x6 rfl ?_
  |rfl
theorem yk8:z65.ok pP:=fun args t ht=>by
 simp only[z65]at ht
 split at ht
 ·split at ht
  ·rename_i h
   have h:=beq_iff_eq.1 h
   subst h
   injection ht with ht;subst ht;exact xc9
  ·split at ht
   ·rename_i h
    have h:=beq_iff_eq.1 h
    subst h
    injection ht with ht;subst ht;exact xc8
   ·cases ht
 ·cases ht
theorem qR1:Known pP (Env.ofB pP (v6 [qa5,qb1,z91,z31]) (d7 []) (d9 []) (d8 []) (x7 []) (x7 []) (x7 []) (x7 [])):=
 hB (l:=[qa5,qb1,z91,z31]) (k:=[]) (j:=[]) (i:=[]) [] [] [] [] ⟨yp0,yp7,yn1,yg7,trivial⟩ o4 o4 o4
theorem qQ0{l:Fl}{L:Int}{last:Option Rc}(j:Jn l L last):o7 l=true:=qr0.2 (by rw[j.len];decide)
section
variable {kd:Int} {nb:Bool} {c:Gc.C} {n r s:Int}
theorem yH3(hn:n≤90000):∀ (m k:Nat) (f:Fw) (l:Fl) (q:V4) (L:Int) (last:Option Rc),Inv f l q L last→L+m≤1000000→k+m=n.toNat→b8 pP (j7 pP 53) (.agg (plC (zi0 f l q r s m).1 (zi0 f l q r s m).2.1 (zi0 f l q r s m).2.2 true)) (j9 pP 53 0) (j8 96 [(2,.ptr 0 0),(3,.ptr 1 0),(4,.ptr 2 0),(9,I64 k)]) [some (.cells (plC f l q true)),some (.cells (opL kd nb c n r s)),some (.cells (f4 fw0++([.nilS,I64 0,.bool false,I64 0] ++(V4.cells z4++[.bool false]))))]
 |0,k,f,l,q,L,last,h,hL,hk=>by
  refine w6 qR1 (n:=1000) (hint:=.unit) (keep:=x8 96 [2,3,4,9]) (p:=yH4) rfl ?_
  erw [pa1 f l q kd nb c n r s k]
  unfold yH5
  exact o5 (fun a=>absurd a (by omega)) fun _=>rfl
 |m+1,k,f,l,q,L,last,h,hL,hk=>by
  refine w6 qR1 (n:=1000) (hint:=.unit) (keep:=x8 96 [2,3,4,9]) (p:=yH4) rfl ?_
  erw [pa1 f l q kd nb c n r s k]
  unfold yH5
  have w1:i64.wrap ((k:Int)+1)=((k+1:Nat):Int):=by rw[w64 (by omega) (by omega)];omega
  obtain⟨L1,last1,hl,i1⟩:=qM4 r s h (by omega)
  have ih:=yH3 hn m (k+1) _ _ _ _ _ i1 (by omega) (by omega)
  rw[w1]
  refine o5 (fun a=>x6 (qQ0 h.j) (x6 (xv1 h.v) (q84 (fun _=>⟨o8 _ _,ih⟩) fun hh=>⟨o8 _ _,?_⟩))) fun a=>absurd (show(k:Int)<n by omega) a
  rw[xV4 (i1.hp hh)];exact ih
theorem y83(f:Fw)(l:Fl)(q:V4){L:Int}{last:Option Rc}(h:Inv f l q L last)(hL:L≤900000)(hn:n≤90000):SCall pP 53 [.agg (plC f l q true),.agg (opL kd nb c n r s)] (.agg (plC (actP f l q kd nb c n r s).1 (actP f l q kd nb c n r s).2.1 (actP f l q kd nb c n r s).2.2 true)):=by
 refine m6 rfl rfl (by kernel_rfl) (w6 qR1 (n:=1000) (hint:=.unit) (keep:=x8 96 [2,3,4,9]) (p:=yH1) (boxes:=[]) rfl ?_)
 have e:=pa0 f l q kd nb c n r s
 unfold v9 u7 at e
 erw [e]
 unfold yH2
 have li:inR f.line 0 1099511627776=true:=v8.2 (by have:=(p7 h.v).nums;omega)
 refine q82 (fun k=>?_) fun k=>?_
 ·have o:actP f l q kd nb c n r s=(axF f l (lineV f nb) c,axL f l (lineV f nb) c,yW0 f l q (lineV f nb) c):=if_pos k
  rw[o]
  generalize lineV f nb=ln
  have fin:∀p,yW0 f l q ln c=p→SV.agg (plC (axF f l ln c) (axL f l ln c) p true)=SV.agg (plC (axF f l ln c) (axL f l ln c) (yW0 f l q ln c) true):=fun p hp=>by rw[hp]
  refine x6 li (x6 (qQ0 h.j) (x6 (xv1 h.v) (f9 (fun x=>q82 (fun y=>?_) fun y=>f9 (fun _=>x6 rfl ?_) fun z=>by rw[x]at z;cases z) fun x=>f9 (fun z=>by rw[x]at z;cases z) fun _=>?_)))
  ·exact fin _ (by unfold yW0;rw[if_pos x,if_pos y])
  ·exact fin _ (by unfold yW0;rw[if_pos x,if_neg y])
  ·exact fin _ (by unfold yW0;rw[if_neg (by rw[x];exact Bool.false_ne_true)])
 ·have o:actP f l q kd nb c n r s=zi0 f l q r s n.toNat:=if_neg k
  rw[o]
  exact⟨o8 _ _,yH3 hn n.toNat 0 f l q L last h (by omega) (by omega)⟩
theorem zi1:∀ (m:Nat) {f:Fw} {l:Fl} {q:V4} {L:Int} {last:Option Rc},Inv f l q L last→L+m≤1000000→∃L' last',L'≤L+m∧Inv (zi0 f l q r s m).1 (zi0 f l q r s m).2.1 (zi0 f l q r s m).2.2 L' last'
 |0,f,l,q,L,last,h,_=>⟨L,last,by omega,h⟩
 |m+1,f,l,q,L,last,h,hL=>by
  obtain⟨L1,last1,hl,i1⟩:=qM4 r s h (by omega)
  obtain⟨L2,last2,h2,i2⟩:=zi1 m i1 (by omega)
  exact⟨L2,last2,by omega,i2⟩
theorem zi2{f:Fw}{l:Fl}{q:V4}{L:Int}{last:Option Rc}(h:Inv f l q L last)(hL:L≤900000)(hn:n≤40):∃L' last',L'≤L+42∧Inv (actP f l q kd nb c n r s).1 (actP f l q kd nb c n r s).2.1 (actP f l q kd nb c n r s).2.2 L' last':=by
 by_cases k:kd=0
 ·have o:actP f l q kd nb c n r s=(axF f l (lineV f nb) c,axL f l (lineV f nb) c,yW0 f l q (lineV f nb) c):=if_pos k
  rw[o]
  obtain⟨L1,last1,hl,i1⟩:=qM2 (lineV f nb) c h (by omega)
  exact⟨L1,last1,by omega,i1⟩
 ·have o:actP f l q kd nb c n r s=zi0 f l q r s n.toNat:=if_neg k
  rw[o]
  obtain⟨L1,last1,hl,i1⟩:=zi1 (r:=r) (s:=s) n.toNat h (by omega)
  exact⟨L1,last1,by omega,i1⟩
end
theorem yN4{cs:List SV}{l:Fl}{q:V4}{g:Bool}(h:yN3 cs=some (l,q,g)):cs=l.cells++(V4.cells q++[.bool g]):=by
 unfold yN3 at h
 split at h
 ·injection h with h
  injection h with h1 h2
  injection h2 with h2 h3
  subst h1;subst h2;subst h3;rfl
 ·cases h
theorem yg6:z30.ok pP:=fun args t ht=>by
 simp only[z30]at ht
 split at ht
 ·rename_i pl kd nb c0 c1 c2 c3 c4 c5 c6 c7 n r s
  split at ht
  ·rename_i hf
   split at ht
   ·rename_i hp
    injection ht with ht;subst ht
    intro h1 h2
    obtain⟨L,last,hL,iv⟩:=qM1.1 h1
    have nl:=(zq4 hf).append (x9.refl (List.drop 102 pl))
    rw[List.take_append_drop,yN4 hp]at nl
    exact xt0 nl (y83 (kd:=_) (nb:=_) (c:=⟨_,_,_,_,_,_,_,_⟩) (n:=_) (r:=_) (s:=_) _ _ _ iv hL (v8.1 h2).2)
   ·cases ht
  ·cases ht
 ·cases ht
theorem xr3 :SCall pP 40 [] (.bool true):=
 o9 mix [qa1,z65,z35,qc3] ⟨yo3,yk8,yh2,yq9,trivial⟩ 40000 (.auto)
  (t:=.req (true) (.req (true) (.req (true) (.req (true) (.req (true) (.req (true) (.req (true) (.leaf (SV.bool true)))))))))
  (by kernel_rfl) (by trivial) (by kernel_rfl) (by kernel_rfl)
theorem yu7:qf3.ok pP:=fun args t ht=>by
 simp only[qf3]at ht
 split at ht
 ·injection ht with ht;subst ht;exact xr3
 ·cases ht
theorem ya2{m:Ma}{c d:Co}{g h:Gu}{cold:Int}(k:q95 m c d g h cold=true):v5 (u9 m c d g h cold)=true:=by
 obtain⟨k1,k2,k3,k4,k5,k6,k7,k8⟩:=q96.1 k
 refine xY9 (yK1.2 ⟨k1,k2,k3,k4,k5⟩) (by show 1≤(1:Int)∧(1:Int)≤3;omega) (ye0.2 ?_) ?_ (yS9 rfl rfl rfl rfl (show v7 z4=true by decide) (show v7 z4=true by decide)) (.inr ⟨rfl,rfl⟩)
 ·show((-16777216:Int)≤0∧(0:Int)≤16777216)∧((-16777216:Int)≤0∧(0:Int)≤16777216)∧((-16777216:Int)≤0∧(0:Int)≤16777216)∧((-16777216:Int)≤0∧(0:Int)≤16777216)∧((0:Int)≤0∧(0:Int)≤1048576)∧((0:Int)≤0∧(0:Int)≤1048576)∧((0:Int)≤0∧(0:Int)≤3)∧((0:Int)≤0∧(0:Int)≤255)∧((0:Int)≤0∧(0:Int)≤1099511627776)∧((0:Int)≤0∧(0:Int)≤1099511627776)∧((0:Int)≤0∧(0:Int)≤1099511627776)∧0≤cold∧cold≤400000
  omega
 ·rw[q67 rfl];exact xC7 rfl rfl
def suC(m:Ma)(c d:Co)(g h:Gu)(cold:Int):List SV:=m.cells++(c.cells++(d.cells++(g.cells++(h.cells++[I64 cold]))))
def x75:Plan:=.fork (.ln 4 (.fork .all .all)) (.ln 4 (.lit .all))
noncomputable def x76(m:Ma)(c d:Co)(g h:Gu)(cold:Int)(l:List EvT):Tree Stop:= .node (q95 m c d g h cold) (.req (qV2 l) (.node (!qq7 l 30) (.leaf (.done (.bool true))) (.leaf (.at (j9 pP 13 0) 86 (j8 86 [(1,LE l),(2,.ptr 0 0),(9,.ptr 1 0),(10,I64 0)]) [some (.cells (suC m c d g h cold)),some (.cells [I64 (u9 m c d g h cold).ma.x.num,I64 (u9 m c d g h cold).ma.x.den,I64 (u9 m c d g h cold).ma.x.speed,I64 (u9 m c d g h cold).ma.x.accel,I64 (u9 m c d g h cold).ma.x.jerk,I64 (u9 m c d g h cold).ma.x.min,I64 (u9 m c d g h cold).ma.x.max,I64 (u9 m c d g h cold).ma.y.num,I64 (u9 m c d g h cold).ma.y.den,I64 (u9 m c d g h cold).ma.y.speed,I64 (u9 m c d g h cold).ma.y.accel,I64 (u9 m c d g h cold).ma.y.jerk,I64 (u9 m c d g h cold).ma.y.min,I64 (u9 m c d g h cold).ma.y.max,I64 (u9 m c d g h cold).ma.z.num,I64 (u9 m c d g h cold).ma.z.den,I64 (u9 m c d g h cold).ma.z.speed,I64 (u9 m c d g h cold).ma.z.accel,I64 (u9 m c d g h cold).ma.z.jerk,I64 (u9 m c d g h cold).ma.z.min,I64 (u9 m c d g h cold).ma.z.max,I64 (u9 m c d g h cold).ma.e.num,I64 (u9 m c d g h cold).ma.e.den,I64 (u9 m c d g h cold).ma.e.speed,I64 (u9 m c d g h cold).ma.e.accel,I64 (u9 m c d g h cold).ma.e.jerk,I64 (u9 m c d g h cold).ma.e.min,I64 (u9 m c d g h cold).ma.e.max,.bool (u9 m c d g h cold).ma.xy,I64 (u9 m c d g h cold).ma.ticks,I64 (u9 m c d g h cold).mode,.bool (u9 m c d g h cold).homed,I64 (u9 m c d g h cold).pos.1,I64 (u9 m c d g h cold).pos.2.1,I64 (u9 m c d g h cold).pos.2.2.1,I64 (u9 m c d g h cold).pos.2.2.2,I64 (u9 m c d g h cold).loc.1,I64 (u9 m c d g h cold).loc.2.1,I64 (u9 m c d g h cold).loc.2.2,I64 (u9 m c d g h cold).e,I64 (u9 m c d g h cold).feed,.list t6 (u9 m c d g h cold).queue,.list (Ty.int IntKind.i64) (u9 m c d g h cold).lines,I64 (u9 m c d g h cold).mo.1.1.1,I64 (u9 m c d g h cold).mo.1.1.2.1,I64 (u9 m c d g h cold).mo.1.1.2.2.1,I64 (u9 m c d g h cold).mo.1.1.2.2.2,I64 (u9 m c d g h cold).mo.1.2.1,I64 (u9 m c d g h cold).mo.1.2.2.1,I64 (u9 m c d g h cold).mo.1.2.2.2.1,I64 (u9 m c d g h cold).mo.1.2.2.2.2,I64 (u9 m c d g h cold).mo.2.1,I64 (u9 m c d g h cold).mo.2.2,.bool (u9 m c d g h cold).moving,I64 (u9 m c d g h cold).active,.bool (u9 m c d g h cold).back,I64 (u9 m c d g h cold).ret.1,I64 (u9 m c d g h cold).ret.2.1,I64 (u9 m c d g h cold).ret.2.2.1,I64 (u9 m c d g h cold).ret.2.2.2,I64 (u9 m c d g h cold).dwell,I64 (u9 m c d g h cold).waits,I64 (u9 m c d g h cold).c0.target,I64 (u9 m c d g h cold).c0.kp,I64 (u9 m c d g h cold).c0.ki,I64 (u9 m c d g h cold).c0.scale,I64 (u9 m c d g h cold).c0.sum,I64 (u9 m c d g h cold).c0.limit,I64 (u9 m c d g h cold).c1.target,I64 (u9 m c d g h cold).c1.kp,I64 (u9 m c d g h cold).c1.ki,I64 (u9 m c d g h cold).c1.scale,I64 (u9 m c d g h cold).c1.sum,I64 (u9 m c d g h cold).c1.limit,I64 (u9 m c d g h cold).g0.low,I64 (u9 m c d g h cold).g0.high,I64 (u9 m c d g h cold).g0.watch,I64 (u9 m c d g h cold).g0.rise,I64 (u9 m c d g h cold).g0.band,I64 (u9 m c d g h cold).g0.base,I64 (u9 m c d g h cold).g0.count,I64 (u9 m c d g h cold).g0.idle,I64 (u9 m c d g h cold).g0.quiet,I64 (u9 m c d g h cold).g0.fault,.bool (u9 m c d g h cold).g0.door,I64 (u9 m c d g h cold).g1.low,I64 (u9 m c d g h cold).g1.high,I64 (u9 m c d g h cold).g1.watch,I64 (u9 m c d g h cold).g1.rise,I64 (u9 m c d g h cold).g1.band,I64 (u9 m c d g h cold).g1.base,I64 (u9 m c d g h cold).g1.count,I64 (u9 m c d g h cold).g1.idle,I64 (u9 m c d g h cold).g1.quiet,I64 (u9 m c d g h cold).g1.fault,.bool (u9 m c d g h cold).g1.door,I64 (u9 m c d g h cold).fan,I64 (u9 m c d g h cold).line,I64 (u9 m c d g h cold).ticks,I64 (u9 m c d g h cold).cold,I64 (u9 m c d g h cold).r0,I64 (u9 m c d g h cold).r1,.list Ty.str (flN 6).pages,I64 0,.bool false,I64 0,I64 0,I64 0,I64 0,I64 0,.bool true])])))) (.leaf (.done (.bool true)))
theorem xe0(m:Ma)(c d:Co)(g h:Gu)(cold:Int)(l:List EvT):w9 (Env.ofB pP (v6 [qa1,z65,z58,qf3,z30,qa7,z64,z66,qc3,qf0]) (d7 []) (d9 []) (d8 []) (x7 []) (x7 []) (x7 []) (x7 [])) 1000 (j7 pP 13) .unit (x8 86 [1,2,9,10]) (u7 pP 13) x75 (v9 pP 13 [.agg (m.cells++(c.cells++(d.cells++(g.cells++(h.cells++[I64 cold]))))),LE l]) [] =x76 m c d g h cold l:=by kernel_rfl
def x78:Plan:=let z0:Plan:=.fork (.ln 8 (.fork (.ln 4 (.lit .all)) (.ln 4 (.fork .all .all)))) (.ln 13 (.fork .all .all));.fork (.fork (.ln 4 z0) (.fork (.fork (.ln 7 z0) (.ln 3 (.fork (.ln 10 (.lit .all)) (.ln 17 (.lit .all))))) (.ln 15 (.lit .all)))) .all
noncomputable def x79(m:Ma)(c d:Co)(g h:Gu)(cold:Int)(f:Fw)(x:Fl)(q:V4)(l:List EvT)(i:Int):Tree Stop:= .node (decide (i< (↑l.length:Int))) (.req (decide (0≤i)&&decide (i< (↑l.length:Int))) (.node (decide ((l.getD i.toNat dEv).2.1<0)) (.req (decide (0≤i)&&decide (i< (↑l.length:Int))) (.req (qM0 f x q) (.req (inR (l.getD i.toNat dEv).1.2.2.2.1 (-9223372036854775808) 90000) (.node ((actP f x q (l.getD i.toNat dEv).1.1 (l.getD i.toNat dEv).1.2.1 (opC (l.getD i.toNat dEv).1) (l.getD i.toNat dEv).1.2.2.2.1 (l.getD i.toNat dEv).1.2.2.2.2.1 (l.getD i.toNat dEv).1.2.2.2.2.2).1.homed) (.node (!((actP f x q (l.getD i.toNat dEv).1.1 (l.getD i.toNat dEv).1.2.1 (opC (l.getD i.toNat dEv).1) (l.getD i.toNat dEv).1.2.2.2.1 (l.getD i.toNat dEv).1.2.2.2.2.1 (l.getD i.toNat dEv).1.2.2.2.2.2).1.pos.1==(actP f x q (l.getD i.toNat dEv).1.1 (l.getD i.toNat dEv).1.2.1 (opC (l.getD i.toNat dEv).1) (l.getD i.toNat dEv).1.2.2.2.1 (l.getD i.toNat dEv).1.2.2.2.2.1 (l.getD i.toNat dEv).1.2.2.2.2.2).2.2.1&& ((actP f x q (l.getD i.toNat dEv).1.1 (l.getD i.toNat dEv).1.2.1 (opC (l.getD i.toNat dEv).1) (l.getD i.toNat dEv).1.2.2.2.1 (l.getD i.toNat dEv).1.2.2.2.2.1 (l.getD i.toNat dEv).1.2.2.2.2.2).1.pos.2.1==(actP f x q (l.getD i.toNat dEv).1.1 (l.getD i.toNat dEv).1.2.1 (opC (l.getD i.toNat dEv).1) (l.getD i.toNat dEv).1.2.2.2.1 (l.getD i.toNat dEv).1.2.2.2.2.1 (l.getD i.toNat dEv).1.2.2.2.2.2).2.2.2.1&& ((actP f x q (l.getD i.toNat dEv).1.1 (l.getD i.toNat dEv).1.2.1 (opC (l.getD i.toNat dEv).1) (l.getD i.toNat dEv).1.2.2.2.1 (l.getD i.toNat dEv).1.2.2.2.2.1 (l.getD i.toNat dEv).1.2.2.2.2.2).1.pos.2.2.1==(actP f x q (l.getD i.toNat dEv).1.1 (l.getD i.toNat dEv).1.2.1 (opC (l.getD i.toNat dEv).1) (l.getD i.toNat dEv).1.2.2.2.1 (l.getD i.toNat dEv).1.2.2.2.2.1 (l.getD i.toNat dEv).1.2.2.2.2.2).2.2.2.2.1&& ((actP f x q (l.getD i.toNat dEv).1.1 (l.getD i.toNat dEv).1.2.1 (opC (l.getD i.toNat dEv).1) (l.getD i.toNat dEv).1.2.2.2.1 (l.getD i.toNat dEv).1.2.2.2.2.1 (l.getD i.toNat dEv).1.2.2.2.2.2).1.pos.2.2.2==(actP f x q (l.getD i.toNat dEv).1.1 (l.getD i.toNat dEv).1.2.1 (opC (l.getD i.toNat dEv).1) (l.getD i.toNat dEv).1.2.2.2.1 (l.getD i.toNat dEv).1.2.2.2.2.1 (l.getD i.toNat dEv).1.2.2.2.2.2).2.2.2.2.2&&true))))) (.leaf (.done (.bool false))) (.node (!v5 (actP f x q (l.getD i.toNat dEv).1.1 (l.getD i.toNat dEv).1.2.1 (opC (l.getD i.toNat dEv).1) (l.getD i.toNat dEv).1.2.2.2.1 (l.getD i.toNat dEv).1.2.2.2.2.1 (l.getD i.toNat dEv).1.2.2.2.2.2).1) (.leaf (.done (.bool false))) (.leaf (.at (j9 pP 13 0) 86 (j8 86 [(1,LE l),(2,.ptr 0 0),(9,.ptr 1 0),(10,I64 (i64.wrap (i+1)))]) [some (.cells (suC m c d g h cold)),some (.cells (plC ((actP f x q (l.getD i.toNat dEv).1.1 (l.getD i.toNat dEv).1.2.1 (opC (l.getD i.toNat dEv).1) (l.getD i.toNat dEv).1.2.2.2.1 (l.getD i.toNat dEv).1.2.2.2.2.1 (l.getD i.toNat dEv).1.2.2.2.2.2).1) ((actP f x q (l.getD i.toNat dEv).1.1 (l.getD i.toNat dEv).1.2.1 (opC (l.getD i.toNat dEv).1) (l.getD i.toNat dEv).1.2.2.2.1 (l.getD i.toNat dEv).1.2.2.2.2.1 (l.getD i.toNat dEv).1.2.2.2.2.2).2.1) ((actP f x q (l.getD i.toNat dEv).1.1 (l.getD i.toNat dEv).1.2.1 (opC (l.getD i.toNat dEv).1) (l.getD i.toNat dEv).1.2.2.2.1 (l.getD i.toNat dEv).1.2.2.2.2.1 (l.getD i.toNat dEv).1.2.2.2.2.2).2.2) true))])))) (.node (!v5 (actP f x q (l.getD i.toNat dEv).1.1 (l.getD i.toNat dEv).1.2.1 (opC (l.getD i.toNat dEv).1) (l.getD i.toNat dEv).1.2.2.2.1 (l.getD i.toNat dEv).1.2.2.2.2.1 (l.getD i.toNat dEv).1.2.2.2.2.2).1) (.leaf (.done (.bool false))) (.leaf (.at (j9 pP 13 0) 86 (j8 86 [(1,LE l),(2,.ptr 0 0),(9,.ptr 1 0),(10,I64 (i64.wrap (i+1)))]) [some (.cells (suC m c d g h cold)),some (.cells (plC ((actP f x q (l.getD i.toNat dEv).1.1 (l.getD i.toNat dEv).1.2.1 (opC (l.getD i.toNat dEv).1) (l.getD i.toNat dEv).1.2.2.2.1 (l.getD i.toNat dEv).1.2.2.2.2.1 (l.getD i.toNat dEv).1.2.2.2.2.2).1) ((actP f x q (l.getD i.toNat dEv).1.1 (l.getD i.toNat dEv).1.2.1 (opC (l.getD i.toNat dEv).1) (l.getD i.toNat dEv).1.2.2.2.1 (l.getD i.toNat dEv).1.2.2.2.2.1 (l.getD i.toNat dEv).1.2.2.2.2.2).2.1) ((actP f x q (l.getD i.toNat dEv).1.1 (l.getD i.toNat dEv).1.2.1 (opC (l.getD i.toNat dEv).1) (l.getD i.toNat dEv).1.2.2.2.1 (l.getD i.toNat dEv).1.2.2.2.2.1 (l.getD i.toNat dEv).1.2.2.2.2.2).2.2) true))]))))))) (.req (decide (0≤i)&&decide (i< (↑l.length:Int))) (.req (decide (0≤i)&&decide (i< (↑l.length:Int))) (.req (o7 x) (.req (o7 (qs6 x (l.getD i.toNat dEv).2.1 (l.getD i.toNat dEv).2.2)) (.req (o7 (qn4 f (qs6 x (l.getD i.toNat dEv).2.1 (l.getD i.toNat dEv).2.2))) (.node (q95 m c d g h cold) (.req (o7 (flPow (qn4 f (qs6 x (l.getD i.toNat dEv).2.1 (l.getD i.toNat dEv).2.2)))) (.req (shF (u9 m c d g h cold)) (.node (decide (rvE (u9 m c d g h cold) (flPow (qn4 f (qs6 x (l.getD i.toNat dEv).2.1 (l.getD i.toNat dEv).2.2)))=0)) (.node ((rvF (u9 m c d g h cold) (flPow (qn4 f (qs6 x (l.getD i.toNat dEv).2.1 (l.getD i.toNat dEv).2.2)))).homed) (.node (!((rvF (u9 m c d g h cold) (flPow (qn4 f (qs6 x (l.getD i.toNat dEv).2.1 (l.getD i.toNat dEv).2.2)))).pos.1==q.1&& ((rvF (u9 m c d g h cold) (flPow (qn4 f (qs6 x (l.getD i.toNat dEv).2.1 (l.getD i.toNat dEv).2.2)))).pos.2.1==q.2.1&& ((rvF (u9 m c d g h cold) (flPow (qn4 f (qs6 x (l.getD i.toNat dEv).2.1 (l.getD i.toNat dEv).2.2)))).pos.2.2.1==q.2.2.1&& ((rvF (u9 m c d g h cold) (flPow (qn4 f (qs6 x (l.getD i.toNat dEv).2.1 (l.getD i.toNat dEv).2.2)))).pos.2.2.2==q.2.2.2&&true))))) (.leaf (.done (.bool false))) (.node (!v5 (rvF (u9 m c d g h cold) (flPow (qn4 f (qs6 x (l.getD i.toNat dEv).2.1 (l.getD i.toNat dEv).2.2))))) (.leaf (.done (.bool false))) (.leaf (.at (j9 pP 13 0) 86 (j8 86 [(1,LE l),(2,.ptr 0 0),(9,.ptr 1 0),(10,I64 (i64.wrap (i+1)))]) [some (.cells (suC m c d g h cold)),some (.cells (plC (rvF (u9 m c d g h cold) (flPow (qn4 f (qs6 x (l.getD i.toNat dEv).2.1 (l.getD i.toNat dEv).2.2)))) (flPow (qn4 f (qs6 x (l.getD i.toNat dEv).2.1 (l.getD i.toNat dEv).2.2))) q true))])))) (.node (!v5 (rvF (u9 m c d g h cold) (flPow (qn4 f (qs6 x (l.getD i.toNat dEv).2.1 (l.getD i.toNat dEv).2.2))))) (.leaf (.done (.bool false))) (.leaf (.at (j9 pP 13 0) 86 (j8 86 [(1,LE l),(2,.ptr 0 0),(9,.ptr 1 0),(10,I64 (i64.wrap (i+1)))]) [some (.cells (suC m c d g h cold)),some (.cells (plC (rvF (u9 m c d g h cold) (flPow (qn4 f (qs6 x (l.getD i.toNat dEv).2.1 (l.getD i.toNat dEv).2.2)))) (flPow (qn4 f (qs6 x (l.getD i.toNat dEv).2.1 (l.getD i.toNat dEv).2.2))) q true))])))) (.node (!rvE (u9 m c d g h cold) (flPow (qn4 f (qs6 x (l.getD i.toNat dEv).2.1 (l.getD i.toNat dEv).2.2)))==0) (.leaf (.done (.bool false))) (.leaf (.done (.bool false))))))) (.req (o7 (flPow (qn4 f (qs6 x (l.getD i.toNat dEv).2.1 (l.getD i.toNat dEv).2.2)))) (.req true (.leaf (.done (.bool false))))))))))))) (.leaf (.done (.bool true)))
theorem xe1(m:Ma)(c d:Co)(g h:Gu)(cold:Int)(f:Fw)(x:Fl)(q:V4)(l:List EvT)(i:Int):w9 (Env.ofB pP (v6 [qa1,z65,z58,qf3,z30,qa7,z64,z66,qc3,qf0]) (d7 []) (d9 []) (d8 []) (x7 []) (x7 []) (x7 []) (x7 [])) 1000 (j7 pP 13) .unit (x8 86 [1,2,9,10]) (j9 pP 13 0) x78 (j8 86 [(1,LE l),(2,.ptr 0 0),(9,.ptr 1 0),(10,I64 i)]) [some (.cells (m.cells++(c.cells++(d.cells++(g.cells++(h.cells++[I64 cold])))))),some (.cells (plC f x q true))] =x79 m c d g h cold f x q l i:=by kernel_rfl
theorem kXE:Known pP (Env.ofB pP (v6 [qa1,z65,z58,qf3,z30,qa7,z64,z66,qc3,qf0]) (d7 []) (d9 []) (d8 []) (x7 []) (x7 []) (x7 []) (x7 [])):=
 hB (l:=[qa1,z65,z58,qf3,z30,qa7,z64,z66,qc3,qf0]) (k:=[]) (j:=[]) (i:=[]) [] [] [] [] ⟨yo3,yk8,yk1,yu7,yg6,yp2,yk7,yk9,yq9,yt8,trivial⟩ o4 o4 o4
section
variable {m:Ma} {c d:Co} {g h:Gu} {cold:Int} {l:List EvT}
theorem ya1(k:q95 m c d g h cold=true):Inv (u9 m c d g h cold) (flN 6) z4 0 none:=
 ⟨ya2 k,qQ1,rfl,fun q=>(Bool.false_ne_true q).elim,q91,fun r q=>(by cases q),fun q=>(Bool.false_ne_true q).elim,.empty rfl rfl⟩
theorem zU2{f:Fw}{x:Fl}{q:V4}{L:Int}{last:Option Rc}(k:q95 m c d g h cold=true)(a b:Int)(iv:Inv f x q L last)(hL:L+1≤1000000):rvE (u9 m c d g h cold) (zU1 f x a b)=0∧∃L' last',L'≤L+1∧Inv (rvF (u9 m c d g h cold) (zU1 f x a b)) (zU1 f x a b) q L' last':=by
 obtain⟨L',last',h1,j,fu,rc⟩:=qM3 a b iv hL
 obtain⟨e,i⟩:=qM6 (f:=u9 m c d g h cold) (ya2 k) rfl rfl (by show ¬(1:Int)=3;decide) iv.nr j fu rc
 exact⟨e,L',last',h1,i⟩
abbrev X1(m:Ma)(c d:Co)(g h:Gu)(cold:Int)(l:List EvT)(f:Fw)(x:Fl)(q:V4)(i:Int):Prop:=b8 pP (j7 pP 13) (.bool true) (j9 pP 13 0) (j8 86 [(1,LE l),(2,.ptr 0 0),(9,.ptr 1 0),(10,I64 i)]) [some (.cells (m.cells++(c.cells++(d.cells++(g.cells++(h.cells++[I64 cold])))))),some (.cells (plC f x q true))]
theorem qq9{mx:Int}(hs:qq7 l mx=true){i:Nat}(hi:i<l.length):(l.getD i dEv).1.2.2.2.1≤40:=(qq8.1 hs).1 i hi
theorem x77(k0:q95 m c d g h cold=true)(hs:qq7 l 30=true)(hf:∀y∈l,xS1.fits y):∀ (k i:Nat) (f:Fw) (x:Fl) (q:V4) (L:Int) (last:Option Rc),Inv f x q L last→L≤50*i→i+k=l.length→X1 m c d g h cold l f x q i
 |0,i,f,x,q,L,last,iv,hL,hi=>by
  refine w6 kXE (n:=1000) (hint:=.unit) (keep:=x8 86 [1,2,9,10]) (p:=x78) rfl ?_
  erw [xe1 m c d g h cold f x q l i]
  unfold x79
  exact o5 (fun a=>absurd a (by omega)) fun _=>rfl
 |k+1,i,f,x,q,L,last,iv,hL,hi=>by
  refine w6 kXE (n:=1000) (hint:=.unit) (keep:=x8 86 [1,2,9,10]) (p:=x78) rfl ?_
  erw [xe1 m c d g h cold f x q l i]
  unfold x79
  have ln:=(qq8.1 hs).2
  have t0:(i:Int).toNat=i:=by omega
  have w1:i64.wrap ((i:Int)+1)=((i+1:Nat):Int):=by rw[w64 (by omega) (by omega)];omega
  have n40:(l.getD i dEv).1.2.2.2.1≤40:=qq9 hs (by omega)
  have ff:xS1.fits (l.getD i dEv):=hf _ (by
   rw[List.getD_eq_getElem?_getD,List.getElem?_eq_getElem (by omega)];exact List.getElem_mem _)
  have nr:inR (l.getD i dEv).1.2.2.2.1 (-9223372036854775808) 90000=true:=v8.2 (by have:=x28 ff.1.2.2.2.1;omega)
  have bd:(decide (0≤(i:Int))&&decide ((i:Int)< (l.length:Int)))=true:=by rw[decide_eq_true (by omega),decide_eq_true (by omega)];rfl
  have vb:qM0 f x q=true:=qM1.2 ⟨L,last,by omega,iv⟩
  have nx:∀ (f:Fw) (x:Fl) (q:V4) (L':Int) (last':Option Rc),Inv f x q L' last'→L'≤L+42→X1 m c d g h cold l f x q (i64.wrap ((i:Int)+1)):=fun f x q L' last' iv hl=>by rw[w1];exact x77 k0 hs hf k (i+1) f x q L' last' iv (by omega) (by omega)
  rw[t0]
  generalize l.getD i dEv=ev at ff n40 nr ⊢
  have fx:=qQ0 iv.j
  have f1:=qs7 (n:=ev.2.1) (k:=ev.2.2) fx
  have f2:=qn7 (f:=f) f1
  have f3:=qs8 f2
  have vn:=ya2 k0
  obtain⟨LA,lastA,hA,iA⟩:=zi2 (kd:=ev.1.1) (nb:=ev.1.2.1) (c:=opC ev.1) (r:=ev.1.2.2.2.2.1) (s:=ev.1.2.2.2.2.2) iv (by omega) n40
  obtain⟨eU,LU,lastU,hU,iU⟩:=zU2 k0 ev.2.1 ev.2.2 iv (by omega)
  have gA:=nx _ _ _ _ _ iA hA
  have gU:=nx _ _ _ _ _ iU (by omega)
  unfold zU1 at eU iU gU
  refine o5 (fun a=>x6 bd (o5 (fun _=>x6 bd (x6 vb (x6 nr ?_))) fun _=>x6 bd (x6 bd (x6 fx (x6 f1 (x6 f2 (q85 k0 (x6 f3 (x6 (xv1 vn) (o5 (fun _=>?_) fun e=>absurd eU e)))))))))) fun a=>absurd (by omega) a
  ·generalize actP f x q ev.1.1 ev.1.2.1 (opC ev.1) ev.1.2.2.2.1 ev.1.2.2.2.2.1 ev.1.2.2.2.2.2=A at iA gA ⊢
   exact f9 (fun hh=>q84 (fun z=>absurd (xV4 (iA.hp hh)) (by rw[z];exact Bool.false_ne_true)) fun _=>q84 (fun z=>by rw[iA.v]at z;cases z) fun _=>⟨o8 _ _,gA⟩) fun _=>q84 (fun z=>by rw[iA.v]at z;cases z) fun _=>⟨o8 _ _,gA⟩
  ·generalize flPow (qn4 f (qs6 x ev.2.1 ev.2.2))=LL at iU gU ⊢
   exact f9 (fun hh=>q84 (fun z=>absurd (xV4 (iU.hp hh)) (by rw[z];exact Bool.false_ne_true)) fun _=>q84 (fun z=>by rw[iU.v]at z;cases z) fun _=>⟨o8 _ _,gU⟩) fun _=>q84 (fun z=>by rw[iU.v]at z;cases z) fun _=>⟨o8 _ _,gU⟩
theorem s_lawPExact(m:Ma)(c d:Co)(g h:Gu)(cold:Int)(l:List EvT)(hl:l.length≤maxLen)(hf:∀x∈l,xS1.fits x):SCall pP 13 [.agg (m.cells++(c.cells++(d.cells++(g.cells++(h.cells++[I64 cold]))))),LE l] (.bool true):=by
 refine m6 rfl rfl (by kernel_rfl) (w6 kXE (n:=1000) (hint:=.unit) (keep:=x8 86 [1,2,9,10]) (p:=x75) (boxes:=[]) rfl ?_)
 have q:=xe0 m c d g h cold l
 unfold v9 u7 at q
 erw [q]
 unfold x76
 exact f9 (fun k=>x6 (qV3.2 hl) (q84 (fun _=>rfl) fun s=>⟨o8 _ _,x77 k s hf l.length 0 _ (flN 6) z4 0 none (ya1 k) (by omega) (by omega)⟩)) fun _=>rfl
end
end Go.Proofs.YtnkaepnblikcdaaGreat
