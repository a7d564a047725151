/-
  Evaluator, contracts, plain law.
-/
import Derived.Still
import Derived.Below
import Derived.KernelRfl
import Derived.WalkKit
import Derived.Laws.CopyRow
import Derived.Lib.ConvBytes
import Derived.Lib.Strings
import Derived.Laws.BytesString
import Derived.Laws.BytesArg
import Derived.Laws.Append
import Derived.Great.FillDense
set_option maxRecDepth 100000
set_option linter.unusedVariables false
set_option linter.unusedSimpArgs false
open Go.IntKind (i64 u64 u8)
namespace Go.Sx
inductive Ty where
 |unit
 |int (k:IntKind)
 |bool
 |str
 |list (t:Ty)
 |pair (a b:Ty)
 deriving DecidableEq
def Ty.T:Ty->Type
 |.unit=>Unit
 |.int _=>Int
 |.bool=>Bool
 |.str=>List UInt8
 |.list t=>List t.T
 |.pair a b=>a.T×b.T
def Ty.sz:Ty->Nat
 |.unit=>0
 |.pair a b=>a.sz+b.sz
 |_=>1
def Ty.dflt:(t:Ty)->t.T
 |.unit=>()
 |.int _=>(0:Int)
 |.bool=>false
 |.str=>([] :List UInt8)
 |.list _=>[]
 |.pair a b=>(a.dflt,b.dflt)
inductive SV where
 |undef
 |top
 |int (k:IntKind) (n:Int)
 |bool (b:Bool)
 |str (s:List UInt8)
 |nilS
 |list (t:Ty) (l:List t.T)
 |row (id:Nat)
 |arr (id off n:Nat)
 |ptr (id off:Nat)
 |nilP
 |eptr (t:Ty) (l:List t.T) (i off:Nat)
 |rptr (id sz i off:Nat)
 |agg (cs:List SV)
 |tuple (vs:List SV)
 |fn (f:Nat) (first cap:List SV)
 |raw (v:Value)
def flat:(t:Ty)->t.T->List SV
 |.unit,_=>[]
 |.int k,n=>[.int k n]
 |.bool,b=>[.bool b]
 |.str,s=>[.str s]
 |.list t,l=>[.list t l]
 |.pair a b,x=>flat a x.1++flat b x.2
def unflat:(t:Ty)->List SV->Option (t.T×List SV)
 |.unit,cs=>some ((),cs)
 |.int k,cs=>match cs with
  |.int k' n::cs=>if k=k' then some (n,cs)else none
  |_=>none
 |.bool,cs=>match cs with
  |.bool b::cs=>some (b,cs)
  |_=>none
 |.str,cs=>match cs with
  |.str s::cs=>some (s,cs)
  |_=>none
 |.list t,cs=>match cs with
  |.list t' l::cs=>if h:t'=t then some (h▸l,cs)else none
  |.nilS::cs=>some ([],cs)
  |_=>none
 |.pair a b,cs=>match unflat a cs with
  |some (x,cs)=>match unflat b cs with
   |some (y,cs)=>some ((x,y),cs)
   |none=>none
  |none=>none
def xV4(t:Ty):Nat->List SV->Option (List t.T)
 |0,cs=>match cs with
  |[] =>some []
  |_=>none
 |n+1,cs=>match unflat t cs with
  |some (x,cs)=>match xV4 t n cs with
   |some l=>some (x::l)
   |none=>none
  |none=>none
inductive Box where
 |cells (cs:List SV)
 |rows (t:Ty) (l:List t.T)
 |iter (s:List UInt8) (pos:Nat)
 |obj (t:TypeId) (cs:List SV)
inductive Tb (β:Type) where
 |e
 |n (l:Tb β) (v:Option β) (r:Tb β)
def Tb.pick{V:Type}(j:Nat)(a b:Nat->V):V:=match Nat.beq (j % 2) 0 with
 |true=>a (j / 2)
 |false=>b (j / 2)
noncomputable def Tb.get{β:Type}(t:Tb β):Nat->Option β:=
 Tb.rec (motive:=λ_=>Nat->Option β) (λ_=>none) (λ_ v _ gl gr i=>Nat.casesOn (motive:=λ_=>Option β) i v λj=>Tb.pick j gl gr) t
structure Mem where
 next:Nat
 tb:Tb Box
structure Fr where
 size:Nat
 tb:Tb SV
noncomputable def Mem.get(m:Mem)(id:Nat):Option Box:=m.tb.get id
noncomputable def Fr.get(fr:Fr)(t:Nat):SV:=match fr.tb.get t with
 |some v=>v
 |none=>.undef
inductive Plan where
 |all
 |auto
 |lit (p:Plan)
 |fork (t f:Plan)
 |go (p:Plan)
 |stop
/-- So many. -/
def Plan.ln:Nat->Plan->Plan
 |0,p=>p
 |n+1,p=>.lit (Plan.ln n p)
theorem sL:(type_of% @false_iff)/\(type_of% @true_iff)/\(type_of% @iff_false)/\(type_of% @iff_true)/\(type_of% @Bool.not_eq_true')/\(type_of% @Bool.not_eq_false')/\(type_of% @Bool.not_eq_eq_eq_not)/\(type_of% @decide_eq_true_eq)/\(type_of% @decide_eq_false_iff_not)/\(type_of% @Bool.and_eq_true)/\(type_of% @Bool.and_eq_false_iff)/\(type_of% @Bool.or_eq_true)/\(type_of% @Bool.or_eq_false_iff)/\(type_of% @Bool.not_true)/\(type_of% @Bool.not_false)/\(type_of% @Bool.true_eq_false)/\(type_of% @Bool.false_eq_true)/\(type_of% @Bool.and_true)/\(type_of% @Bool.true_and)/\(type_of% @or_false)/\(type_of% @false_or)/\(type_of% @and_false)/\(type_of% @false_and)/\(type_of% @false_implies)/\(type_of% @true_implies)/\(type_of% @and_true)/\(type_of% @true_and)/\(type_of% @not_true_eq_false)/\(type_of% @not_false_eq_true)/\(type_of% @and_self):=
 ⟨@false_iff,@true_iff,@iff_false,@iff_true,@Bool.not_eq_true',@Bool.not_eq_false',@Bool.not_eq_eq_eq_not,@decide_eq_true_eq,@decide_eq_false_iff_not,@Bool.and_eq_true,@Bool.and_eq_false_iff,@Bool.or_eq_true,@Bool.or_eq_false_iff,@Bool.not_true,@Bool.not_false,@Bool.true_eq_false,@Bool.false_eq_true,@Bool.and_true,@Bool.true_and,@or_false,@false_or,@and_false,@false_and,@false_implies,@true_implies,@and_true,@true_and,@not_true_eq_false,@not_false_eq_true,@and_self⟩
theorem sLb{O:Type _}[BEq O][LawfulBEq O]{a b:O}:(a==b)=true↔a=b:=beq_iff_eq
theorem sLc{O:Type _}[BEq O][LawfulBEq O]{a b:O}:(a != b)=true↔a≠b:=bne_iff_ne
theorem sLd{O:Type _}[BEq O][LawfulBEq O]{a b:O}:(a==b)=false↔a≠b:=beq_eq_false_iff_ne
theorem sLe{O:Type _}[BEq O][LawfulBEq O]{a b:O}:(a != b)=false↔a=b:=bne_eq_false_iff_eq
theorem sLf(O:Sort _):(O->True)=True:=implies_true O
inductive Tree (O:Type) where
 |leaf (a:O)
 |node (b:Bool) (t f:Tree O)
 |req (b:Bool) (t:Tree O)
 |fail (code:Nat)
def Tree.holds{O:Type}(L:O->Prop):Tree O->Prop
 |.leaf a=>L a
 |.node b t f=>(b=true->t.holds L)/\(b=false->f.holds L)
 |.req b t=>b=true/\t.holds L
 |.fail _=>False
section
variable {O:Type}
def dec(p:Plan)(b:Bool)(k:Bool->Plan->Tree O):Tree O:=
 match p with
 |.all=>.node b (k true .all) (k false .all)
 |.auto=>match b with
  |true=>k true .auto
  |false=>k false .auto
 |.lit p=>match b with
  |true=>k true p
  |false=>k false p
 |.fork pt pf=>.node b (k true pt) (k false pf)
 |.go _=>.fail 1
 |.stop=>.fail 2
def frc(v:SV)(k:SV->Tree O):Tree O:=
 match v with
 |.undef=>k .undef
 |.top=>k .top
 |.int i n=>k (.int i n)
 |.bool b=>k (.bool b)
 |.str s=>k (.str s)
 |.nilS=>k .nilS
 |.list t l=>k (.list t l)
 |.row i=>k (.row i)
 |.arr i o n=>k (.arr i o n)
 |.ptr i o=>k (.ptr i o)
 |.nilP=>k .nilP
 |.eptr t l i o=>k (.eptr t l i o)
 |.rptr a z i o=>k (.rptr a z i o)
 |.agg cs=>k (.agg cs)
 |.tuple vs=>k (.tuple vs)
 |.fn f a c=>k (.fn f a c)
 |.raw v=>k (.raw v)
def qs4(n:Nat)(k:Nat->Tree O):Tree O:=
 match n with
 |0=>k 0
 |m+1=>k (m+1)
noncomputable def qs2(l:List SV):(List SV->Tree O)->Tree O:=
 List.rec (motive:=λ_=>(List SV->Tree O)->Tree O) (λk=>k []) (λx _ ih k=>frc x λx=>ih λxs=>k (x::xs)) l
noncomputable def nth{β:Type}(l:List β):Nat->Option β:=
 List.rec (motive:=λ_=>Nat->Option β) (λ_=>none) (λx _ ih n=>Nat.casesOn (motive:=λ_=>Option β) n (some x) ih) l
noncomputable def f8{β:Type}(d:Nat):Tb β->Nat->Option β->(Tb β->Tree O)->Tree O:=
 Nat.rec (motive:=λ_=>Tb β->Nat->Option β->(Tb β->Tree O)->Tree O) (λ_ _ _ _=>.fail 3)
  (λ_ ih t i v k=>match t with
    |.e=>Nat.casesOn (motive:=λ_=>Tree O) i (k (.n .e v .e)) λj=>Tb.pick j (λi=>ih .e i v λl=>k (.n l none .e)) (λi=>ih .e i v λr=>k (.n .e none r))
    |.n l u r=>Nat.casesOn (motive:=λ_=>Tree O) i (k (.n l v r)) λj=>Tb.pick j (λi=>ih l i v λl=>k (.n l u r)) (λi=>ih r i v λr=>k (.n l u r))) d
noncomputable def Mem.set(m:Mem)(id:Nat)(b:Option Box)(k:Mem->Tree O):Tree O:=f8 40 m.tb id b λtb=>k ⟨m.next,tb⟩
noncomputable def Mem.push(m:Mem)(b:Box)(k:Mem->Nat->Tree O):Tree O:=qs4 m.next λn=>f8 40 m.tb n (some b) λtb=>k ⟨n+1,tb⟩ n
noncomputable def Fr.set(fr:Fr)(t:Nat)(v:SV)(k:Fr->Tree O):Tree O:=match Nat.ble (t+1) fr.size with
 |true=>f8 40 fr.tb t (some v) λtb=>k ⟨fr.size,tb⟩
 |false=>.fail 5
noncomputable def Fr.make(size:Nat)(args:List SV):(Fr->Tree O)->Tree O:=
 List.rec (motive:=λ_=>Nat->Fr->(Fr->Tree O)->Tree O) (λ_ fr k=>k fr) (λx _ ih i fr k=>frc x λx=>fr.set i x λfr=>ih (i+1) fr k) args 0 ⟨size,.e⟩
noncomputable def yE1(cs:List SV):Nat->List SV->(List SV->Tree O)->Tree O:=
 List.rec (motive:=λ_=>Nat->List SV->(List SV->Tree O)->Tree O)
  (λ_ vs k=>match vs with|[] =>k [] |_::_=>.fail 6)
  (λc cs ih off vs k=>match vs with
    |[] =>k (c::cs)
    |v::vs=>Nat.casesOn (motive:=λ_=>Tree O) off (frc v λv=>ih 0 vs λys=>k (v::ys)) λoff=>ih off (v::vs) λys=>k (c::ys)) cs
noncomputable def xN4(cs:List SV):Nat->Nat->(List SV->Tree O)->Tree O:=
 List.rec (motive:=λ_=>Nat->Nat->(List SV->Tree O)->Tree O)
  (λ_ n k=>Nat.casesOn (motive:=λ_=>Tree O) n (k []) λ_=>.fail 4)
  (λc _ ih off n k=>Nat.casesOn (motive:=λ_=>Tree O) n (k []) λn=>Nat.casesOn (motive:=λ_=>Tree O) off (frc c λc=>ih 0 n λys=>k (c::ys)) λoff=>ih off (n+1) k) cs
end
def SV.cells:SV->List SV
 |.agg cs=>cs
 |v=>[v]
def SV.one:SV->Bool
 |.undef=>false
 |.top=>false
 |.agg _=>false
 |.tuple _=>false
 |.raw v=>match v with
  |.agg _=>false
  |.tuple _=>false
  |_=>true
 |_=>true
noncomputable def zm0(l:List SV):Bool:=List.rec (motive:=λ_=>Bool) true (λx _ ih=>match x.one with
 |true=>ih
 |false=>false) l
def yu2:Value->SV
 |.int k n=>.int k n
 |.bool b=>.bool b
 |.string s=>.str s.data.toList
 |.slice none 0 0=>.nilS
 |.pointer none=>.nilP
 |v=>.raw v
def yu5:Value->SV
 |.agg cs=>.agg (cs.toList.map yu2)
 |.func (.func f) a c=>match a.toList,c.toList with
  |[],[] =>.fn f [] []
  |_,_=>.raw (.func (.func f) a c)
 |v=>yu2 v
def xM0:SV->Option Value
 |.int k n=>some (.int k n)
 |.bool b=>some (.bool b)
 |.str s=>some (.string ⟨⟨s⟩⟩)
 |_=>none
def xM2:List SV->Option (List Value)
 |[] =>some []
 |x::xs=>match xM0 x,xM2 xs with
  |some v,some vs=>some (v::vs)
  |_,_=>none
def xM4:SV->Option Value
 |.agg cs=>match xM2 cs with
  |some vs=>some (.agg vs.toArray)
  |none=>none
 |v=>xM0 v
def qJ3:TypeDesc->Bool
 |.interface _=>true
 |_=>false
structure Row where
 desc:TypeDesc
 size:Nat
 bytes:Nat
 zero:List SV
 ty:Option Ty
 eqg:Bool
 held:Bool
inductive Ex where
 |ok (v:SV) (m:Mem)
 |pan (v:SV) (m:Mem)
structure Env where
 row:TypeId->Option Row
 fn:FuncId->Option Func
 sum:FuncId->Option (List SV->Option (Tree SV))
 wr:FuncId->Option (List SV->Mem->Option (Tree (SV×Mem)))
 rd:FuncId->Bool
 pn:FuncId->Option (List SV->Mem->Option (Tree Ex))
 cut:Nat->Bool
 typed:TypeId->Bool:=λ_=>false
 lst:FuncId->Bool:=λ_=>false
 zv:TypeId->Option Value:=λ_=>none
 bx:FuncId->Option (List SV->Box->Option (Tree (Bool×SV×Box))):=λ_=>none
 ow:FuncId->Option (List SV->Option (Tree (SV×Mem))):=λ_=>none
def Row.isAgg(r:Row):Bool:=match r.desc with
 |.struct _=>true
 |.array _ _=>true
 |_=>false
section
variable {O:Type} (E:Env)
abbrev r9(O:Type):=SV->Plan->Mem->Tree O
noncomputable def loadCells(r:Row)(cs:List SV)(off:Nat)(p:Plan)(m:Mem)(Z:r9 O):Tree O:=
 match r.isAgg with
 |true=>xN4 cs off r.size λys=>Z (.agg ys) p m
 |false=>match nth cs off with
  |some v=>frc v λv=>Z v p m
  |none=>.fail 10
noncomputable def yB0(t:TypeId)(a:SV)(p:Plan)(m:Mem)(Z:r9 O):Tree O:=
 match E.row t with
 |none=>.fail 11
 |some r=>match a with
  |.ptr id off=>match m.get id with
   |some (.cells cs)=>loadCells r cs off p m Z
   |some (.obj _ cs)=>loadCells r cs off p m Z
   |_=>.fail 12
  |.eptr u l i off=>loadCells r (flat u (l.getD i u.dflt)) off p m Z
  |.rptr id sz i off=>match m.get id with
   |some (.rows u l)=>match sz==u.sz with
    |true=>.req (decide (i<l.length)) (loadCells r (flat u (l.getD i u.dflt)) off p m Z)
    |false=>.fail 13
   |_=>.fail 13
  |_=>.fail 14
noncomputable def yC0(t:TypeId)(a v:SV)(p:Plan)(m:Mem)(Z:r9 O):Tree O:=
 match E.row t with
 |none=>.fail 15
 |some r=>match r.size==v.cells.length&&zm0 v.cells with
  |false=>.fail 16
  |true=>match a with
   |.ptr id off=>match m.get id with
    |some (.cells cs)=>yE1 cs off v.cells λcs=>m.set id (some (.cells cs)) λm=>Z .undef p m
    |some (.obj u cs)=>yE1 cs off v.cells λcs=>m.set id (some (.obj u cs)) λm=>Z .undef p m
    |_=>.fail 17
   |.rptr id sz i off=>match m.get id with
    |some (.rows u l)=>match sz==u.sz with
     |true=>.req (decide (i<l.length)) (yE1 (flat u (l.getD i u.dflt)) off v.cells λcs=>match unflat u cs with
      |some (x,[])=>m.set id (some (.rows u (l.set i x))) λm=>Z .undef p m
      |_=>.fail 18)
     |false=>.fail 19
    |_=>.fail 19
   |_=>.fail 20
noncomputable def zi9(a:SV)(n:Nat):Option SV:=
 match a with
 |.ptr id off=>some (.ptr id (off+n))
 |.eptr t l i off=>some (.eptr t l i (off+n))
 |.rptr id z i off=>some (.rptr id z i (off+n))
 |_=>none
noncomputable def yA1(s:TypeId)(a:SV)(f:Nat)(p:Plan)(m:Mem)(Z:r9 O):Tree O:=
 match E.row s with
 |some {desc:=.struct fs, ..}=>match fs[f]? with
  |some fd=>match E.row fd.type with
   |some r=>match r.size with
    |0=>.fail 21
    |_+1=>match zi9 a fd.offset with
     |some v=>frc v λv=>Z v p m
     |none=>.fail 22
   |none=>.fail 23
  |none=>.fail 24
 |_=>.fail 25
noncomputable def yJ4(t:TypeId)(cs:List SV)(off:Nat)(p:Plan)(m:Mem)(Z:r9 O):Tree O:=
 match E.row t with
 |some r=>loadCells r cs off p m Z
 |none=>.fail 26
noncomputable def yA0(s:TypeId)(x:SV)(f:Nat)(p:Plan)(m:Mem)(Z:r9 O):Tree O:=
 match E.row s with
 |some {desc:=.struct fs, ..}=>match fs[f]?,x with
  |some fd,.agg cs=>yJ4 E fd.type cs fd.offset p m Z
  |_,_=>.fail 27
 |_=>.fail 28
noncomputable def yA5(t:TypeId)(x ix:SV)(p:Plan)(m:Mem)(Z:r9 O):Tree O:=
 match ix with
 |.int _ i=>match E.row t with
  |some {desc:=.slice e, ..}=>match x with
   |.list u l=>match E.row e with
    |some r=>match r.size==u.sz with
     |true=>.req (decide (0<=i)&&decide (i<l.length)) (Z (.eptr u l i.toNat 0) p m)
     |false=>.fail 30
    |none=>.fail 31
   |.row id=>match m.get id with
    |some (.rows u l)=>match E.row e with
     |some r=>match r.size==u.sz with
      |true=>.req (decide (0<=i)&&decide (i<l.length)) (Z (.rptr id u.sz i.toNat 0) p m)
      |false=>.fail 32
     |none=>.fail 33
    |_=>.fail 34
   |.arr id off n=>match E.row e with
    |some r=>.req (decide (0<=i)&&decide (i<n)) (Z (.ptr id (off+i.toNat*r.size)) p m)
    |none=>.fail 35
   |_=>.fail 36
  |some {desc:=.array n e, ..}=>match E.row e with
   |some r=>match zi9 x (i.toNat*r.size)with
    |some v=>.req (decide (0<=i)&&decide (i<n)) (Z v p m)
    |none=>.fail 37
   |none=>.fail 38
  |_=>.fail 39
 |_=>.fail 40
noncomputable def yA4(t:TypeId)(x ix:SV)(p:Plan)(m:Mem)(Z:r9 O):Tree O:=
 match ix with
 |.int _ i=>match E.row t with
  |some {desc:=.string, ..}=>match x with
   |.str s=>.req (decide (0<=i)&&decide (i<s.length)) (Z (.int .u8 (s.getD i.toNat 0).toNat) p m)
   |_=>.fail 41
  |some {desc:=.array n e, ..}=>match x with
   |.agg cs=>match E.row e with
    |some r=>.req (decide (0<=i)&&decide (i<n)) (loadCells r cs (i.toNat*r.size) p m Z)
    |none=>.fail 42
   |_=>.fail 43
  |_=>.fail 44
 |_=>.fail 45
noncomputable def zT2.part(t:TypeId)(cs:List SV)(off:Nat):Option SV:=match E.row t with
 |some r=>if r.isAgg then(if off+r.size<=cs.length then some (.agg ((cs.drop off).take r.size))else none)else nth cs off
 |none=>none
noncomputable def zT2.go(eq:TypeId->SV->SV->Option Bool)(xs ys:List SV):List Field->Option Bool
 |[] =>some true
 |f::fs=>match zT2.part E f.type xs f.offset,zT2.part E f.type ys f.offset with
  |some a,some b=>match eq f.type a b,zT2.go eq xs ys fs with
   | some u, some v => if f.name = "_" then none else some (u && v)
   |_,_=>none
  |_,_=>none
noncomputable def zT2.goN(eq:TypeId->SV->SV->Option Bool)(e:TypeId)(r:Row)(xs ys:List SV):Nat->Nat->Option Bool
 |0,_=>some true
 |n+1,i=>match zT2.part E e xs (i*r.size),zT2.part E e ys (i*r.size)with
  |some a,some b=>match eq e a b,zT2.goN eq e r xs ys n (i+1)with
   |some u,some v=>some (u&&v)
   |_,_=>none
  |_,_=>none
def qG6:Value->Value->Option Bool
 |.nilIface,.nilIface=>some true
 |.nilIface,.iface _ _=>some false
 |.iface _ _,.nilIface=>some false
 |_,_=>none
noncomputable def zT2:Nat->TypeId->SV->SV->Option Bool
 |0,_,_,_=>none
 |d+1,t,x,y=>match E.row t with
  |some {desc:=.bool, ..}=>match x,y with
   |.bool a,.bool b=>some (a==b)
   |_,_=>none
  |some {desc:=.int _, ..}=>match x,y with
   |.int k a,.int k' b=>if k=k' then some (a==b)else none
   |_,_=>none
  |some {desc:=.string, ..}=>match x,y with
   |.str a,.str b=>some (a==b)
   |_,_=>none
  |some {desc:=.struct fs,held:=false, ..}=>match x,y with
   |.agg xs,.agg ys=>zT2.go E (zT2 d) xs ys fs.toList
   |_,_=>none
  |some {desc:=.array n e, ..}=>match x,y,E.row e with
   |.agg xs,.agg ys,some r=>zT2.goN E (zT2 d) e r xs ys n 0
   |_,_,_=>none
  |some {desc:=.interface _, ..}=>match x,y with
   |.raw a,.raw b=>qG6 a b
   |_,_=>none
  |_=>none
noncomputable def qI0(op:BinOp)(k:IntKind)(a b:Int):Option SV:=
 match op with
 |.add=>some (.int k (k.wrap (a+b)))
 |.sub=>some (.int k (k.wrap (a-b)))
 |.mul=>some (.int k (k.wrap (a*b)))
 |.and=>some (.int k (k.wrap (BitVec.ofInt k.bits a &&&BitVec.ofInt k.bits b).toNat))
 |.or=>some (.int k (k.wrap (BitVec.ofInt k.bits a |||BitVec.ofInt k.bits b).toNat))
 |.xor=>some (.int k (k.wrap (BitVec.ofInt k.bits a ^^^ BitVec.ofInt k.bits b).toNat))
 |.andNot=>some (.int k (k.wrap (BitVec.ofInt k.bits a &&& ~~~BitVec.ofInt k.bits b).toNat))
 |.eql=>some (.bool (a==b))
 |.neq=>some (.bool (a != b))
 |.lss=>some (.bool (decide (a<b)))
 |.leq=>some (.bool (decide (a<=b)))
 |.gtr=>some (.bool (decide (a>b)))
 |.geq=>some (.bool (decide (a>=b)))
 |_=>none
noncomputable def xL4(op:BinOp)(a b:List UInt8):Option SV:=
 match op with
 |.eql=>some (.bool (a==b))
 |.neq=>some (.bool (!(a==b)))
 |.lss=>some (.bool (Op.bytesLess a b))
 |.leq=>some (.bool (Op.bytesLess a b||a==b))
 |.gtr=>some (.bool (!(Op.bytesLess a b||a==b)))
 |.geq=>some (.bool (!(Op.bytesLess a b)))
 |_=>none
def q48:SV->SV->Option (Bool×Bool)
 |.nilS,.nilS=>some (true,true)
 |.list _ l,.nilS=>some (!l.isEmpty,false)
 |.arr _ _ _,.nilS=>some (true,false)
 |.raw v,.nilS=>match v with
  |.slice none _ _=>some (true,true)
  |.slice (some _) _ _=>some (true,false)
  |_=>none
 |_,_=>none
noncomputable def yy5(op:BinOp)(t:TypeId)(x y:SV)(p:Plan)(m:Mem)(Z:r9 O):Tree O:=
 match x,y with
 |.int k a,.int k' b=>match op with
  |.shl=>.req (decide (0<=b)) (Z (.int k (k.wrap (a*2 ^ (min b.toNat k.bits)))) p m)
  |.shr=>.req (decide (0<=b)) (Z (.int k (a.fdiv (2 ^ (min b.toNat k.bits)))) p m)
  |op=>if k=k' then match op with
   |.quo=>.req (!(b==0)) (Z (.int k (k.wrap (a.tdiv b))) p m)
   |.rem=>.req (!(b==0)) (Z (.int k (a.tmod b)) p m)
   |op=>match qI0 op k a b with
    |some v=>Z v p m
    |none=>.fail 50
   else .fail 51
 |.str a,.str b=>match op with
  |.add=>.req (decide (((a.length+b.length:Nat):Int)<=9223372036854775807)) (Z (.str (a++b)) p m)
  |op=>match xL4 op a b with
   |some v=>Z v p m
   |none=>.fail 52
 |x,y=>match q48 x y with
  |some rb=>match E.row t with
   |some {desc:=.slice _, ..}=>match op with
    |.eql=>.req rb.1 (Z (.bool rb.2) p m)
    |.neq=>.req rb.1 (Z (.bool (!rb.2)) p m)
    |_=>.fail 57
   |_=>.fail 58
  |none=>match E.row t with
   |some {eqg:=false, ..}=>match op with
    |.eql=>match zT2 E 100 t x y with
     |some b=>Z (.bool b) p m
     |none=>.fail 53
    |.neq=>match zT2 E 100 t x y with
     |some b=>Z (.bool (!b)) p m
     |none=>.fail 54
    |_=>.fail 55
   |_=>.fail 56
noncomputable def yC3(op:UnOp)(x:SV)(p:Plan)(m:Mem)(Z:r9 O):Tree O:=
 match op,x with
 |.neg,.int k n=>Z (.int k (k.wrap (0-n))) p m
 |.xor,.int k n=>Z (.int k (k.wrap (BitVec.ofInt k.bits (if k.signed then -1 else k.max) ^^^ BitVec.ofInt k.bits n).toNat)) p m
 |.not,.bool b=>Z (.bool (!b)) p m
 |_,_=>.fail 60
noncomputable def zy1(m:Mem):SV->Option (List UInt8)
 |.nilS=>some []
 |.list (.int .u8) l=>some ((l:List Int).map λn=>UInt8.ofNat n.toNat)
 |.row id=>match m.get id with
  |some (.rows (.int .u8) l)=>some ((l:List Int).map λn=>UInt8.ofNat n.toNat)
  |_=>none
 |.arr id off n=>match m.get id with
  |some (.cells cs)=>match xV4 (.int .u8) n ((cs.drop off).take (n*(Ty.int .u8).sz))with
   |some l=>some ((l:List Int).map λn=>UInt8.ofNat n.toNat)
   |none=>none
  |_=>none
 |_=>none
noncomputable def yz4(src dst:TypeId)(x:SV)(p:Plan)(m:Mem)(Z:r9 O):Tree O:=
 match E.row src,E.row dst with
 |some rs,some rd=>match rs.desc,rd.desc,x with
  |_,.int k,.int _ n=>Z (.int k (k.wrap n)) p m
  |_,.string,.str s=>Z (.str s) p m
  |.string,.slice e,.str s=>match E.row e with
   |some {desc:=.int .u8,size:=size, ..}=>match size==1 with
    |true=>m.push ((.rows (.int .u8) (s.map λb=>(b.toNat:Int)))) λm id=>Z (.row id) p m
    |false=>.fail 61
   |_=>.fail 61
  |.slice e,.string,x=>match E.row e with
   |some {desc:=.int .u8, ..}=>match zy1 m x with
    |some s=>Z (.str s) p m
    |none=>.fail 62
   |_=>.fail 63
  |_,_,_=>.fail 64
 |_,_=>.fail 65
noncomputable def yz8(x:SV)(i:Nat)(p:Plan)(m:Mem)(Z:r9 O):Tree O:=
 match x with
 |.tuple vs=>match nth vs i with
  |some v=>frc v λv=>Z v p m
  |none=>.fail 66
 |_=>.fail 67
def cut{V:Type}(l:List V)(lo hi:Option SV):Option (Bool×List V):=
 match lo,hi with
 |none,none=>some (true,l)
 |some (.int _ a),none=>some (decide (0<=a)&&decide (a<=l.length),l.drop a.toNat)
 |none,some (.int _ b)=>some (decide (0<=b)&&decide (b<=l.length),l.take b.toNat)
 |some (.int _ a),some (.int _ b)=>some (decide (0<=b)&&decide (b<=l.length)&&decide (0<=a)&&decide (a<=b),(l.take b.toNat).drop a.toNat)
 |_,_=>none
def zQ7:SV->Bool
 |.nilS=>true
 |.list _ _=>true
 |.row _=>true
 |_=>false
noncomputable def yB8(t:TypeId)(x:SV)(lo hi mx:Option SV)(p:Plan)(m:Mem)(Z:r9 O):Tree O:=
 match E.row t,mx with
 |some r,none=>match r.desc,x with
  |.string,.str s=>match cut s lo hi with
   |some bl=>.req bl.1 (Z (.str bl.2) p m)
   |none=>.fail 70
  |.slice e,.list u xs=>match E.row e with
   |some re=>match re.size==u.sz with
    |true=>match cut xs lo hi with
     |some bl=>.req bl.1 (Z (.list u bl.2) p m)
     |none=>.fail 71
    |false=>.fail 75
   |none=>.fail 76
  |.array n e,.ptr id off=>match E.row e,lo,hi with
   |some _,none,none=>Z (.arr id off n) p m
   |_,_,_=>.fail 72
  |_,_=>.fail 73
 |some r,some mx=>match r.desc,lo,hi,mx with
  |.slice e,none,some (.int _ h),.int _ c=>match E.row e with
   |some {ty:=some u,size:=size, ..}=>match size==u.sz&&zQ7 x with
    |true=>.req (h==0&&c==0) (m.push (.rows u []) λm id=>Z (.row id) p m)
    |false=>.fail 77
   |_=>.fail 78
  |_,_,_,_=>.fail 79
 |_,_=>.fail 74
noncomputable def zQ3(u:Ty)(m:Mem):SV->Option (List u.T)
 |.nilS=>some []
 |.list t l=>if h:t=u then some (h▸l)else none
 |.row id=>match m.get id with
  |some (.rows t l)=>if h:t=u then some (h▸l)else none
  |_=>none
 |.arr id off n=>match m.get id with
  |some (.cells cs)=>xV4 u n ((cs.drop off).take (n*u.sz))
  |_=>none
 |.str s=>if h:u=.int .u8 then some (h▸(s.map λb=>(b.toNat:Int):List Int))else none
 |.raw v=>match v with
  |.slice _ 0 _=>some []
  |_=>none
 |_=>none
noncomputable def yy2(t:TypeId)(s x:SV)(p:Plan)(m:Mem)(Z:r9 O):Tree O:=
 match E.row t with
 |some {desc:=.slice e, ..}=>match E.row e with
  |some {ty:=some u,bytes:=bytes,size:=size, ..}=>match size==u.sz&&Nat.ble 1 bytes with
   |true=>match zQ3 u m x with
    |some xs=>match s with
     |.nilS=>.req (decide (xs.length*bytes<=140737488355328)) (m.push ((.rows u xs)) λm id=>Z (.row id) p m)
     |.row id=>match m.get id with
      |some (.rows v l)=>if h:v=u then
        .req (decide ((l.length+xs.length)*bytes<=140737488355328)) (m.set id none λm=>m.push ((.rows u ((h▸l:List u.T)++xs))) λm id=>Z (.row id) p m)
       else .fail 80
      |_=>.fail 81
     |.arr id off n=>match zQ3 u m (.arr id off n)with
      |some l=>dec p xs.isEmpty λb p=>match b with
       |true=>Z (.arr id off n) p m
       |false=>.req (decide ((l.length+xs.length)*bytes<=140737488355328)) (m.push (.rows u (l++xs)) λm id=>Z (.row id) p m)
      |none=>.fail 87
     |_=>.fail 82
    |none=>.fail 83
   |false=>.fail 84
  |_=>.fail 85
 |_=>.fail 86
noncomputable def lenOf(m:Mem):SV->Option Nat
 |.nilS=>some 0
 |.list _ l=>some l.length
 |.row id=>match m.get id with
  |some (.rows _ l)=>some l.length
  |_=>none
 |.arr _ _ n=>some n
 |_=>none
noncomputable def yA8(t:TypeId)(x:SV)(p:Plan)(m:Mem)(Z:r9 O):Tree O:=
 match E.row t with
 |some r=>match r.desc with
  |.array n _=>Z (.int .i64 n) p m
  |.string=>match x with
   |.str s=>Z (.int .i64 s.length) p m
   |_=>.fail 87
  |.slice _=>match lenOf m x with
   |some n=>Z (.int .i64 n) p m
   |none=>.fail 88
  |_=>.fail 89
 |none=>.fail 90
def qV4:SV->List SV->Option SV
 |v,[] =>some v
 |.int k x,.int _ y::vs=>qV4 (.int k (if y>x then y else x)) vs
 |_,_=>none
def qX6:SV->List SV->Option SV
 |v,[] =>some v
 |.int k x,.int _ y::vs=>qX6 (.int k (if y<x then y else x)) vs
 |_,_=>none
noncomputable def yz6(t:TypeId)(d x:SV)(p:Plan)(m:Mem)(Z:r9 O):Tree O:=
 match E.row t with
 |some {desc:=.slice e, ..}=>match E.row e with
  |some {ty:=some u,size:=size, ..}=>match size==u.sz with
   |true=>match zQ3 u m x with
    |some xs=>match d with
     |.row id=>match m.get id with
      |some (.rows v l)=>if h:v=u then match x with
        |.str _=>.req (decide (xs.length<=l.length)&&!l.isEmpty) (m.set id (some (.rows u (xs++(h▸l:List u.T).drop xs.length))) λm=>Z (.int .i64 xs.length) p m)
        |_=>.req (xs.length==l.length&&!xs.isEmpty) (m.set id (some (.rows u xs)) λm=>Z (.int .i64 xs.length) p m)
       else .fail 190
      |_=>.fail 191
     |_=>.fail 192
    |none=>.fail 193
   |false=>.fail 194
  |_=>.fail 195
 |_=>.fail 196
noncomputable def yz1(b:Builtin)(ts:List TypeId)(vs:List SV)(p:Plan)(m:Mem)(Z:r9 O):Tree O:=
 match b,ts,vs with
 |.len,[t],[x] =>yA8 E t x p m Z
 |.append,[t,t1],[s,x] =>match E.row t1 with
  |some {desc:=.slice _, ..}=>yy2 E t s x p m Z
  |some {desc:=.string, ..}=>yy2 E t s x p m Z
  |_=>.fail 89
 |.copy,[t,_],[d,x] =>yz6 E t d x p m Z
 |.max,_,v::vs=>match qV4 v vs with
  |some v=>Z v p m
  |none=>.fail 91
 |.min,_,v::vs=>match qX6 v vs with
  |some v=>Z v p m
  |none=>.fail 92
 |_,_,_=>.fail 93
noncomputable def qo7(place:Nat->Option (Nat×Nat))(cs:List SV)(parts:List (Nat×SV)):(List SV->Tree O)->Tree O:=
 List.rec (motive:=λ_=>List SV->(List SV->Tree O)->Tree O) (λcs k=>k cs)
  (λx _ ih cs k=>match place x.1 with
    |some os=>match os.2==x.2.cells.length&&zm0 x.2.cells&&Nat.ble 1 os.2 with
     |true=>yE1 cs os.1 x.2.cells λcs=>ih cs k
     |false=>.fail 94
    |none=>.fail 95) parts cs
noncomputable def yM5(fs:List Field):Option (List (Nat×Nat)):=
 List.rec (motive:=λ_=>Option (List (Nat×Nat))) (some []) (λf _ ih=>match E.row f.type,ih with
  |some r,some l=>some ((f.offset,r.size)::l)
  |_,_=>none) fs
noncomputable def yy7(t:TypeId)(parts:List (Nat×SV))(p:Plan)(m:Mem)(Z:r9 O):Tree O:=
 match E.row t with
 |some r=>match r.desc with
  |.struct fs=>match yM5 E fs.toList with
   |some pl=>qo7 (λi=>nth pl i) r.zero parts λcs=>Z (.agg cs) p m
   |none=>.fail 95
  |.array _ e=>match E.row e with
   |some re=>qo7 (λi=>some (i*re.size,re.size)) r.zero parts λcs=>Z (.agg cs) p m
   |none=>.fail 96
  |_=>.fail 97
 |none=>.fail 98
noncomputable def yW4(z:List SV):Nat->List SV
 |0=>[]
 |n+1=>z++yW4 z n
noncomputable def yy8(t:TypeId)(n:Nat)(parts:List (Nat×SV))(p:Plan)(m:Mem)(Z:r9 O):Tree O:=
 match E.row t with
 |some {desc:=.slice e, ..}=>match E.row e with
  |some re=>match decide (n*re.size<=1000)&&decide (re.zero.length=re.size)with
   |true=>qo7 (λi=>some (i*re.size,re.size)) (yW4 re.zero n) parts λcs=>m.push ((.cells cs)) λm id=>Z (.arr id 0 n) p m
   |false=>.fail 99
  |none=>.fail 100
 |_=>.fail 101
noncomputable def yB2(t:TypeId)(len cap:SV)(p:Plan)(m:Mem)(Z:r9 O):Tree O:=
 match len,cap with
 |.int .i64 n,.int .i64 c=>match E.row t with
  |some {desc:=.slice e, ..}=>match E.row e with
   |some {ty:=some u,bytes:=bytes,size:=size, ..}=>match size==u.sz with
    |true=>.req (decide (0<=n)&&n==c&&decide (bytes*n<=140737488355328)&&decide (n<=9223372036854775807)) (m.push ((.rows u (List.replicate n.toNat u.dflt))) λm id=>Z (.row id) p m)
    |false=>.fail 102
   |_=>.fail 103
  |_=>.fail 104
 |_,_=>.fail 105
noncomputable def yB6(x:SV)(p:Plan)(m:Mem)(Z:r9 O):Tree O:=
 match x with
 |.str s=>m.push ((.iter s 0)) λm id=>Z (.ptr id 0) p m
 |_=>.fail 106
noncomputable def yB4(x:SV)(p:Plan)(m:Mem)(Z:r9 O):Tree O:=
 match x with
 |.ptr id 0=>match m.get id with
  |some (.iter s pos)=>dec p (decide (pos<s.length)) λb p=>match b with
   |true=>m.set id (some (.iter s (pos+(Utf8.decode ⟨⟨s⟩⟩ pos).2))) λm=>Z (.tuple [.bool true,.int .i64 pos,.int .i32 (Utf8.decode ⟨⟨s⟩⟩ pos).1]) p m
   |false=>Z (.tuple [.bool false]) p m
  |_=>.fail 107
 |_=>.fail 108
noncomputable def SV.data(v:SV):Bool:=
 SV.rec (motive_1:=λ_=>Bool) (motive_2:=λ_=>Bool) true false (λ_ _=>true) (λ_=>true) (λ_=>true) true (λ_ _=>true) (λ_=>false) (λ_ _ _=>false) (λ_ _=>false) true
  (λ_ _ _ _=>true) (λ_ _ _ _=>false) (λ_ ih=>ih) (λ_ ih=>ih) (λ_ _ _ a b=>match a with|true=>b|false=>false) (λ_=>true) true (λ_ _ a b=>match a with|true=>b|false=>false) v
noncomputable def f6(l:List SV):Bool:=List.rec (motive:=λ_=>Bool) true (λx _ ih=>match x.data with
 |true=>ih
 |false=>false) l
noncomputable def zk6(v:SV)(mc m:Mem)(k:SV->Mem->Mem->Tree O):Tree O:=
 match v with
 |.row id=>match mc.get id with
  |some (.rows t l)=>mc.set id none λmc=>m.push (.rows t l) λm id=>k (.row id) mc m
  |_=>.fail 112
 |v=>match v.data with
  |true=>k v mc m
  |false=>.fail 113
noncomputable def zk9(vs:List SV):Mem->Mem->(List SV->Mem->Mem->Tree O)->Tree O:=
 List.rec (motive:=λ_=>Mem->Mem->(List SV->Mem->Mem->Tree O)->Tree O) (λmc m k=>k [] mc m)
  (λx _ ih mc m k=>zk6 x mc m λv mc m=>ih mc m λvs mc m=>k (v::vs) mc m) vs
noncomputable def zk5(v:SV)(mc m:Mem)(k:SV->Mem->Tree O):Tree O:=
 match v with
 |.tuple vs=>zk9 vs mc m λvs _ m=>k (.tuple vs) m
 |.agg vs=>zk9 vs mc m λvs _ m=>k (.agg vs) m
 |v=>zk6 v mc m λv _ m=>k v m
noncomputable def zv6(m:Mem)(Z:r9 O):Tree SV->Plan->Tree O
 |.leaf v,p=>Z v p m
 |.node b t f,p=>dec p b λb p=>match b with
  |true=>zv6 m Z t p
  |false=>zv6 m Z f p
 |.req b t,p=>.req b (zv6 m Z t p)
 |.fail n,_=>.fail n
noncomputable def zv2(Z:r9 O):Tree (SV×Mem)->Plan->Tree O
 |.leaf x,p=>Z x.1 p x.2
 |.node b t f,p=>dec p b λb p=>match b with
  |true=>zv2 Z t p
  |false=>zv2 Z f p
 |.req b t,p=>.req b (zv2 Z t p)
 |.fail n,_=>.fail n
noncomputable def zv4(m:Mem)(Z:r9 O):Tree (SV×Mem)->Plan->Tree O
 |.leaf x,p=>zk5 x.1 x.2 m λv m=>Z v p m
 |.node b t f,p=>dec p b λb p=>match b with
  |true=>zv4 m Z t p
  |false=>zv4 m Z f p
 |.req b t,p=>.req b (zv4 m Z t p)
 |.fail n,_=>.fail n
noncomputable def zv8(Z:r9 O)(esc:SV->Mem->Tree O):Tree Ex->Plan->Tree O
 |.leaf x,p=>match x with
  |.ok v m=>Z v p m
  |.pan v m=>esc v m
 |.node b t f,p=>dec p b λb p=>match b with
  |true=>zv8 Z esc t p
  |false=>zv8 Z esc f p
 |.req b t,p=>.req b (zv8 Z esc t p)
 |.fail n,_=>.fail n
noncomputable def zv0(Z:SV->Plan->Box->Tree O):Tree (Bool×SV×Box)->Plan->Tree O
 |.leaf x,p=>match x.1 with
  |false=>Z x.2.1 p x.2.2
  |true=>.fail 177
 |.node b t f,p=>dec p b λb p=>match b with
  |true=>zv0 Z t p
  |false=>zv0 Z f p
 |.req b t,p=>.req b (zv0 Z t p)
 |.fail n,_=>.fail n
abbrev za4(O:Type):=FuncId->List SV->Plan->Mem->r9 O->Tree O
noncomputable def yz3(call:za4 O)(ev:Operand->SV)(c:Call)(p:Plan)(m:Mem)(Z:r9 O):Tree O:=
 match c.callee with
 |.builtin b=>yz1 E b c.argTypes.toList (c.args.toList.map ev) p m Z
 |.value f=>match ev f with
  |.fn k first cap=>call k (first++(c.args.toList.map ev++cap)) p m Z
  |_=>.fail 110
 |.invoke _ _=>.fail 111
noncomputable def execOp(call:za4 O)(ev:Operand->SV)(o:Op)(p:Plan)(m:Mem)(Z:r9 O):Tree O:=
 match o with
 |.move x=>frc (ev x) λv=>Z v p m
 |.assign x=>frc (ev x) λv=>Z v p m
 |.pick c a b=>match ev c with
  |.bool c=>dec p c λc p=>frc (match c with|true=>ev a|false=>ev b) λv=>Z v p m
  |_=>.fail 120
 |.alloc t=>match E.row t with
  |some r=>match E.typed t with
   |true=>qs2 r.zero λz=>m.push ((.obj t z)) λm id=>Z (.ptr id 0) p m
   |false=>qs2 r.zero λz=>m.push ((.cells z)) λm id=>Z (.ptr id 0) p m
  |none=>.fail 121
 |.box _ x=>match zm0 (ev x).cells with
  |true=>qs2 (ev x).cells λcs=>m.push (.cells cs) λm id=>Z (.ptr id 0) p m
  |false=>.fail 125
 |.build t parts=>yy7 E t (parts.toList.map λx=>(x.1,ev x.2)) p m Z
 |.buildSlice t n parts=>yy8 E t n (parts.toList.map λx=>(x.1,ev x.2)) p m Z
 |.load t a=>yB0 E t (ev a) p m Z
 |.store t a x=>yC0 E t (ev a) (ev x) p m Z
 |.nilCheck x=>match ev x with
  |.ptr i o=>Z (.ptr i o) p m
  |.eptr t l i o=>Z (.eptr t l i o) p m
  |.rptr a z i o=>Z (.rptr a z i o) p m
  |.fn f a c=>Z (.fn f a c) p m
  |_=>.fail 122
 |.binOp op t x y _=>yy5 E op t (ev x) (ev y) p m Z
 |.unOp op _ x=>yC3 op (ev x) p m Z
 |.convert s d x=>yz4 E s d (ev x) p m Z
 |.makeFunc (.func f) first cap=>Z (.fn f (first.toList.map ev) (cap.toList.map ev)) p m
 |.makeSlice t l c=>yB2 E t (ev l) (ev c) p m Z
 |.slice t x lo hi mx=>yB8 E t (ev x) (lo.map ev) (hi.map ev) (mx.map ev) p m Z
 |.fieldAddr s x f=>yA1 E s (ev x) f p m Z
 |.field s x f=>yA0 E s (ev x) f p m Z
 |.indexAddr t x i=>yA5 E t (ev x) (ev i) p m Z
 |.index t x i=>yA4 E t (ev x) (ev i) p m Z
 |.range t x=>match E.row t with
  |some {desc:=.string, ..}=>yB6 (ev x) p m Z
  |_=>.fail 126
 |.next x true=>yB4 (ev x) p m Z
 |.extract x i=>yz8 (ev x) i p m Z
 |.call c=>yz3 E call ev c p m Z
 |.makeInterface t x=>match E.row t with
  |some r=>match qJ3 r.desc with
   |false=>match xM4 (ev x)with
    |some v=>Z (.raw (.iface t v)) p m
    |none=>.fail 127
   |true=>.fail 128
  |none=>.fail 129
 |.typeAssert x _ t true=>match E.row t with
  |some r=>match qJ3 r.desc with
   |false=>match ev x with
    |.raw u=>match u with
     |.nilIface=>match E.zv t with
      |some z=>Z (.tuple [yu5 z,.bool false]) p m
      |none=>.fail 187
     |.iface t' v=>match Nat.beq t' t with
      |true=>Z (.tuple [yu5 v,.bool true]) p m
      |false=>.fail 182
     |_=>.fail 183
    |_=>.fail 183
   |true=>.fail 184
  |none=>.fail 185
 |_=>.fail 123
noncomputable def o8(fr:Fr):Operand->SV
 |.tmp t=>fr.get t
 |.const v=>yu5 v
 |.global g=>.raw (.pointer (some ⟨g,0,none⟩))
 |.func f=>.fn f [] []
noncomputable def yP4(fr:Fr)(d:Option Tmp)(v:SV)(k:Fr->Tree O):Tree O:=
 match d with
 |some d=>fr.set d v k
 |none=>k fr
noncomputable def quiet:Op->Bool
 |.move _|.assign _|.pick .. |.load .. |.nilCheck _|.binOp .. |.unOp .. |.fieldAddr .. |.field .. |.indexAddr .. |.index .. |.extract .. |.makeFunc .. |.build .. =>true
 |.slice _ _ _ _ none=>true
 |.convert _ d _=>match E.row d with
  |some {desc:=.slice _, ..}=>false
  |some _=>true
  |none=>false
 |.call {callee:=.builtin .len, ..}=>true
 |.call {callee:=.builtin .max, ..}=>true
 |.call {callee:=.builtin .min, ..}=>true
 |.call {callee:=.value _, ..}=>true
 |_=>false
noncomputable def yP0:Op->Bool
 |.move _|.assign _|.pick .. |.nilCheck _|.binOp .. |.unOp .. |.fieldAddr .. |.field .. |.index .. |.extract .. |.makeFunc .. |.build .. =>true
 |_=>false
noncomputable def xF1:Op->Bool
 |.indexAddr .. =>true
 |.call {callee:=.builtin .len, ..}=>true
 |_=>false
noncomputable def xW4:Op->Bool
 |.load .. =>true
 |.call {callee:=.value _, ..}=>true
 |_=>false
noncomputable def qJ7:Op->Bool
 |.store .. =>true
 |_=>false
noncomputable def qJ1:Op->Bool
 |.alloc _=>true
 |_=>false
noncomputable def x44(o:Op):Bool:=qJ7 o||qJ1 o
noncomputable def x27(al:Bool)(o:Op):Bool:=quiet E o&& (!al||(yP0 o||(xF1 o||xW4 o)))
noncomputable def x26(al:Bool)(o:Op):Bool:=yP0 o||(qJ7 o||(xF1 o&&!al))
noncomputable def x23(al:Bool)(l:List Oper):Bool:=
 List.rec (motive:=λ_=>Bool) true (λo os ih=>match x44 o.op with
  |true=>(qJ1 o.op==al)&&os.all λo=>x26 al o.op
  |false=>x27 E al o.op&&ih) l
noncomputable def zx4(all:List Oper):Nat->Oper->Nat->Bool
 |0,o,i=>o.after.toList.any λe=>Region.binds .any e&&Nat.beq e.on i
 |n+1,o,i=>zx4 all n o i||o.after.toList.any λe=>Region.binds .any e&&match nth all e.on with
  |some o'=>zx4 all n o' i
  |none=>false
noncomputable def x25(all:List Oper):Bool:=
 all.zipIdx.all λoj=>!qJ7 oj.1.op||all.zipIdx.all λoi=>!Nat.blt oi.2 oj.2||(yP0 oi.1.op||(xF1 oi.1.op||zx4 all 3 oj.1 oi.2))
noncomputable def x21(all:List Oper):Bool:=(x23 E false all||x23 E true all)&&x25 all
abbrev zc2(O:Type):=Plan->Fr->Mem->Tree O
noncomputable def yw5(let_:Op->Bool)(call:za4 O)(all:List Oper)(o:Oper)(ih:zc2 O)(p:Plan)(fr:Fr)(m:Mem):Tree O:=
 match o.guard with
 |none=>match let_ o.op with
  |true=>execOp E call (o8 fr) o.op p m λv p m=>yP4 fr o.dst v λfr=>ih p fr m
  |false=>.fail 133
 |some jw=>match nth all jw.1 with
  |some oj=>match oj.dst with
   |some d=>match fr.get d with
    |.bool b=>dec p b λb p=>fr.set d (.bool b) λfr=>match b==jw.2 with
     |true=>match let_ o.op with
      |true=>execOp E call (o8 fr) o.op p m λv p m=>yP4 fr o.dst v λfr=>ih p fr m
      |false=>.fail 133
     |false=>yP4 fr o.dst .undef λfr=>ih p fr m
    |.undef=>yP4 fr o.dst .undef λfr=>ih p fr m
    |_=>.fail 130
   |none=>.fail 131
  |none=>.fail 132
noncomputable def zU5(let_:Op->Bool)(call:za4 O)(all ops:List Oper)(k:zc2 O):zc2 O:=
 List.rec (motive:=λ_=>zc2 O) k (λo _ ih=>yw5 E let_ call all o ih) ops
noncomputable def yw8(call:za4 O)(esc:SV->Fr->Mem->Tree O)(all:List Oper)(o:Oper)(ih:zc2 O)(p:Plan)(fr:Fr)(m:Mem):Tree O:=
 match o.guard with
 |some _=>yw5 E (λ_=>true) call all o ih p fr m
 |none=>match o.op with
  |.panic x=>match o8 fr x with
   |.raw v=>match v with
    |.iface t v=>esc (.raw (.iface t v)) fr m
    |_=>.fail 171
   |_=>.fail 171
  |.call c=>match c.callee with
   |.value g=>match o8 fr g with
    |.fn f first cap=>match E.pn f with
     |some s=>match s (first++(c.args.toList.map (o8 fr)++cap)) m with
      |some t=>zv8 (λv p m=>yP4 fr o.dst v λfr=>ih p fr m) (λv m=>esc v fr m) t p
      |none=>.fail 172
     |none=>yw5 E (λ_=>true) call all o ih p fr m
    |_=>yw5 E (λ_=>true) call all o ih p fr m
   |_=>yw5 E (λ_=>true) call all o ih p fr m
  |_=>yw5 E (λ_=>true) call all o ih p fr m
noncomputable def zV0(call:za4 O)(esc:SV->Fr->Mem->Tree O)(all ops:List Oper)(k:zc2 O):zc2 O:=
 List.rec (motive:=λ_=>zc2 O) k (λo _ ih=>yw8 E call esc all o ih) ops
noncomputable def zB9(hint:Ty)(cs:List SV):Ty:=match hint with
 |.unit=>match cs with
  |.int k _::_=>.int k
  |.str _::_=>.str
  |.bool _::_=>.bool
  |_=>.unit
 |u=>u
noncomputable def qv5(hint:Ty)(m:Mem)(v:SV):SV:=match v with
 |.nilS=>match hint with
  |.unit=>.nilS
  |t=>.list t []
 |.row id=>match m.get id with
  |some (.rows t l)=>.list t l
  |_=>.row id
 |.arr id off n=>match m.get id with
  |some (.cells cs)=>match xV4 (zB9 hint (cs.drop off)) n ((cs.drop off).take (n*(zB9 hint (cs.drop off)).sz))with
   |some l=>.list (zB9 hint (cs.drop off)) l
   |none=>.arr id off n
  |_=>.arr id off n
 |v=>v
noncomputable def qv9(hint:Ty)(m:Mem):List SV->List SV
 |[] =>[]
 |x::xs=>qv5 hint m x::qv9 hint m xs
noncomputable def qv7(hint:Ty)(m:Mem)(v:SV):SV:=match v with
 |.agg cs=>.agg (qv9 hint m cs)
 |v=>qv5 hint m v
noncomputable def qw1(hint:Ty)(m:Mem):List SV->List SV
 |[] =>[]
 |x::xs=>qv7 hint m x::qw1 hint m xs
noncomputable def qv4(hint:Ty)(m:Mem)(v:SV):SV:=match v with
 |.tuple cs=>.tuple (qw1 hint m cs)
 |v=>qv7 hint m v
noncomputable def isW:Op->Bool
 |.store .. =>true
 |.alloc _=>true
 |.call {callee:=.builtin .append, ..}=>true
 |.call {callee:=.value f, ..}=>match f with
  |.func k=>(E.sum k).isNone
  |_=>true
 |_=>false
noncomputable def qA0:Op->Bool
 |.call {callee:=.value f, ..}=>match f with
  |.func k=>(E.wr k).isSome
  |_=>false
 |_=>false
noncomputable def qB4:Op->Ty
 |.buildSlice t _ _=>match E.row t with
  |some {desc:=.slice e, ..}=>match E.row e with
   |some r=>r.ty.getD .unit
   |none=>.unit
  |_=>.unit
 |_=>.unit
noncomputable def zC5(all:List Oper):Bool:=
 all.zipIdx.all λoj=>!isW E oj.1.op||all.zipIdx.all λoi=>!Nat.blt oi.2 oj.2||(!isW E oi.1.op||zx4 all 3 oj.1 oi.2)
noncomputable def yw6(call:za4 O)(o:Oper)(ih:zc2 O)(p:Plan)(fr:Fr)(m:Mem):Tree O:=
 match o.guard with
 |none=>match isW E o.op with
  |true=>execOp E call (o8 fr) o.op p m λv p m=>yP4 fr o.dst v λfr=>ih p fr m
  |false=>match yP0 o.op with
   |true=>execOp E call (o8 fr) o.op p m λv p _=>yP4 fr o.dst v λfr=>ih p fr m
   |false=>match f6 (o.op.operands.toList.map (o8 fr))with
    |true=>execOp E call (o8 fr) o.op p ⟨0,.e⟩ λv p mc=>match(qv4 (qB4 E o.op) mc v).data with
     |true=>frc (qv4 (qB4 E o.op) mc v) λv=>yP4 fr o.dst v λfr=>ih p fr m
     |false=>.fail 135
    |false=>.fail 136
 |some _=>.fail 137
noncomputable def zU6(call:za4 O)(ops:List Oper)(k:zc2 O):zc2 O:=
 List.rec (motive:=λ_=>zc2 O) k (λo _ ih=>yw6 E call o ih) ops
def idx:List Nat->Nat->Option Nat
 |[],_=>none
 |x::l,k=>match Nat.beq x k with
  |true=>some 0
  |false=>match idx l k with
   |some j=>some (j+1)
   |none=>none
def zi7(id:Nat)(l:List Nat):List Nat:=match idx l id with
 |some _=>l
 |none=>l++[id]
mutual
/-- The boxes that a value names, behind those of the list. -/
def qG1:SV->List Nat->List Nat
 |.row id,l=>zi7 id l
 |.arr id _ _,l=>zi7 id l
 |.ptr id _,l=>zi7 id l
 |.rptr id _ _ _,l=>zi7 id l
 |.agg cs,l=>qF8 cs l
 |.tuple cs,l=>qF8 cs l
 |.fn _ a b,l=>qF8 b (qF8 a l)
 |_,l=>l
def qF8:List SV->List Nat->List Nat
 |[],l=>l
 |x::xs,l=>qF8 xs (qG1 x l)
end
mutual
/-- Is the box mentioned? -/
def qX1(k:Nat):SV->Bool
 |.row id=>Nat.beq id k
 |.arr id _ _=>Nat.beq id k
 |.ptr id _=>Nat.beq id k
 |.rptr id _ _ _=>Nat.beq id k
 |.agg cs=>qX3 k cs
 |.tuple cs=>qX3 k cs
 |.fn _ a b=>qX3 k a||qX3 k b
 |_=>false
def qX3(k:Nat):List SV->Bool
 |[] =>false
 |x::xs=>qX1 k x||qX3 k xs
end
def qX2(k:Nat):Option Box->Bool
 |some (.cells cs)=>qX3 k cs
 |some (.obj _ cs)=>qX3 k cs
 |_=>false
mutual
/-- Nothing is mentioned that lies elsewhere, but rows. -/
def noRef:SV->Bool
 |.undef=>true
 |.top=>true
 |.int _ _=>true
 |.bool _=>true
 |.str _=>true
 |.nilS=>true
 |.nilP=>true
 |.row _=>true
 |.agg cs=>noRefL cs
 |.tuple cs=>noRefL cs
 |_=>false
def noRefL:List SV->Bool
 |[] =>true
 |x::xs=>noRef x&&noRefL xs
end
def Ty.flatT:Ty->Bool
 |.list _=>false
 |.pair a b=>a.flatT&&b.flatT
 |_=>true
def qq4:Box->Bool
 |.rows t _=>t.flatT
 |_=>false
def Tb.filt{β:Type}(f:β->Bool):Tb β->Tb β
 |.e=>.e
 |.n l v r=>.n (l.filt f) (match v with
  |some x=>match f x with
   |true=>some x
   |false=>none
  |none=>none) (r.filt f)
def Mem.flats(m:Mem):Mem:=⟨m.next,m.tb.filt qq4⟩
noncomputable def zn9(m:Mem)(v:SV):SV:=match v with
 |.row id=>match m.get id with
  |some (.rows t l)=>.list t l
  |_=>.row id
 |v=>v
noncomputable def Mem.only(m:Mem)(ids:List Nat):Mem->(Mem->Tree O)->Tree O:=
 List.rec (motive:=λ_=>Mem->(Mem->Tree O)->Tree O) (λmF k=>k mF) (λid _ ih mF k=>match m.get id with
  |some B=>mF.set id (some B) λmF=>ih mF k
  |none=>ih mF k) ids
noncomputable def Mem.patch(mF:Mem)(ids:List Nat):Mem->(Mem->Tree O)->Tree O:=
 List.rec (motive:=λ_=>Mem->(Mem->Tree O)->Tree O) (λm k=>k m) (λid _ ih m k=>m.set id (mF.get id) λm=>ih m k) ids
structure Rec where
 i:Nat
 rd:List Nat
 wt:List Nat
 g:Bool
def qz6(l:List Nat)(k:Nat):Bool:=l.any λx=>Nat.beq x k
def qV9(l k:List Nat):Bool:=l.any (qz6 k)
def Rec.conf(r s:Rec):Bool:=qV9 r.wt s.rd||(qV9 r.wt s.wt||(qV9 r.rd s.wt||(r.g&&s.g)))
noncomputable def yu8(all:List Oper)(o:Oper)(acc:List Rec)(s:Rec):Bool:=acc.all λr=>!r.conf s||zx4 all 3 o r.i
noncomputable def yV8(l:List Oper):Nat->Nat->List (Nat×Nat):=
 List.rec (motive:=λ_=>Nat->Nat->List (Nat×Nat)) (λ_ _=>[]) (λo _ ih i k=>match qJ1 o.op with
  |true=>(i,k)::ih (i+1) (k+1)
  |false=>ih (i+1) k) l
def qF3(refs:List (Nat×Nat))(i:Nat):Option Nat:=match refs with
 |[] =>none
 |x::l=>match Nat.beq x.1 i with
  |true=>some x.2
  |false=>qF3 l i
noncomputable def yw0(all:List Oper)(refs:List (Nat×Nat))(o:Oper)(i:Nat)(v:SV)(wt:List Nat)(bs:List (Option Box)):Bool:=
 refs.all λck=>!(qX1 ck.2 v||(qz6 wt ck.2||bs.any (qX2 ck.2)))||(Nat.beq ck.1 i||zx4 all 3 o ck.1)
abbrev zc3(O:Type):=List Rec->Plan->Fr->Mem->Tree O
noncomputable def qr4(ev:Operand->SV)(o:Op):List Nat:=match o with
 |.store _ a _=>qG1 (ev a) []
 |o=>qF8 (o.operands.toList.map ev) []
noncomputable def qr5(ev:Operand->SV)(o:Op):List Nat:=match yP0 o with
 |true=>[]
 |false=>qr4 ev o
noncomputable def qJ4:Op->Bool
 |.load .. =>true
 |_=>false
noncomputable def isG:Op->Bool
 |.buildSlice _ n parts=>match n,parts.toList with
  |0,[] =>true
  |_,_=>false
 |.call {callee:=.builtin .append, ..}=>true
 |.call {callee:=.value f, ..}=>match f with
  |.func k=>(E.sum k).isNone
  |_=>false
 |_=>false
noncomputable def qz9:Op->Bool
 |.call {callee:=.value f, ..}=>match f with
  |.func k=>E.rd k
  |_=>false
 |_=>false
noncomputable def qp2(refs:List (Nat×Nat))(all:List Oper)(o:Oper)(acc:List Rec)(ih:zc3 O)(v:SV)(p:Plan)(fr:Fr)(mN:Mem)(s:Rec):Tree O:=
 match yw0 all refs o s.i v s.wt (s.wt.map mN.get)&&yu8 all o acc s with
 |true=>yP4 fr o.dst v λfr=>ih (s::acc) p fr mN
 |false=>.fail 165
noncomputable def y65(call m9 zz3:za4 O)(refs:List (Nat×Nat))(all:List Oper)(i:Nat)(o:Oper)(ih:zc3 O)(acc:List Rec)(p:Plan)(fr:Fr)(m:Mem):Tree O:=
 match qJ1 o.op with
 |true=>match o.op with
  |.alloc t=>match qF3 refs i with
   |some k=>match(match o.guard with|none=>E.row t|some _=>none)with
    |some r=>qs2 r.zero λz=>m.set k (some (.cells z)) λmN=>qp2 refs all o acc ih (.ptr k 0) p fr mN ⟨i,[],[k],false⟩
    |none=>.fail 166
   |none=>.fail 167
  |_=>.fail 168
 |false=>match yP0 o.op||(xF1 o.op||qJ4 o.op)with
  |true=>m.only (qr5 (o8 fr) o.op) ⟨m.next,.e⟩ λmF=>execOp E m9 (o8 fr) o.op p mF λv p _=>qp2 refs all o acc ih v p fr m ⟨i,qr5 (o8 fr) o.op,[],false⟩
  |false=>match qJ7 o.op with
   |true=>m.only (qr4 (o8 fr) o.op) ⟨m.next,.e⟩ λmF=>execOp E m9 (o8 fr) o.op p mF λv p mF'=>Mem.patch mF' (qr4 (o8 fr) o.op) m λmN=>qp2 refs all o acc ih v p fr mN ⟨i,[],qr4 (o8 fr) o.op,false⟩
   |false=>match isG E o.op with
    |true=>m.only (qr4 (o8 fr) o.op) ⟨m.next,.e⟩ λmF=>execOp E zz3 (o8 fr) o.op p mF λv p mF'=>match qr4 (o8 fr) o.op++List.range' m.next (mF'.next-m.next)with
     |W=>Mem.patch mF' W ⟨mF'.next,m.tb⟩ λmN=>qp2 refs all o acc ih v p fr mN ⟨i,[],W,true⟩
    |false=>match f6 (o.op.operands.toList.map (o8 fr))with
     |true=>execOp E call (o8 fr) o.op p ⟨0,.e⟩ λv p mc=>match(qv4 (qB4 E o.op) mc v).data with
      |true=>frc (qv4 (qB4 E o.op) mc v) λv=>qp2 refs all o acc ih v p fr m ⟨i,[],[],false⟩
      |false=>.fail 135
     |false=>.fail 136
noncomputable def yw9(call m9 zz3:za4 O)(refs:List (Nat×Nat))(all:List Oper)(i:Nat)(o:Oper)(ih:zc3 O)(acc:List Rec)(p:Plan)(fr:Fr)(m:Mem):Tree O:=
 match o.guard with
 |none=>y65 E call m9 zz3 refs all i o ih acc p fr m
 |some jw=>match nth all jw.1 with
  |some oj=>match oj.dst with
   |some d=>match fr.get d with
    |.bool b=>dec p b λb p=>fr.set d (.bool b) λfr=>match b==jw.2 with
     |true=>y65 E call m9 zz3 refs all i o ih acc p fr m
     |false=>yP4 fr o.dst .undef λfr=>ih (⟨i,[],[],false⟩::acc) p fr m
    |.undef=>yP4 fr o.dst .undef λfr=>ih (⟨i,[],[],false⟩::acc) p fr m
    |_=>.fail 130
   |none=>.fail 131
  |none=>.fail 132
noncomputable def zV1(call m9 zz3:za4 O)(refs:List (Nat×Nat))(all ops:List Oper)(k:zc2 O):Nat->zc3 O:=
 List.rec (motive:=λ_=>Nat->zc3 O) (λ_ _ p fr m=>k p fr m) (λo _ ih i=>yw9 E call m9 zz3 refs all i o (ih (i+1))) ops
noncomputable def qJ5:Op->Bool
 |.call {callee:=.value f, ..}=>match f with
  |.func k=>E.lst k
  |_=>false
 |_=>false
noncomputable def qP1(all:List Oper):Bool:=
 all.zipIdx.all λoi=>Nat.beq (oi.2+1) all.length||all.zipIdx.any λoj=>Nat.blt oi.2 oj.2&&oj.1.after.toList.any λe=>Region.binds .any e&&Nat.beq e.on oi.2
noncomputable def zU8(m9 call:za4 O)(all ops:List Oper)(k:zc2 O):zc2 O:=
 List.rec (motive:=λ_=>zc2 O) k (λo rest ih=>match rest with
  |[] =>yw5 E (λ_=>true) call all o k
  |_::_=>yw5 E (quiet E) m9 all o ih) ops
noncomputable def qJ6:Op->Bool
 |.call {callee:=.value f, ..}=>match f with
  |.func k=>(E.pn k).isSome
  |_=>false
 |_=>false
noncomputable def yM7(l:List Oper):Nat->Option Nat:=
 List.rec (motive:=λ_=>Nat->Option Nat) (λ_=>none) (λo _ ih i=>match qJ6 E o.op with
  |true=>some i
  |false=>ih (i+1)) l
noncomputable def x19(c:Nat)(l:List Oper):Nat->List Nat->List Nat:=
 List.rec (motive:=λ_=>Nat->List Nat->List Nat) (λ_ acc=>acc) (λo _ ih i acc=>match Nat.beq i c||o.after.toList.any (λe=>Region.binds .any e&&qz6 acc e.on)with
  |true=>ih (i+1) (i::acc)
  |false=>ih (i+1) acc) l
noncomputable def zV4(m9:za4 O)(W:List Nat)(all ops:List Oper)(k:zc2 O):Nat->zc2 O:=
 List.rec (motive:=λ_=>Nat->zc2 O) (λ_=>k) (λo _ ih i=>match qz6 W i with
  |true=>ih (i+1)
  |false=>yw5 E (quiet E) m9 all o (ih (i+1))) ops
noncomputable def xS2(ops:List Oper):Fr->(Fr->Tree O)->Tree O:=
 List.rec (motive:=λ_=>Fr->(Fr->Tree O)->Tree O) (λfr k=>k fr) (λo _ ih fr k=>match o.dst with
  |some d=>fr.set d .top λfr=>ih fr k
  |none=>ih fr k) ops
noncomputable def yM9(fr:Fr)(m:Mem):Op->Option (Tree Ex)
 |.call c=>match c.callee with
  |.value g=>match g with
   |.func f=>match E.pn f with
    |some s=>s (c.args.toList.map (o8 fr)) m
    |none=>none
   |_=>none
  |_=>none
 |_=>none
inductive Out where
 |ret (p:Plan) (fr:Fr) (m:Mem)
 |stop (items:List Item) (fr:Fr) (m:Mem)
 |pan (v:SV) (fr:Fr) (m:Mem)
noncomputable def yX9(m:Mem)(fr:Fr)(r:ResultVar)(k:SV->Tree O):Tree O:=
 match r with
 |.tmp t=>frc (fr.get t) k
 |.cell a t=>yB0 E t (fr.get a) .auto m λv _ _=>k v
noncomputable def yX6(m:Mem)(fr:Fr)(rs:List ResultVar):(List SV->Tree O)->Tree O:=
 List.rec (motive:=λ_=>(List SV->Tree O)->Tree O) (λk=>k []) (λr _ ih k=>yX9 E m fr r λv=>ih λvs=>k (v::vs)) rs
noncomputable def results(fn:Func)(m:Mem)(fr:Fr)(k:SV->Tree O):Tree O:=
 yX6 E m fr fn.results.toList λvs=>match vs with
  |[v] =>k v
  |vs=>k (.tuple vs)
abbrev zb1(O:Type):=List Item->Plan->Fr->Mem->(Out->Tree O)->Tree O
noncomputable def zz8(ih:zb1 O):za4 O:=λf args p m k=>match E.fn f with
 |some fn=>match fn.body with
  | some body => match fn.name == "runtime.NumGoroutine" with
    |false=>match f6 (args.map (zn9 m))with
     |true=>Fr.make fn.ntmps (args.map (zn9 m)) λfr=>ih [.code body] p fr ⟨0,.e⟩ λo=>match o with
      |.ret p fr mc=>results E fn mc fr λv=>match noRef v with
       |true=>zk5 v mc.flats m λv m=>k v p m
       |false=>.fail 160
      |_=>.fail 142
     |false=>.fail 161
    |true=>.fail 143
  |none=>.fail 144
 |none=>.fail 145
noncomputable def zz0(ih:zb1 O):za4 O:=λf args p m k=>match E.fn f with
 |some fn=>match fn.body with
  | some body => match fn.name == "runtime.NumGoroutine" with
    |false=>match f6 args with
     |true=>Fr.make fn.ntmps args λfr=>ih [.code body] p fr ⟨0,.e⟩ λo=>match o with
      |.ret p fr mc=>results E fn mc fr λv=>zk5 v mc m λv m=>k v p m
      |_=>.fail 142
     |false=>.fail 162
    |true=>.fail 143
  |none=>.fail 144
 |none=>.fail 145
noncomputable def zz3(ih:zb1 O):za4 O:=λf args p m k=>match E.sum f with
 |some _=>.fail 163
 |none=>match E.wr f with
  |some _=>.fail 164
  |none=>match E.bx f with
   |some s=>match args with
    |.ptr id off::rest=>match Nat.beq off 0 with
     |true=>match m.get id with
      |some B=>match s rest B with
       |some t=>zv0 (λv p B'=>m.set id (some B') λm=>k v p m) t p
       |none=>.fail 178
      |none=>.fail 179
     |false=>.fail 179
    |_=>.fail 179
   |none=>match E.ow f with
    |some s=>match s args with
     |some t=>zv4 m k t p
     |none=>.fail 188
    |none=>match E.rd f with
     |true=>zz8 E ih f args p m k
     |false=>zz0 E ih f args p m k
noncomputable def zz5(ih:zb1 O):za4 O:=λf args p m k=>match E.sum f with
 |some s=>match s args with
  |some t=>zv6 m k t p
  |none=>.fail 141
 |none=>match E.wr f with
  |some s=>match s args m with
   |some t=>zv2 k t p
   |none=>.fail 155
  |none=>match E.ow f with
   |some s=>match s args with
    |some t=>zv4 m k t p
    |none=>.fail 189
   |none=>match E.rd f with
    |true=>zz8 E ih f args p m k
    |false=>match E.fn f with
     |some fn=>match fn.body with
      | some body => match fn.name == "runtime.NumGoroutine" with
        |false=>match f6 args&&!E.lst f with
         |true=>Fr.make fn.ntmps args λfr=>ih [.code body] p fr ⟨0,.e⟩ λo=>match o with
          |.ret p fr mc=>results E fn mc fr λv=>zk5 v mc m λv m=>k v p m
          |_=>.fail 142
         |false=>Fr.make fn.ntmps args λfr=>ih [.code body] p fr m λo=>match o with
          |.ret p fr m=>results E fn m fr λv=>k v p m
          |_=>.fail 142
        |true=>.fail 143
      |none=>.fail 144
     |none=>.fail 145
noncomputable def m9(ih:zb1 O):za4 O:=λf args p m k=>match E.sum f with
 |some s=>match s args with
  |some t=>zv6 m k t p
  |none=>.fail 141
 |none=>match E.fn f with
  |some fn=>match fn.body with
   | some body => match fn.name == "runtime.NumGoroutine" with
     |false=>match f6 args with
      |true=>Fr.make fn.ntmps args λfr=>ih [.code body] p fr ⟨0,.e⟩ λo=>match o with
       |.ret p fr mc=>results E fn mc fr λv=>match v.data with
        |true=>k v p m
        |false=>.fail 151
       |_=>.fail 142
      |false=>.fail 152
     |true=>.fail 143
   |none=>.fail 144
  |none=>.fail 145
noncomputable def xN1(ih:zb1 O)(ops:List Oper)(k:zc2 O)(p:Plan)(fr:Fr)(m:Mem):Tree O:=
 match yV8 ops 0 m.next with
 |refs=>zV1 E (zz5 E ih) (m9 E ih) (zz3 E ih) refs ops ops k 0 [] p fr ⟨m.next+refs.length,m.tb⟩
noncomputable def zE3(ih:zb1 O)(c:Code)(k:List Item)(p:Plan)(fr:Fr)(m:Mem)(Z:Out->Tree O):Tree O:=
 match c with
 |.skip=>ih k p fr m Z
 |.label _=>ih k p fr m Z
 |.region id ops draw=>match E.cut id with
  |true=>Z (.stop (.code (.region id ops draw)::k) fr m)
  |false=>match draw with
   |false=>zV0 E (zz5 E ih) (λv fr m=>Z (.pan v fr m)) ops.toList ops.toList (λp fr m=>ih k p fr m Z) p fr m
   |true=>match Region.lexB .any ops with
    |true=>match ops.toList.any (λo=>qJ5 E o.op)with
     |true=>match qP1 ops.toList with
      |true=>zU8 E (m9 E ih) (zz5 E ih) ops.toList ops.toList (λp fr m=>ih k p fr m Z) p fr m
      |false=>.fail 173
     |false=>match yM7 E ops.toList 0 with
      |some c=>match nth ops.toList c with
       |some o=>match o.guard with
        |none=>match x19 c ops.toList 0 []with
         |W=>zV4 E (m9 E ih) W ops.toList ops.toList (λp fr1 _=>match yM9 E fr1 m o.op with
          |some t=>zv8 (λ_ p _=>xN1 E ih ops.toList (λp fr m=>ih k p fr m Z) p fr m) (λv m'=>xS2 ops.toList fr λfr2=>Z (.pan v fr2 m')) t p
          |none=>.fail 175) 0 p fr m
        |some _=>.fail 174
       |none=>.fail 174
      |none=>match ops.toList.any (λo=>qA0 E o.op)with
       |true=>match zC5 E ops.toList with
        |true=>zU6 E (zz5 E ih) ops.toList (λp fr m=>ih k p fr m Z) p fr m
        |false=>.fail 133
       |false=>match x21 E ops.toList&&!ops.toList.any (λo=>qz9 E o.op)with
        |true=>zU5 E (λo=>quiet E o||x44 o) (m9 E ih) ops.toList ops.toList (λp fr m=>ih k p fr m Z) p fr m
        |false=>xN1 E ih ops.toList (λp fr m=>ih k p fr m Z) p fr m
    |false=>.fail 146
 |.seq a b=>ih (.code a::.code b::k) p fr m Z
 |.cond c x y=>match o8 fr c with
  |.bool b=>dec p b λb p=>match b with
   |true=>ih (.code x::k) p fr m Z
   |false=>ih (.code y::k) p fr m Z
  |_=>.fail 147
 |.block id b=>ih (.code b::.inBlock id::k) p fr m Z
 |.scope b=>ih (.code b::.inScope b::k) p fr m Z
 |.loop b=>match p with
  |.go p=>ih (.code b::.inLoop b::k) p fr m Z
  |.auto=>ih (.code b::.inLoop b::k) .auto fr m Z
  |_=>Z (.stop (.code (.loop b)::k) fr m)
 |.exit id=>match exitTo id k with
  |some k=>ih k p fr m Z
  |none=>.fail 148
 |.ret=>Z (.ret p fr m)
 |_=>.fail 149
noncomputable def xJ3(ih:zb1 O):zb1 O:=λitems p fr m Z=>
 match items with
 |[] =>Z (.ret p fr m)
 |.inBlock _::k=>ih k p fr m Z
 |.inScope _::k=>ih k p fr m Z
 |.inLoop b::k=>match p with
  |.go p=>ih (.code b::.inLoop b::k) p fr m Z
  |.auto=>ih (.code b::.inLoop b::k) .auto fr m Z
  |_=>Z (.stop (.inLoop b::k) fr m)
 |.code c::k=>zE3 E ih c k p fr m Z
 |.inRegion ops l::k=>match l with
  |[] =>ih k p fr m Z
  |i::_=>match decide (l=List.range' i (ops.size-i))with
   |true=>zV0 E (zz5 E ih) (λv fr m=>Z (.pan v fr m)) ops.toList (ops.toList.drop i) (λp fr m=>ih k p fr m Z) p fr m
   |false=>.fail 186
 |_=>.fail 150
noncomputable def exec(n:Nat):zb1 O:=
 Nat.rec (motive:=λ_=>zb1 O) (λ_ _ _ _ _=>.fail 140) (λ_ ih=>xJ3 E ih) n
noncomputable def zU3(n:Nat)(f:FuncId)(args:List SV)(p:Plan):Tree (SV×Mem):=
 match E.fn f with
 |some fn=>match fn.body with
  | some body => match fn.name == "runtime.NumGoroutine" with
    |false=>Fr.make fn.ntmps args λfr=>exec E n [.code body] p fr ⟨0,.e⟩ λo=>match o with
     |.ret _ fr m=>results E fn m fr λv=>.leaf (v,m)
     |_=>.fail 142
    |true=>.fail 143
  |none=>.fail 144
 |none=>.fail 145
end
def xT9.rep(u:Ty):Nat->Ty
 |0=>.unit
 |1=>u
 |n+1=>.pair u (xT9.rep u n)
def xT9.goF(ty:TypeId->Option Ty):List Field->Option Ty
 |[] =>some .unit
 |[f] =>ty f.type
 |f::fs=>match ty f.type,xT9.goF ty fs with
  |some a,some b=>some (.pair a b)
  |_,_=>none
def xT9.one:Option Ty->Option Ty
 |some (.int k)=>some (.pair (.int k) .unit)
 |u=>u
def xT9(P:Program):Nat->TypeId->Option Ty
 |0,_=>none
 |d+1,t=>match P.underlying t with
  |some .bool=>some .bool
  |some (.int k)=>some (.int k)
  |some .string=>some .str
  |some (.slice e)=>match xT9 P d e with
   |some u=>some (.list u)
   |none=>none
  |some (.struct fs)=>xT9.one (xT9.goF (xT9 P d) fs.toList)
  |some (.array n e)=>match xT9 P d e with
   |some u=>xT9.one (some (xT9.rep u n))
   |none=>none
  |_=>none
def zK8:Ty->List Value->Option (List Value)
 |.unit,vs=>some vs
 |.int k,vs=>match vs with
  |.int k' 0::vs=>if k=k' then some vs else none
  |_=>none
 |.bool,vs=>match vs with
  |.bool false::vs=>some vs
  |_=>none
 |.str,vs=>match vs with
  |.string ⟨⟨[]⟩⟩::vs=>some vs
  |_=>none
 |.list _,vs=>match vs with
  |.slice none 0 0::vs=>some vs
  |_=>none
 |.pair a b,vs=>match zK8 a vs with
  |some vs=>zK8 b vs
  |none=>none
def xT7(u:Option Ty)(vs:List Value):Option Ty:=
 match u with
 |some u=>match zK8 u vs with
  |some [] =>some u
  |_=>none
 |none=>none
def y58(P:Program)(t:TypeId):Option Row:=
 match P.underlying t,P.info? t with
 |some d,some i=>match i.zero with
  |some z=>some {desc:=d,size:=i.size,bytes:=i.bytes,zero:=z.cells.toList.map yu2,ty:=xT7 (xT9 P 20 t) z.cells.toList,eqg:=P.eqGuardType P.depth t,held:=P.stoodInHeld t}
  |none=>none
 |_,_=>none
noncomputable def Env.of(P:Program)(sum:FuncId->Option (List SV->Option (Tree SV))):Env:=
 {row:=y58 P,fn:=λf=>P.funcs[f]?,sum:=sum,wr:=λ_=>none,rd:=λ_=>false,pn:=λ_=>none,cut:=λ_=>false}
noncomputable def Env.ofW(P:Program)(sum:FuncId->Option (List SV->Option (Tree SV)))(wr:FuncId->Option (List SV->Mem->Option (Tree (SV×Mem)))):Env:=
 {row:=y58 P,fn:=λf=>P.funcs[f]?,sum:=sum,wr:=wr,rd:=λ_=>false,pn:=λ_=>none,cut:=λ_=>false}
noncomputable def Env.ofB(P:Program)(sum:FuncId->Option (List SV->Option (Tree SV)))(wr:FuncId->Option (List SV->Mem->Option (Tree (SV×Mem))))(pn:FuncId->Option (List SV->Mem->Option (Tree Ex)))(bx:FuncId->Option (List SV->Box->Option (Tree (Bool×SV×Box))))(typed:TypeId->Bool)(lst:FuncId->Bool)(rd:FuncId->Bool)(cut:Nat->Bool):Env:=
 {row:=y58 P,fn:=λf=>P.funcs[f]?,sum:=sum,wr:=wr,rd:=rd,pn:=pn,cut:=cut,typed:=typed,lst:=lst,bx:=bx,zv:=λt=>(P.info? t).bind λi=>i.zero}
noncomputable def Env.ofC(E:Env)(ow:FuncId->Option (List SV->Option (Tree (SV×Mem)))):Env:={E with ow:=ow}
open Go.RowKit
def Gnd(_:World):Prop:=True
def El8(_:TypeId):Prop:=True
class ElOK (P:Program):Prop where
 ok:∀e,P.underlying e=some (.int .u8)->P.cellsOf e=1->El8 e
instance (P:Program):ElOK P:=⟨λ_ _ _=>trivial⟩
variable{w w':World}
theorem Gnd.mono(_:Gnd w)(_:Below w.heap.size w w'):Gnd w':=trivial
theorem xU0{u:Option Ty}{k:IntKind}(h:xT9.one u=some (.int k)):False:=by
 unfold xT9.one at h
 split at h
 .cases h
 .rename_i h1
  exact h1 k h
variable{P:Program}
theorem xU1{k:IntKind}:∀{d:Nat} {t:TypeId},xT9 P d t=some (.int k)->P.underlying t=some (.int k)
 |0,t,h=>by cases h
 |d+1,t,h=>by
  unfold xT9 at h
  split at h
  all_goals first
   |(cases h;done)
   |(injection h with h;injection h with h;subst h;assumption)
   |exact(xU0 h).elim
   |(split at h<;>first|(cases h;done)|exact(xU0 h).elim)
theorem xT8{u:Option Ty}{vs:List Value}{t:Ty}(h:xT7 u vs=some t):u=some t:=by
 unfold xT7 at h
 split at h
 .split at h
  .exact h
  .cases h
 .cases h
theorem y59{t:TypeId}{r:Row}(h:y58 P t=some r)(h1:r.size=1):P.cellsOf t=1:=by
 unfold y58 at h
 split at h
 .rename_i d i hd hi
  split at h
  .injection h with h
   subst h;unfold Program.cellsOf;rw[hi];exact h1
  .cases h
 .cases h
theorem y61[ElOK P]{t:TypeId}{r:Row}(h:y58 P t=some r)(hk:r.ty=some (.int .u8)\/r.desc=.int .u8)(h1:r.size=1):El8 t:=by
 refine ElOK.ok (P:=P) t ?_ (y59 h h1);unfold y58 at h
 split at h
 .rename_i d i hd hi
  split at h
  .injection h with h
   subst h;rcases hk with hk|hk
   .exact xU1 (xT8 hk)
   .exact hd.trans (congrArg some hk)
  .cases h
 .cases h
open Go.RowKit
abbrev Rho:=Nat->Nat×Nat×Nat
def r8(R:Nat->Prop)(w:World):(t:Ty)->t.T->List Value->Prop
 |.unit,_,vs=>vs=[]
 |.int k,n,vs=>vs=[.int k n]
 |.bool,b,vs=>vs=[.bool b]
 |.str,s,vs=>vs=[.string ⟨⟨s⟩⟩]
 |.list t,l,vs=>∃ (a:Option Addr) (cap:Nat),vs=[.slice a (List.length l) cap] /\List.length l<=cap/\
   (0<List.length l->∃b o,a=some ⟨b,o,none⟩/\R b/\∀i (h:i<List.length l),∃cs:List Value,cs.length=t.sz/\
     (∀j,j<t.sz->w.cell? ⟨b,o+(i*t.sz+j),none⟩=cs[j]?)/\r8 R w t (List.get l ⟨i,h⟩) cs)
 |.pair a b,x,vs=>∃v1 v2,vs=v1++v2/\r8 R w a x.1 v1/\r8 R w b x.2 v2
def za9(R:Nat->Prop)(w:World)(t:Ty)(b o:Nat)(l:List t.T):Prop:=
 R b/\∀i (h:i<l.length),∃cs:List Value,cs.length=t.sz/\(∀j,j<t.sz->w.cell? ⟨b,o+(i*t.sz+j),none⟩=cs[j]?)/\r8 R w t l[i] cs
mutual
def Rep(R:Nat->Prop)(I:Rho)(n:Nat)(w:World):SV->Value->Prop
 |.undef,v=>v=Go.undef
 |.top,_=>True
 |.int k i,v=>v=.int k i
 |.bool b,v=>v=.bool b
 |.str s,v=>v=.string ⟨⟨s⟩⟩
 |.nilS,v=>v=.slice none 0 0
 |.list t l,v=>r8 R w (.list t) l [v]
 |.row id,v=>id<n/\∃a,v=.slice a (I id).2.1 (I id).2.2/\(0< (I id).2.2->a=some ⟨(I id).1,0,none⟩)
 |.arr id off k,v=>id<n/\v=.slice (some ⟨(I id).1,off,none⟩) k k
 |.ptr id off,v=>id<n/\v=.pointer (some ⟨(I id).1,off,none⟩)
 |.nilP,v=>v=.pointer none
 |.eptr t l i off,v=>∃b o,v=.pointer (some ⟨b,o+(i*t.sz+off),none⟩)/\i<l.length/\za9 R w t b o l
 |.rptr id sz i off,v=>id<n/\v=.pointer (some ⟨(I id).1,i*sz+off,none⟩)
 |.agg cs,v=>∃vs:List Value,v=.agg ⟨vs⟩/\j7 R I n w cs vs
 |.tuple cs,v=>∃vs:List Value,v=.tuple ⟨vs⟩/\j7 R I n w cs vs
 |.fn f first cap,v=>∃vs us:List Value,v=.func (.func f) ⟨vs⟩ ⟨us⟩/\j7 R I n w first vs/\j7 R I n w cap us
 |.raw u,v=>v=u
def j7(R:Nat->Prop)(I:Rho)(n:Nat)(w:World):List SV->List Value->Prop
 |[],vs=>vs=[]
 |c::cs,vs=>∃u us,vs=u::us/\Rep R I n w c u/\j7 R I n w cs us
end
structure Ext (R:Nat->Prop) (I:Rho) (n:Nat) (w:World) (R':Nat->Prop) (I':Rho) (n':Nat) (w':World):Prop where
 le:n<=n'
 same:∀id,id<n->I' id=I id
 keep:∀b,R b->R' b/\w'.heap[b]? =w.heap[b]?
theorem Ext.refl(R:Nat->Prop)(I:Rho)(n:Nat)(w:World):Ext R I n w R I n w:=⟨Nat.le_refl _,λ_ _=>rfl,λ_ h=>⟨h,rfl⟩⟩
variable{R R':Nat->Prop}{I:Rho}
theorem Ext.trans{R'':Nat->Prop}{I' I'':Rho}{n n' n'':Nat}{w'':World}(h:Ext R I n w R' I' n' w')(k:Ext R' I' n' w' R'' I'' n'' w''):Ext R I n w R'' I'' n'' w'':=
 ⟨Nat.le_trans h.le k.le,λid hid=>(k.same id (Nat.lt_of_lt_of_le hid h.le)).trans (h.same id hid),λb hb=>let ⟨h1,h2⟩:=h.keep b hb;let ⟨k1,k2⟩:=k.keep b h1;⟨k1,k2.trans h2⟩⟩
theorem zC0{a:Addr}(h:w'.heap[a.block]? =w.heap[a.block]?):w'.cell? a=w.cell? a:=by
 simp only[World.cell?,h]
theorem r8.mono(hk:∀b,R b->R' b/\w'.heap[b]? =w.heap[b]?):∀ (t:Ty) (x:t.T) (vs:List Value),r8 R w t x vs->r8 R' w' t x vs
 |.unit,_,_,h=>h
 |.int _,_,_,h=>h
 |.bool,_,_,h=>h
 |.str,_,_,h=>h
 |.list t,l,vs,h=>by
  obtain⟨a,cap,hvs,hc,hi⟩:=h;refine⟨a,cap,hvs,hc,λhp=>?_⟩;obtain⟨b,o,ha,hR,he⟩:=hi hp;refine⟨b,o,ha,(hk b hR).1,λi h=>?_⟩;obtain⟨cs,h1,h2,h3⟩:=he i h;exact⟨cs,h1,λj hj=>(zC0 (a:=⟨b,_,none⟩) (hk b hR).2).trans (h2 j hj),r8.mono hk t _ _ h3⟩
 |.pair a b,x,vs,h=>by
  obtain⟨v1,v2,hv,h1,h2⟩:=h;exact⟨v1,v2,hv,r8.mono hk a _ _ h1,r8.mono hk b _ _ h2⟩
variable{b:Nat}
theorem za9.mono(hk:∀b,R b->R' b/\w'.heap[b]? =w.heap[b]?){t:Ty}{o:Nat}{l:List t.T}(h:za9 R w t b o l):za9 R' w' t b o l:=
 ⟨(hk b h.1).1,λi hi=>by
   obtain⟨cs,h1,h2,h3⟩:=h.2 i hi
   exact⟨cs,h1,λj hj=>(zC0 (a:=⟨b,_,none⟩) (hk b h.1).2).trans (h2 j hj),r8.mono hk t _ _ h3⟩⟩
mutual
theorem Rep.mono{R R':Nat->Prop}{I I':Rho}{n n':Nat}{w w':World}(e:Ext R I n w R' I' n' w'):∀ (x:SV) (v:Value),Rep R I n w x v->Rep R' I' n' w' x v
 |.undef,_,h=>h
 |.top,_,_=>trivial
 |.int _ _,_,h=>h
 |.bool _,_,h=>h
 |.str _,_,h=>h
 |.nilS,_,h=>h
 |.list t l,v,h=>r8.mono e.keep (.list t) l [v] h
 |.row id,_,h=>⟨Nat.lt_of_lt_of_le h.1 e.le,by rw[e.same id h.1];exact h.2⟩
 |.arr id _ _,_,h=>⟨Nat.lt_of_lt_of_le h.1 e.le,by rw[e.same id h.1];exact h.2⟩
 |.ptr id _,_,h=>⟨Nat.lt_of_lt_of_le h.1 e.le,by rw[e.same id h.1];exact h.2⟩
 |.nilP,_,h=>h
 |.eptr t l i off,v,h=>by
  obtain⟨b,o,h1,h2,h3⟩:=h;exact⟨b,o,h1,h2,h3.mono e.keep⟩
 |.rptr id _ _ _,_,h=>⟨Nat.lt_of_lt_of_le h.1 e.le,by rw[e.same id h.1];exact h.2⟩
 |.agg cs,v,h=>by
  obtain⟨vs,h1,h2⟩:=h;exact⟨vs,h1,j7.mono e cs vs h2⟩
 |.tuple cs,v,h=>by
  obtain⟨vs,h1,h2⟩:=h;exact⟨vs,h1,j7.mono e cs vs h2⟩
 |.fn f first cap,v,h=>by
  obtain⟨vs,us,h1,h2,h3⟩:=h;exact⟨vs,us,h1,j7.mono e first vs h2,j7.mono e cap us h3⟩
 |.raw _,_,h=>h
theorem j7.mono{R R':Nat->Prop}{I I':Rho}{n n':Nat}{w w':World}(e:Ext R I n w R' I' n' w'):∀ (xs:List SV) (vs:List Value),j7 R I n w xs vs->j7 R' I' n' w' xs vs
 |[],_,h=>h
 |x::xs,vs,h=>by
  obtain⟨u,us,h1,h2,h3⟩:=h;exact⟨u,us,h1,Rep.mono e x u h2,j7.mono e xs us h3⟩
end
def xV6(arr:Array Value)(fr:Nat×Nat):Prop:=∀i,i<arr.size->¬(fr.1<=i/\i<fr.2)
def xV7(t:Ty)(e:TypeId)(arr:Array Value)(fr:Nat×Nat):Prop:=xV6 arr fr/\(t=.int .u8->El8 e)
def za2(R:Nat->Prop)(I:Rho)(n:Nat)(w:World)(r:Nat×Nat×Nat):Box->Prop
 |.cells cs=>∃arr e fr,w.heap[r.1]? =some (.cells arr e fr)/\xV6 arr fr/\j7 R I n w cs arr.toList
 |.rows t l=>l.length=r.2.1/\l.length<=r.2.2/\(0<r.2.2->∃arr e fr,w.heap[r.1]? =some (.cells arr e fr)/\xV7 t e arr fr/\arr.size=r.2.2*t.sz/\
   ∀i (h:i<l.length),∃cs:List Value,cs.length=t.sz/\(∀j,j<t.sz->arr[i*t.sz+j]? =cs[j]?)/\r8 R w t l[i] cs)
 |.iter s pos=>w.heap[r.1]? =some (.stringIter ⟨⟨s⟩⟩ pos)
 |.obj t cs=>∃arr,w.heap[r.1]? =some (.cells arr t (0,0))/\j7 R I n w cs arr.toList
def xG1(r:Nat×Nat×Nat):Box->Prop
 |.rows _ _=>0<r.2.2
 |_=>True
structure RSet where
 p:Nat->Prop
 keep:Nat->Option Obj
instance:CoeFun RSet (λ_=>Nat->Prop):=⟨RSet.p⟩
abbrev RSet.all(w:World):RSet:=⟨λb=>b<w.heap.size,λb=>w.heap[b]?⟩
def RO(w0:World)(R0:RSet)(I:Rho)(w:World)(m:Mem)(b:Nat):Prop:=
 (R0 b/\b<w0.heap.size)\/(w0.heap.size<=b/\b<w.heap.size/\(∀id B,m.get id=some B->xG1 (I id) B->(I id).1≠b)/\¬R0 b)
structure BelowG (B:Nat) (w w':World):Prop extends Below B w w' where
 gr:Gnd w
theorem BelowG.trans{B:Nat}{a b c:World}(h:BelowG B a b)(k:Below B b c):BelowG B a c:=⟨h.toBelow.trans k,h.gr⟩
abbrev RS(w0:World)(R0:RSet)(I:Rho)(w:World)(m:Mem):RSet:=⟨RO w0 R0 I w m,λb=>w.heap[b]?⟩
structure MRel (w0:World) (R0:RSet) (I:Rho) (w:World) (m:Mem):Prop where
 below:BelowG w0.heap.size w0 w
 lt:∀id B,m.get id=some B->id<m.next
 lo:∀id B,m.get id=some B->xG1 (I id) B->w0.heap.size<=(I id).1
 hi:∀id B,m.get id=some B->xG1 (I id) B->(I id).1<w.heap.size
 inj:∀id id' B B',m.get id=some B->m.get id'=some B'->xG1 (I id) B->xG1 (I id') B'->(I id).1=(I id').1->id=id'
 box:∀id B,m.get id=some B->za2 (RO w0 R0 I w m) I m.next w (I id) B
 hid:(∀b,R0 b->b<w.heap.size/\w.heap[b]? =R0.keep b)/\∀id B,m.get id=some B->xG1 (I id) B->¬R0 (I id).1
variable{w0:World}{R0:RSet}{m:Mem}
theorem MRel.gnd(h:MRel w0 R0 I w m):Gnd w:=h.below.gr.mono h.below.toBelow
abbrev b8(w0:World)(R0:RSet)(I:Rho)(w:World)(m:Mem)(I':Rho)(w':World)(m':Mem):Prop:=
 Ext (RO w0 R0 I w m) I m.next w (RO w0 R0 I' w' m') I' m'.next w'
theorem za2.mono{I':Rho}{n n':Nat}(e:Ext R I n w R' I' n' w'){r:Nat×Nat×Nat}(B:Box)(hh:xG1 r B->w'.heap[r.1]? =w.heap[r.1]?)(h:za2 R I n w r B):za2 R' I' n' w' r B:=by
 cases B with
 |cells cs=>
  obtain⟨arr,el,fr,h1,h2,h3⟩:=h;exact⟨arr,el,fr,(hh trivial).trans h1,h2,j7.mono e _ _ h3⟩
 |rows t l=>
  obtain⟨h0,h0',hp⟩:=h;refine⟨h0,h0',λhc=>?_⟩;obtain⟨arr,el,fr,h1,h2,h3,h4⟩:=hp hc;refine⟨arr,el,fr,(hh hc).trans h1,h2,h3,λi hi=>?_⟩;obtain⟨cs,k1,k2,k3⟩:=h4 i hi;exact⟨cs,k1,k2,r8.mono e.keep _ _ _ k3⟩
 |iter s pos=>exact(hh trivial).trans h
 |obj t cs=>
  obtain⟨arr,h1,h3⟩:=h;exact⟨arr,(hh trivial).trans h1,j7.mono e _ _ h3⟩
section
variable {β:Type}
theorem Tb.get_e(i:Nat):(Tb.e:Tb β).get i=none:=rfl
theorem Tb.get_n_zero(l:Tb β)(v:Option β)(r:Tb β):(Tb.n l v r).get 0=v:=rfl
theorem Tb.get_n_succ(l:Tb β)(v:Option β)(r:Tb β)(j:Nat):(Tb.n l v r).get (j+1)=Tb.pick j l.get r.get:=rfl
theorem Tb.pick_even{V:Type}{j:Nat}(h:j % 2=0)(a b:Nat->V):Tb.pick j a b=a (j / 2):=by simp[Tb.pick,h]
theorem Tb.pick_odd{V:Type}{j:Nat}(h:¬j % 2=0)(a b:Nat->V):Tb.pick j a b=b (j / 2):=by
 have:Nat.beq (j % 2) 0=false:=by
  rw[<-Bool.not_eq_true,Nat.beq_eq];exact h
 simp[Tb.pick,this]
def ze3(t:Tb β)(i:Nat)(v:Option β)(t':Tb β):Prop:=∀k,t'.get k=if k=i then v else t.get k
theorem qD0{O:Type}{L:O->Prop}:∀ (d:Nat) (t:Tb β) (i:Nat) (v:Option β) (k:Tb β->Tree O),(f8 d t i v k).holds L->∃t',ze3 t i v t'/\(k t').holds L
 |0,_,_,_,_,h=>h.elim
 |d+1,.e,0,v,k,h=>⟨_,λj=>by cases j with
   |zero=>simp[Tb.get_n_zero]
   |succ j=>rw[Tb.get_n_succ];by_cases hj:j % 2=0<;>simp[Tb.pick_even,Tb.pick_odd,hj,Tb.get_e],h⟩
 |d+1,.n l u r,0,v,k,h=>⟨_,λj=>by cases j with
   |zero=>simp[Tb.get_n_zero]
   |succ j=>simp[Tb.get_n_succ],h⟩
 |d+1,.e,i+1,v,k,h=>by
  change (Tb.pick i (λi=>f8 d .e i v λl=>k (.n l none .e)) (λi=>f8 d .e i v λr=>k (.n .e none r))).holds L at h
  by_cases hi:i % 2=0
  .rw[Tb.pick_even hi]at h
   obtain⟨t',h1,h2⟩:=qD0 d _ _ _ _ h;refine⟨_,λj=>?_,h2⟩
   cases j with
   |zero=>simp[Tb.get_n_zero,Tb.get_e]
   |succ j=>
    rw[Tb.get_n_succ]
    by_cases hj:j % 2=0
    .rw[Tb.pick_even hj,h1 (j / 2),Tb.get_e,Tb.get_e]
     have:j / 2=i / 2↔j+1=i+1:=by omega
     simp[this]
    .rw[Tb.pick_odd hj,Tb.get_e,Tb.get_e,if_neg (by omega)]
  .rw[Tb.pick_odd hi]at h
   obtain⟨t',h1,h2⟩:=qD0 d _ _ _ _ h;refine⟨_,λj=>?_,h2⟩
   cases j with
   |zero=>simp[Tb.get_n_zero,Tb.get_e]
   |succ j=>
    rw[Tb.get_n_succ]
    by_cases hj:j % 2=0
    .rw[Tb.pick_even hj,Tb.get_e,Tb.get_e,if_neg (by omega)]
    .rw[Tb.pick_odd hj,h1 (j / 2),Tb.get_e,Tb.get_e]
     have:j / 2=i / 2↔j+1=i+1:=by omega
     simp[this]
 |d+1,.n l u r,i+1,v,k,h=>by
  change (Tb.pick i (λi=>f8 d l i v λl=>k (.n l u r)) (λi=>f8 d r i v λr=>k (.n l u r))).holds L at h
  by_cases hi:i % 2=0
  .rw[Tb.pick_even hi]at h
   obtain⟨t',h1,h2⟩:=qD0 d _ _ _ _ h;refine⟨_,λj=>?_,h2⟩
   cases j with
   |zero=>simp[Tb.get_n_zero]
   |succ j=>
    rw[Tb.get_n_succ,Tb.get_n_succ]
    by_cases hj:j % 2=0
    .rw[Tb.pick_even hj,Tb.pick_even hj,h1 (j / 2)]
     have:j / 2=i / 2↔j+1=i+1:=by omega
     simp[this]
    .rw[Tb.pick_odd hj,Tb.pick_odd hj,if_neg (by omega)]
  .rw[Tb.pick_odd hi]at h
   obtain⟨t',h1,h2⟩:=qD0 d _ _ _ _ h;refine⟨_,λj=>?_,h2⟩
   cases j with
   |zero=>simp[Tb.get_n_zero]
   |succ j=>
    rw[Tb.get_n_succ,Tb.get_n_succ]
    by_cases hj:j % 2=0
    .rw[Tb.pick_even hj,Tb.pick_even hj,if_neg (by omega)]
    .rw[Tb.pick_odd hj,Tb.pick_odd hj,h1 (j / 2)]
     have:j / 2=i / 2↔j+1=i+1:=by omega
     simp[this]
end
section
variable {O:Type} {L:O->Prop}
theorem qs6(v:SV)(k:SV->Tree O):frc v k=k v:=by cases v<;>rfl
theorem qs5(n:Nat)(k:Nat->Tree O):qs4 n k=k n:=by cases n<;>rfl
theorem qs3:∀ (l:List SV) (k:List SV->Tree O),qs2 l k=k l
 |[],_=>rfl
 |x::xs,k=>by
  change frc x (λx=>qs2 xs λxs=>k (x::xs))=_
  rw[qs6,qs3 xs]
theorem q60{β:Type}:∀ (l:List β) (n:Nat),nth l n=l[n]?
 |[],n=>by simp[nth]
 |x::xs,0=>rfl
 |x::xs,n+1=>by
  change nth xs n=_
  rw[q60 xs n];simp
theorem zK3{p:Plan}{b:Bool}{k:Bool->Plan->Tree O}(h:(dec p b k).holds L):∃p',(k b p').holds L:=by
 cases p with
 |all=>cases b with
  |false=>exact⟨_,h.2 rfl⟩
  |true=>exact⟨_,h.1 rfl⟩
 |fork pt pf=>cases b with
  |false=>exact⟨_,h.2 rfl⟩
  |true=>exact⟨_,h.1 rfl⟩
 |auto=>cases b<;>exact⟨_,h⟩
 |lit p=>cases b<;>exact⟨_,h⟩
 |go p=>exact h.elim
 |stop=>exact h.elim
def yD5(cs:List SV)(off:Nat)(vs:List SV):List SV:=cs.take off++vs++cs.drop (off+vs.length)
theorem overK_holds:∀ (cs:List SV) (off:Nat) (vs:List SV) (k:List SV->Tree O),(yE1 cs off vs k).holds L->(vs=[] /\(k cs).holds L)\/(off+vs.length<=cs.length/\(k (yD5 cs off vs)).holds L)
 |[],off,[],k,h=>.inl ⟨rfl,h⟩
 |[],off,_::_,k,h=>h.elim
 |c::cs,off,[],k,h=>.inl ⟨rfl,h⟩
 |c::cs,0,v::vs,k,h=>by
  change (frc v λv=>yE1 cs 0 vs λys=>k (v::ys)).holds L at h
  rw[qs6]at h;rcases overK_holds cs 0 vs _ h with⟨rfl,h1⟩|⟨h1,h2⟩
  .exact .inr ⟨by simp,by simpa[yD5]using h1⟩
  .exact .inr ⟨by simp at h1 ⊢;omega,by simpa[yD5,Nat.add_comm]using h2⟩
 |c::cs,off+1,v::vs,k,h=>by
  change (yE1 cs off (v::vs) λys=>k (c::ys)).holds L at h
  rcases overK_holds cs off (v::vs) _ h with⟨h0,_⟩|⟨h1,h2⟩
  .cases h0
  .refine .inr ⟨by simp at h1 ⊢;omega,?_⟩
   have e:yD5 (c::cs) (off+1) (v::vs)=c::yD5 cs off (v::vs):=by
    unfold yD5;rw[show off+1+(v::vs).length=(off+(v::vs).length)+1 from by omega];simp only[List.take_succ_cons,List.drop_succ_cons,List.cons_append]
   rw[e];exact h2
theorem takeK_holds:∀ (cs:List SV) (off n:Nat) (k:List SV->Tree O),(xN4 cs off n k).holds L->(n=0/\(k []).holds L)\/(off+n<=cs.length/\(k ((cs.drop off).take n)).holds L)
 |[],off,0,k,h=>.inl ⟨rfl,h⟩
 |[],off,n+1,k,h=>h.elim
 |c::cs,off,0,k,h=>.inl ⟨rfl,h⟩
 |c::cs,0,n+1,k,h=>by
  change (frc c λc=>xN4 cs 0 n λys=>k (c::ys)).holds L at h
  rw[qs6]at h;rcases takeK_holds cs 0 n _ h with⟨rfl,h1⟩|⟨h1,h2⟩
  .exact .inr ⟨by simp,by simpa using h1⟩
  .exact .inr ⟨by simp at h1 ⊢;omega,by simpa using h2⟩
 |c::cs,off+1,n+1,k,h=>by
  change (xN4 cs off (n+1) k).holds L at h
  rcases takeK_holds cs off (n+1) _ h with⟨h0,_⟩|⟨h1,h2⟩
  .cases h0
  .exact .inr ⟨by simp at h1 ⊢;omega,by simpa using h2⟩
end
open Go.RowKit
theorem MRel.size_le(h:MRel w0 R0 I w m):w0.heap.size<=w.heap.size:=h.below.size
theorem MRel.ro_lt(h:MRel w0 R0 I w m)(hb:RO w0 R0 I w m b):b<w.heap.size:=by
 rcases hb with⟨_,h1⟩|⟨_,h1,_⟩
 .have:=h.size_le;omega
 .exact h1
variable{id:Nat}{B:Box}
theorem MRel.ro_ne(h:MRel w0 R0 I w m)(hb:RO w0 R0 I w m b)(hid:m.get id=some B)(hs:xG1 (I id) B):(I id).1≠b:=by
 rcases hb with⟨_,h1⟩|⟨_,_,h1,_⟩
 .have:=h.lo id B hid hs;omega
 .exact h1 id B hid hs
theorem MRel.sameHeap(h:MRel w0 R0 I w m)(hh:w'.heap=w.heap)(ho:w'.os=w.os)(ht:w'.tape=w.tape)(hp:w'.output=w.output):
  MRel w0 R0 I w' m/\b8 w0 R0 I w m I w' m:=by
 have hro:∀b,RO w0 R0 I w' m b↔RO w0 R0 I w m b:=λb=>by simp only[RO,hh]
 have e:b8 w0 R0 I w m I w' m:=⟨Nat.le_refl _,λ_ _=>rfl,λb hb=>⟨(hro b).2 hb,by rw[hh]⟩⟩;refine⟨⟨⟨⟨by rw[ho,h.below.os],by rw[ht,h.below.tape],by rw[hp,h.below.output],by rw[hh];exact h.below.size,λk hk=>by rw[hh];exact h.below.block k hk⟩,h.below.gr⟩,h.lt,h.lo,by rw[hh];exact h.hi,h.inj,λid B hB=>?_,by rw[hh];exact h.hid⟩,e⟩;exact za2.mono e B (λ_=>by rw[hh]) (h.box id B hB)
theorem MRel.drew(h:MRel w0 R0 I w m):MRel w0 R0 I w.drew m/\b8 w0 R0 I w m I w.drew m:=h.sameHeap rfl rfl rfl rfl
def upd(I:Rho)(id:Nat)(r:Nat×Nat×Nat):Rho:=λk=>if k=id then r else I k
theorem t9(I:Rho)(id:Nat)(r:Nat×Nat×Nat):upd I id r id=r:=by simp[upd]
theorem t7(I:Rho){k:Nat}(r:Nat×Nat×Nat)(h:k≠id):upd I id r k=I k:=by simp[upd,h]
def zc0(m:Mem)(id:Nat)(b:Option Box)(m':Mem):Prop:=(∀k,m'.get k=if k=id then b else m.get k)/\m'.next=m.next
def zb9(m:Mem)(B:Box)(m':Mem):Prop:=(∀k,m'.get k=if k=m.next then some B else m.get k)/\m'.next=m.next+1
def Up(m m2:Mem):Prop:=∀id B,m.get id=some B->m2.get id=some B
theorem Up.refl(m:Mem):Up m m:=λ_ _ h=>h
def Box.like:Box->Box->Prop
 |.cells a,.cells b=>a.length=b.length
 |.rows u l,.rows u' l'=>u=u'/\l.length=l'.length
 |.iter _ _,.iter _ _=>True
 |.obj t a,.obj u b=>t=u/\a.length=b.length
 |_,_=>False
theorem Box.like_refl:∀B:Box,B.like B
 |.cells _=>rfl
 |.rows _ _=>⟨rfl,rfl⟩
 |.iter _ _=>trivial
 |.obj _ _=>⟨rfl,rfl⟩
theorem Box.like_symm:∀{B C:Box},B.like C->C.like B
 |.cells _,.cells _,h=>Eq.symm h
 |.rows _ _,.rows _ _,h=>⟨h.1.symm,h.2.symm⟩
 |.iter _ _,.iter _ _,_=>trivial
 |.obj _ _,.obj _ _,h=>⟨h.1.symm,h.2.symm⟩
theorem Box.like_trans:∀{B C D:Box},B.like C->C.like D->B.like D
 |.cells _,.cells _,.cells _,h,k=>Eq.trans h k
 |.rows _ _,.rows _ _,.rows _ _,h,k=>⟨h.1.trans k.1,h.2.trans k.2⟩
 |.iter _ _,.iter _ _,.iter _ _,_,_=>trivial
 |.obj _ _,.obj _ _,.obj _ _,h,k=>⟨h.1.trans k.1,h.2.trans k.2⟩
def zd9(m m2:Mem):Prop:=∀id B,m.get id=some B->∃B',m2.get id=some B'/\B.like B'
theorem zd9.refl(m:Mem):zd9 m m:=λ_ B h=>⟨B,h,B.like_refl⟩
theorem zd9.trans{m1 m2:Mem}(h:zd9 m m1)(k:zd9 m1 m2):zd9 m m2:=λid B hb=>by
 obtain⟨C,h1,h2⟩:=h id B hb;obtain⟨D,k1,k2⟩:=k id C h1;exact⟨D,k1,Box.like_trans h2 k2⟩
theorem Up.shape{m2:Mem}(h:Up m m2):zd9 m m2:=λid B hb=>⟨B,h id B hb,B.like_refl⟩
variable{m':Mem}
theorem zc0.shape{C:Box}(hg:m.get id=some B)(h:zc0 m id (some C) m')(hl:B.like C):zd9 m m'/\zd9 m' m:=by
 refine⟨λk D hk=>?_,λk D hk=>?_⟩
 .rw[h.1 k]
  by_cases hki:k=id
  .subst hki;rw[hg]at hk;injection hk with hk;subst hk;exact⟨C,by simp,hl⟩
  .exact⟨D,by rw[if_neg hki];exact hk,D.like_refl⟩
 .rw[h.1 k]at hk
  by_cases hki:k=id
  .subst hki;simp at hk;subst hk;exact⟨B,hg,Box.like_symm hl⟩
  .rw[if_neg hki]at hk;exact⟨D,hk,D.like_refl⟩
theorem zb9.up(h:zb9 m B m')(hn:m.get m.next=none):Up m m':=λk D hk=>by
 rw[h.1 k]
 by_cases hki:k=m.next
 .subst hki;rw[hn]at hk;cases hk
 .rw[if_neg hki];exact hk
theorem Mem.set_holds{O:Type}{L:O->Prop}{b:Option Box}{k:Mem->Tree O}(h:(m.set id b k).holds L):∃m',zc0 m id b m'/\(k m').holds L:=by
 obtain⟨t',h1,h2⟩:=qD0 _ _ _ _ _ h;exact⟨⟨m.next,t'⟩,⟨h1,rfl⟩,h2⟩
theorem Mem.push_holds{O:Type}{L:O->Prop}{k:Mem->Nat->Tree O}(h:(m.push B k).holds L):∃m',zb9 m B m'/\(k m' m.next).holds L:=by
 unfold Mem.push at h;rw[qs5]at h;obtain⟨t',h1,h2⟩:=qD0 _ _ _ _ _ h;exact⟨⟨m.next+1,t'⟩,⟨h1,rfl⟩,h2⟩
theorem MRel.fresh(h:MRel w0 R0 I w m):m.get m.next=none:=by
 cases hg:m.get m.next with
 |none=>rfl
 |some B=>exact absurd (h.lt _ B hg) (Nat.lt_irrefl _)
theorem MRel.push{r:Nat×Nat×Nat}(h:MRel w0 R0 I w m)(hm:zb9 m B m')
  (hos:w'.os=w.os) (ht:w'.tape=w.tape) (hp:w'.output=w.output) (hsz:w.heap.size<=w'.heap.size) (hold:∀k,k<w.heap.size->w'.heap[k]? =w.heap[k]?)
  (hs:xG1 r B->w.heap.size<=r.1/\r.1<w'.heap.size)
  (hB:∀R n I',Ext (RO w0 R0 I w m) I m.next w R I' n w'->za2 R I' n w' r B):
  MRel w0 R0 (upd I m.next r) w' m'/\b8 w0 R0 I w m (upd I m.next r) w' m':=by
 have hle:=h.size_le
 have hg:∀k C,m'.get k=some C->(k=m.next/\C=B)\/(k≠m.next/\m.get k=some C):=λk C hk=>by
  rw[hm.1 k]at hk
  by_cases e:k=m.next
  .rw[if_pos e]at hk;exact .inl ⟨e,by injection hk with hk;exact hk.symm⟩
  .rw[if_neg e]at hk;exact .inr ⟨e,hk⟩
 have e:b8 w0 R0 I w m (upd I m.next r) w' m':=by
  refine⟨by rw[hm.2];omega,λid hid=>t7 _ _ (by omega),λb hb=>⟨?_,hold b (h.ro_lt hb)⟩⟩;have hlt:=h.ro_lt hb;rcases hb with hb|⟨h1,h2,h3,h4⟩
  .exact .inl hb
  .refine .inr ⟨h1,by omega,λid C hid hsol=>?_,h4⟩
   rcases hg id C hid with⟨rfl,rfl⟩|⟨hne,hk⟩
   .rw[t9]at hsol ⊢;have:=(hs hsol).1;omega
   .rw[t7 _ _ hne]at hsol ⊢;exact h3 id C hk hsol
 refine⟨⟨h.below.trans ⟨hos,ht,hp,hsz,λk hk=>hold k (by omega)⟩,λid C hid=>?_,λid C hid hsol=>?_,λid C hid hsol=>?_,λid id' C C' hid hid' hs1 hs2 he=>?_,λid C hid=>?_,λb hb=>⟨Nat.lt_of_lt_of_le (h.hid.1 b hb).1 hsz,(hold b (h.hid.1 b hb).1).trans (h.hid.1 b hb).2⟩,λid C hid hsol=>?_⟩,e⟩
 .rw[hm.2]
  rcases hg id C hid with⟨rfl,_⟩|⟨_,hk⟩
  .omega
  .have:=h.lt id C hk;omega
 .rcases hg id C hid with⟨rfl,rfl⟩|⟨hne,hk⟩
  .rw[t9]at hsol ⊢;have:=(hs hsol).1;omega
  .rw[t7 _ _ hne]at hsol ⊢;exact h.lo id C hk hsol
 .rcases hg id C hid with⟨rfl,rfl⟩|⟨hne,hk⟩
  .rw[t9]at hsol ⊢;exact(hs hsol).2
  .rw[t7 _ _ hne]at hsol ⊢;have:=h.hi id C hk hsol;omega
 .rcases hg id C hid with⟨rfl,rfl⟩|⟨hne,hk⟩<;>rcases hg id' C' hid' with⟨rfl,rfl⟩|⟨hne',hk'⟩
  .rfl
  .rw[t9]at hs1 he;rw[t7 _ _ hne']at hs2 he
   have:=h.hi id' C' hk' hs2;have:=(hs hs1).1;omega
  .rw[t9]at hs2 he;rw[t7 _ _ hne]at hs1 he
   have:=h.hi id C hk hs1;have:=(hs hs2).1;omega
  .rw[t7 _ _ hne]at hs1 he;rw[t7 _ _ hne']at hs2 he
   exact h.inj id id' C C' hk hk' hs1 hs2 he
 .rcases hg id C hid with⟨rfl,rfl⟩|⟨hne,hk⟩
  .rw[t9]
   exact hB _ _ _ e
  .rw[t7 _ _ hne]
   exact za2.mono e C (λhsol=>hold _ (h.hi id C hk hsol)) (h.box id C hk)
 .rcases hg id C hid with⟨rfl,rfl⟩|⟨hne,hk⟩
  .rw[t9]at hsol ⊢;exact λhr=>by have:=(h.hid.1 _ hr).1;have:=(hs hsol).1;omega
  .rw[t7 _ _ hne]at hsol ⊢;exact h.hid.2 id C hk hsol
theorem MRel.alloc{o:Obj}(h:MRel w0 R0 I w m)(hm:zb9 m B m')(len cap:Nat)
  (hB:∀R n I',Ext (RO w0 R0 I w m) I m.next w R I' n (w.alloc o)->za2 R I' n (w.alloc o) (w.heap.size,len,cap) B):
  MRel w0 R0 (upd I m.next (w.heap.size,len,cap)) (w.alloc o) m'/\b8 w0 R0 I w m (upd I m.next (w.heap.size,len,cap)) (w.alloc o) m':=
 h.push hm rfl rfl rfl (by simp) (λk hk=>Below.heap_alloc w o k hk) (λ_=>⟨Nat.le_refl _,by simp⟩) hB
theorem MRel.setBox{B':Box}(h:MRel w0 R0 I w m)(hid:m.get id=some B)(hsol:xG1 (I id) B)(hm:zc0 m id (some B') m')
  (hos:w'.os=w.os) (ht:w'.tape=w.tape) (hp:w'.output=w.output) (hsz:w'.heap.size=w.heap.size) (hoth:∀k,k≠(I id).1->w'.heap[k]? =w.heap[k]?)
  (hB:∀R,Ext (RO w0 R0 I w m) I m.next w R I m.next w'->za2 R I m.next w' (I id) B'):
  MRel w0 R0 I w' m'/\b8 w0 R0 I w m I w' m':=by
 have hg:∀k C,m'.get k=some C->(k=id/\C=B')\/(k≠id/\m.get k=some C):=λk C hk=>by
  rw[hm.1 k]at hk
  by_cases e:k=id
  .rw[if_pos e]at hk;exact .inl ⟨e,by injection hk with hk;exact hk.symm⟩
  .rw[if_neg e]at hk;exact .inr ⟨e,hk⟩
 have hro:∀b,RO w0 R0 I w m b->RO w0 R0 I w' m' b:=λb hb=>by
  rcases hb with hb|⟨h1,h2,h3,h4⟩
  .exact .inl hb
  .refine .inr ⟨h1,by omega,λk C hk hs=>?_,h4⟩
   rcases hg k C hk with⟨rfl,_⟩|⟨_,hk'⟩
   .exact h3 k B hid hsol
   .exact h3 k C hk' hs
 have e:b8 w0 R0 I w m I w' m':=⟨by rw[hm.2];exact Nat.le_refl _,λ_ _=>rfl,λb hb=>⟨hro b hb,hoth b λhe=>h.ro_ne hb hid hsol he.symm⟩⟩;have hlo:=h.lo id B hid hsol;refine⟨⟨h.below.trans ⟨hos,ht,hp,by omega,λk hk=>hoth k (by omega)⟩,λk C hk=>?_,λk C hk hs=>?_,λk C hk hs=>?_,λk k' C C' hk hk' hs hs' he=>?_,λk C hk=>?_,λb hb=>⟨by rw[hsz];exact(h.hid.1 b hb).1,(hoth b λhe=>h.hid.2 id B hid hsol (he▸hb)).trans (h.hid.1 b hb).2⟩,λk C hk hs=>?_⟩,e⟩
 .rw[hm.2]
  rcases hg k C hk with⟨rfl,_⟩|⟨_,hk'⟩
  .exact h.lt k B hid
  .exact h.lt k C hk'
 .rcases hg k C hk with⟨rfl,_⟩|⟨_,hk'⟩
  .exact hlo
  .exact h.lo k C hk' hs
 .rw[hsz]
  rcases hg k C hk with⟨rfl,_⟩|⟨_,hk'⟩
  .exact h.hi k B hid hsol
  .exact h.hi k C hk' hs
 .have live:∀j D,m'.get j=some D->xG1 (I j) D->∃D',m.get j=some D'/\xG1 (I j) D':=λj D hj hsj=>by
   rcases hg j D hj with⟨rfl,_⟩|⟨_,hj'⟩
   .exact⟨B,hid,hsol⟩
   .exact⟨D,hj',hsj⟩
  obtain⟨D,hD,hDs⟩:=live k C hk hs;obtain⟨D',hD',hDs'⟩:=live k' C' hk' hs';exact h.inj k k' D D' hD hD' hDs hDs' he
 .rcases hg k C hk with⟨rfl,rfl⟩|⟨hne,hk'⟩
  .have:=hB (RO w0 R0 I w' m') ⟨Nat.le_refl _,e.same,e.keep⟩
   rw[hm.2];exact this
  .exact za2.mono e C (λhs=>hoth _ λhe=>hne (h.inj k id C B hk' hid hs hsol he)) (h.box k C hk')
 .rcases hg k C hk with⟨rfl,_⟩|⟨_,hk'⟩
  .exact h.hid.2 k B hid hsol
  .exact h.hid.2 k C hk' hs
theorem MRel.drop(h:MRel w0 R0 I w m)(hm:zc0 m id none m'):
  MRel w0 R0 I w m'/\b8 w0 R0 I w m I w m':=by
 have hg:∀k C,m'.get k=some C->k≠id/\m.get k=some C:=λk C hk=>by
  rw[hm.1 k]at hk
  by_cases e:k=id
  .rw[if_pos e]at hk;cases hk
  .rw[if_neg e]at hk;exact⟨e,hk⟩
 have hro:∀b,RO w0 R0 I w m b->RO w0 R0 I w m' b:=λb hb=>by
  rcases hb with hb|⟨h1,h2,h3,h4⟩
  .exact .inl hb
  .exact .inr ⟨h1,h2,λk C hk=>h3 k C (hg k C hk).2,h4⟩
 have e:b8 w0 R0 I w m I w m':=⟨by rw[hm.2];exact Nat.le_refl _,λ_ _=>rfl,λb hb=>⟨hro b hb,rfl⟩⟩
 exact⟨⟨h.below,λk C hk=>by rw[hm.2];exact h.lt k C (hg k C hk).2,λk C hk=>h.lo k C (hg k C hk).2,λk C hk=>h.hi k C (hg k C hk).2,
  λk k' C C' hk hk'=>h.inj k k' C C' (hg k C hk).2 (hg k' C' hk').2,λk C hk=>za2.mono e C (λ_=>rfl) (h.box k C (hg k C hk).2),h.hid.1,λk C hk=>h.hid.2 k C (hg k C hk).2⟩,e⟩
section
variable {R:Nat->Prop} {I:Rho} {n:Nat} {w:World}
theorem j7.length:∀{cs:List SV} {vs:List Value},j7 R I n w cs vs->vs.length=cs.length
 |[],_,h=>by rw[h];rfl
 |_::_,_,h=>by
  obtain⟨u,us,rfl,_,h2⟩:=h;simp[j7.length h2]
theorem j7.get:∀{cs:List SV} {vs:List Value},j7 R I n w cs vs->∀{i:Nat} {c:SV},cs[i]? =some c->∃v,vs[i]? =some v/\Rep R I n w c v
 |[],_,_,i,c,hi=>by simp at hi
 |x::xs,_,h,0,c,hi=>by
  obtain⟨u,us,rfl,h1,_⟩:=h;simp at hi;subst hi;exact⟨u,by simp,h1⟩
 |x::xs,_,h,i+1,c,hi=>by
  obtain⟨u,us,rfl,_,h2⟩:=h;simp at hi;obtain⟨v,h3,h4⟩:=j7.get h2 hi;exact⟨v,by simpa using h3,h4⟩
theorem j7.mk:∀{cs:List SV} {vs:List Value},vs.length=cs.length->(∀ (i:Nat) (c:SV) (v:Value),cs[i]? =some c->vs[i]? =some v->Rep R I n w c v)->j7 R I n w cs vs
 |[],vs,hl,_=>by simpa[j7]using hl
 |c::cs,[],hl,_=>by simp at hl
 |c::cs,v::vs,hl,h=>⟨v,vs,rfl,h 0 c v (by simp) (by simp),j7.mk (by simpa using hl) λi c' v' h1 h2=>h (i+1) c' v' (by simpa using h1) (by simpa using h2)⟩
variable{vs:List Value}
theorem j7.append{as1 bs:List SV}{us:List Value}(h:j7 R I n w as1 us)(k:j7 R I n w bs vs):j7 R I n w (as1++bs) (us++vs):=by
 induction as1 generalizing us with
 |nil=>rw[show us=[]from h];exact k
 |cons a as1 ih=>
  obtain⟨u,us,rfl,h1,h2⟩:=h;exact⟨u,us++vs,rfl,h1,ih h2⟩
theorem j7.drop{cs:List SV}(h:j7 R I n w cs vs)(k:Nat):j7 R I n w (cs.drop k) (vs.drop k):=
 j7.mk (by simp[h.length]) λi c v h1 h2=>by
  rw[List.getElem?_drop]at h1 h2;obtain⟨v',h3,h4⟩:=h.get h1;rw[h3]at h2;injection h2 with h2;exact h2▸h4
theorem j7.take{cs:List SV}(h:j7 R I n w cs vs)(k:Nat):j7 R I n w (cs.take k) (vs.take k):=
 j7.mk (by simp[h.length]) λi c v h1 h2=>by
  rw[List.getElem?_take]at h1 h2
  by_cases hi:i<k
  .rw[if_pos hi]at h1 h2
   obtain⟨v',h3,h4⟩:=h.get h1;rw[h3]at h2;injection h2 with h2;exact h2▸h4
  .rw[if_neg hi]at h1;cases h1
theorem j7.map(ev:Operand->SV)(eb:Operand->Value):∀xs:List Operand,(∀x∈xs,Rep R I n w (ev x) (eb x))->j7 R I n w (xs.map ev) (xs.map eb)
 |[],_=>rfl
 |x::xs,h=>⟨_,_,rfl,h x List.mem_cons_self,j7.map ev eb xs λy hy=>h y (List.mem_cons_of_mem _ hy)⟩
theorem r8.flat:∀ (t:Ty) (x:t.T) (vs:List Value),r8 R w t x vs->vs.length=t.sz/\j7 R I n w (Go.Sx.flat t x) vs
 |.unit,_,vs,h=>by rw[show vs=[]from h];exact⟨rfl,rfl⟩
 |.int _,_,vs,h=>by rw[show vs=_ from h];exact⟨rfl,_,_,rfl,rfl,rfl⟩
 |.bool,_,vs,h=>by rw[show vs=_ from h];exact⟨rfl,_,_,rfl,rfl,rfl⟩
 |.str,_,vs,h=>by rw[show vs=_ from h];exact⟨rfl,_,_,rfl,rfl,rfl⟩
 |.list t,l,vs,h=>by
  have h':=h;obtain⟨a,cap,rfl,_⟩:=h;exact⟨rfl,_,_,rfl,h',rfl⟩
 |.pair a b,x,vs,h=>by
  obtain⟨v1,v2,rfl,h1,h2⟩:=h;obtain⟨l1,r1⟩:=r8.flat a x.1 v1 h1;obtain⟨l2,r2⟩:=r8.flat b x.2 v2 h2;exact⟨by simp[l1,l2,Ty.sz],r1.append r2⟩
theorem qq6:∀ (t:Ty) (x:t.T),(Go.Sx.flat t x).length=t.sz
 |.unit,_=>rfl
 |.int _,_=>rfl
 |.bool,_=>rfl
 |.str,_=>rfl
 |.list _,_=>rfl
 |.pair a b,x=>by simp[Go.Sx.flat,Ty.sz,qq6 a,qq6 b]
theorem r8.unflat:∀ (t:Ty) (cs:List SV) (x:t.T) (rest:List SV) (vs:List Value),Go.Sx.unflat t cs=some (x,rest)->j7 R I n w cs vs->
  ∃v1 v2,vs=v1++v2/\v1.length=t.sz/\r8 R w t x v1/\j7 R I n w rest v2
 |.unit,cs,x,rest,vs,he,h=>by
  simp only[Go.Sx.unflat,Option.some.injEq,Prod.mk.injEq]at he;obtain⟨_,rfl⟩:=he;exact⟨[],vs,rfl,rfl,rfl,h⟩
 |.int k,cs,x,rest,vs,he,h=>by
  cases cs with
  |nil=>simp[Go.Sx.unflat]at he
  |cons c cs=>
   cases c<;>simp only[Go.Sx.unflat]at he<;>try(cases he;done)
   split at he
   .rename_i hk
    simp only[Option.some.injEq,Prod.mk.injEq]at he;obtain⟨rfl,rfl⟩:=he;subst hk;obtain⟨u,us,rfl,h1,h2⟩:=h;exact⟨[u],us,rfl,rfl,by rw[show u=_ from h1];rfl,h2⟩
   .cases he
 |.bool,cs,x,rest,vs,he,h=>by
  cases cs with
  |nil=>simp[Go.Sx.unflat]at he
  |cons c cs=>
   cases c<;>simp only[Go.Sx.unflat]at he<;>try(cases he;done)
   simp only[Option.some.injEq,Prod.mk.injEq]at he;obtain⟨rfl,rfl⟩:=he;obtain⟨u,us,rfl,h1,h2⟩:=h;exact⟨[u],us,rfl,rfl,by rw[show u=_ from h1];rfl,h2⟩
 |.str,cs,x,rest,vs,he,h=>by
  cases cs with
  |nil=>simp[Go.Sx.unflat]at he
  |cons c cs=>
   cases c<;>simp only[Go.Sx.unflat]at he<;>try(cases he;done)
   simp only[Option.some.injEq,Prod.mk.injEq]at he;obtain⟨rfl,rfl⟩:=he;obtain⟨u,us,rfl,h1,h2⟩:=h;exact⟨[u],us,rfl,rfl,by rw[show u=_ from h1];rfl,h2⟩
 |.list t,cs,x,rest,vs,he,h=>by
  cases cs with
  |nil=>simp[Go.Sx.unflat]at he
  |cons c cs=>
   cases c<;>simp only[Go.Sx.unflat]at he<;>try(cases he;done)
   .simp only[Option.some.injEq,Prod.mk.injEq]at he
    obtain⟨rfl,rfl⟩:=he;obtain⟨u,us,rfl,h1,h2⟩:=h;exact⟨[u],us,rfl,rfl,⟨none,0,by rw[show u=_ from h1];rfl,Nat.le_refl _,λh0=>absurd h0 (Nat.lt_irrefl _)⟩,h2⟩
   .split at he
    .rename_i ht
     simp only[Option.some.injEq,Prod.mk.injEq]at he;obtain⟨rfl,rfl⟩:=he;subst ht;obtain⟨u,us,rfl,h1,h2⟩:=h;exact⟨[u],us,rfl,rfl,h1,h2⟩
    .cases he
 |.pair a b,cs,x,rest,vs,he,h=>by
  simp only[Go.Sx.unflat]at he
  cases h1:Go.Sx.unflat a cs with
  |none=>rw[h1]at he;cases he
  |some q=>
   obtain⟨x1,cs1⟩:=q;rw[h1]at he;dsimp only at he
   cases h2:Go.Sx.unflat b cs1 with
   |none=>rw[h2]at he;cases he
   |some q=>
    obtain⟨x2,cs2⟩:=q;rw[h2]at he;simp only[Option.some.injEq,Prod.mk.injEq]at he;obtain⟨rfl,rfl⟩:=he;obtain⟨v1,v2,rfl,l1,r1,k1⟩:=r8.unflat a cs x1 cs1 vs h1 h;obtain⟨v3,v4,rfl,l2,r2,k2⟩:=r8.unflat b cs1 x2 _ v2 h2 k1;exact⟨v1++v3,v4,by simp,by simp[l1,l2,Ty.sz],⟨v1,v3,rfl,r1,r2⟩,k2⟩
end
open Go.RowKit
structure RowOK (P:Program) (t:TypeId) (r:Row):Prop where
 und:P.underlying t=some r.desc
 info:∃i z,P.info? t=some i/\i.size=r.size/\i.bytes=r.bytes/\i.zero=some z/\(∀R I n w,j7 R I n w r.zero z.cells.toList)/\(∀u,r.ty=some u->∀R w,r8 R w u u.dflt z.cells.toList)
 eqg:r.eqg=P.eqGuardType P.depth t
 held:r.held=P.stoodInHeld t
 el:(r.ty=some (.int .u8)\/r.desc=.int .u8)->r.size=1->El8 t
structure EOK (P:Program) (E:Env):Prop where
 row:∀t r,E.row t=some r->RowOK P t r
 fn:∀f fn,E.fn f=some fn->P.funcs[f]? =some fn
 zv:∀t z,E.zv t=some z->∃i,P.info? t=some i/\i.zero=some z
def f5(w0:World)(R0:RSet)(I:Rho)(w:World)(m:Mem)(v:SV)(m':Mem)(u:Value)(w':World):Prop:=
 ∃I',MRel w0 R0 I' w' m'/\b8 w0 R0 I w m I' w' m'/\Rep (RO w0 R0 I' w' m') I' m'.next w' v u
theorem f5.same{v:SV}{u:Value}(h:MRel w0 R0 I w m)(hv:Rep (RO w0 R0 I w m) I m.next w v u):f5 w0 R0 I w m v m u w:=
 ⟨I,h,Ext.refl _ _ _ _,hv⟩
section
variable {P:Program} {E:Env} {O:Type} {L:O->Prop}
variable{r:Row}
theorem y68{t:TypeId}(h:RowOK P t r)(w:World):(isAgg t).run P w=.ok r.isAgg w:=by
 simp only[isAgg,Sem.run_bind,run_underlying h.und,Result.andThen_ok];unfold Row.isAgg
 cases r.desc<;>rfl
theorem y72{t:TypeId}(h:RowOK P t r)(w:World):(sizeOf t).run P w=.ok r.size w:=by
 obtain⟨i,z,h1,h2,_⟩:=h.info;simp only[sizeOf,typeInfo,Sem.run_bind,run_program,Result.andThen_ok,h1,Sem.run_pure,h2]
theorem y77{t:TypeId}(h:RowOK P t r):∃i,(∀w,(typeInfo t).run P w=.ok i w)/\i.bytes=r.bytes/\i.size=r.size:=by
 obtain⟨i,z,h1,h2,h3,_⟩:=h.info;exact⟨i,λw=>by simp only[typeInfo,Sem.run_bind,run_program,Result.andThen_ok,h1,Sem.run_pure],h3,h2⟩
theorem y78{t:TypeId}(h:RowOK P t r):∃z:Value,(∀w,(zeroValue t).run P w=.ok z w)/\(∀R I n w,j7 R I n w r.zero z.cells.toList)/\(∀u,r.ty=some u->∀R w,r8 R w u u.dflt z.cells.toList):=by
 obtain⟨i,z,h1,_,_,h4,h5,h6⟩:=h.info;exact⟨z,λw=>by simp only[zeroValue,typeInfo,Sem.run_bind,run_program,Result.andThen_ok,h1,Sem.run_pure,h4],h5,h6⟩
def za6(R:Nat->Prop)(I:Rho)(n:Nat)(w:World)(g o:Nat)(cs:List SV):Prop:=
 ∃vs:List Value,j7 R I n w cs vs/\∀j,j<vs.length->w.cell? ⟨g,o+j,none⟩=vs[j]?
def qT3(r:Row)(cs:List SV)(off:Nat):Option SV:=
 match r.isAgg with
 |true=>if r.size=0\/off+r.size<=cs.length then some (.agg ((cs.drop off).take r.size))else none
 |false=>cs[off]?
variable{cs:List SV}{off:Nat}{p:Plan}{m:Mem}
theorem qT2{Z:r9 O}(h:(loadCells r cs off p m Z).holds L):∃v,qT3 r cs off=some v/\(Z v p m).holds L:=by
 unfold loadCells at h;unfold qT3
 cases hr:r.isAgg with
 |true=>
  rw[hr]at h;rcases takeK_holds _ _ _ _ h with⟨h0,h1⟩|⟨h0,h1⟩
  .exact⟨_,by rw[if_pos (.inl h0),h0],by simpa using h1⟩
  .exact⟨_,by rw[if_pos (.inr h0)],h1⟩
 |false=>
  rw[hr]at h;dsimp only at h;rw[q60]at h
  cases hc:cs[off]? with
  |none=>rw[hc]at h;exact h.elim
  |some v=>rw[hc]at h;dsimp only at h;rw[qs6]at h;exact⟨v,rfl,h⟩
variable{R:Nat->Prop}{I:Rho}{n g o:Nat}{w:World}
theorem y69{k:Nat}(hc:za6 R I n w g o cs)(hk:k=0\/off+k<=cs.length):
  ∃us:List Value,(Go.loadCells ⟨g,o+off,none⟩ k).run P w=.ok ⟨us⟩ w/\j7 R I n w ((cs.drop off).take k) us:=by
 obtain⟨vs,h1,h2⟩:=hc;rcases hk with rfl|hk
 .exact⟨[],rfl,by simp[j7]⟩
 .have hl:=h1.length
  have hlen:((vs.drop off).take k).length=k:=by simp;omega
  refine⟨(vs.drop off).take k,?_,(h1.drop off).take k⟩
  have:=run_loadCells_list (P:=P) w ⟨g,o+off,none⟩ ((vs.drop off).take k) (λj v hj=>by
   have hjk:j<k:=by
    have:=(List.getElem?_eq_some_iff.1 hj).1;omega
   rw[List.getElem?_take,if_pos hjk,List.getElem?_drop]at hj;rw[Addr.add_lit,Nat.add_assoc,h2 (off+j) (by omega)]
   exact hj)
  rw[hlen]at this;exact this
theorem y70{t:TypeId}(hr:RowOK P t r){v:SV}(hc:za6 R I n w g o cs)(hv:qT3 r cs off=some v):
  ∃u,(loadVar t ⟨g,o+off,none⟩).run P w=.ok u w/\Rep R I n w v u:=by
 unfold qT3 at hv;simp only[loadVar,Sem.run_bind,y68 hr,Result.andThen_ok]
 cases ha:r.isAgg with
 |true=>
  rw[ha]at hv;dsimp only at hv
  split at hv
  .rename_i hk
   injection hv with hv;obtain⟨us,h1,h2⟩:=y69 (P:=P) hc hk;refine⟨.agg ⟨us⟩,?_,by rw[<-hv];exact⟨us,rfl,h2⟩⟩;simp only[if_true,Sem.run_bind,y72 hr,Result.andThen_ok,h1,Sem.run_pure]
  .cases hv
 |false=>
  rw[ha]at hv;dsimp only at hv;obtain⟨vs,h1,h2⟩:=hc;obtain⟨u,h3,h4⟩:=h1.get hv;refine⟨u,?_,h4⟩;have hlt:off<vs.length:=(List.getElem?_eq_some_iff.1 h3).1;simp[h2 off hlt,h3]
variable{w0:World}{R0:RSet}{id:Nat}
theorem yO8(hm:MRel w0 R0 I w m)(h:m.get id=some (.cells cs)):za6 (RO w0 R0 I w m) I m.next w (I id).1 0 cs:=by
 obtain⟨arr,e,fr,h1,h2,h3⟩:=hm.box id _ h;exact⟨arr.toList,h3,λj hj=>by rw[Nat.zero_add,cell_of_row w _ j arr e fr h1];simp⟩
theorem yO9(hm:MRel w0 R0 I w m){t:TypeId}(h:m.get id=some (.obj t cs)):za6 (RO w0 R0 I w m) I m.next w (I id).1 0 cs:=by
 obtain⟨arr,h1,h3⟩:=hm.box id _ h;exact⟨arr.toList,h3,λj hj=>by rw[Nat.zero_add,cell_of_row w _ j arr t (0,0) h1];simp⟩
theorem zQ2{u:Ty}{l:List u.T}{b i:Nat}(h:za9 R w u b o l)(hi:i<l.length):za6 R I n w b (o+i*u.sz) (flat u (l.getD i u.dflt)):=by
 obtain⟨cs,h1,h2,h3⟩:=h.2 i hi;obtain⟨h4,h5⟩:=r8.flat (I:=I) (n:=n) u _ cs h3;refine⟨cs,?_,λj hj=>by rw[Nat.add_assoc];exact h2 j (by omega)⟩
 have:l.getD i u.dflt=l[i] :=by simp[hi]
 rw[this];exact h5
theorem y62(hm:MRel w0 R0 I w m){u:Ty}{l:List u.T}(h:m.get id=some (.rows u l)){i:Nat}(hi:i<l.length):
  za6 (RO w0 R0 I w m) I m.next w (I id).1 (i*u.sz) (flat u (l.getD i u.dflt)):=by
 obtain⟨_,hc,hp⟩:=hm.box id _ h;obtain⟨arr,e,fr,h1,h2,h3,h4⟩:=hp (by omega);obtain⟨cs,k1,k2,k3⟩:=h4 i hi;obtain⟨h5,h6⟩:=r8.flat (I:=I) (n:=m.next) u _ cs k3;refine⟨cs,?_,λj hj=>by rw[cell_of_row w _ _ arr e fr h1];exact k2 j (by omega)⟩
 have:l.getD i u.dflt=l[i] :=by simp[hi]
 rw[this];exact h6
theorem yB1(hE:EOK P E){t:TypeId}{a:SV}{Z:r9 O}(h:(yB0 E t a p m Z).holds L):
  ∃v,(Z v p m).holds L/\∀m2,Up m m2->∀w0 R0 I w (av:Value),MRel w0 R0 I w m2->Rep (RO w0 R0 I w m2) I m2.next w a av->∃u,(Instr.loadAt t av).run P w=.ok u w/\Rep (RO w0 R0 I w m2) I m2.next w v u:=by
 unfold yB0 at h
 cases hr:E.row t with
 |none=>rw[hr]at h;exact h.elim
 |some r=>
  rw[hr]at h;have hok:=hE.row t r hr
  cases a<;>try exact h.elim
  case ptr id off=>
   dsimp only at h
   cases hg:m.get id with
   |none=>rw[hg]at h;exact h.elim
   |some B=>
    rw[hg]at h
    cases B<;>try exact h.elim
    case cells cs=>
     obtain⟨v,h1,h2⟩:=qT2 h;refine⟨v,h2,λm2 hup w0 R0 I w av hm ha=>?_⟩;obtain⟨_,rfl⟩:=ha;obtain⟨u,h3,h4⟩:=y70 hok (yO8 hm (hup _ _ hg)) h1;refine⟨u,?_,h4⟩;rw[Nat.zero_add]at h3
     simpa[Instr.loadAt,Instr.sureAddr]using h3
    case obj _ cs=>
     obtain⟨v,h1,h2⟩:=qT2 h;refine⟨v,h2,λm2 hup w0 R0 I w av hm ha=>?_⟩;obtain⟨_,rfl⟩:=ha;obtain⟨u,h3,h4⟩:=y70 hok (yO9 hm (hup _ _ hg)) h1;refine⟨u,?_,h4⟩;rw[Nat.zero_add]at h3
     simpa[Instr.loadAt,Instr.sureAddr]using h3
  case eptr u l i off=>
   obtain⟨v,h1,h2⟩:=qT2 h;refine⟨v,h2,λm2 hup w0 R0 I w av hm ha=>?_⟩;obtain⟨b,o,rfl,hi,he⟩:=ha;obtain⟨x,h3,h4⟩:=y70 hok (zQ2 (I:=I) (n:=m2.next) he hi) h1;refine⟨x,?_,h4⟩;rw[Nat.add_assoc]at h3
   simpa[Instr.loadAt,Instr.sureAddr]using h3
  case rptr id sz i off=>
   dsimp only at h
   cases hg:m.get id with
   |none=>rw[hg]at h;exact h.elim
   |some B=>
    rw[hg]at h
    cases B<;>try exact h.elim
    case rows u l=>
     dsimp only at h
     split at h
     .rename_i hsz0
      obtain⟨hsz2,h⟩:=h;have hsz:sz=u.sz/\i<l.length:=⟨by simpa using hsz0,by simpa using hsz2⟩;obtain⟨v,h1,h2⟩:=qT2 h;refine⟨v,h2,λm2 hup w0 R0 I w av hm ha=>?_⟩;obtain⟨_,rfl⟩:=ha;obtain⟨x,h3,h4⟩:=y70 hok (y62 hm (hup _ _ hg) hsz.2) h1;refine⟨x,?_,h4⟩;rw[<-hsz.1]at h3
      simpa[Instr.loadAt,Instr.sureAddr]using h3
     .exact h.elim
theorem zm1:∀ (l:List SV),zm0 l=true->∀x∈l,x.one=true
 |[],_,x,hx=>by cases hx
 |y::ys,h,x,hx=>by
  change (match y.one with|true=>zm0 ys|false=>false)=true at h
  cases hy:y.one with
  |false=>rw[hy]at h;cases h
  |true=>
   rw[hy]at h
   cases hx with
   |head=>exact hy
   |tail _ hx=>exact zm1 ys h x hx
variable{v:Value}
theorem yx3{x:SV}(h:Rep R I n w x v)(h1:x.one=true):v.oneCell'=true:=by
 cases x<;>simp only[SV.one]at h1<;>try(cases h1;done)
 case int=>rw[show v=_ from h];rfl
 case bool=>rw[show v=_ from h];rfl
 case str=>rw[show v=_ from h];rfl
 case nilS=>rw[show v=_ from h];rfl
 case list t l=>
  obtain⟨a,cap,hv,_⟩:=h;injection hv with hv;rw[hv];rfl
 case row=>obtain⟨a,h2,_⟩:=h.2;rw[h2];rfl
 case arr=>rw[show v=_ from h.2];rfl
 case ptr=>rw[show v=_ from h.2];rfl
 case nilP=>rw[show v=_ from h];rfl
 case eptr=>obtain⟨b,o,rfl,_⟩:=h;rfl
 case rptr=>rw[show v=_ from h.2];rfl
 case fn=>obtain⟨a,b,rfl,_⟩:=h;rfl
 case raw u=>
  rw[show v=u from h]
  cases u<;>first|rfl|(cases h1;done)
theorem Rep.cells{x:SV}(h:Rep R I n w x v)(h1:zm0 x.cells=true):j7 R I n w x.cells v.cells.toList/\∀u∈v.cells.toList,u.oneCell'=true:=by
 have key:j7 R I n w x.cells v.cells.toList:=by
  cases x with
  |agg cs=>obtain⟨vs,rfl,h2⟩:=h;exact h2
  |_=>
   have hx:=zm1 _ h1 _ (List.mem_singleton.2 rfl);have ho:=yx3 h hx
   have hv:v.cells=#[v] :=by cases v<;>first|rfl|(cases ho;done)
   rw[hv];exact⟨v,[],rfl,h,rfl⟩
 refine⟨key,λu hu=>?_⟩;obtain⟨i,hi⟩:=List.getElem?_of_mem hu;have hl:=key.length
 have hlt:i<x.cells.length:=by have:=(List.getElem?_eq_some_iff.1 hi).1;omega
 obtain⟨c,hc⟩:∃c,x.cells[i]? =some c:=⟨_,List.getElem?_eq_getElem hlt⟩;obtain⟨u',h2,h3⟩:=key.get hc;rw[hi]at h2;injection h2 with h2;subst h2;exact yx3 h3 (zm1 _ h1 c (List.mem_of_getElem? hc))
def yD6(arr:Array Value)(off:Nat)(vs:List Value):Array Value:=⟨arr.toList.take off++vs++arr.toList.drop (off+vs.length)⟩
theorem yD9(arr:Array Value)(off:Nat):yD6 arr off [] =arr:=by
 apply Array.ext';simp[yD6]
variable{arr:Array Value}{vs:List Value}
theorem yE0(h:off+vs.length<=arr.size):(yD6 arr off vs).size=arr.size:=by
 simp[yD6];omega
theorem yD8(h:off+vs.length<=arr.size)(k:Nat):(yD6 arr off vs)[k]? =if off<=k/\k<off+vs.length then vs[k-off]? else arr[k]? :=by
 have hl:arr.toList.length=arr.size:=by simp
 rw[<-Array.getElem?_toList,<-Array.getElem?_toList];simp only[yD6]
 by_cases h1:k<off
 .rw[if_neg (by omega),List.append_assoc,List.getElem?_append_left (by rw[List.length_take];omega),List.getElem?_take,if_pos h1]
 .by_cases h2:k<off+vs.length
  .rw[if_pos ⟨by omega,h2⟩,List.append_assoc,List.getElem?_append_right (by rw[List.length_take];omega),List.length_take,Nat.min_eq_left (by omega),List.getElem?_append_left (by omega)]
  .rw[if_neg (by omega),List.getElem?_append_right (by rw[List.length_append,List.length_take];omega),List.length_append,List.length_take,Nat.min_eq_left (by omega),List.getElem?_drop,show off+vs.length+(k-(off+vs.length))=k by omega]
theorem yD7(h:off+(v::vs).length<=arr.size):yD6 (arr.setIfInBounds off v) (off+1) vs=yD6 arr off (v::vs):=by
 simp only[List.length_cons]at h;apply Array.ext_getElem?;intro k;rw[yD8 (by simp;omega),yD8 (by simp;omega)];simp only[List.length_cons]
 by_cases h1:k=off
 .subst h1
  rw[if_neg (by omega),if_pos ⟨by omega,by omega⟩];simp[Array.getElem?_setIfInBounds,show k<arr.size by omega]
 .by_cases h2:off+1<=k/\k<off+1+vs.length
  .rw[if_pos h2,if_pos ⟨by omega,by omega⟩,show k-off=(k-(off+1))+1 by omega,List.getElem?_cons_succ]
  .rw[if_neg h2,if_neg (by omega),Array.getElem?_setIfInBounds_ne (Ne.symm h1)]
theorem y73(g:Nat)(o:Nat)(e:TypeId)(fr:Nat×Nat):∀ (vs:List Value) (i:Nat) (cur:Array Value) (w:World),w.heap[g]? =some (.cells cur e fr)->xV6 cur fr->o+i+vs.length<=cur.size->(∀v∈vs,v.oneCell'=true)->
  ∃w',(storeCells ⟨g,o,none⟩ vs i).run P w=.ok () w'/\w'.heap[g]? =some (.cells (yD6 cur (o+i) vs) e fr)/\w'.os=w.os/\w'.tape=w.tape/\w'.output=w.output/\w'.heap.size=w.heap.size/\(∀k,k≠g->w'.heap[k]? =w.heap[k]?)
 |[],i,cur,w,hg,hu,hl,h1=>⟨w,rfl,by rw[yD9];exact hg,rfl,rfl,rfl,rfl,λ_ _=>rfl⟩
 |v::vs,i,cur,w,hg,hu,hl,h1=>by
  simp only[List.length_cons]at hl
  have hc:w.cell? ⟨g,o+i,none⟩=some (cur[o+i]'(by omega)):=by rw[cell_of_row w g _ cur e fr hg];simp
  have hf:w.frozen? ⟨g,o+i,none⟩=false:=by
   have:=hu (o+i) (by omega);simp only[World.frozen?,hg]
   by_cases h2:fr.1<=o+i
   .have h3:¬o+i<fr.2:=λh3=>this ⟨h2,h3⟩
    simp[h3]
   .simp[h2]
  have hrow:=setCell_eq_setRow w g (o+i) cur e fr v hg
  have hg':(w.setCell ⟨g,o+i,none⟩ v).heap[g]? =some (.cells (cur.setIfInBounds (o+i) v) e fr):=by rw[hrow];exact setRow_heap w g cur _ e fr hg
  have hu':xV6 (cur.setIfInBounds (o+i) v) fr:=λk hk=>hu k (by simpa using hk)
  obtain⟨w',r1,r2,r3,r4,r5,r6,r7⟩:=y73 g o e fr vs (i+1) _ _ hg' hu' (by simp;omega) (λu hu=>h1 u (List.mem_cons_of_mem _ hu));refine⟨w',?_,?_,r3,r4,r5,r6.trans (by simp),λk hk=>(r7 k hk).trans (heap_setCell_other w _ k v hk)⟩
  .simp only[storeCells,Sem.run_bind,Addr.add_lit,run_store P w _ v _ (h1 v List.mem_cons_self),hc,hf,Bool.false_eq_true,if_false,Result.andThen_ok,r1]
  .rw[r2,<-Nat.add_assoc,yD7 (by simp;omega)]
theorem y74{t:TypeId}(hr:RowOK P t r){cur:Array Value}{e:TypeId}{fr:Nat×Nat}(hg:w.heap[g]? =some (.cells cur e fr))(hu:xV6 cur fr)
  (hl:o+v.cells.toList.length<=cur.size) (h1:∀u∈v.cells.toList,u.oneCell'=true) (hs:r.size=v.cells.toList.length):
  ∃w',(storeVar t ⟨g,o,none⟩ v).run P w=.ok () w'/\w'.heap[g]? =some (.cells (yD6 cur o v.cells.toList) e fr)/\w'.os=w.os/\w'.tape=w.tape/\w'.output=w.output/\w'.heap.size=w.heap.size/\(∀k,k≠g->w'.heap[k]? =w.heap[k]?):=by
 obtain⟨w',r1,r2,r3⟩:=y73 (P:=P) g o e fr v.cells.toList 0 cur w hg hu (by simpa using hl) h1;refine⟨w',?_,by simpa using r2,r3⟩
 have hsz:v.cells.size=r.size:=by rw[hs];simp
 simp only[storeVar,Sem.run_bind,y72 hr,Result.andThen_ok,hsz,ne_eq,not_true_eq_false,if_false,Sem.run_pure,r1]
theorem yE3{vs:List SV}{us:List Value}(h:j7 R I n w cs arr.toList)(k:j7 R I n w vs us):j7 R I n w (yD5 cs off vs) (yD6 arr off us).toList:=by
 unfold yD5 yD6;rw[show off+us.length=off+vs.length by rw[k.length]];exact((h.take off).append k).append (h.drop _)
theorem xV8{fr:Nat×Nat}{us:List Value}(h:xV6 arr fr)(hl:off+us.length<=arr.size):xV6 (yD6 arr off us) fr:=λi hi=>h i (by rw[yE0 hl]at hi;exact hi)
theorem yC2(hE:EOK P E){t:TypeId}{a v:SV}{Z:r9 O}(h:(yC0 E t a v p m Z).holds L):
  ∃m',(Z .undef p m').holds L/\(zd9 m m'/\zd9 m' m)/\∀w0 R0 I w (av vv:Value),MRel w0 R0 I w m->Rep (RO w0 R0 I w m) I m.next w a av->Rep (RO w0 R0 I w m) I m.next w v vv->
   ∃w',(Instr.storeAt t av vv).run P w=.ok () w'/\MRel w0 R0 I w' m'/\b8 w0 R0 I w m I w' m':=by
 unfold yC0 at h
 cases hr:E.row t with
 |none=>rw[hr]at h;exact h.elim
 |some r=>
  rw[hr]at h;have hok:=hE.row t r hr;dsimp only at h
  split at h
  .exact h.elim
  .rename_i hs
   simp only[Bool.and_eq_true,beq_iff_eq]at hs
   cases a<;>try exact h.elim
   case ptr id off=>
    dsimp only at h
    cases hg:m.get id with
    |none=>rw[hg]at h;exact h.elim
    |some B=>
     rw[hg]at h
     cases B<;>try exact h.elim
     case cells cs=>
      dsimp only at h
      have key:∃m',(Z .undef p m').holds L/\((v.cells=[] /\zc0 m id (some (.cells cs)) m')\/(off+v.cells.length<=cs.length/\zc0 m id (some (.cells (yD5 cs off v.cells))) m')):=by
       rcases overK_holds _ _ _ _ h with⟨h0,h1⟩|⟨h0,h1⟩
       .obtain⟨m',h2,h3⟩:=Mem.set_holds h1
        exact⟨m',h3,.inl ⟨h0,h2⟩⟩
       .obtain⟨m',h2,h3⟩:=Mem.set_holds h1
        exact⟨m',h3,.inr ⟨h0,h2⟩⟩
      obtain⟨m',h1,h2⟩:=key
      have hsh:zd9 m m'/\zd9 m' m:=by
       rcases h2 with⟨_,h2⟩|⟨h0,h2⟩
       .exact h2.shape hg (Box.like_refl _)
       .exact h2.shape hg (by simp only[Box.like,yD5,List.length_append,List.length_take,List.length_drop];omega)
      refine⟨m',h1,hsh,λw0 R0 I w av vv hm ha hv=>?_⟩;obtain⟨_,rfl⟩:=ha;obtain⟨hc1,hc2⟩:=hv.cells hs.2;obtain⟨arr,e,fr,k1,k2,k3⟩:=hm.box id _ hg;have hlen:=hc1.length;have hal:arr.toList.length=cs.length:=k3.length;rcases h2 with⟨h0,h2⟩|⟨h0,h2⟩
      .rw[h0]at hlen hs
       have hnil:vv.cells.toList=[] :=List.eq_nil_of_length_eq_zero hlen;refine⟨w,?_,hm.setBox hg trivial h2 rfl rfl rfl rfl (λ_ _=>rfl) λR e'=>⟨arr,e,fr,k1,k2,j7.mono e' _ _ k3⟩⟩
       have hsz:vv.cells.size=r.size:=by rw[hs.1];simp[<-Array.length_toList,hnil]
       simp only[Instr.storeAt,Instr.sureAddr,storeVar,pure_bind,Sem.run_bind,y72 hok,Result.andThen_ok,hsz,ne_eq,not_true_eq_false,if_false,Sem.run_pure,hnil,storeCells]
      .obtain⟨w',r1,r2,r3,r4,r5,r6,r7⟩:=y74 (P:=P) hok (o:=off) (v:=vv) k1 k2 (by simp at hal;omega) hc2 (by rw[hlen];exact hs.1)
       refine⟨w',by simpa[Instr.storeAt,Instr.sureAddr]using r1,hm.setBox hg trivial h2 r3 r4 r5 r6 r7 λR e'=>⟨_,e,fr,r2,xV8 k2 (by simp at hal;omega),yE3 (j7.mono e' _ _ k3) (j7.mono e' _ _ hc1)⟩⟩
     case obj u cs=>
      dsimp only at h
      have key:∃m',(Z .undef p m').holds L/\((v.cells=[] /\zc0 m id (some (.obj u cs)) m')\/(off+v.cells.length<=cs.length/\zc0 m id (some (.obj u (yD5 cs off v.cells))) m')):=by
       rcases overK_holds _ _ _ _ h with⟨h0,h1⟩|⟨h0,h1⟩
       .obtain⟨m',h2,h3⟩:=Mem.set_holds h1
        exact⟨m',h3,.inl ⟨h0,h2⟩⟩
       .obtain⟨m',h2,h3⟩:=Mem.set_holds h1
        exact⟨m',h3,.inr ⟨h0,h2⟩⟩
      obtain⟨m',h1,h2⟩:=key
      have hsh:zd9 m m'/\zd9 m' m:=by
       rcases h2 with⟨_,h2⟩|⟨h0,h2⟩
       .exact h2.shape hg (Box.like_refl _)
       .exact h2.shape hg ⟨rfl,by simp only[yD5,List.length_append,List.length_take,List.length_drop];omega⟩
      refine⟨m',h1,hsh,λw0 R0 I w av vv hm ha hv=>?_⟩;obtain⟨_,rfl⟩:=ha;obtain⟨hc1,hc2⟩:=hv.cells hs.2;obtain⟨arr,k1,k3⟩:=hm.box id _ hg
      have k2:xV6 arr (0,0):=λi _ h=>absurd h.2 (Nat.not_lt_zero _)
      have hlen:=hc1.length;have hal:arr.toList.length=cs.length:=k3.length;rcases h2 with⟨h0,h2⟩|⟨h0,h2⟩
      .rw[h0]at hlen hs
       have hnil:vv.cells.toList=[] :=List.eq_nil_of_length_eq_zero hlen;refine⟨w,?_,hm.setBox hg trivial h2 rfl rfl rfl rfl (λ_ _=>rfl) λR e'=>⟨arr,k1,j7.mono e' _ _ k3⟩⟩
       have hsz:vv.cells.size=r.size:=by rw[hs.1];simp[<-Array.length_toList,hnil]
       simp only[Instr.storeAt,Instr.sureAddr,storeVar,pure_bind,Sem.run_bind,y72 hok,Result.andThen_ok,hsz,ne_eq,not_true_eq_false,if_false,Sem.run_pure,hnil,storeCells]
      .obtain⟨w',r1,r2,r3,r4,r5,r6,r7⟩:=y74 (P:=P) hok (o:=off) (v:=vv) k1 k2 (by simp at hal;omega) hc2 (by rw[hlen];exact hs.1)
       refine⟨w',by simpa[Instr.storeAt,Instr.sureAddr]using r1,hm.setBox hg trivial h2 r3 r4 r5 r6 r7 λR e'=>⟨_,r2,yE3 (j7.mono e' _ _ k3) (j7.mono e' _ _ hc1)⟩⟩
   case rptr id sz i off=>
    dsimp only at h
    cases hg:m.get id with
    |none=>rw[hg]at h;exact h.elim
    |some B=>
     rw[hg]at h
     cases B<;>try exact h.elim
     case rows u l=>
      dsimp only at h
      split at h
      .rename_i hsz
       obtain⟨hi0,h⟩:=h
       have hi:i<l.length:=by simpa using hi0
       have hszu:sz=u.sz:=by simpa using hsz
       have key:∃m' cs x,(Z .undef p m').holds L/\unflat u cs=some (x,[])/\zc0 m id (some (.rows u (l.set i x))) m'/\((v.cells=[] /\cs=flat u (l.getD i u.dflt))\/(off+v.cells.length<=(flat u (l.getD i u.dflt)).length/\cs=yD5 (flat u (l.getD i u.dflt)) off v.cells)):=by
        rcases overK_holds _ _ _ _ h with⟨h0,h1⟩|⟨h0,h1⟩
        all_goals
         split at h1
         .rename_i x hx
          obtain⟨m',h2,h3⟩:=Mem.set_holds h1;exact⟨m',_,x,h3,hx,h2,by first|exact .inl ⟨h0,rfl⟩|exact .inr ⟨h0,rfl⟩⟩
         .exact h1.elim
       obtain⟨m',cs',x,h1,hx,h2,h3⟩:=key;refine⟨m',h1,h2.shape hg ⟨rfl,by simp⟩,λw0 R0 I w av vv hm ha hv=>?_⟩;obtain⟨_,rfl⟩:=ha;obtain⟨hc1,hc2⟩:=hv.cells hs.2;have hlen:=hc1.length;obtain⟨b1,b2,bp⟩:=hm.box id _ hg
       have hcap:0< (I id).2.2:=by omega
       obtain⟨arr,e,fr,k1,k2,k3,k4⟩:=bp hcap;obtain⟨cs,q1,q2,q3⟩:=k4 i hi
       have hget:l.getD i u.dflt=l[i] :=by simp[hi]
       obtain⟨q4,q5⟩:=r8.flat (I:=I) (n:=m.next) u _ cs q3;rw[hget]at h3;have hfl:=qq6 u l[i]
       -- the room
       have hroom:i*u.sz+u.sz<=arr.size:=by
        rw[k3];have:(i+1)*u.sz<=(I id).2.2*u.sz:=Nat.mul_le_mul_right _ (by omega)
        rwa [Nat.succ_mul]at this
       have hoff:off+vv.cells.toList.length<=u.sz\/vv.cells.toList=[] :=by
        rcases h3 with⟨h0,_⟩|⟨h0,_⟩
        .right;exact List.eq_nil_of_length_eq_zero (by rw[hlen,h0];rfl)
        .left;rw[hlen];omega
       have hrun:∃w',(Instr.storeAt t (.pointer (some ⟨(I id).1,i*sz+off,none⟩)) vv).run P w=.ok () w'/\w'.heap[(I id).1]? =some (.cells (if vv.cells.toList=[]then arr else yD6 arr (i*u.sz+off) vv.cells.toList) e fr)/\w'.os=w.os/\w'.tape=w.tape/\w'.output=w.output/\w'.heap.size=w.heap.size/\(∀k,k≠(I id).1->w'.heap[k]? =w.heap[k]?):=by
        by_cases hnil:vv.cells.toList=[]
        .refine⟨w,?_,by rw[if_pos hnil];exact k1,rfl,rfl,rfl,rfl,λ_ _=>rfl⟩
         have h00:r.size=0:=by rw[hs.1,<-hlen,hnil];rfl
         have hsz:vv.cells.size=r.size:=by rw[h00];simp[<-Array.length_toList,hnil]
         simp only[Instr.storeAt,Instr.sureAddr,storeVar,pure_bind,Sem.run_bind,y72 hok,Result.andThen_ok,hsz,ne_eq,not_true_eq_false,if_false,Sem.run_pure,hnil,storeCells]
        .rw[if_neg hnil]
         have ho:off+vv.cells.toList.length<=u.sz:=hoff.resolve_right hnil;obtain⟨w',r1,r2⟩:=y74 (P:=P) hok (o:=i*u.sz+off) (v:=vv) k1 k2.1 (by omega) hc2 (by rw[hlen];exact hs.1);exact⟨w',by rw[hszu];simpa[Instr.storeAt,Instr.sureAddr]using r1,r2⟩
       obtain⟨w',r1,r2,r3,r4,r5,r6,r7⟩:=hrun;refine⟨w',r1,hm.setBox hg hcap h2 r3 r4 r5 r6 r7 λR e'=>⟨by simpa using b1,by simpa using b2,λ_=>⟨_,e,fr,r2,?_,?_,?_⟩⟩⟩
       .split
        .exact k2
        .rename_i hnil
         have ho:off+vv.cells.toList.length<=u.sz:=hoff.resolve_right hnil;exact⟨xV8 k2.1 (by omega),k2.2⟩
       .split
        .exact k3
        .rename_i hnil
         have ho:off+vv.cells.toList.length<=u.sz:=hoff.resolve_right hnil;rw[yE0 (by omega)];exact k3
       .intro j hj
        rw[List.length_set]at hj
        by_cases hji:j=i
        .subst hji
         -- the element that was turned
         have hcells:∃us:List Value,us.length=u.sz/\j7 R I m.next w' cs' us/\∀k,k<u.sz->(if vv.cells.toList=[]then arr else yD6 arr (j*u.sz+off) vv.cells.toList)[j*u.sz+k]? =us[k]? :=by
          rcases h3 with⟨h0,rfl⟩|⟨h0,rfl⟩
          .have hnil:vv.cells.toList=[] :=List.eq_nil_of_length_eq_zero (by rw[hlen,h0];rfl)
           rw[if_pos hnil];exact⟨cs,q1,j7.mono e' _ _ q5,q2⟩
          .by_cases hnil:vv.cells.toList=[]
           .have hvn:v.cells=[] :=List.eq_nil_of_length_eq_zero (by rw[<-hlen,hnil];rfl)
            rw[if_pos hnil];refine⟨cs,q1,?_,q2⟩
            have:yD5 (flat u l[j]) off v.cells=flat u l[j] :=by rw[hvn];simp[yD5]
            rw[this];exact j7.mono e' _ _ q5
           .rw[if_neg hnil]
            refine⟨cs.take off++vv.cells.toList++cs.drop (off+vv.cells.toList.length),?_,?_,λk hk=>?_⟩
            .simp at hlen ⊢;omega
            .unfold yD5
             rw[show off+vv.cells.toList.length=off+v.cells.length by rw[hlen]];exact(((j7.mono e' _ _ q5).take off).append (j7.mono e' _ _ hc1)).append ((j7.mono e' _ _ q5).drop _)
            .have ho:off+vv.cells.toList.length<=u.sz:=hoff.resolve_right hnil
             rw[yD8 (by omega)]
             by_cases c1:off<=k/\k<off+vv.cells.toList.length
             .rw[if_pos ⟨by omega,by omega⟩,List.append_assoc,List.getElem?_append_right (by rw[List.length_take];omega),List.length_take,Nat.min_eq_left (by omega),List.getElem?_append_left (by omega),show j*u.sz+k-(j*u.sz+off)=k-off by omega]
             .rw[if_neg (by omega),q2 k hk]
              by_cases c2:k<off
              .rw[List.append_assoc,List.getElem?_append_left (by rw[List.length_take];omega),List.getElem?_take,if_pos c2]
              .rw[List.getElem?_append_right (by rw[List.length_append,List.length_take];omega),List.length_append,List.length_take,Nat.min_eq_left (by omega),List.getElem?_drop,show off+vv.cells.toList.length+(k-(off+vv.cells.toList.length))=k by omega]
         obtain⟨us,hus,hrep,hcell⟩:=hcells;obtain⟨v1,v2,hv12,hl1,hd,hr2⟩:=r8.unflat u cs' x [] us hx hrep;rw[show v2=[]from hr2,List.append_nil]at hv12;subst hv12;refine⟨us,hus,hcell,?_⟩
         simpa using hd
        .obtain⟨ds,d1,d2,d3⟩:=k4 j hj
         refine⟨ds,d1,λk hk=>?_,?_⟩
         .rw[<-d2 k hk]
          split
          .rfl
          .rename_i hnil
           have ho:off+vv.cells.toList.length<=u.sz:=hoff.resolve_right hnil;rw[yD8 (by omega)];rcases Nat.lt_or_ge j i with hlt|hge
           .have hb:j*u.sz+u.sz<=i*u.sz:=by
             have:(j+1)*u.sz<=i*u.sz:=Nat.mul_le_mul_right _ hlt
             rwa [Nat.succ_mul]at this
            rw[if_neg (by omega)]
           .have hb:i*u.sz+u.sz<=j*u.sz:=by
             have:(i+1)*u.sz<=j*u.sz:=Nat.mul_le_mul_right _ (by omega)
             rwa [Nat.succ_mul]at this
            rw[if_neg (by omega)]
         .have:(l.set i x)[j]'(by simpa using hj)=l[j] :=by simp[List.getElem_set,Ne.symm hji]
          rw[this];exact r8.mono e'.keep _ _ _ d3
      .exact h.elim
end
open Go.RowKit
section
variable {P:Program} {E:Env} {O:Type} {L:O->Prop}
abbrev zd0(P:Program)(m:Mem)(v:SV)(s:Sem Value)(w0:World)(R0:RSet)(I:Rho)(w:World):Prop:=
 ∃u,s.run P w=.ok u w/\Rep (RO w0 R0 I w m) I m.next w v u
variable{v:SV}
theorem zj0{R:Nat->Prop}{I:Rho}{n:Nat}{w:World}{a:SV}{av:Value}{k:Nat}(h:zi9 a k=some v)(ha:Rep R I n w a av):
  ∃b o,av=.pointer (some ⟨b,o,none⟩)/\Rep R I n w v (.pointer (some ⟨b,o+k,none⟩)):=by
 cases a<;>simp only[zi9,Option.some.injEq]at h<;>try(cases h;done)
 case ptr id off=>
  subst h;exact⟨_,_,ha.2,ha.1,rfl⟩
 case eptr t l i off=>
  subst h;obtain⟨b,o,h1,h2,h3⟩:=ha;exact⟨_,_,h1,b,o,by rw[Nat.add_assoc,Nat.add_assoc],h2,h3⟩
 case rptr id sz i off=>
  subst h;exact⟨_,_,ha.2,ha.1,by rw[Nat.add_assoc]⟩
variable{p:Plan}{m:Mem}
theorem yA2(hE:EOK P E){s:TypeId}{a:SV}{f:Nat}{Z:r9 O}(h:(yA1 E s a f p m Z).holds L):
  ∃v,(Z v p m).holds L/\∀ (m:Mem) w0 R0 I w (av:Value),Rep (RO w0 R0 I w m) I m.next w a av->zd0 P m v (Instr.fieldAt s av f) w0 R0 I w:=by
 unfold yA1 at h
 split at h
 .rename_i fs sz by_ ze ty eg he hrow
  have hok:=hE.row _ _ hrow
  split at h
  .rename_i fd hfd
   split at h
   .rename_i r hr
    have hok':=hE.row _ _ hr
    split at h
    .exact h.elim
    .rename_i k hk
     split at h
     .rename_i v hv
      rw[qs6]at h;refine⟨v,h,λm w0 R0 I w av ha=>?_⟩;obtain⟨b,o,rfl,h2⟩:=zj0 hv ha;refine⟨_,?_,h2⟩;have hu:P.underlying s=some (.struct fs):=hok.und
      have hsz:¬r.size=0:=by omega
      simp only[Instr.fieldAt,Sem.run_bind,run_underlying hu,Result.andThen_ok,hfd,Instr.sureAddr,Sem.run_pure,fieldPlace,y72 hok',hsz,if_false,Addr.add_lit,Sem.run_ite]
     .exact h.elim
   .exact h.elim
  .exact h.elim
 .exact h.elim
theorem y71{t:TypeId}{r:Row}(hr:RowOK P t r){R:Nat->Prop}{I:Rho}{n:Nat}{w:World}{cs:List SV}{vs:List Value}{off:Nat}(hc:j7 R I n w cs vs)(hv:qT3 r cs off=some v):
  ∃u,(Go.part t ⟨vs⟩ off).run P w=.ok u w/\Rep R I n w v u:=by
 unfold qT3 at hv;simp only[Go.part,Sem.run_bind,y68 hr,Result.andThen_ok]
 cases ha:r.isAgg with
 |true=>
  rw[ha]at hv;dsimp only at hv
  split at hv
  .rename_i hk
   injection hv with hv;refine⟨.agg ⟨(vs.drop off).take r.size⟩,?_,by rw[<-hv];exact⟨_,rfl,(hc.drop off).take _⟩⟩;simp only[if_true,Sem.run_bind,y72 hr,Result.andThen_ok,Sem.run_pure,Result.ok.injEq,and_true,Value.agg.injEq];apply Array.ext';simp[Array.toList_extract,List.extract_eq_take_drop]
  .cases hv
 |false=>
  rw[ha]at hv;dsimp only at hv;obtain⟨u,h3,h4⟩:=hc.get hv;refine⟨u,?_,h4⟩;simp[h3]
variable{x:SV}
theorem yA3(hE:EOK P E){s:TypeId}{f:Nat}{Z:r9 O}(h:(yA0 E s x f p m Z).holds L):
  ∃v,(Z v p m).holds L/\∀ (m:Mem) w0 R0 I w (xv:Value),Rep (RO w0 R0 I w m) I m.next w x xv->zd0 P m v (Instr.field s xv f) w0 R0 I w:=by
 unfold yA0 at h
 split at h
 .rename_i fs sz by_ ze ty eg he hrow
  have hok:=hE.row _ _ hrow
  split at h
  .rename_i fd cs hfd
   unfold yJ4 at h
   split at h
   .rename_i r hr
    have hok':=hE.row _ _ hr;obtain⟨v,h1,h2⟩:=qT2 h;refine⟨v,h2,λm w0 R0 I w xv hx=>?_⟩;obtain⟨vs,rfl,hvs⟩:=hx;obtain⟨u,h3,h4⟩:=y71 hok' hvs h1;refine⟨u,?_,h4⟩;have hu:P.underlying s=some (.struct fs):=hok.und;simp only[Instr.field,Sem.run_bind,run_underlying hu,Result.andThen_ok,hfd,asAgg,Sem.run_pure,h3]
   .exact h.elim
  .exact h.elim
 .exact h.elim
theorem yA6(hE:EOK P E){t:TypeId}{ix:SV}{Z:r9 O}(h:(yA5 E t x ix p m Z).holds L):
  ∃v,(Z v p m).holds L/\∀m2,zd9 m m2->∀w0 R0 I w (xv iv:Value),MRel w0 R0 I w m2->Rep (RO w0 R0 I w m2) I m2.next w x xv->Rep (RO w0 R0 I w m2) I m2.next w ix iv->zd0 P m2 v (Instr.indexAt t xv iv) w0 R0 I w:=by
 unfold yA5 at h
 split at h
 .rename_i k i
  split at h
  . -- a slice
    rename_i e sz by_ ze ty eg he hrow;have hok:=hE.row _ _ hrow;have hu:P.underlying t=some (.slice e):=hok.und
    split at h
    .rename_i u l
     split at h
     .rename_i r hr
      have hok':=hE.row _ _ hr
      split at h
      .rename_i hs
       obtain⟨hb,h⟩:=h;simp only[Bool.and_eq_true,decide_eq_true_eq]at hb
       have hs':r.size=u.sz:=by simpa using hs
       refine⟨_,h,λm2 hsh w0 R0 I w xv iv hm hx hi=>?_⟩;rw[show iv=_ from hi];obtain⟨a,cap,hxv,hc,hel⟩:=hx;injection hxv with hxv;subst hxv;obtain⟨b,o,rfl,hR,hall⟩:=hel (by omega);refine⟨.pointer (some ⟨b,o+i.toNat*u.sz,none⟩),?_,b,o,by simp,by omega,hR,hall⟩;simp only[Instr.indexAt,asIntOf,Sem.run_bind,run_underlying hu,Result.andThen_ok,Sem.run_pure,hb.1,hb.2,and_self,if_true,y72 hok',hs',Addr.add_lit,Sem.run_ite]
      .exact h.elim
     .exact h.elim
    .rename_i id
     split at h
     .rename_i u l hg
      split at h
      .rename_i r hr
       have hok':=hE.row _ _ hr
       split at h
       .rename_i hs
        obtain⟨hb,h⟩:=h;simp only[Bool.and_eq_true,decide_eq_true_eq]at hb
        have hs':r.size=u.sz:=by simpa using hs
        refine⟨_,h,λm2 hsh w0 R0 I w xv iv hm hx hi=>?_⟩;rw[show iv=_ from hi];obtain⟨hid,a,rfl,ha⟩:=hx;obtain⟨B',hg2,hl⟩:=hsh id _ hg
        cases B'<;>try exact hl.elim
        rename_i u2 l2;obtain⟨rfl,hll⟩:=hl;obtain⟨b1,b2,_⟩:=hm.box id _ hg2;rw[<-hll]at b1;obtain rfl:=ha (by omega);refine⟨.pointer (some ⟨(I id).1,0+i.toNat*u.sz,none⟩),?_,hid,by simp⟩
        have hb2:i< ((I id).2.1:Int):=by rw[<-b1];exact hb.2
        simp only[Instr.indexAt,asIntOf,Sem.run_bind,run_underlying hu,Result.andThen_ok,Sem.run_pure,hb.1,hb2,and_self,if_true,y72 hok',hs',Addr.add_lit,Sem.run_ite]
       .exact h.elim
      .exact h.elim
     .exact h.elim
    .rename_i id off n
     split at h
     .rename_i r hr
      have hok':=hE.row _ _ hr;obtain⟨hb,h⟩:=h;simp only[Bool.and_eq_true,decide_eq_true_eq]at hb;refine⟨_,h,λm2 hsh w0 R0 I w xv iv hm hx hi=>?_⟩;rw[show iv=_ from hi];obtain⟨hid,rfl⟩:=hx;refine⟨.pointer (some ⟨(I id).1,off+i.toNat*r.size,none⟩),?_,hid,rfl⟩;simp only[Instr.indexAt,asIntOf,Sem.run_bind,run_underlying hu,Result.andThen_ok,Sem.run_pure,hb.1,hb.2,and_self,if_true,y72 hok',Addr.add_lit,Sem.run_ite]
     .exact h.elim
    .exact h.elim
  . -- an array
    rename_i n e sz by_ ze ty eg he hrow;have hok:=hE.row _ _ hrow;have hu:P.underlying t=some (.array n e):=hok.und
    split at h
    .rename_i r hr
     have hok':=hE.row _ _ hr
     split at h
     .rename_i v hv
      obtain⟨hb,h⟩:=h;simp only[Bool.and_eq_true,decide_eq_true_eq]at hb;refine⟨_,h,λm2 hsh w0 R0 I w xv iv hm hx hi=>?_⟩;rw[show iv=_ from hi];obtain⟨b,o,rfl,h2⟩:=zj0 hv hx;refine⟨_,?_,h2⟩;simp only[Instr.indexAt,asIntOf,Sem.run_bind,run_underlying hu,Result.andThen_ok,Sem.run_pure,Instr.sureAddr,hb.1,hb.2,and_self,if_true,y72 hok',Addr.add_lit,Sem.run_ite]
     .exact h.elim
    .exact h.elim
  .exact h.elim
 .exact h.elim
theorem yA7(hE:EOK P E){t:TypeId}{ix:SV}{Z:r9 O}(h:(yA4 E t x ix p m Z).holds L):
  ∃v,(Z v p m).holds L/\∀ (m:Mem) w0 R0 I w (xv iv:Value),Rep (RO w0 R0 I w m) I m.next w x xv->Rep (RO w0 R0 I w m) I m.next w ix iv->zd0 P m v (Instr.index t xv iv) w0 R0 I w:=by
 unfold yA4 at h
 split at h
 .rename_i k i
  split at h
  .rename_i sz by_ ze ty eg he hrow
   have hok:=hE.row _ _ hrow;have hu:P.underlying t=some .string:=hok.und
   split at h
   .rename_i s
    obtain⟨hb,h⟩:=h;simp only[Bool.and_eq_true,decide_eq_true_eq]at hb;refine⟨_,h,λm w0 R0 I w xv iv hx hi=>?_⟩;rw[show iv=_ from hi,show xv=_ from hx];refine⟨_,?_,rfl⟩
    have hlt:i.toNat<s.length:=by omega
    have hg:(⟨⟨s⟩⟩:ByteArray)[i.toNat]? =some (s[i.toNat]'hlt):=by
     have:i.toNat< (⟨⟨s⟩⟩:ByteArray).size:=by simpa[ByteArray.size]using hlt
     rw[getElem?_pos (⟨⟨s⟩⟩:ByteArray) i.toNat this];rfl
    simp only[Instr.index,asIntOf,Sem.run_bind,run_underlying hu,Result.andThen_ok,Sem.run_pure,hb.1,if_true,hg];simp[hlt]
   .exact h.elim
  .rename_i n e sz by_ ze ty eg he hrow
   have hok:=hE.row _ _ hrow;have hu:P.underlying t=some (.array n e):=hok.und
   split at h
   .rename_i cs
    split at h
    .rename_i r hr
     have hok':=hE.row _ _ hr;obtain⟨hb,h⟩:=h;simp only[Bool.and_eq_true,decide_eq_true_eq]at hb;obtain⟨v,h1,h2⟩:=qT2 h;refine⟨v,h2,λm w0 R0 I w xv iv hx hi=>?_⟩;rw[show iv=_ from hi];obtain⟨vs,rfl,hvs⟩:=hx;obtain⟨u,h3,h4⟩:=y71 hok' hvs h1;refine⟨u,?_,h4⟩;simp only[Instr.index,asIntOf,Sem.run_bind,run_underlying hu,Result.andThen_ok,Sem.run_pure,hb.1,hb.2,and_self,if_true,y72 hok',h3,Sem.run_ite]
    .exact h.elim
   .exact h.elim
  .exact h.elim
 .exact h.elim
theorem zT8{t:TypeId}{cs:List SV}{off:Nat}(h:zT2.part E t cs off=some v):∃r,E.row t=some r/\qT3 r cs off=some v:=by
 unfold zT2.part at h
 split at h
 .rename_i r hr
  refine⟨r,hr,?_⟩;unfold qT3
  split at h
  .rename_i ha
   rw[ha];dsimp only
   split at h
   .rename_i hk;rw[if_pos (.inr hk)];exact h
   .cases h
  .rename_i ha
   rw[show r.isAgg=false by simpa using ha];dsimp only;rw[q60]at h;exact h
 .cases h
theorem zT3(hE:EOK P E):∀ (d:Nat) (t:TypeId) (x y:SV) (b:Bool),zT2 E d t x y=some b->∀ (D:Nat),d<=D->∀{R:Nat->Prop} {I:Rho} {n:Nat} {w:World} {xv yv:Value},Rep R I n w x xv->Rep R I n w y yv->
  (Op.equalIn D t xv yv).run P w=.ok b w:=by
 intro d
 induction d with
 |zero=>intro t x y b h;unfold zT2 at h;cases h
 |succ d ih=>
  intro t x y b h D hD;obtain⟨D,rfl⟩:∃D',D=D'+1:=⟨D-1,by omega⟩
  have hdD:d<=D:=by omega
  intro R I n w xv yv hx hy;unfold zT2 at h
  split at h
  .rename_i sz by_ ze ty eg he hrow
   have hu:=(hE.row _ _ hrow).und;dsimp only at hu
   split at h
   .rename_i a b'
    injection h with h;rw[show xv=_ from hx,show yv=_ from hy];simp only[Op.equalIn,Sem.run_bind,run_underlying hu,Result.andThen_ok,Sem.run_pure,h]
   .cases h
  .rename_i k sz by_ ze ty eg he hrow
   have hu:=(hE.row _ _ hrow).und;dsimp only at hu
   split at h
   .rename_i k1 a k2 b'
    split at h
    .rename_i hk
     injection h with h;subst hk;rw[show xv=_ from hx,show yv=_ from hy];simp only[Op.equalIn,Sem.run_bind,run_underlying hu,Result.andThen_ok,Sem.run_pure,h,if_true]
    .cases h
   .cases h
  .rename_i sz by_ ze ty eg he hrow
   have hu:=(hE.row _ _ hrow).und;dsimp only at hu
   split at h
   .rename_i a b'
    injection h with h;rw[show xv=_ from hx,show yv=_ from hy];rw[run_equalIn_string w D t _ _ hu,<-h,ByteArray.toList_eq,ByteArray.toList_eq]
   .cases h
  .rename_i fs sz by_ ze ty eg hrow
   have hok:=hE.row _ _ hrow;have hu:P.underlying t=some (.struct fs):=hok.und;have hheld:P.stoodInHeld t=false:=hok.held.symm
   split at h
   .rename_i xs ys
    obtain⟨vx,rfl,hvx⟩:=hx;obtain⟨vy,rfl,hvy⟩:=hy
    have hfs:P.fieldsOf t=fs:=by simp[Program.fieldsOf,hu]
    rw[run_equalIn_struct w D t ⟨vx⟩ ⟨vy⟩ (by rw[hfs];exact hu) hheld,hfs];clear hu hrow hok hfs;generalize fs.toList=l at h;clear fs
    induction l generalizing b with
    |nil=>simp only[zT2.go]at h;injection h with h;rw[<-h];rfl
    |cons f l ihl=>
     simp only[zT2.go]at h
     split at h
     .rename_i a b' ha hb
      split at h
      .rename_i u v hu hv
       split at h
       .cases h
       .rename_i hn
        injection h with h;obtain⟨r1,hr1,hl1⟩:=zT8 ha;obtain⟨r2,hr2,hl2⟩:=zT8 hb;obtain⟨p1,hp1,hq1⟩:=y71 (P:=P) (hE.row _ _ hr1) hvx hl1;obtain⟨p2,hp2,hq2⟩:=y71 (P:=P) (hE.row _ _ hr2) hvy hl2;have he:=ih _ _ _ _ hu D hdD hq1 hq2;simp only[Op.eqFields,hn,ne_eq,not_false_eq_true,if_true,Sem.run_bind,hp1,hp2,Result.andThen_ok,he]
        cases u with
        |false=>rw[<-h];rfl
        |true=>
         simp only[Bool.not_true,Bool.false_eq_true,if_false];rw[Bool.true_and]at h;subst h;exact ihl _ hv
      .cases h
     .cases h
   .cases h
  .rename_i n0 e sz by_ ze ty eg he hrow
   have hok:=hE.row _ _ hrow;have hu:P.underlying t=some (.array n0 e):=hok.und
   split at h
   .rename_i xs ys r hr
    have hok':=hE.row _ _ hr;obtain⟨vx,rfl,hvx⟩:=hx;obtain⟨vy,rfl,hvy⟩:=hy;simp only[Op.equalIn,Sem.run_bind,run_underlying hu,Result.andThen_ok,y72 hok',Std.Legacy.Range.forIn_eq_forIn_range',Std.Legacy.Range.size,Nat.sub_zero,Nat.add_sub_cancel,Nat.div_one];clear hu hrow hok
    have key:∀ (k i:Nat) (b:Bool),zT2.goN E (zT2 E d) e r xs ys k i=some b->
      ((forIn (List.range' i k 1) ((none,()):Option Bool×Unit) λi _=>do
        if(!(<-Op.equalIn D e (<-Go.part e ⟨vx⟩ (i*r.size)) (<-Go.part e ⟨vy⟩ (i*r.size))))=true then pure (ForInStep.done (some false,()))else pure (ForInStep.yield (none,()))):Sem _).run P w
        =.ok (if b then(none,())else(some false,())) w:=by
     intro k
     induction k with
     |zero=>intro i b hb;unfold zT2.goN at hb;injection hb with hb;subst hb;rfl
     |succ k ihk=>
      intro i b hb;unfold zT2.goN at hb
      split at hb
      .rename_i a b' ha hb'
       split at hb
       .rename_i u v hu hv
        injection hb with hb;obtain⟨r1,hr1,hl1⟩:=zT8 ha;obtain⟨r2,hr2,hl2⟩:=zT8 hb';obtain⟨p1,hp1,hq1⟩:=y71 (P:=P) (hE.row _ _ hr1) hvx hl1;obtain⟨p2,hp2,hq2⟩:=y71 (P:=P) (hE.row _ _ hr2) hvy hl2;have he:=ih _ _ _ _ hu D hdD hq1 hq2;simp only[List.range'_succ,List.forIn_cons,Sem.run_bind,hp1,hp2,Result.andThen_ok,he]
        cases u with
        |false=>rw[<-hb];rfl
        |true=>
         simp only[Bool.not_true,Bool.false_eq_true,if_false,Sem.run_pure,Result.andThen_ok];rw[Bool.true_and]at hb;subst hb;exact ihk (i+1) _ hv
       .cases hb
      .cases hb
    have hk:=key n0 0 b h;rw[hk]
    cases b<;>rfl
   .cases h
  .rename_i ms sz by_ ze ty eg he hrow
   have hu:=(hE.row _ _ hrow).und;dsimp only at hu
   split at h
   .rename_i a b'
    rw[show xv=_ from hx,show yv=_ from hy];unfold qG6 at h
    split at h
    .injection h with h;subst h
     simp only[Op.equalIn,Sem.run_bind,run_underlying hu,Result.andThen_ok,Sem.run_pure]
    .injection h with h;subst h
     simp only[Op.equalIn,Sem.run_bind,run_underlying hu,Result.andThen_ok,Sem.run_pure]
    .injection h with h;subst h
     simp only[Op.equalIn,Sem.run_bind,run_underlying hu,Result.andThen_ok,Sem.run_pure]
    .cases h
   .cases h
  .cases h
end
open Go.RowKit
section
variable {P:Program} {E:Env} {O:Type} {L:O->Prop}
variable{op:BinOp}
theorem qI1{k:IntKind}{a b:Int}{v:SV}(h:qI0 op k a b=some v)(t:TypeId)(w:World):∃u,(Go.binOp op t (.int k a) (.int k b)).run P w=.ok u w/\∀R I n,Rep R I n w v u:=by
 cases op<;>simp only[qI0,Option.some.injEq]at h<;>first
  |(cases h;done)
  |(subst h;exact⟨_,by simp[Go.binOp,Op.intArith,Op.intBits,Op.intCmp],λ_ _ _=>rfl⟩)
theorem xS1(l:List UInt8):(ByteArray.mk ⟨l⟩).toList=l:=ByteArray.toList_eq _
theorem xL5{a b:List UInt8}{v:SV}(h:xL4 op a b=some v)(t:TypeId)(w:World):∃u,(Go.binOp op t (.string ⟨⟨a⟩⟩) (.string ⟨⟨b⟩⟩)).run P w=.ok u w/\∀R I n,Rep R I n w v u:=by
 cases op<;>simp only[xL4,Option.some.injEq]at h<;>first
  |(cases h;done)
  |(subst h;exact⟨_,by simp[Go.binOp,Op.stringOp,xS1],λ_ _ _=>rfl⟩)
variable{x:SV}
theorem eqIn_shape{d:Nat}{t:TypeId}{y:SV}{b:Bool}(h:zT2 E d t x y=some b):(∃k a k' c,x=.int k a/\y=.int k' c)\/(∃a c,x=.str a/\y=.str c)\/(∃a c,x=.bool a/\y=.bool c)\/(∃a c,x=.agg a/\y=.agg c)\/(∃a c ms r,x=.raw a/\y=.raw c/\qG6 a c=some b/\E.row t=some r/\r.desc=.interface ms):=by
 cases d with
 |zero=>unfold zT2 at h;cases h
 |succ d=>
  unfold zT2 at h
  split at h
  .split at h
   .exact .inr (.inr (.inl ⟨_,_,rfl,rfl⟩))
   .cases h
  .split at h
   .exact .inl ⟨_,_,_,_,rfl,rfl⟩
   .cases h
  .split at h
   .exact .inr (.inl ⟨_,_,rfl,rfl⟩)
   .cases h
  .split at h
   .exact .inr (.inr (.inr (.inl ⟨_,_,rfl,rfl⟩)))
   .cases h
  .split at h
   .exact .inr (.inr (.inr (.inl ⟨_,_,rfl,rfl⟩)))
   .cases h
  .rename_i hrow
   split at h
   .exact .inr (.inr (.inr (.inr ⟨_,_,_,_,rfl,rfl,h,hrow,rfl⟩)))
   .cases h
  .cases h
theorem y67{t e:TypeId}(hu:P.underlying t=some (.slice e))(a:Option Addr)(l c l' c':Nat)(w:World):(Op.equal t (.slice a l c) (.slice none l' c')).run P w=.ok a.isNone w:=by
 have key:∀d,(Op.equalIn (d+1) t (.slice a l c) (.slice none l' c')).run P w=.ok a.isNone w:=λd=>by
  simp only[Op.equalIn,Sem.run_bind,run_underlying hu,Result.andThen_ok]
  cases a<;>rfl
 exact key 9999
variable{m:Mem}
theorem yy6(hE:EOK P E){t:TypeId}{y:SV}{p:Plan}{Z:r9 O}(h:(yy5 E op t x y p m Z).holds L):
  ∃v,(Z v p m).holds L/\∀ (m:Mem) w0 R0 I w (xv yv:Value) (xo yo:Operand),Rep (RO w0 R0 I w m) I m.next w x xv->Rep (RO w0 R0 I w m) I m.next w y yv->zd0 P m v (do eqGuard op t xo yo xv yv;Go.binOp op t xv yv) w0 R0 I w:=by
 unfold yy5 at h
 split at h
 .rename_i k a k' b
  split at h
  .obtain⟨hb,h⟩:=h
   refine⟨_,h,λm w0 R0 I w xv yv xo yo hx hy=>?_⟩;rw[show xv=_ from hx,show yv=_ from hy]
   have hb':¬b<0:=by have:=of_decide_eq_true hb;omega
   exact⟨_,by simp[eqGuard_at_int,Go.binOp,Op.shift,hb'],rfl⟩
  .obtain⟨hb,h⟩:=h
   refine⟨_,h,λm w0 R0 I w xv yv xo yo hx hy=>?_⟩;rw[show xv=_ from hx,show yv=_ from hy]
   have hb':¬b<0:=by have:=of_decide_eq_true hb;omega
   exact⟨_,by simp[eqGuard_at_int,Go.binOp,Op.shift,hb'],rfl⟩
  .split at h
   .rename_i hk
    subst hk
    split at h
    .obtain⟨hb,h⟩:=h
     refine⟨_,h,λm w0 R0 I w xv yv xo yo hx hy=>?_⟩;rw[show xv=_ from hx,show yv=_ from hy]
     have hb':¬b=0:=by simpa using hb
     exact⟨_,by simp[eqGuard_at_int,Go.binOp,Op.intDiv,hb'],rfl⟩
    .obtain⟨hb,h⟩:=h
     refine⟨_,h,λm w0 R0 I w xv yv xo yo hx hy=>?_⟩;rw[show xv=_ from hx,show yv=_ from hy]
     have hb':¬b=0:=by simpa using hb
     exact⟨_,by simp[eqGuard_at_int,Go.binOp,Op.intDiv,hb'],rfl⟩
    .split at h
     .rename_i v hv
      refine⟨v,h,λm w0 R0 I w xv yv xo yo hx hy=>?_⟩;rw[show xv=_ from hx,show yv=_ from hy];obtain⟨u,h1,h2⟩:=qI1 (P:=P) hv t w;exact⟨u,by simp only[eqGuard_at_int,pure_bind,h1],h2 _ _ _⟩
     .exact h.elim
   .exact h.elim
 .rename_i a b
  split at h
  .obtain⟨hb,h⟩:=h
   refine⟨_,h,λm w0 R0 I w xv yv xo yo hx hy=>?_⟩;rw[show xv=_ from hx,show yv=_ from hy]
   have hb':¬(9223372036854775807:Int)< ((a.length+b.length:Nat):Int):=by have:=of_decide_eq_true hb;omega
   refine⟨.string ⟨⟨a++b⟩⟩,?_,rfl⟩;simp only[eqGuard_at_string,pure_bind,Go.binOp,Op.stringOp]
   have hs:∀l:List UInt8,(ByteArray.mk ⟨l⟩).size=l.length:=λl=>rfl
   rw[hs,hs,if_neg (by rw[IntKind.max_i64];exact hb')];simp only[Sem.run_pure,Result.ok.injEq,and_true,Value.string.injEq];apply ByteArray.ext;simp
  .split at h
   .rename_i v hv
    refine⟨v,h,λm w0 R0 I w xv yv xo yo hx hy=>?_⟩;rw[show xv=_ from hx,show yv=_ from hy];obtain⟨u,h1,h2⟩:=xL5 (P:=P) hv t w;exact⟨u,by simp only[eqGuard_at_string,pure_bind,h1],h2 _ _ _⟩
   .exact h.elim
 .rename_i hni hns
  have key:∀ (b:Bool) (op:BinOp),(op=.eql\/op=.neq)->(∃r,E.row t=some r/\r.eqg=false)->zT2 E 100 t x y=some b->∀ (m:Mem) w0 R0 I w (xv yv:Value) (xo yo:Operand),Rep (RO w0 R0 I w m) I m.next w x xv->Rep (RO w0 R0 I w m) I m.next w y yv->
    (do eqGuard op t xo yo xv yv;Go.binOp op t xv yv).run P w=.ok (.bool (if op=.eql then b else !b)) w:=by
   intro b op hop ⟨r,hr,hg⟩ he m w0 R0 I w xv yv xo yo hx hy;have hok:=hE.row _ _ hr;have hq:=zT3 (P:=P) hE 100 t x y b he 10000 (by omega) hx hy;rcases eqIn_shape he with⟨k,a,k',c,rfl,rfl⟩|⟨a,c,rfl,rfl⟩|⟨a,c,rfl,rfl⟩|⟨a,c,rfl,rfl⟩|⟨a,c,ms,r',rfl,rfl,hn,hr',hd⟩
   .exact(hni _ _ _ _ rfl rfl).elim
   .exact(hns _ _ rfl rfl).elim
   .rw[show xv=_ from hx,show yv=_ from hy]at hq ⊢
    rcases hop with rfl|rfl
    .simp[eqGuard_at_bool,Go.binOp,Op.equal,Op.maxDepth,hq]
    .simp[eqGuard_at_bool,Go.binOp,Op.equal,Op.maxDepth,hq]
   .obtain⟨vx,rfl,_⟩:=hx
    obtain⟨vy,rfl,_⟩:=hy
    have hm:P.eqGuardType P.depth t=false:=by rw[<-hok.eqg];exact hg
    rcases hop with rfl|rfl
    .simp only[Sem.run_bind,run_eqGuard_agg w _ t xo yo _ _ hm,Result.andThen_ok,run_eql_struct,hq];rfl
    .simp only[Sem.run_bind,run_eqGuard_agg w _ t xo yo _ _ hm,Result.andThen_ok,run_neq_struct,hq];rfl
   .have hu:P.underlying t=some (.interface ms):=by rw[(hE.row _ _ hr').und,hd]
    have hm:P.eqGuardType P.depth t=false:=by rw[<-hok.eqg];exact hg
    have hms:ms.isEmpty=true:=by
     cases hdp:P.depth with
     |zero=>rw[hdp]at hm;simp[Program.eqGuardType]at hm
     |succ d=>rw[hdp]at hm;simpa[Program.eqGuardType,hu]using hm
    rw[show xv=_ from hx,show yv=_ from hy]at hq ⊢;unfold qG6 at hn
    split at hn
    .have hgi:∀d,(Op.eqGuardIn (d+1) t .nilIface .nilIface).run P w=.ok false w:=λd=>by
      simp only[Op.eqGuardIn,Sem.run_bind,run_underlying hu,Result.andThen_ok,Sem.run_pure,hms];rfl
     have hgj : (do if ← Op.eqGuardIn Op.maxDepth t .nilIface .nilIface then unsupported (.noEntry "binop/eql: two nil values of an interface type with methods, neither of them the literal nil") : Sem Unit).run P w = .ok () w := by
      rw[Sem.run_bind,show Op.maxDepth=9999+1 from rfl,hgi 9999];rfl
     have hgd:∀op,(op=.eql\/op=.neq)->(eqGuard op t xo yo .nilIface .nilIface).run P w=.ok () w:=λop hop=>by
      rcases hop with rfl|rfl
      .cases xo<;>cases yo<;>first|exact hgj|rfl
      .cases xo<;>cases yo<;>first|exact hgj|rfl
     rcases hop with rfl|rfl
     .rw[Sem.run_bind,hgd _ (.inl rfl)];simp[Go.binOp,Op.equal,Op.maxDepth,hq]
     .rw[Sem.run_bind,hgd _ (.inr rfl)];simp[Go.binOp,Op.equal,Op.maxDepth,hq]
    .rcases hop with rfl|rfl<;>simp[eqGuard,Go.binOp,Op.equal,Op.maxDepth,hq]
    .rcases hop with rfl|rfl<;>simp[eqGuard,Go.binOp,Op.equal,Op.maxDepth,hq]
    .cases hn
  split at h
  .rename_i rb hnt
   split at h<;>try exact h.elim
   rename_i e sz by_ ze ty eg he hrow;have hok:=hE.row _ _ hrow;have hu:P.underlying t=some (.slice e):=hok.und
   have kn:rb.1=true->∀ (m:Mem) w0 R0 I w (xv yv:Value) (xo yo:Operand),Rep (RO w0 R0 I w m) I m.next w x xv->Rep (RO w0 R0 I w m) I m.next w y yv->(∃a l c l' c',xv=.slice a l c/\yv=.slice none l' c')/\(Op.equal t xv yv).run P w=.ok rb.2 w:=by
    intro hr m w0 R0 I w xv yv xo yo hx hy;unfold q48 at hnt
    split at hnt
    .injection hnt with hnt;subst hnt
     rw[show xv=_ from hx,show yv=_ from hy];exact⟨⟨_,_,_,_,_,rfl,rfl⟩,y67 hu _ _ _ _ _ w⟩
    .rename_i u l
     injection hnt with hnt;subst hnt;obtain⟨a,cap,hxv,_,hel⟩:=hx;injection hxv with hxv;rw[hxv,show yv=_ from hy]
     have hne:0<List.length l:=by
      cases l with
      |nil=>cases hr
      |cons _ _=>simp
     obtain⟨b,o,rfl,_⟩:=hel hne;exact⟨⟨_,_,_,_,_,rfl,rfl⟩,y67 hu _ _ _ _ _ w⟩
    .injection hnt with hnt;subst hnt
     rw[show xv=_ from hx.2,show yv=_ from hy];exact⟨⟨_,_,_,_,_,rfl,rfl⟩,y67 hu _ _ _ _ _ w⟩
    .split at hnt
     .injection hnt with hnt;subst hnt
      rw[show xv=_ from hx,show yv=_ from hy];exact⟨⟨_,_,_,_,_,rfl,rfl⟩,y67 hu _ _ _ _ _ w⟩
     .injection hnt with hnt;subst hnt
      rw[show xv=_ from hx,show yv=_ from hy];exact⟨⟨_,_,_,_,_,rfl,rfl⟩,y67 hu _ _ _ _ _ w⟩
     .cases hnt
    .cases hnt
   split at h<;>try exact h.elim
   .obtain⟨hr,h⟩:=h
    refine⟨_,h,λm w0 R0 I w xv yv xo yo hx hy=>?_⟩;obtain⟨⟨a,l,c,l',c',rfl,rfl⟩,h2⟩:=kn hr m w0 R0 I w xv yv xo yo hx hy;exact⟨_,by simp only[eqGuard,Go.binOp,Sem.run_bind,Sem.run_pure,Result.andThen_ok,h2,pure_bind,Bool.not_true,Bool.false_eq_true,if_false],rfl⟩
   .obtain⟨hr,h⟩:=h
    refine⟨_,h,λm w0 R0 I w xv yv xo yo hx hy=>?_⟩;obtain⟨⟨a,l,c,l',c',rfl,rfl⟩,h2⟩:=kn hr m w0 R0 I w xv yv xo yo hx hy;exact⟨_,by simp only[eqGuard,Go.binOp,Sem.run_bind,Sem.run_pure,Result.andThen_ok,h2,pure_bind,Bool.not_true,Bool.false_eq_true,if_false],rfl⟩
  split at h
  .rename_i de sz by_ ze ty he hrow
   split at h
   .split at h
    .rename_i b hb
     exact⟨_,h,λm w0 R0 I w xv yv xo yo hx hy=>⟨_,key b .eql (.inl rfl) ⟨_,hrow,rfl⟩ hb m w0 R0 I w xv yv xo yo hx hy,rfl⟩⟩
    .exact h.elim
   .split at h
    .rename_i b hb
     exact⟨_,h,λm w0 R0 I w xv yv xo yo hx hy=>⟨_,key b .neq (.inr rfl) ⟨_,hrow,rfl⟩ hb m w0 R0 I w xv yv xo yo hx hy,rfl⟩⟩
    .exact h.elim
   .exact h.elim
  .exact h.elim
theorem yC4{op:UnOp}{p:Plan}{Z:r9 O}(h:(yC3 op x p m Z).holds L):
  ∃v,(Z v p m).holds L/\∀ (m:Mem) w0 R0 I w (xv:Value),Rep (RO w0 R0 I w m) I m.next w x xv->zd0 P m v (Op.unary op xv) w0 R0 I w:=by
 unfold yC3 at h
 split at h
 .exact⟨_,h,λm w0 R0 I w xv hx=>by rw[show xv=_ from hx];exact⟨_,rfl,rfl⟩⟩
 .exact⟨_,h,λm w0 R0 I w xv hx=>by rw[show xv=_ from hx];exact⟨_,rfl,rfl⟩⟩
 .exact⟨_,h,λm w0 R0 I w xv hx=>by rw[show xv=_ from hx];exact⟨_,rfl,rfl⟩⟩
 .exact h.elim
def zd3(R:Nat->Prop)(w:World)(t:Ty):List t.T->List Value->Prop
 |[],vs=>vs=[]
 |x::xs,vs=>∃v1 v2,vs=v1++v2/\r8 R w t x v1/\zd3 R w t xs v2
variable{R:Nat->Prop}{w:World}
theorem zd3.append{t:Ty}:∀{xs ys:List t.T} {us vs:List Value},zd3 R w t xs us->zd3 R w t ys vs->zd3 R w t (xs++ys) (us++vs)
 |[],_,us,vs,h,k=>by rw[show us=[]from h];exact k
 |x::xs,ys,us,vs,h,k=>by
  obtain⟨v1,v2,rfl,h1,h2⟩:=h;exact⟨v1,v2++vs,by simp,h1,zd3.append h2 k⟩
theorem zd3.length{t:Ty}:∀{xs:List t.T} {us:List Value},zd3 R w t xs us->us.length=xs.length*t.sz
 |[],us,h=>by rw[show us=[]from h];simp
 |x::xs,us,h=>by
  obtain⟨v1,v2,rfl,h1,h2⟩:=h;rw[List.length_append,(r8.flat (I:=λ_=>(0,0,0)) (n:=0) t x v1 h1).1,zd3.length h2,List.length_cons,Nat.succ_mul,Nat.add_comm]
theorem zd3.mono{R':Nat->Prop}{w':World}(hk:∀b,R b->R' b/\w'.heap[b]? =w.heap[b]?){t:Ty}:∀{xs:List t.T} {us:List Value},zd3 R w t xs us->zd3 R' w' t xs us
 |[],_,h=>h
 |x::xs,us,h=>by
  obtain⟨v1,v2,rfl,h1,h2⟩:=h;exact⟨v1,v2,rfl,r8.mono hk t _ _ h1,zd3.mono hk h2⟩
def za8(R:Nat->Prop)(w:World)(t:Ty)(l:List t.T)(g:Nat->Option Value):Prop:=
 ∀i (h:i<l.length),∃cs:List Value,cs.length=t.sz/\(∀j,j<t.sz->g (i*t.sz+j)=cs[j]?)/\r8 R w t l[i] cs
theorem zd3.elems{t:Ty}:∀{xs:List t.T} {us:List Value},zd3 R w t xs us->za8 R w t xs λk=>us[k]?
 |[],_,_,i,hi=>absurd hi (Nat.not_lt_zero _)
 |x::xs,us,h,0,hi=>by
  obtain⟨v1,v2,rfl,h1,h2⟩:=h;have hl:=(r8.flat (I:=λ_=>(0,0,0)) (n:=0) t x v1 h1).1;exact⟨v1,hl,λj hj=>by simp only[Nat.zero_mul,Nat.zero_add];rw[List.getElem?_append_left (by omega)],h1⟩
 |x::xs,us,h,i+1,hi=>by
  obtain⟨v1,v2,rfl,h1,h2⟩:=h;have hl:=(r8.flat (I:=λ_=>(0,0,0)) (n:=0) t x v1 h1).1;obtain⟨cs,k1,k2,k3⟩:=zd3.elems h2 i (by simpa using hi);refine⟨cs,k1,λj hj=>?_,by simpa using k3⟩;rw[<-k2 j hj];dsimp only;rw[List.getElem?_append_right (by rw[Nat.succ_mul];omega)]
  congr 1
  rw[Nat.succ_mul];omega
theorem za8.repDL{t:Ty}:∀{xs:List t.T} {us:List Value},us.length=xs.length*t.sz->za8 R w t xs (λk=>us[k]?)->zd3 R w t xs us
 |[],us,hl,_=>List.eq_nil_of_length_eq_zero (by simpa using hl)
 |x::xs,us,hl,h=>by
  rw[List.length_cons,Nat.succ_mul]at hl;obtain⟨cs,k1,k2,k3⟩:=h 0 (by simp)
  have hcs:us.take t.sz=cs:=by
   apply List.ext_getElem?;intro j
   by_cases hj:j<t.sz
   .rw[List.getElem?_take,if_pos hj]
    have:=k2 j hj
    simpa using this
   .rw[List.getElem?_take,if_neg hj,List.getElem?_eq_none (by omega)]
  refine⟨us.take t.sz,us.drop t.sz,(List.take_append_drop _ _).symm,by rw[hcs];exact k3,za8.repDL (by rw[List.length_drop];omega) λi hi=>?_⟩;obtain⟨ds,d1,d2,d3⟩:=h (i+1) (by simpa using hi);refine⟨ds,d1,λj hj=>?_,by simpa using d3⟩;rw[<-d2 j hj];dsimp only;rw[List.getElem?_drop]
  congr 1
  rw[Nat.succ_mul];omega
variable{I:Rho}
theorem xV5{n:Nat}{t:Ty}:∀{k:Nat} {cs:List SV} {l:List t.T} {vs:List Value},xV4 t k cs=some l->j7 R I n w cs vs->zd3 R w t l vs/\l.length=k
 |0,cs,l,vs,h,hr=>by
  cases cs with
  |nil=>simp only[xV4]at h;injection h with h;subst h;exact⟨hr,rfl⟩
  |cons c cs=>simp[xV4]at h
 |k+1,cs,l,vs,h,hr=>by
  simp only[xV4]at h
  cases h1:unflat t cs with
  |none=>rw[h1]at h;cases h
  |some q=>
   obtain⟨x,cs1⟩:=q;rw[h1]at h;dsimp only at h
   cases h2:xV4 t k cs1 with
   |none=>rw[h2]at h;cases h
   |some l'=>
    rw[h2]at h;injection h with h;subst h;obtain⟨v1,v2,rfl,_,r1,r2⟩:=r8.unflat t cs x cs1 vs h1 hr;obtain⟨r3,r4⟩:=xV5 h2 r2;exact⟨⟨v1,v2,rfl,r1,r3⟩,by simp[r4]⟩
theorem zy3:∀ (s:List UInt8),zd3 R w (.int .u8) (s.map λb=>(b.toNat:Int):List Int) (s.map λb=>Value.int .u8 b.toNat)
 |[] =>rfl
 |b::s=>⟨[_],_,rfl,rfl,zy3 s⟩
theorem y63{w0:World}{R0:RSet}(hm:MRel w0 R0 I w m){id:Nat}{u:Ty}{l:List u.T}(h:m.get id=some (.rows u l))(hc:0< (I id).2.2):
  ∃arr e fr,w.heap[(I id).1]? =some (.cells arr e fr)/\xV7 u e arr fr/\arr.size=(I id).2.2*u.sz/\zd3 (RO w0 R0 I w m) w u l (arr.toList.take (l.length*u.sz)):=by
 obtain⟨b1,b2,hp⟩:=hm.box id _ h;obtain⟨arr,e,fr,h1,h2,h3,h4⟩:=hp hc
 have hle:l.length*u.sz<=arr.size:=by rw[h3];exact Nat.mul_le_mul_right _ b2
 refine⟨arr,e,fr,h1,h2,h3,za8.repDL (by rw[List.length_take];simp;omega) λi hi=>?_⟩;obtain⟨cs,k1,k2,k3⟩:=h4 i hi;refine⟨cs,k1,λj hj=>?_,k3⟩
 have:i*u.sz+j<l.length*u.sz:=by
  have:(i+1)*u.sz<=l.length*u.sz:=Nat.mul_le_mul_right _ hi;rw[Nat.succ_mul]at this;omega
 dsimp only;rw[List.getElem?_take,if_pos this,<-k2 j hj];simp
theorem zx6{n:Nat}{r:Nat×Nat×Nat}{u:Ty}{l:List u.T}{arr:Array Value}{e:TypeId}{fr:Nat×Nat}{vs rest:List Value}(h0:l.length=r.2.1)(h0':l.length<=r.2.2)
  (h1:w.heap[r.1]? =some (.cells arr e fr)) (h2:xV7 u e arr fr) (h3:arr.size=r.2.2*u.sz) (h4:arr.toList=vs++rest) (h5:zd3 R w u l vs):za2 R I n w r (.rows u l):=by
 refine⟨h0,h0',λ_=>⟨arr,e,fr,h1,h2,h3,λi hi=>?_⟩⟩;obtain⟨cs,k1,k2,k3⟩:=h5.elems i hi;refine⟨cs,k1,λj hj=>?_,k3⟩;rw[<-k2 j hj,<-Array.getElem?_toList,h4]
 have:i*u.sz+j<vs.length:=by
  rw[h5.length];have:(i+1)*u.sz<=l.length*u.sz:=Nat.mul_le_mul_right _ hi;rw[Nat.succ_mul]at this;omega
 rw[List.getElem?_append_left this]
theorem xV9(arr:Array Value):xV6 arr (0,0):=λi _ h=>absurd h.2 (Nat.not_lt_zero _)
end
open Go.RowKit
section
variable {P:Program} {E:Env} {O:Type} {L:O->Prop}
abbrev ze7(P:Program)(m:Mem)(v:SV)(m':Mem)(s:Sem Value)(w0:World)(R0:RSet)(I:Rho)(w:World):Prop:=
 ∃u w',s.run P w=.ok u w'/\f5 w0 R0 I w m v m' u w'
variable{m:Mem}{w0 w:World}{R0:RSet}{I:Rho}
theorem zd0.yields{v:SV}{s:Sem Value}(h:zd0 P m v s w0 R0 I w)(hm:MRel w0 R0 I w m):ze7 P m v m s w0 R0 I w:=
 let ⟨u,h1,h2⟩:=h
 ⟨u,w,h1,f5.same hm h2⟩
variable{x:SV}
theorem zQ5{u:Ty}{xs:List u.T}(h:zQ3 u m x=some xs){xv:Value}(hm:MRel w0 R0 I w m)(hx:Rep (RO w0 R0 I w m) I m.next w x xv):
  ∃vs,(Builtin.lenOf xv).run P w=.ok xs.length w/\(Builtin.firstCells u.sz xs.length xv).run P w=.ok ⟨vs⟩ w/\zd3 (RO w0 R0 I w m) w u xs vs:=by
 have hsz:∀ (t:Ty) (l:List t.T) (b o:Nat),za8 (RO w0 R0 I w m) w t l (λk=>w.cell? ⟨b,o+k,none⟩)->∃vs:List Value,(Go.loadCells ⟨b,o,none⟩ (l.length*t.sz)).run P w=.ok ⟨vs⟩ w/\zd3 (RO w0 R0 I w m) w t l vs:=by
  intro t l b o hel
  have hcell:∀k,k<l.length*t.sz->∃v,w.cell? ⟨b,o+k,none⟩=some v:=by
   intro k hk
   have hpos:0<t.sz:=by
    rcases Nat.eq_zero_or_pos t.sz with h0|h0
    .rw[h0]at hk;omega
    .exact h0
   have hdm:=Nat.div_add_mod k t.sz;have hmod:=Nat.mod_lt k hpos;have hi:k / t.sz<l.length:=Nat.div_lt_of_lt_mul (by rwa [Nat.mul_comm]);obtain⟨cs,c1,c2,_⟩:=hel (k / t.sz) hi;have:=c2 (k % t.sz) hmod;dsimp only at this;rw[show k / t.sz*t.sz+k % t.sz=k by rw[Nat.mul_comm];exact hdm]at this;rw[this,List.getElem?_eq_getElem (by omega)];exact⟨_,rfl⟩
  obtain⟨f,hf⟩:∃f:Nat->Value,∀k,k<l.length*t.sz->w.cell? ⟨b,o+k,none⟩=some (f k):=
   ⟨λk=>if hk:k<l.length*t.sz then(hcell k hk).choose else default,λk hk=>by simp only[hk,dite_true];exact(hcell k hk).choose_spec⟩
  refine⟨(List.range (l.length*t.sz)).map f,run_loadCells w ⟨b,o,none⟩ _ f (λj hj=>by rw[Addr.add_lit];exact hf j hj),za8.repDL (by simp) λi hi=>?_⟩;obtain⟨cs,c1,c2,c3⟩:=hel i hi;refine⟨cs,c1,λj hj=>?_,c3⟩
  have:i*t.sz+j<l.length*t.sz:=by
   have:(i+1)*t.sz<=l.length*t.sz:=Nat.mul_le_mul_right _ hi;rw[Nat.succ_mul]at this;omega
  rw[<-c2 j hj];dsimp only;rw[hf _ this];simp[this]
 cases x<;>simp only[zQ3]at h<;>try(cases h;done)
 case nilS=>
  injection h with h;subst h;rw[show xv=_ from hx];exact⟨[],rfl,by simp[Builtin.firstCells],rfl⟩
 case list t l=>
  split at h
  .rename_i ht
   injection h with h;subst ht;dsimp only at h;subst h;obtain⟨a,cap,hxv,hc,hel⟩:=hx;injection hxv with hxv;subst hxv;rcases Nat.eq_zero_or_pos (List.length l)with h0|h0
   .have:l=[] :=List.eq_nil_of_length_eq_zero h0
    subst this;refine⟨[],rfl,?_,rfl⟩
    cases a<;>simp[Builtin.firstCells,Go.loadCells,loadCellsFrom]
   .obtain⟨b,o,rfl,hR,hall⟩:=hel h0
    obtain⟨vs,h1,h2⟩:=hsz t l b o (λi hi=>hall i hi);exact⟨vs,rfl,h1,h2⟩
  .cases h
 case row id=>
  split at h
  .rename_i t l hg
   split at h
   .rename_i ht
    injection h with h;subst ht;dsimp only at h;subst h;obtain⟨hid,a,rfl,ha⟩:=hx;obtain⟨b1,b2,hp⟩:=hm.box id _ hg;rcases Nat.eq_zero_or_pos (I id).2.2 with h0|h0
    .have hl:l=[] :=List.eq_nil_of_length_eq_zero (by omega)
     subst hl;refine⟨[],by rw[<-b1];rfl,?_,rfl⟩
     cases a<;>simp[Builtin.firstCells,Go.loadCells,loadCellsFrom]
    .obtain rfl:=ha h0
     obtain⟨arr,e,fr,h1,h2,h3,h4⟩:=hp h0
     obtain⟨vs,k1,k2⟩:=hsz t l (I id).1 0 (λi hi=>by
      obtain⟨cs,c1,c2,c3⟩:=h4 i hi
      exact⟨cs,c1,λj hj=>by dsimp only;rw[Nat.zero_add,cell_of_row w _ _ arr e fr h1];exact c2 j hj,c3⟩)
     exact⟨vs,by rw[<-b1];rfl,k1,k2⟩
   .cases h
  .cases h
 case arr id off n=>
  split at h
  .rename_i cs hg
   obtain⟨hid,rfl⟩:=hx;obtain⟨arr,e,fr,h1,h2,h3⟩:=hm.box id _ hg;have hr:=(h3.drop off).take (n*u.sz);obtain⟨hd,hl⟩:=xV5 h hr;have hlen:=hd.length;rw[hl]at hlen ⊢;refine⟨(arr.toList.drop off).take (n*u.sz),rfl,?_,hd⟩
   have:=run_loadCells_list (P:=P) w ⟨(I id).1,off,none⟩ ((arr.toList.drop off).take (n*u.sz)) (λj v hj=>by
    rw[Addr.add_lit,cell_of_row w _ _ arr e fr h1]
    have hjl:j<n*u.sz:=by have:=(List.getElem?_eq_some_iff.1 hj).1;omega
    rw[List.getElem?_take,if_pos hjl,List.getElem?_drop]at hj
    simpa using hj)
   rw[hlen]at this;exact this
  .cases h
 case str s=>
  split at h
  .rename_i ht
   injection h with h;subst ht;dsimp only at h;subst h;rw[show xv=_ from hx];have hl:List.length (List.map (λb:UInt8=>(b.toNat:Int)) s)=s.length:=List.length_map _;refine⟨_,?_,?_,zy3 s⟩
   .show Result.ok s.length w=Result.ok (List.length (List.map (λb:UInt8=>(b.toNat:Int)) s)) w
    rw[hl]
   .show(Builtin.firstCells 1 (List.length (List.map (λb:UInt8=>(b.toNat:Int)) s)) _).run P w=_
    rw[hl];simp only[Builtin.firstCells,Sem.run_pure,Result.ok.injEq,and_true];apply Array.ext';simp[Lib.extract_data]
  .cases h
 case raw v=>
  split at h
  .rename_i a cap
   injection h with h;subst h;rw[show xv=_ from hx];refine⟨[],rfl,?_,rfl⟩
   cases a with
   |none=>simp[Builtin.firstCells,Go.loadCells]
   |some a=>
    simp[Builtin.firstCells,Go.loadCells];rfl
  .cases h
theorem zy2{s:List UInt8}(h:zy1 m x=some s){xv:Value}(hm:MRel w0 R0 I w m)(hx:Rep (RO w0 R0 I w m) I m.next w x xv):
  (∃a l c,xv=.slice a l c)/\(Conv.bytesToString xv).run P w=.ok (.string ⟨⟨s⟩⟩) w:=by
 have key:∀ (l:List Int) (vs:List Value),zd3 (RO w0 R0 I w m) w (.int .u8) l vs->vs=l.map (Value.int .u8):=by
  intro l
  induction l with
  |nil=>intro vs h;exact h
  |cons n l ih=>
   intro vs h;obtain⟨v1,v2,rfl,h1,h2⟩:=h;rw[show v1=_ from h1,ih v2 h2];rfl
 have fin:∀ (ns:List Int) (a:Addr) (len cap:Nat) (vs:List Value),(Go.loadCells a len).run P w=.ok ⟨vs⟩ w->vs=ns.map (Value.int .u8)->(Conv.bytesToString (.slice (some a) len cap)).run P w=.ok (.string ⟨⟨ns.map λn=>UInt8.ofNat n.toNat⟩⟩) w:=by
  intro ns a len cap vs h1 h2;subst h2;rw[run_bytesToString w a len cap ns h1,foldl_push_bytes];simp[ByteArray.empty,ByteArray.emptyWithCapacity];rfl
 cases x<;>simp only[zy1]at h<;>try(cases h;done)
 case nilS=>
  injection h with h;subst h;rw[show xv=_ from hx];exact⟨⟨_,_,_,rfl⟩,rfl⟩
 case list t l=>
  cases t<;>try(cases h;done)
  case int k=>
   cases k<;>try(cases h;done)
   case u8=>
    injection h with h
    have he:zQ3 (.int .u8) m (.list (.int .u8) l)=some l:=by simp[zQ3]
    obtain⟨vs,h1,h2,h3⟩:=zQ5 (P:=P) he hm hx;obtain⟨a,cap,hxv,hc,hel⟩:=hx;injection hxv with hxv;subst hxv;refine⟨⟨_,_,_,rfl⟩,?_⟩
    cases a with
    |none=>
     have:List.length (l:List Int)=0:=by
      rcases Nat.eq_zero_or_pos (List.length (l:List Int))with h0|h0
      .exact h0
      .obtain⟨b,o,hb,_⟩:=hel h0;cases hb
     have:(l:List Int)=[] :=List.eq_nil_of_length_eq_zero this;rw[<-h,this];rfl
    |some a=>
     rw[<-h];exact fin _ _ _ _ _ (by simpa[Builtin.firstCells,Ty.sz]using h2) (key _ _ h3)
 case row id=>
  split at h
  .rename_i l hg
   injection h with h
   have he:zQ3 (.int .u8) m (.row id)=some l:=by simp[zQ3,hg]
   obtain⟨vs,h1,h2,h3⟩:=zQ5 (P:=P) he hm hx;obtain⟨hid,a,rfl,ha⟩:=hx;obtain⟨b1,b2,hp⟩:=hm.box id _ hg;refine⟨⟨_,_,_,rfl⟩,?_⟩
   cases a with
   |none=>
    have hc:¬0< (I id).2.2:=λhc=>by have:=ha hc;cases this
    have:(l:List Int)=[] :=List.eq_nil_of_length_eq_zero (by omega);rw[<-h,this];rfl
   |some a=>
    rw[<-h];refine fin _ _ _ _ _ (by rw[<-b1];simpa[Builtin.firstCells,Ty.sz]using h2) (key _ _ h3)
  .cases h
 case arr id off n=>
  split at h
  .rename_i cs hg
   split at h
   .rename_i l hl
    injection h with h
    have he:zQ3 (.int .u8) m (.arr id off n)=some l:=by simp only[zQ3,hg];exact hl
    have hln:List.length (l:List Int)=n:=by
     obtain⟨arr,e,fr,h1,h2,h3⟩:=hm.box id _ hg;exact(xV5 hl ((h3.drop off).take (n*(Ty.int .u8).sz))).2
    obtain⟨vs,h1,h2,h3⟩:=zQ5 (P:=P) he hm hx;obtain⟨hid,rfl⟩:=hx;refine⟨⟨_,_,_,rfl⟩,?_⟩;rw[<-h];refine fin _ _ _ _ _ (by rw[<-hln];simpa[Builtin.firstCells,Ty.sz]using h2) (key _ _ h3)
   .cases h
  .cases h
theorem yP3{w1:World}{m':Mem}{u:Ty}{l:List u.T}{arr:Array Value}{e:TypeId}{fr:Nat×Nat}{vs rest:List Value}{cap:Nat}(hm:MRel w0 R0 I w m)(hp:zb9 m (.rows u l) m')
  (hos:w1.os=w.os) (ht:w1.tape=w.tape) (hpu:w1.output=w.output) (hsz:w1.heap.size=w.heap.size+1) (hold:∀k,k<w.heap.size->w1.heap[k]? =w.heap[k]?) (hnew:w1.heap[w.heap.size]? =some (.cells arr e fr))
  (hu:xV7 u e arr fr) (ha:arr.size=cap*u.sz) (hl:l.length<=cap) (hv:arr.toList=vs++rest) (hd:zd3 (RO w0 R0 I w m) w u l vs):
  f5 w0 R0 I w m (.row m.next) m' (.slice (some ⟨w.heap.size,0,none⟩) l.length cap) w1:=by
 obtain⟨h1,h2⟩:=hm.push (w':=w1) (r:=(w.heap.size,l.length,cap)) hp hos ht hpu (by omega) hold (λ_=>⟨Nat.le_refl _,by show w.heap.size<_;omega⟩)
  (λR n I' e'=>zx6 rfl hl hnew hu ha hv (zd3.mono e'.keep hd))
 refine⟨_,h1,h2,by rw[hp.2];omega,_,by rw[t9],λ_=>by rw[t9]⟩
theorem yz5(hE:EOK P E){src dst:TypeId}{p:Plan}{Z:r9 O}(h:(yz4 E src dst x p m Z).holds L):
  ∃v m',(Z v p m').holds L/\((∀r e,E.row dst=some r->r.desc≠.slice e)->m'=m)/\∀w0 R0 I w (xv:Value),MRel w0 R0 I w m->Rep (RO w0 R0 I w m) I m.next w x xv->ze7 P m v m' (Go.convert src dst xv) w0 R0 I w:=by
 unfold yz4 at h
 split at h
 .rename_i rs rd hs hd
  have hus:=(hE.row _ _ hs).und;have hud:=(hE.row _ _ hd).und
  split at h
  .rename_i k k' n hdd
   rw[hdd]at hud;refine⟨_,m,h,λ_=>rfl,λw0 R0 I w xv hm hx=>zd0.yields ⟨_,?_,rfl⟩ hm⟩;rw[show xv=_ from hx];simp only[Go.convert,Sem.run_bind,run_underlying hus,run_underlying hud,Result.andThen_ok,Conv.intToInt,Sem.run_pure]
  .rename_i s hdd
   rw[hdd]at hud;refine⟨_,m,h,λ_=>rfl,λw0 R0 I w xv hm hx=>zd0.yields ⟨_,?_,rfl⟩ hm⟩;rw[show xv=_ from hx];simp only[Go.convert,Sem.run_bind,run_underlying hus,run_underlying hud,Result.andThen_ok,Sem.run_pure]
  .rename_i e s hss hdd
   rw[hss]at hus;rw[hdd]at hud
   split at h
   .rename_i sz by_ ze ty eg he hrow
    have hue:=(hE.row _ _ hrow).und;dsimp only at hue
    split at h
    case h_2=>exact h.elim
    rename_i hsz1;obtain⟨m',h1,h2⟩:=Mem.push_holds h;refine⟨_,m',h2,λhne=>absurd hdd (hne _ _ hd),λw0 R0 I w xv hm hx=>?_⟩;rw[show xv=_ from hx];have hl:List.length (List.map (λb:UInt8=>(b.toNat:Int)) s)=s.length:=List.length_map _;refine⟨_,_,Lib.run_convert_string_bytes w src dst e ⟨⟨s⟩⟩ hus hud hue,?_⟩;have hcap:s.length<=grownCap w s.length 0 e:=Nat.le_add_right _ _
    have key:=yP3 (w1:=Lib.bytesWorld w e ⟨⟨s⟩⟩) (u:=.int .u8) (l:=List.map (λb:UInt8=>(b.toNat:Int)) s) (cap:=grownCap w s.length 0 e) (arr:=Lib.bytesCells w e ⟨⟨s⟩⟩) (rest:=(Array.replicate (grownCap w s.length 0 e-s.length) (.int .u8 0)).toList) hm h1 rfl rfl rfl (Lib.bytesWorld_size w e _) (λk hk=>Lib.bytesWorld_at_old w e _ k hk) (Lib.bytesWorld_at_new w e _)
     ⟨λi hi hh=>by have:=hh.1;dsimp only at this;omega,λ_=>(hE.row _ _ hrow).el (.inr rfl) (by simpa using hsz1)⟩ (by simp[Lib.bytesCells,Ty.sz,ByteArray.size];omega) (by show List.length (List.map (λb:UInt8=>(b.toNat:Int)) s)<=_;rw[hl];exact hcap) (vs:=s.map λb=>Value.int .u8 b.toNat)
     (by simp only[Lib.bytesCells,Array.toList_append,Array.toList_map];rfl) (zy3 s)
    have e2:(Value.slice (some ⟨w.heap.size,0,none⟩) (List.length (List.map (λb:UInt8=>(b.toNat:Int)) s)) (grownCap w s.length 0 e))=.slice (some ⟨w.heap.size,0,none⟩) s.length (grownCap w s.length 0 e):=by rw[hl]
    exact e2▸key
   .exact h.elim
  .rename_i e hss hdd _
   rw[hss]at hus;rw[hdd]at hud
   split at h
   .rename_i sz by_ ze ty eg he hrow
    have hue:=(hE.row _ _ hrow).und;dsimp only at hue
    split at h
    .rename_i s hb
     refine⟨_,m,h,λ_=>rfl,λw0 R0 I w xv hm hx=>zd0.yields ⟨.string ⟨⟨s⟩⟩,?_,rfl⟩ hm⟩;obtain⟨⟨a,l,c,rfl⟩,hrun⟩:=zy2 (P:=P) hb hm hx;rw[run_convert_bytes_string w src dst e a l c hus hue hud,hrun]
    .exact h.elim
   .exact h.elim
  .exact h.elim
 .exact h.elim
end
open Go.RowKit
section
variable {P:Program} {E:Env} {O:Type} {L:O->Prop}
theorem yz9{x:SV}{i:Nat}{p:Plan}{m:Mem}{Z:r9 O}(h:(yz8 x i p m Z).holds L):
  ∃v,(Z v p m).holds L/\∀ (m:Mem) w0 R0 I w (xv:Value),Rep (RO w0 R0 I w m) I m.next w x xv->zd0 P m v (Instr.extract xv i) w0 R0 I w:=by
 unfold yz8 at h
 split at h
 .rename_i vs
  split at h
  .rename_i v hv
   rw[q60]at hv;rw[qs6]at h;refine⟨v,h,λm w0 R0 I w xv hx=>?_⟩;obtain⟨us,rfl,hus⟩:=hx;obtain⟨u,h1,h2⟩:=hus.get hv;refine⟨u,?_,h2⟩
   have:(⟨us⟩:Array Value)[i]? =some u:=by simpa using h1
   simp only[Instr.extract,this,Sem.run_pure]
  .exact h.elim
 .exact h.elim
theorem xF6{k:IntKind}{i:Int}{y:Nat}{code:BoundsCode}(h:0<=i/\i<=y)(w:World):(Instr.sliceBound (.int k i) y code).run P w=.ok i.toNat w:=by
 simp only[Instr.sliceBound,asIntOf,Sem.run_bind,Sem.run_pure,Result.andThen_ok,if_pos h]
abbrev zc4(R:Nat->Prop)(I:Rho)(n:Nat)(w:World)(x:Option SV)(v:Option Value):Prop:=
 match x,v with
 |some x,some v=>Rep R I n w x v
 |none,none=>True
 |_,_=>False
theorem zH9{V:Type}{l:List V}{lo hi:Option SV}{bl:Bool×List V}(h:cut l lo hi=some bl)(hb:bl.1=true)(isSlice:Bool)(cap:Nat)(hcap:l.length<=cap)(hs:isSlice=false->cap=l.length){R:Nat->Prop}{I:Rho}{n:Nat}{w:World}{lv hv:Option Value}
  (hl:zc4 R I n w lo lv) (hh:zc4 R I n w hi hv):
  ∃a b,(Instr.sliceBounds isSlice l.length cap lv hv none).run P w=.ok (a,b,cap) w/\a<=b/\b<=l.length/\bl.2=(l.take b).drop a:=by
 unfold cut at h
 split at h
 .injection h with h;subst h
  cases lv<;>cases hv<;>simp[zc4]at hl hh
  exact⟨0,l.length,by simp[Instr.sliceBounds],Nat.zero_le _,Nat.le_refl _,by simp⟩
 .rename_i k a
  injection h with h;subst h;simp only[Bool.and_eq_true,decide_eq_true_eq]at hb
  cases lv with
  |none=>exact hl.elim
  |some v=>
   cases hv<;>simp[zc4]at hh
   obtain rfl:v=_:=hl;refine⟨a.toNat,l.length,?_,by omega,Nat.le_refl _,by simp⟩;simp[Instr.sliceBounds,xF6 (P:=P) (k:=k) (i:=a) (y:=l.length) (code:=.sliceB) hb w]
 .rename_i k b
  injection h with h;subst h;simp only[Bool.and_eq_true,decide_eq_true_eq]at hb
  cases hv with
  |none=>exact hh.elim
  |some v=>
   cases lv<;>simp[zc4]at hl
   obtain rfl:v=_:=hh;refine⟨0,b.toNat,?_,by omega,by omega,by simp⟩
   cases isSlice<;>simp[Instr.sliceBounds,xF6 (P:=P) (k:=k) (i:=b) (y:=cap) (code:=.sliceAcap) (by omega) w,xF6 (P:=P) (k:=k) (i:=b) (y:=cap) (code:=.sliceAlen) (by omega) w]
 .rename_i k a k' b
  injection h with h;subst h;simp only[Bool.and_eq_true,decide_eq_true_eq]at hb
  cases lv with
  |none=>exact hl.elim
  |some v=>
   cases hv with
   |none=>exact hh.elim
   |some u=>
    obtain rfl:v=_:=hl;obtain rfl:u=_:=hh;obtain⟨⟨⟨h1,h2⟩,h3⟩,h4⟩:=hb
    have hb2:a<=((b.toNat:Nat):Int):=by omega
    refine⟨a.toNat,b.toNat,?_,by omega,by omega,by simp⟩
    cases isSlice<;>simp[Instr.sliceBounds,xF6 (P:=P) (k:=k') (i:=b) (y:=cap) (code:=.sliceAcap) (by omega) w,xF6 (P:=P) (k:=k') (i:=b) (y:=cap) (code:=.sliceAlen) (by omega) w,
     xF6 (P:=P) (k:=k) (i:=a) (y:=b.toNat) (code:=.sliceB) ⟨h3,hb2⟩ w]
 .cases h
theorem zQ6{R:Nat->Prop}{w:World}{u:Ty}{l:List u.T}{b o a e:Nat}(h:∀i (h:i<List.length l),∃cs:List Value,cs.length=u.sz/\(∀j,j<u.sz->w.cell? ⟨b,o+(i*u.sz+j),none⟩=cs[j]?)/\r8 R w u (List.get l ⟨i,h⟩) cs):
  ∀i (h:i<List.length ((l.take e).drop a)),∃cs:List Value,cs.length=u.sz/\(∀j,j<u.sz->w.cell? ⟨b,(o+a*u.sz)+(i*u.sz+j),none⟩=cs[j]?)/\r8 R w u (List.get ((l.take e).drop a) ⟨i,h⟩) cs:=by
 intro i hi
 have hi':a+i<l.length:=by rw[List.length_drop,List.length_take]at hi;omega
 obtain⟨cs,h1,h2,h3⟩:=h (a+i) hi';refine⟨cs,h1,λj hj=>?_,?_⟩
 .rw[<-h2 j hj]
  congr 2
  rw[Nat.add_mul];omega
 .have:List.get ((l.take e).drop a) ⟨i,hi⟩=List.get l ⟨a+i,hi'⟩:=by simp
  rw[this];exact h3
theorem yB9(hE:EOK P E){t:TypeId}{x:SV}{lo hi mx:Option SV}{p:Plan}{m:Mem}{Z:r9 O}(h:(yB8 E t x lo hi mx p m Z).holds L):
  ∃v m',(Z v p m').holds L/\(mx=none->m'=m)/\∀w0 R0 I w (xv:Value) (lv hv mv:Option Value),MRel w0 R0 I w m->Rep (RO w0 R0 I w m) I m.next w x xv->zc4 (RO w0 R0 I w m) I m.next w lo lv->zc4 (RO w0 R0 I w m) I m.next w hi hv->zc4 (RO w0 R0 I w m) I m.next w mx mv->
   ze7 P m v m' (Instr.sliceAt t xv lv hv mv) w0 R0 I w:=by
 unfold yB8 at h
 split at h
 .rename_i r hr
  have hu:=(hE.row _ _ hr).und
  split at h
  . -- a string
    rename_i s hd;rw[hd]at hu
    split at h
    .rename_i bl hbl
     obtain⟨hb,h⟩:=h;refine⟨_,m,h,λ_=>rfl,λw0 R0 I w xv lv hv mv hm hx hl hh hmx=>zd0.yields ⟨.string ⟨⟨bl.2⟩⟩,?_,rfl⟩ hm⟩;rw[show xv=_ from hx]
     cases mv with
     |some _=>exact hmx.elim
     |none=>
      obtain⟨a,b,h1,h2,h3,h4⟩:=zH9 (P:=P) hbl hb false s.length (Nat.le_refl _) (λ_=>rfl) hl hh;have hsz:(ByteArray.mk ⟨s⟩).size=s.length:=rfl;simp only[Instr.sliceAt,Instr.slice,Sem.run_bind,run_underlying hu,Result.andThen_ok,Option.isSome_none,Bool.false_eq_true,if_false,hsz,Sem.run_pure,h1,Result.ok.injEq,and_true,Value.string.injEq];rw[Lib.extract_eq,h4,List.drop_take]
    .exact h.elim
  . -- a slice
    rename_i e u xs hd;rw[hd]at hu
    split at h
    .rename_i re hre
     have hok:=hE.row _ _ hre
     split at h
     .rename_i hs
      have hs':re.size=u.sz:=by simpa using hs
      split at h
      .rename_i bl hbl
       obtain⟨hb,h⟩:=h;refine⟨_,m,h,λ_=>rfl,λw0 R0 I w xv lv hv mv hm hx hl hh hmx=>?_⟩
       cases mv with
       |some _=>exact hmx.elim
       |none=>
        obtain⟨A,cap,hxv,hc,hel⟩:=hx;injection hxv with hxv;subst hxv;obtain⟨a,b,h1,h2,h3,h4⟩:=zH9 (P:=P) hbl hb true cap hc (λh=>by cases h) hl hh;refine zd0.yields ⟨.slice (if cap=a then A else A.map (·.add (a*u.sz))) (b-a) (cap-a),?_,?_⟩ hm
        .simp only[Instr.sliceAt,Instr.slice,Sem.run_bind,run_underlying hu,Result.andThen_ok,h1,y72 hok,hs',Sem.run_pure]
        .have hlen:List.length bl.2=b-a:=by rw[h4,List.length_drop,List.length_take,Nat.min_eq_left h3]
         refine⟨_,cap-a,by rw[hlen],by rw[hlen];omega,λhp=>?_⟩;obtain⟨B,o,rfl,hR,hall⟩:=hel (by omega);rw[if_neg (by omega)];refine⟨B,o+a*u.sz,by simp[Addr.add_lit],hR,?_⟩;have:=zQ6 (a:=a) (e:=b) hall;rw[<-h4]at this;exact this
      .exact h.elim
     .exact h.elim
    .exact h.elim
  . -- a whole array behind a pointer
    rename_i n e id off hd;rw[hd]at hu
    split at h
    .rename_i re hre
     have hok:=hE.row _ _ hre;refine⟨_,m,h,λ_=>rfl,λw0 R0 I w xv lv hv mv hm hx hl hh hmx=>?_⟩
     cases lv<;>cases hv<;>cases mv<;>first|exact hl.elim|exact hh.elim|exact hmx.elim|skip
     obtain⟨hid,rfl⟩:=hx;refine zd0.yields ⟨.slice (some ⟨(I id).1,off,none⟩) n n,?_,hid,rfl⟩ hm;simp[Instr.sliceAt,run_underlying hu,Instr.sureAddr,Instr.sliceBounds,y72 hok,Addr.add]
    .exact h.elim
  .exact h.elim
 .rename_i r mx' hr
  have hu:=(hE.row _ _ hr).und
  split at h
  .rename_i e k h' k' c hd
   rw[hd]at hu
   split at h
   .rename_i de sz by_ ze u eg he hre
    have hok:=hE.row _ _ hre
    split at h
    .rename_i hs
     simp only[Bool.and_eq_true,beq_iff_eq]at hs;obtain⟨hb,h⟩:=h;simp only[Bool.and_eq_true,beq_iff_eq]at hb;obtain⟨m',h1,h2⟩:=Mem.push_holds h;refine⟨_,m',h2,λhn=>(by cases hn),λw0 R0 I w xv lv hv mv hm hx hl hh hmx=>?_⟩
     cases lv with
     |some _=>exact hl.elim
     |none=>
      cases hv with
      |none=>exact hh.elim
      |some hv=>
       cases mv with
       |none=>exact hmx.elim
       |some mv=>
        have hform:∃A len cap,xv=.slice A len cap:=by
         cases x<;>simp only[zQ7]at hs<;>try(cases hs.2;done)
         .exact⟨_,_,_,hx⟩
         .obtain⟨A,cap,hxv,_⟩:=hx
          injection hxv with hxv;exact⟨_,_,_,hxv⟩
         .obtain⟨_,A,hxv,_⟩:=hx
          exact⟨_,_,_,hxv⟩
        obtain⟨A,len,cap,rfl⟩:=hform;obtain rfl:hv=_:=hh;obtain rfl:mv=_:=hmx;rw[hb.1,hb.2];refine⟨.slice A 0 0,w,?_,?_⟩
        .have hz:∀ (k:IntKind) (y:Nat) (code:BoundsCode),(Instr.sliceBound (.int k 0) y code).run P w=.ok 0 w:=λk y code=>xF6 (P:=P) (k:=k) (i:=0) (by omega) w
         simp[Instr.sliceAt,Instr.slice,run_underlying hu,Instr.sliceBounds,hz,y72 hok]
        .obtain⟨g1,g2⟩:=hm.push (w':=w) (r:=(0,0,0)) h1 rfl rfl rfl (Nat.le_refl _) (λ_ _=>rfl) (λhsol=>absurd hsol (Nat.lt_irrefl _)) (λR n I' e'=>⟨rfl,Nat.le_refl _,λh0=>absurd h0 (Nat.lt_irrefl _)⟩)
         exact⟨_,g1,g2,by rw[h1.2];omega,A,by rw[t9],λh0=>by rw[t9]at h0;exact absurd h0 (Nat.lt_irrefl _)⟩
    .exact h.elim
   .exact h.elim
  .exact h.elim
 .exact h.elim
end
open Go.RowKit
section
variable {P:Program} {E:Env} {O:Type} {L:O->Prop}
variable{w:World}
theorem yW3{R:Nat->Prop}:∀ (t:Ty) (x:t.T) (vs:List Value),r8 R w t x vs->∀y∈vs,y.oneCell'=true
 |.unit,_,vs,h,y,hy=>by rw[show vs=[]from h]at hy;cases hy
 |.int _,_,vs,h,y,hy=>by rw[show vs=_ from h]at hy;rw[List.mem_singleton.1 hy];rfl
 |.bool,_,vs,h,y,hy=>by rw[show vs=_ from h]at hy;rw[List.mem_singleton.1 hy];rfl
 |.str,_,vs,h,y,hy=>by rw[show vs=_ from h]at hy;rw[List.mem_singleton.1 hy];rfl
 |.list t,l,vs,h,y,hy=>by
  obtain⟨a,cap,rfl,_⟩:=h;rw[List.mem_singleton.1 hy];rfl
 |.pair a b,x,vs,h,y,hy=>by
  obtain⟨v1,v2,rfl,h1,h2⟩:=h;rcases List.mem_append.1 hy with hy|hy
  .exact yW3 a x.1 v1 h1 y hy
  .exact yW3 b x.2 v2 h2 y hy
structure AppOK (P:Program) (ts:Array TypeId) (t e:TypeId):Prop where
 t0:ts[0]? =some t
 t1:∃t1,ts[1]? =some t1/\((∃e',P.underlying t1=some (.slice e'))\/P.underlying t1=some .string)
variable{e:TypeId}{cap n:Nat}
theorem zn8{ts:Array TypeId}{t ty:TypeId}{re:Row}(ha:AppOK P ts t e)(hu:P.underlying t=some (.slice e))(hok:RowOK P e re){base:Option Addr}{len:Nat}{xv:Value}(hn:(Builtin.lenOf xv).run P w=.ok n w)(hle:len+n<=cap):
  (Builtin.append_ ts ty #[.slice base len cap,xv]).run P w=((Builtin.firstCells re.size n xv).run P w).andThen λnew w=>match base with
    |some a=>((storeCells (a.add (len*re.size)) new.toList).run P w).andThen λ_ w=>.ok (.slice base (len+n) cap) w
    |none=>.ok (.slice base (len+n) cap) w:=by
 obtain⟨t1,ht1,hd⟩:=ha.t1
 rcases hd with⟨e',hd⟩|hd<;>cases base<;>simp[Builtin.append_,ha.t0,ht1,run_underlying hu,run_underlying hd,y72 hok,hn,hle]
theorem zn7{ts:Array TypeId}{t ty:TypeId}{re:Row}(ha:AppOK P ts t e)(hu:P.underlying t=some (.slice e))(hok:RowOK P e re){base:Option Addr}{len:Nat}{xv z:Value}{old new:List Value}(hn:(Builtin.lenOf xv).run P w=.ok n w)(hgt:cap<len+n)
  (hb:1<=re.bytes) (hfit:(len+n)*re.bytes<=140737488355328) (ho:(Builtin.firstCells re.size len (.slice base len cap)).run P w.drew=.ok ⟨old⟩ w.drew) (hnew:(Builtin.firstCells re.size n xv).run P w.drew=.ok ⟨new⟩ w.drew) (hz:∀w,(zeroValue e).run P w=.ok z w):
  (Builtin.append_ ts ty #[.slice base len cap,xv]).run P w =
    .ok (.slice (some ⟨w.heap.size,0,none⟩) (len+n) (grownCap w (len+n) cap e)) (w.drew.alloc (.cells (⟨old⟩++⟨new⟩++Builtin.zeroCells z.cells (grownCap w (len+n) cap e-(len+n))) e)):=by
 obtain⟨t1,ht1,hd⟩:=ha.t1;obtain⟨i,hi,hib,his⟩:=y77 hok
 have h1:¬len+n<=cap:=by omega
 have h2:¬i.bytes=0:=by omega
 have h3:¬(281474976710656<Builtin.nextslicecap (len+n) cap*i.bytes):=by
  have:=growslice_fits hgt hfit;rw[hib];omega
 rcases hd with⟨e',hd⟩|hd<;>simp[Builtin.append_,ha.t0,ht1,run_underlying hu,run_underlying hd,y72 hok,hn,h1,hi,h2,h3,Question.forced,ho,hnew,hz,newRow,grownCap]<;>exact congrArg (λc=>w.drew.alloc (Obj.cells c e)) (Array.ext' (by simp))
variable{m:Mem}
theorem yw4{w0:World}{R0:RSet}{I:Rho}(hm:MRel w0 R0 I w m){u:Ty}{id:Nat}{l:List u.T}(hg:m.get id=some (.rows u l)){sv:Value}(hs:Rep (RO w0 R0 I w m) I m.next w (.row id) sv):
  ∃base vs,sv=.slice base l.length (I id).2.2/\(0< (I id).2.2->base=some ⟨(I id).1,0,none⟩)/\(Builtin.firstCells u.sz l.length sv).run P w=.ok ⟨vs⟩ w/\zd3 (RO w0 R0 I w m) w u l vs:=by
 obtain⟨vs,h1,h2,h3⟩:=zQ5 (P:=P) (u:=u) (xs:=l) (by simp[zQ3,hg]) hm hs;obtain⟨hid,a,rfl,ha⟩:=hs;obtain⟨b1,_⟩:=hm.box id _ hg;exact⟨a,vs,by rw[b1],ha,h2,h3⟩
theorem qp6{size:Nat}{v:Value}{cs:Array Value}(h:(Builtin.firstCells size n v).run P w=.ok cs w):(Builtin.firstCells size n v).run P w.drew=.ok cs w.drew:=by
 cases v with
 |slice a l c=>
  cases a with
  |none=>simp only[Builtin.firstCells,Sem.run_pure,Result.ok.injEq]at h ⊢;exact⟨h.1,trivial⟩
  |some a=>
   simp only[Builtin.firstCells,Go.loadCells]at h ⊢
   have key:∀ (k i:Nat) (acc cs:Array Value),(loadCellsFrom a i k acc).run P w=.ok cs w->(loadCellsFrom a i k acc).run P w.drew=.ok cs w.drew:=by
    intro k
    induction k with
    |zero=>intro i acc cs h;simp only[loadCellsFrom,Sem.run_pure,Result.ok.injEq]at h ⊢;exact⟨h.1,trivial⟩
    |succ k ih=>
     intro i acc cs h;simp only[loadCellsFrom,Sem.run_bind,run_load,World.cell?_drew]at h ⊢
     cases hc:w.cell? (a.add i)with
     |some v=>rw[hc]at h;exact ih _ _ _ h
     |none=>
      rw[hc]at h;dsimp only at h ⊢;have hf:w.drew.farLoad P (a.add i) (Mode.plain==.atomic)=w.farLoad P (a.add i) (Mode.plain==.atomic):=rfl;rw[hf]
      cases hq:w.farLoad P (a.add i) (Mode.plain==.atomic)with
      |ok q=>rw[hq]at h;exact ih _ _ _ h
      |error e=>rw[hq]at h;cases h
   exact key _ _ _ _ h
 |string s=>simp only[Builtin.firstCells,Sem.run_pure,Result.ok.injEq]at h ⊢;exact⟨h.1,trivial⟩
 |_=>simp[Builtin.firstCells]at h
theorem qy1{w0:World}{R0:RSet}{I:Rho}{m':Mem}{u:Ty}{l xs:List u.T}{old new:List Value}{z:Value}(hm:MRel w0 R0 I w m)(hp:zb9 m (.rows u (l++xs)) m')(ho:zd3 (RO w0 R0 I w m) w u l old)(hn:zd3 (RO w0 R0 I w m) w u xs new)
  (hz:∀R w,r8 R w u u.dflt z.cells.toList) (hel:u=.int .u8->El8 e):
  f5 w0 R0 I w m (.row m.next) m' (.slice (some ⟨w.heap.size,0,none⟩) (l.length+xs.length) (grownCap w (l.length+xs.length) cap e)) (w.drew.alloc (.cells (⟨old⟩++⟨new⟩++Builtin.zeroCells z.cells (grownCap w (l.length+xs.length) cap e-(l.length+xs.length))) e)):=by
 have hzs:z.cells.size=u.sz:=by
  have:=(r8.flat (I:=I) (n:=0) u u.dflt _ (hz (λ_=>True) w)).1
  simpa using this
 have hcap:l.length+xs.length<=grownCap w (l.length+xs.length) cap e:=Nat.le_add_right _ _
 have:=yP3 (u:=u) (l:=l++xs) (cap:=grownCap w (l.length+xs.length) cap e) (vs:=old++new) (rest:=(Builtin.zeroCells z.cells (grownCap w (l.length+xs.length) cap e-(l.length+xs.length))).toList)
  (w1:=w.drew.alloc (.cells (⟨old⟩++⟨new⟩++Builtin.zeroCells z.cells (grownCap w (l.length+xs.length) cap e-(l.length+xs.length))) e)) hm hp rfl rfl rfl (by simp) (λk hk=>Below.heap_alloc w.drew _ k hk) (heap_alloc_new w.drew _) ⟨xV9 _,hel⟩
  (by
    have h1:=ho.length;have h2:=hn.length;simp only[Array.size_append,Builtin.zeroCells,Array.size_map,Array.size_range,hzs];have e1:(⟨old⟩:Array Value).size=old.length:=rfl;have e2:(⟨new⟩:Array Value).size=new.length:=rfl;rw[e1,e2,h1,h2,<-Nat.add_mul,<-Nat.add_mul]
    congr 1;omega)
  (by simpa using hcap) (by simp) (ho.append hn)
 simpa using this
theorem yy4(hE:EOK P E){t:TypeId}{s x:SV}{p:Plan}{Z:r9 O}(h:(yy2 E t s x p m Z).holds L):
  ∃v p' m',(Z v p' m').holds L/\∀ (ts:Array TypeId) ty w0 R0 I w (sv xv:Value),(∀e,P.underlying t=some (.slice e)->AppOK P ts t e)->MRel w0 R0 I w m->Rep (RO w0 R0 I w m) I m.next w s sv->Rep (RO w0 R0 I w m) I m.next w x xv->
   ze7 P m v m' (Builtin.append_ ts ty #[sv,xv]) w0 R0 I w:=by
 unfold yy2 at h
 split at h
 .rename_i e sz by_ ze ty0 eg he hrow
  have hu:=(hE.row _ _ hrow).und;dsimp only at hu
  split at h
  .rename_i de size bytes ze' u eg' he' hre
   have hok:=hE.row _ _ hre
   split at h
   .rename_i hs
    simp only[Bool.and_eq_true,beq_iff_eq,Nat.ble_eq]at hs;obtain⟨z,hz1,_,hz3⟩:=y78 hok;have hz3':=hz3 u rfl
    split at h
    .rename_i xs hxs
     split at h
     . -- nil
       obtain⟨hb,h⟩:=h;have hb':=of_decide_eq_true hb;obtain⟨m',h1,h2⟩:=Mem.push_holds h;refine⟨_,p,m',h2,λts ty w0 R0 I w sv xv ha hm hsv hxv=>?_⟩;rw[show sv=_ from hsv];obtain⟨vs,k1,k2,k3⟩:=zQ5 (P:=P) hxs hm hxv;rw[<-hs.1]at k2
       by_cases h0:xs.length=0
       .refine⟨_,_,(zn8 (ha e hu) hu hok k1 (by omega)).trans (by rw[k2];rfl),?_⟩
        have hnil:xs=[] :=List.eq_nil_of_length_eq_zero h0;subst hnil;obtain⟨g1,g2⟩:=hm.push (w':=w) (r:=(0,0,0)) h1 rfl rfl rfl (Nat.le_refl _) (λ_ _=>rfl) (λhsol=>absurd hsol (Nat.lt_irrefl _)) (λR n I' e'=>⟨rfl,Nat.le_refl _,λh0=>absurd h0 (Nat.lt_irrefl _)⟩);exact⟨_,g1,g2,by rw[h1.2];omega,none,by rw[t9];rfl,λh0=>by rw[t9]at h0;exact absurd h0 (Nat.lt_irrefl _)⟩
       .have hrun:=zn7 (ts:=ts) (ty:=ty) (len:=0) (cap:=0) (base:=none) (old:=[]) (new:=vs) (z:=z) (ha e hu) hu hok k1 (by omega) hs.2 (by simpa using hb') (by simp[Builtin.firstCells]) (qp6 k2) hz1
        refine⟨_,_,hrun,?_⟩
        have:=qy1 (l:=[]) (xs:=xs) (old:=[]) (new:=vs) (e:=e) (z:=z) (cap:=0) hm (by simpa using h1) rfl k3 hz3' λh=>hok.el (.inl (congrArg some h)) (by subst h;simpa[Ty.sz]using hs.1)
        simpa using this
     . -- a row of the call's own
       rename_i id
       split at h
       .rename_i v l hg
        split at h
        .rename_i hv
         subst hv;obtain⟨hb,h⟩:=h;have hb':=of_decide_eq_true hb;obtain⟨m1,h1,h2⟩:=Mem.set_holds h;obtain⟨m',h3,h4⟩:=Mem.push_holds h2;refine⟨_,p,m',h4,λts ty w0 R0 I w sv xv ha hm hsv hxv=>?_⟩;obtain⟨vs,k1,k2,k3⟩:=zQ5 (P:=P) hxs hm hxv;obtain⟨base,olds,rfl,hbase,o2,o3⟩:=yw4 (P:=P) hm hg hsv;rw[<-hs.1]at k2 o2;obtain⟨d1,d2⟩:=hm.drop h1;have hlen1:m1.next=m.next:=h1.2
         by_cases hle:l.length+xs.length<=(I id).2.2
         . -- in place
           have hrun:=zn8 (ty:=ty) (base:=base) (len:=l.length) (cap:=(I id).2.2) (ha e hu) hu hok k1 hle;rw[k2]at hrun;rcases Nat.eq_zero_or_pos (I id).2.2 with hc0|hc0
           . -- no room at all: nothing is appended
             have hl0:l=[] :=List.eq_nil_of_length_eq_zero (by omega);have hx0:xs=[] :=List.eq_nil_of_length_eq_zero (by omega);subst hl0 hx0;have hvs:vs=[] :=k3;subst hvs
             have hrun':(Builtin.append_ ts ty #[.slice base ([] :List v.T).length (I id).2.2,xv]).run P w=.ok (.slice base 0 (I id).2.2) w:=by
              rw[hrun]
              cases base<;>rfl
             refine⟨_,_,hrun',?_⟩;obtain⟨g1,g2⟩:=d1.push (w':=w) (r:=(0,0,0)) h3 rfl rfl rfl (Nat.le_refl _) (λ_ _=>rfl) (λhsol=>absurd hsol (Nat.lt_irrefl _)) (λR n I' e'=>⟨rfl,Nat.le_refl _,λh0=>absurd h0 (Nat.lt_irrefl _)⟩);exact⟨_,g1,d2.trans g2,by rw[h3.2];omega,base,by rw[t9,hc0],λh0=>by rw[t9]at h0;exact absurd h0 (Nat.lt_irrefl _)⟩
           .obtain rfl:=hbase hc0
            obtain⟨arr,el,fr,q1,q2,q3,q4⟩:=y63 hm hg hc0;have hvl:=k3.length
            have hroom:l.length*v.sz+vs.length<=arr.size:=by
             rw[q3,hvl,<-Nat.add_mul];exact Nat.mul_le_mul_right _ hle
            have hone:∀y∈vs,y.oneCell'=true:=by
             have:∀ (ls:List v.T) (us:List Value),zd3 (RO w0 R0 I w m) w v ls us->∀y∈us,y.oneCell'=true:=by
              intro ls
              induction ls with
              |nil=>intro us h y hy;rw[show us=[]from h]at hy;cases hy
              |cons a ls ih=>
               intro us h y hy;obtain⟨v1,v2,rfl,r1,r2⟩:=h;rcases List.mem_append.1 hy with hy|hy
               .obtain⟨f1,f2⟩:=r8.flat (I:=I) (n:=m.next) v a v1 r1
                exact yW3 v a v1 r1 y hy
               .exact ih v2 r2 y hy
             exact this xs vs k3
            obtain⟨w',r1,r2,r3,r4,r5,r6,r7⟩:=y73 (P:=P) (I id).1 (l.length*v.sz) el fr vs 0 arr w q1 q2.1 (by omega) hone
            have hrun':(Builtin.append_ ts ty #[.slice (some ⟨(I id).1,0,none⟩) l.length (I id).2.2,xv]).run P w=.ok (.slice (some ⟨(I id).1,0,none⟩) (l.length+xs.length) (I id).2.2) w':=by
             rw[hrun];simp only[Result.andThen_ok,Addr.add_lit,hs.1,Nat.zero_add,r1]
            refine⟨_,_,hrun',?_⟩;rw[Nat.add_zero]at r2
            -- the old box let go, a new one in its block
            have hdrop:∀k C,m1.get k=some C->k≠id/\m.get k=some C:=λk C hk=>by
             rw[h1.1 k]at hk
             by_cases e0:k=id
             .rw[if_pos e0]at hk;cases hk
             .rw[if_neg e0]at hk;exact⟨e0,hk⟩
            have hnew:∀k C,m'.get k=some C->(k=m.next/\C=.rows v (l++xs))\/(k≠m.next/\k≠id/\m.get k=some C):=λk C hk=>by
             rw[h3.1 k,hlen1]at hk
             by_cases e0:k=m.next
             .rw[if_pos e0]at hk;injection hk with hk;exact .inl ⟨e0,hk.symm⟩
             .rw[if_neg e0]at hk;exact .inr ⟨e0,hdrop k C hk⟩
            have hidlt:id<m.next:=hm.lt id _ hg;have hsol:xG1 (I id) (.rows v l):=hc0;have hblk:=hm.hi id _ hg hsol;have hblo:=hm.lo id _ hg hsol
            have hro:∀b,RO w0 R0 I w m b->RO w0 R0 (upd I m.next ((I id).1,l.length+xs.length,(I id).2.2)) w' m' b:=λb hb=>by
             have hne:=hm.ro_ne hb hg hsol;rcases hb with hb|⟨g1,g2,g3,g4⟩
             .exact .inl hb
             .refine .inr ⟨g1,by omega,λk C hk hs'=>?_,g4⟩
              rcases hnew k C hk with⟨rfl,rfl⟩|⟨n1,n2,n3⟩
              .rw[t9];exact hne
              .rw[t7 _ _ n1]at hs' ⊢;exact g3 k C n3 hs'
            have hext:b8 w0 R0 I w m (upd I m.next ((I id).1,l.length+xs.length,(I id).2.2)) w' m':=
             ⟨by rw[h3.2];omega,λk hk=>t7 _ _ (by omega),λb hb=>⟨hro b hb,r7 b (Ne.symm (hm.ro_ne hb hg hsol))⟩⟩
            have harr:(yD6 arr (l.length*v.sz) vs).toList=(arr.toList.take (l.length*v.sz)++vs)++arr.toList.drop (l.length*v.sz+vs.length):=by simp[yD6]
            refine⟨_,⟨hm.below.trans ⟨r3,r4,r5,by omega,λk hk=>r7 k (by omega)⟩,λk C hk=>?_,λk C hk hs'=>?_,λk C hk hs'=>?_,λk k' C C' hk hk' hs1 hs2 he0=>?_,λk C hk=>?_,λb hb=>⟨by rw[r6];exact(hm.hid.1 b hb).1,(r7 b λhe=>hm.hid.2 id _ hg hsol (he▸hb)).trans (hm.hid.1 b hb).2⟩,λk C hk hs'=>?_⟩,hext,by rw[h3.2];omega,_,by rw[hlen1,t9],λ_=>by rw[hlen1,t9]⟩
            .rw[h3.2]
             rcases hnew k C hk with⟨rfl,_⟩|⟨_,_,n3⟩
             .omega
             .have:=hm.lt k C n3;omega
            .rcases hnew k C hk with⟨rfl,rfl⟩|⟨n1,_,n3⟩
             .rw[t9];exact hblo
             .rw[t7 _ _ n1]at hs' ⊢;exact hm.lo k C n3 hs'
            .rw[r6]
             rcases hnew k C hk with⟨rfl,rfl⟩|⟨n1,_,n3⟩
             .rw[t9];exact hblk
             .rw[t7 _ _ n1]at hs' ⊢;exact hm.hi k C n3 hs'
            .rcases hnew k C hk with⟨rfl,rfl⟩|⟨n1,n2,n3⟩<;>rcases hnew k' C' hk' with⟨rfl,rfl⟩|⟨n1',n2',n3'⟩
             .rfl
             .rw[t9]at he0;rw[t7 _ _ n1']at he0 hs2
              exact absurd (hm.inj id k' _ C' hg n3' hsol hs2 he0).symm n2'
             .rw[t9]at he0;rw[t7 _ _ n1]at he0 hs1
              exact absurd (hm.inj k id C _ n3 hg hs1 hsol he0) n2
             .rw[t7 _ _ n1]at he0 hs1;rw[t7 _ _ n1']at he0 hs2
              exact hm.inj k k' C C' n3 n3' hs1 hs2 he0
            .rcases hnew k C hk with⟨rfl,rfl⟩|⟨n1,n2,n3⟩
             .rw[t9]
              exact zx6 (by simp) (by simpa using hle) r2 ⟨xV8 q2.1 hroom,q2.2⟩ (by rw[yE0 hroom];exact q3) harr ((zd3.mono hext.keep q4).append (zd3.mono hext.keep k3))
             .rw[t7 _ _ n1]
              exact za2.mono hext C (λhs'=>r7 _ λhe0=>n2 (hm.inj k id C _ n3 hg hs' hsol he0)) (hm.box k C n3)
            .rcases hnew k C hk with⟨rfl,rfl⟩|⟨n1,_,n3⟩
             .rw[t9];exact hm.hid.2 id _ hg hsol
             .rw[t7 _ _ n1]at hs' ⊢;exact hm.hid.2 k C n3 hs'
         . -- a new row
           have hrun:=zn7 (ts:=ts) (ty:=ty) (len:=l.length) (cap:=(I id).2.2) (base:=base) (old:=olds) (new:=vs) (z:=z) (ha e hu) hu hok k1 (by omega) hs.2 hb' (qp6 o2) (qp6 k2) hz1;refine⟨_,_,hrun,?_⟩
           obtain⟨I',g1,g2,g3⟩:=qy1 (e:=e) (z:=z) (cap:=(I id).2.2) d1 h3 (zd3.mono d2.keep o3) (zd3.mono d2.keep k3) hz3' λh=>hok.el (.inl (congrArg some h)) (by subst h;simpa[Ty.sz]using hs.1)
           exact⟨I',g1,d2.trans g2,g3⟩
        .exact h.elim
       .exact h.elim
     . -- an array's slice
       rename_i id off n
       split at h
       .rename_i l hl
        obtain⟨p',h⟩:=zK3 h
        cases hxe:xs.isEmpty with
        |true=>
        rw[hxe]at h;refine⟨_,p',m,h,λts ty w0 R0 I w sv xv ha hm hsv hxv=>?_⟩
        have hnil:xs=[] :=by simpa using hxe
        subst hnil;obtain⟨vs,k1,k2,k3⟩:=zQ5 (P:=P) hxs hm hxv;rw[<-hs.1]at k2;have hvs:vs=[] :=k3;subst hvs;obtain⟨hid,rfl⟩:=hsv;refine zd0.yields (m:=m) ⟨.slice (some ⟨(I id).1,off,none⟩) n n,?_,hid,rfl⟩ hm;have hrun:=zn8 (ts:=ts) (ty:=ty) (base:=some ⟨(I id).1,off,none⟩) (len:=n) (cap:=n) (ha e hu) hu hok k1 (Nat.le_refl _);rw[hrun,k2];rfl
        |false=>
        rw[hxe]at h;obtain⟨hb2,h⟩:=h;have hb:0<xs.length/\(l.length+xs.length)*bytes<=140737488355328:=⟨by cases xs with|nil=>cases hxe|cons _ _=>simp,by simpa using hb2⟩;obtain⟨m',h1,h2⟩:=Mem.push_holds h;refine⟨_,p',m',h2,λts ty w0 R0 I w sv xv ha hm hsv hxv=>?_⟩;obtain⟨vs,k1,k2,k3⟩:=zQ5 (P:=P) hxs hm hxv;obtain⟨olds,o1,o2,o3⟩:=zQ5 (P:=P) hl hm hsv;obtain⟨_,rfl⟩:=hsv;rw[<-hs.1]at k2 o2
        have hn:n=l.length:=by simpa[Builtin.lenOf]using o1
        subst hn;have hrun:=zn7 (ts:=ts) (ty:=ty) (len:=l.length) (cap:=l.length) (old:=olds) (new:=vs) (z:=z) (ha e hu) hu hok k1 (by omega) hs.2 hb.2 (qp6 o2) (qp6 k2) hz1;exact⟨_,_,hrun,qy1 (e:=e) (z:=z) (cap:=l.length) hm h1 o3 k3 hz3' λh=>hok.el (.inl (congrArg some h)) (by subst h;simpa[Ty.sz]using hs.1)⟩
       .exact h.elim
     .exact h.elim
    .exact h.elim
   .exact h.elim
  .exact h.elim
 .exact h.elim
end
open Go.RowKit
section
variable {P:Program} {E:Env} {O:Type} {L:O->Prop}
variable{m:Mem}{x:SV}{n:Nat}{I:Rho}{w:World}
theorem qR6(h:lenOf m x=some n){m2:Mem}(hsh:zd9 m m2){w0:World}{R0:RSet}{xv:Value}(hm:MRel w0 R0 I w m2)(hx:Rep (RO w0 R0 I w m2) I m2.next w x xv):
  ∃a c,xv=.slice a n c:=by
 cases x<;>simp only[lenOf]at h<;>try(cases h;done)
 case nilS=>injection h with h;subst h;exact⟨_,_,hx⟩
 case list t l=>
  injection h with h;subst h;obtain⟨A,cap,hxv,_⟩:=hx;injection hxv with hxv;exact⟨_,_,hxv⟩
 case row id=>
  split at h
  .rename_i t l hg
   injection h with h;subst h;obtain⟨hid,a,rfl,_⟩:=hx;obtain⟨B',hg2,hl⟩:=hsh id _ hg
   cases B'<;>try exact hl.elim
   obtain⟨rfl,hll⟩:=hl;obtain⟨b1,_⟩:=hm.box id _ hg2;rw[<-hll]at b1;exact⟨a,(I id).2.2,by rw[b1]⟩
  .cases h
 case arr id off k=>injection h with h;subst h;exact⟨_,_,hx.2⟩
variable{p:Plan}
theorem yA9(hE:EOK P E){t:TypeId}{Z:r9 O}(h:(yA8 E t x p m Z).holds L):
  ∃v,(Z v p m).holds L/\∀m2,zd9 m m2->∀ (ts:Array TypeId) ty w0 R0 I w (xv:Value),ts[0]? =some t->MRel w0 R0 I w m2->Rep (RO w0 R0 I w m2) I m2.next w x xv->zd0 P m2 v (Builtin.len_ ts ty #[xv]) w0 R0 I w:=by
 unfold yA8 at h
 split at h
 .rename_i r hr
  have hu:=(hE.row _ _ hr).und
  split at h
  .rename_i n e hd
   rw[hd]at hu;refine⟨_,h,λm2 hsh ts ty w0 R0 I w xv ht hm hx=>⟨_,?_,rfl⟩⟩
   cases xv<;>simp[Builtin.len_,ht,run_underlying hu,goInt]
  .rename_i hd
   rw[hd]at hu
   split at h
   .rename_i s
    refine⟨_,h,λm2 hsh ts ty w0 R0 I w xv ht hm hx=>⟨_,?_,rfl⟩⟩;rw[show xv=_ from hx];simp only[Builtin.len_,ht,Array.getElem?_eq_getElem (show 0< (#[Value.string ⟨⟨s⟩⟩]).size by simp),Sem.run_bind,run_underlying hu,Result.andThen_ok];rfl
   .exact h.elim
  .rename_i e hd
   rw[hd]at hu
   split at h
   .rename_i n hn
    refine⟨_,h,λm2 hsh ts ty w0 R0 I w xv ht hm hx=>⟨_,?_,rfl⟩⟩;obtain⟨a,c,rfl⟩:=qR6 hn hsh hm hx;simp[Builtin.len_,ht,run_underlying hu,goInt]
   .exact h.elim
  .exact h.elim
 .exact h.elim
variable{R:Nat->Prop}
theorem qV5:∀ (vs:List SV) (x v:SV) (us:List Value) (u:Value),qV4 x vs=some v->Rep R I n w x u->j7 R I n w vs us->∃y,(us.foldlM Builtin.max2 u).run P w=.ok y w/\Rep R I n w v y
 |[],x,v,us,u,h,hx,hv=>by
  rw[show us=[]from hv];simp only[qV4]at h;injection h with h;subst h;exact⟨u,rfl,hx⟩
 |y::vs,x,v,us,u,h,hx,hv=>by
  obtain⟨b,bs,rfl,h1,h2⟩:=hv;unfold qV4 at h
  split at h
  .rename_i heq;cases heq
  .rename_i heq
   injection heq with e1 e2;subst e1 e2;rw[show u=_ from hx,show b=_ from h1];obtain⟨z,h3,h4⟩:=qV5 vs _ v bs _ h rfl h2;exact⟨z,by simp only[List.foldlM_cons,Builtin.max2,pure_bind];exact h3,h4⟩
  .cases h
theorem qX7:∀ (vs:List SV) (x v:SV) (us:List Value) (u:Value),qX6 x vs=some v->Rep R I n w x u->j7 R I n w vs us->∃y,(us.foldlM Builtin.min2 u).run P w=.ok y w/\Rep R I n w v y
 |[],x,v,us,u,h,hx,hv=>by
  rw[show us=[]from hv];simp only[qX6]at h;injection h with h;subst h;exact⟨u,rfl,hx⟩
 |y::vs,x,v,us,u,h,hx,hv=>by
  obtain⟨b,bs,rfl,h1,h2⟩:=hv;unfold qX6 at h
  split at h
  .rename_i heq;cases heq
  .rename_i heq
   injection heq with e1 e2;subst e1 e2;rw[show u=_ from hx,show b=_ from h1];obtain⟨z,h3,h4⟩:=qX7 vs _ v bs _ h rfl h2;exact⟨z,by simp only[List.foldlM_cons,Builtin.min2,pure_bind];exact h3,h4⟩
  .cases h
theorem yz7(hE:EOK P E){t:TypeId}{d:SV}{Z:r9 O}(h:(yz6 E t d x p m Z).holds L):
  ∃v p' m',(Z v p' m').holds L/\∀ (ts:Array TypeId) ty w0 R0 I w (dv xv:Value),ts[0]? =some t->MRel w0 R0 I w m->Rep (RO w0 R0 I w m) I m.next w d dv->Rep (RO w0 R0 I w m) I m.next w x xv->
   ∃u w',(Builtin.copy_ ts ty #[dv,xv]).run P w=.ok u w'/\f5 w0 R0 I w m v m' u w':=by
 unfold yz6 at h
 split at h
 .rename_i e sz by_ ze ty0 eg he hrow
  have hu:=(hE.row _ _ hrow).und;dsimp only at hu
  split at h
  .rename_i de size bytes ze' u eg' he' hre
   have hok:=hE.row _ _ hre
   split at h
   .rename_i hs
    have hs:size=u.sz:=by simpa using hs
    split at h
    .rename_i xs hxs
     split at h
     .rename_i id
      split at h
      .rename_i v l hg
       split at h
       .rename_i hv
        subst hv
        split at h
        .obtain⟨hb,h⟩:=h
         simp only[Bool.and_eq_true,decide_eq_true_eq,Bool.not_eq_true',List.isEmpty_eq_false_iff]at hb;obtain⟨hl,hne⟩:=hb;obtain⟨m',h1,h2⟩:=Mem.set_holds h;refine⟨_,p,m',h2,λts ty w0 R0 I w dv xv ht hm hd hx=>?_⟩;obtain⟨vs,k1,k2,k3⟩:=zQ5 (P:=P) hxs hm hx;obtain⟨_,a,rfl,ha⟩:=hd;obtain⟨b1,b2,bp⟩:=hm.box id _ hg;have hpos:0<l.length:=List.length_pos_iff.2 hne
         have hcap:0< (I id).2.2:=by omega
         obtain⟨arr,el,fr,c1,c2,c3,c4⟩:=bp hcap;have hvl:=k3.length
         have hroom:0+0+vs.length<=arr.size:=by
          rw[c3,hvl];have:=Nat.mul_le_mul_right v.sz (show xs.length<=(I id).2.2 by omega);omega
         have hone:∀y∈vs,y.oneCell'=true:=by
          have:∀ (zs:List v.T) (us:List Value),zd3 (RO w0 R0 I w m) w v zs us->∀y∈us,y.oneCell'=true:=by
           intro zs
           induction zs with
           |nil=>intro us hr y hy;rw[show us=[]from hr]at hy;cases hy
           |cons z zs ih=>
            intro us hr y hy;obtain⟨v1,v2,rfl,r1,r2⟩:=hr;rcases List.mem_append.1 hy with hy|hy
            .exact yW3 _ _ _ r1 y hy
            .exact ih _ r2 y hy
          exact this _ _ k3
         obtain⟨w',r1,r2,r3,r4,r5,r6,r7⟩:=y73 (P:=P) (I id).1 0 el fr vs 0 arr w c1 c2.1 hroom hone;rw[ha hcap];rw[<-hs]at k2;have hmin:Nat.min xs.length (I id).2.1=xs.length:=Nat.min_eq_left (by omega)
         have hrun:(Builtin.copy_ ts ty #[.slice (some ⟨(I id).1,0,none⟩) (I id).2.1 (I id).2.2,xv]).run P w=.ok (goInt xs.length) w':=by
          simp[Builtin.copy_,ht,run_underlying hu,k1,hmin,y72 hok,k2,r1]
         refine⟨_,_,hrun,?_⟩
         obtain⟨g1,g2⟩:=hm.setBox (B':=.rows v (xs++l.drop xs.length)) hg hcap h1 r3 r4 r5 r6 r7 λR e'=>by
          refine⟨by rw[List.length_append,List.length_drop];omega,by rw[List.length_append,List.length_drop];omega,λ_=>⟨_,_,_,r2,⟨xV8 c2.1 (by omega),c2.2⟩,by rw[yE0 (by omega)];exact c3,λi hi=>?_⟩⟩;rw[List.length_append,List.length_drop]at hi
          by_cases hi':i<xs.length
          .obtain⟨cs,q1,q2,q3⟩:=(zd3.mono e'.keep k3).elems i hi'
           refine⟨cs,q1,λj hj=>?_,by rw[List.getElem_append_left hi'];exact q3⟩;have:(i+1)*v.sz<=xs.length*v.sz:=Nat.mul_le_mul_right _ hi';rw[Nat.succ_mul]at this;rw[<-q2 j hj,yD8 (by omega),if_pos (by omega),Nat.sub_zero]
          .obtain⟨cs,q1,q2,q3⟩:=c4 i (by omega)
           refine⟨cs,q1,λj hj=>?_,?_⟩
           .have:xs.length*v.sz<=i*v.sz:=Nat.mul_le_mul_right _ (by omega)
            rw[<-q2 j hj,yD8 (by omega),if_neg (by omega)]
           .rw[List.getElem_append_right (by omega),List.getElem_drop]
            have q4:=r8.mono e'.keep v _ _ q3
            have:xs.length+(i-xs.length)=i:=by omega
            simpa only[this]using q4
         exact⟨I,g1,g2,rfl⟩
        .obtain⟨hb,h⟩:=h
         simp only[Bool.and_eq_true,beq_iff_eq,Bool.not_eq_true',List.isEmpty_eq_false_iff]at hb;obtain⟨hl,hne⟩:=hb;obtain⟨m',h1,h2⟩:=Mem.set_holds h;refine⟨_,p,m',h2,λts ty w0 R0 I w dv xv ht hm hd hx=>?_⟩;obtain⟨vs,k1,k2,k3⟩:=zQ5 (P:=P) hxs hm hx;obtain⟨_,a,rfl,ha⟩:=hd;obtain⟨b1,b2,bp⟩:=hm.box id _ hg;have hpos:0<xs.length:=List.length_pos_iff.2 hne
         have hcap:0< (I id).2.2:=by omega
         obtain⟨arr,el,fr,c1,c2,c3,c4⟩:=bp hcap;have hvl:=k3.length
         have hroom:0+0+vs.length<=arr.size:=by
          rw[c3,hvl];have:=Nat.mul_le_mul_right v.sz (show xs.length<=(I id).2.2 by omega);omega
         have hone:∀y∈vs,y.oneCell'=true:=by
          have:∀ (zs:List v.T) (us:List Value),zd3 (RO w0 R0 I w m) w v zs us->∀y∈us,y.oneCell'=true:=by
           intro zs
           induction zs with
           |nil=>intro us hr y hy;rw[show us=[]from hr]at hy;cases hy
           |cons z zs ih=>
            intro us hr y hy;obtain⟨v1,v2,rfl,r1,r2⟩:=hr;rcases List.mem_append.1 hy with hy|hy
            .exact yW3 _ _ _ r1 y hy
            .exact ih _ r2 y hy
          exact this _ _ k3
         obtain⟨w',r1,r2,r3,r4,r5,r6,r7⟩:=y73 (P:=P) (I id).1 0 el fr vs 0 arr w c1 c2.1 hroom hone;rw[ha hcap];rw[<-hs]at k2
         have hmin:Nat.min xs.length (I id).2.1=xs.length:=by rw[hl,b1];exact Nat.min_self _
         have hrun:(Builtin.copy_ ts ty #[.slice (some ⟨(I id).1,0,none⟩) (I id).2.1 (I id).2.2,xv]).run P w=.ok (goInt xs.length) w':=by
          simp[Builtin.copy_,ht,run_underlying hu,k1,hmin,y72 hok,k2,r1]
         refine⟨_,_,hrun,?_⟩
         obtain⟨g1,g2⟩:=hm.setBox (B':=.rows v xs) hg hcap h1 r3 r4 r5 r6 r7 λR e'=>by
          refine zx6 (rest:=(yD6 arr 0 vs).toList.drop vs.length) (vs:=vs) (by rw[hl,b1]) (by omega) r2 ⟨xV8 c2.1 (by omega),c2.2⟩ (by rw[yE0 (by omega)];exact c3) ?_ (zd3.mono e'.keep k3)
          have:(yD6 arr 0 vs).toList.take vs.length=vs:=by
           apply List.ext_getElem?;intro k;rw[List.getElem?_take]
           by_cases hk:k<vs.length
           .rw[if_pos hk,Array.getElem?_toList,yD8 (by omega),if_pos (by omega),Nat.sub_zero]
           .rw[if_neg hk,List.getElem?_eq_none (by omega)]
          conv=>lhs;rw[<-List.take_append_drop vs.length (yD6 arr 0 vs).toList,this]
         exact⟨I,g1,g2,rfl⟩
       .exact h.elim
      .exact h.elim
     .exact h.elim
    .exact h.elim
   .exact h.elim
  .exact h.elim
 .exact h.elim
theorem yz2(hE:EOK P E){b:Builtin}{ts:List TypeId}{vs:List SV}{Z:r9 O}(h:(yz1 E b ts vs p m Z).holds L):
  ∃v p' m',(Z v p' m').holds L/\(b≠.append->b≠.copy->m'=m)/\(b=.len->∀m2,zd9 m m2->∀ty cs w0 R0 I w (us:List Value),MRel w0 R0 I w m2->j7 (RO w0 R0 I w m2) I m2.next w vs us->
   ∃u w',(Go.builtin b ts.toArray ty cs us.toArray).run P w=.ok (.value u) w'/\f5 w0 R0 I w m2 v m2 u w')/\∀ty cs w0 R0 I w (us:List Value),MRel w0 R0 I w m->j7 (RO w0 R0 I w m) I m.next w vs us->
   ∃u w',(Go.builtin b ts.toArray ty cs us.toArray).run P w=.ok (.value u) w'/\f5 w0 R0 I w m v m' u w':=by
 unfold yz1 at h
 split at h
 .rename_i t x
  obtain⟨v,h1,h2⟩:=yA9 hE h
  have key:∀m2,zd9 m m2->∀ty (cs:Array Bool) w0 R0 I w (us:List Value),MRel w0 R0 I w m2->j7 (RO w0 R0 I w m2) I m2.next w [x] us->
   ∃u w',(Go.builtin .len [t].toArray ty cs us.toArray).run P w=.ok (.value u) w'/\f5 w0 R0 I w m2 v m2 u w':=?key
  exact⟨v,p,m,h1,λ_ _=>rfl,λ_ m2 hsh ty cs=>key m2 hsh ty cs,λty cs=>key m (zd9.refl m) ty cs⟩;intro m2 hsh ty cs w0 R0 I w us hm hus;obtain⟨u,us',rfl,h3,h4⟩:=hus;rw[show us'=[]from h4];obtain⟨y,h5,h6⟩:=h2 m2 hsh [t].toArray ty w0 R0 I w u (by simp) hm h3;have h5':(Builtin.len_ #[t] ty #[u]).run P w=.ok y w:=h5;exact⟨y,w,by simp[Go.builtin,h5'],f5.same hm h6⟩
 .rename_i t t1 s x
  have key:∀ (hE1:(∃e',P.underlying t1=some (.slice e'))\/P.underlying t1=some .string),(yy2 E t s x p m Z).holds L->∃v p' m',(Z v p' m').holds L/\(Builtin.append≠.append->Builtin.append≠.copy->m'=m)/\(Builtin.append=.len->∀m2,zd9 m m2->∀ty cs w0 R0 I w (us:List Value),MRel w0 R0 I w m2->j7 (RO w0 R0 I w m2) I m2.next w [s,x] us->
   ∃u w',(Go.builtin .append [t,t1].toArray ty cs us.toArray).run P w=.ok (.value u) w'/\f5 w0 R0 I w m2 v m2 u w')/\∀ty cs w0 R0 I w (us:List Value),MRel w0 R0 I w m->j7 (RO w0 R0 I w m) I m.next w [s,x] us->
   ∃u w',(Go.builtin .append [t,t1].toArray ty cs us.toArray).run P w=.ok (.value u) w'/\f5 w0 R0 I w m v m' u w':=by
   intro hE1 h;obtain⟨v,p',m',h1,h2⟩:=yy4 hE h;refine⟨v,p',m',h1,λhn _=>absurd rfl hn,(λhn=>by cases hn),λty cs w0 R0 I w us hm hus=>?_⟩;obtain⟨u,us',rfl,h3,y,us2,rfl,h4,h5⟩:=hus;rw[show us2=[]from h5];obtain⟨z,w',h6,h7⟩:=h2 [t,t1].toArray ty w0 R0 I w u y (λe he=>⟨by simp,t1,by simp,hE1⟩) hm h3 h4;have h6':(Builtin.append_ #[t,t1] ty #[u,y]).run P w=.ok z w':=h6;exact⟨z,w',by simp[Go.builtin,h6'],h7⟩
  split at h
  .rename_i e sz by_ ze ty eg he hr
   exact key (.inl ⟨e,(hE.row _ _ hr).und⟩) h
  .rename_i sz by_ ze ty eg he hr
   exact key (.inr (hE.row _ _ hr).und) h
  .exact h.elim
 .rename_i t t1 d x
  obtain⟨v,p',m',h1,h2⟩:=yz7 hE h;refine⟨v,p',m',h1,λ_ hn=>absurd rfl hn,(λhn=>by cases hn),λty cs w0 R0 I w us hm hus=>?_⟩;obtain⟨u,us',rfl,h3,y,us2,rfl,h4,h5⟩:=hus;rw[show us2=[]from h5];obtain⟨z,w',h6,h7⟩:=h2 [t,t1].toArray ty w0 R0 I w u y (by simp) hm h3 h4;have h6':(Builtin.copy_ #[t,t1] ty #[u,y]).run P w=.ok z w':=h6;exact⟨z,w',by simp[Go.builtin,h6'],h7⟩
 .rename_i v vs
  split at h
  .rename_i y hy
   refine⟨y,p,m,h,λ_ _=>rfl,(λhn=>by cases hn),λty cs w0 R0 I w us hm hus=>?_⟩;obtain⟨u,us',rfl,h3,h4⟩:=hus;obtain⟨z,h5,h6⟩:=qV5 (P:=P) vs v y us' u hy h3 h4;exact⟨z,w,by simp[Go.builtin,Builtin.max_,h5],f5.same hm h6⟩
  .exact h.elim
 .rename_i v vs
  split at h
  .rename_i y hy
   refine⟨y,p,m,h,λ_ _=>rfl,(λhn=>by cases hn),λty cs w0 R0 I w us hm hus=>?_⟩;obtain⟨u,us',rfl,h3,h4⟩:=hus;obtain⟨z,h5,h6⟩:=qX7 (P:=P) vs v y us' u hy h3 h4;exact⟨z,w,by simp[Go.builtin,Builtin.min_,h5],f5.same hm h6⟩
  .exact h.elim
 .exact h.elim
theorem qo9(cells:Array Value)(off:Nat)(vs:Array Value)(h:off+vs.toList.length<=cells.size):vs.zipIdx.foldl (λcs (c,j)=>cs.setIfInBounds (off+j) c) cells=yD6 cells off vs.toList:=by
 rw[<-Array.foldl_toList,Array.toList_zipIdx];obtain⟨h1,h2⟩:=Great.foldl_set off vs.toList 0 cells;apply Array.ext_getElem?;intro k;rw[yD8 h];have:=h2 k;simp only[Nat.add_zero]at this;rw[this]
 by_cases hk:off<=k/\k<off+vs.toList.length
 .rw[if_pos ⟨hk.1,hk.2,by omega⟩,if_pos hk]
 .rw[if_neg (λh=>hk ⟨h.1,h.2.1⟩),if_neg hk]
def PR(R:Nat->Prop)(I:Rho)(n:Nat)(w:World):List (Nat×SV)->List (Nat×Value)->Prop
 |[],vs=>vs=[]
 |x::xs,vs=>∃u us,vs=(x.1,u)::us/\Rep R I n w x.2 u/\PR R I n w xs us
theorem PR.map(ev:Operand->SV)(eb:Operand->Value):∀xs:List (Nat×Operand),(∀x∈xs,Rep R I n w (ev x.2) (eb x.2))->PR R I n w (xs.map λx=>(x.1,ev x.2)) (xs.map λx=>(x.1,eb x.2))
 |[],_=>rfl
 |x::xs,h=>⟨_,_,rfl,h x List.mem_cons_self,PR.map ev eb xs λy hy=>h y (List.mem_cons_of_mem _ hy)⟩
theorem qo8(place:Nat->Option (Nat×Nat)):∀ (parts:List (Nat×SV)) (cs:List SV) (k:List SV->Tree O),(qo7 place cs parts k).holds L->
  ∃cs',(k cs').holds L/\∀ (R:Nat->Prop) (I:Rho) (n:Nat) (w:World) (vs:List (Nat×Value)) (arr:Array Value),PR R I n w parts vs->j7 R I n w cs arr.toList->∃arr',Instr.fill place arr vs=some arr'/\j7 R I n w cs' arr'.toList
 |[],cs,k,h=>⟨cs,h,λR I n w vs arr hv hc=>by rw[show vs=[]from hv];exact⟨arr,rfl,hc⟩⟩
 |x::parts,cs,k,h=>by
  change (match place x.1 with
   |some os=>match os.2==x.2.cells.length&&zm0 x.2.cells&&Nat.ble 1 os.2 with
    |true=>yE1 cs os.1 x.2.cells λcs=>qo7 place cs parts k
    |false=>.fail 94
   |none=>.fail 95:Tree O).holds L at h
  split at h
  .rename_i os hos
   split at h
   .rename_i hsz
    simp only[Bool.and_eq_true,beq_iff_eq,Nat.ble_eq]at hsz;obtain⟨⟨hs1,hs2⟩,hs3⟩:=hsz;rcases overK_holds _ _ _ _ h with⟨h0,_⟩|⟨h0,h1⟩
    .rw[h0]at hs1;simp at hs1;omega
    obtain⟨cs',h3,h4⟩:=qo8 place parts _ k h1;refine⟨cs',h3,λR I n w vs arr hv hc=>?_⟩;obtain⟨u,us,rfl,h5,h6⟩:=hv;obtain⟨h7,h8⟩:=h5.cells hs2;have hl:=h7.length;have hal:=hc.length
    have hfit:os.1+u.cells.toList.length<=arr.size:=by
     rw[hl];rw[Array.length_toList]at hal;omega
    have e1:u.cells.size=os.2:=by rw[hs1,<-hl];simp
    have e2:¬os.1+u.cells.size>arr.size:=by rw[Array.length_toList]at hfit;omega
    have e3:¬os.1+os.2>arr.size:=by rw[<-e1];exact e2
    simp only[Instr.fill,hos,e1,ne_eq,not_true_eq_false,decide_false,Bool.false_or,e3,Bool.false_eq_true,if_false];rw[qo9 _ _ _ hfit];exact h4 R I n w us _ h6 (yE3 hc h7)
   .exact h.elim
  .exact h.elim
theorem yM6(hE:EOK P E)(w:World):∀ (fs:List Field) (pl:List (Nat×Nat)),yM5 E fs=some pl->(fs.mapM (λf=>do pure (f.offset,<-sizeOf f.type)):Sem (List (Nat×Nat))).run P w=.ok pl w
 |[],pl,h=>by
  have:some [] =some pl:=h;injection this with this;subst this;rfl
 |f::fs,pl,h=>by
  change (match E.row f.type,yM5 E fs with
   |some r,some l=>some ((f.offset,r.size)::l)
   |_,_=>none)=some pl at h
  split at h
  .rename_i r l hr hl
   injection h with h;subst h;simp only[List.mapM_cons,Sem.run_bind,y72 (hE.row _ _ hr),Result.andThen_ok,Sem.run_pure,yM6 hE w fs l hl]
  .cases h
theorem yz0(hE:EOK P E){t:TypeId}{parts:List (Nat×SV)}{Z:r9 O}(h:(yy7 E t parts p m Z).holds L):
  ∃v,(Z v p m).holds L/\∀ (m:Mem) w0 R0 I w (vs:List (Nat×Value)),PR (RO w0 R0 I w m) I m.next w parts vs->zd0 P m v (Instr.build t vs.toArray) w0 R0 I w:=by
 unfold yy7 at h
 split at h
 .rename_i r hr
  have hok:=hE.row _ _ hr;have hu:=hok.und;obtain⟨z,hz1,hz2,_⟩:=y78 hok
  split at h
  .rename_i fs hd
   rw[hd]at hu
   split at h
   .rename_i pl hpl
    obtain⟨cs',h1,h2⟩:=qo8 _ _ _ _ h;refine⟨_,h1,λm w0 R0 I w vs hv=>?_⟩;obtain⟨arr',h3,h4⟩:=h2 _ _ _ _ _ z.cells hv (hz2 _ _ _ _);have hp:=yM6 hE w fs.toList pl hpl
    have hpl':∀i,(pl.toArray[i]? :Option (Nat×Nat))=nth pl i:=λi=>by rw[q60];simp
    refine⟨.agg arr',?_,_,rfl,h4⟩;simp only[Instr.build,Sem.run_bind,hz1,Result.andThen_ok,run_underlying hu];rw[Array.mapM_eq_mapM_toList,Sem.run_map,hp];simp only[Result.andThen_ok,hpl'];rw[h3];rfl
   .exact h.elim
  .rename_i n e hd
   rw[hd]at hu
   split at h
   .rename_i re hre
    obtain⟨cs',h1,h2⟩:=qo8 _ _ _ _ h;refine⟨_,h1,λm w0 R0 I w vs hv=>?_⟩;obtain⟨arr',h3,h4⟩:=h2 _ _ _ _ _ z.cells hv (hz2 _ _ _ _);refine⟨.agg arr',?_,_,rfl,h4⟩;simp only[Instr.build,Sem.run_bind,hz1,Result.andThen_ok,run_underlying hu,y72 (hE.row _ _ hre)];rw[h3];rfl
   .exact h.elim
  .exact h.elim
 .exact h.elim
theorem yW5{z:List SV}{zs:List Value}(h:j7 R I n w z zs):∀k,j7 R I n w (yW4 z k) ((List.range (k*zs.length)).map λi=>zs.getD (i % zs.length) default)
 |0=>by simp[yW4,j7]
 |k+1=>by
  have ih:=yW5 h k;rcases Nat.eq_zero_or_pos zs.length with h0|h0
  .have hz:z=[] :=List.eq_nil_of_length_eq_zero (by rw[<-h.length];exact h0)
   have:∀j,yW4 z j=[] :=by
    intro j;induction j with
    |zero=>rfl
    |succ j ih=>simp[yW4,hz]at ih ⊢;exact ih
   rw[this,h0];simp[j7]
  .have e:(List.range ((k+1)*zs.length)).map (λi=>zs.getD (i % zs.length) default)=zs++(List.range (k*zs.length)).map λi=>zs.getD (i % zs.length) default:=by
    rw[Nat.succ_mul,Nat.add_comm,List.range_add,List.map_append,List.map_map]
    congr 1
    .apply List.ext_getElem?
     intro j
     by_cases hj:j<zs.length
     .simp[hj,Nat.mod_eq_of_lt hj]
     .simp[hj]
    .apply List.map_congr_left
     intro j _;simp
   rw[e];exact h.append ih
theorem yy9(hE:EOK P E){t:TypeId}{parts:List (Nat×SV)}{Z:r9 O}(h:(yy8 E t n parts p m Z).holds L):
  ∃v m',(Z v p m').holds L/\∀w0 R0 I w (vs:List (Nat×Value)),MRel w0 R0 I w m->PR (RO w0 R0 I w m) I m.next w parts vs->ze7 P m v m' (Instr.buildSlice t n vs.toArray) w0 R0 I w:=by
 unfold yy8 at h
 split at h
 .rename_i e sz by_ ze ty eg he hr
  have hu:=(hE.row _ _ hr).und;dsimp only at hu
  split at h
  .rename_i re hre
   have hok:=hE.row _ _ hre;obtain⟨z,hz1,hz2,_⟩:=y78 hok
   split at h
   .rename_i hs
    simp only[Bool.and_eq_true,decide_eq_true_eq]at hs;obtain⟨cs',h1,h2⟩:=qo8 _ _ _ _ h;obtain⟨m',h3,h4⟩:=Mem.push_holds h1;refine⟨_,m',h4,λw0 R0 I w vs hm hv=>?_⟩
    have hzl:z.cells.toList.length=re.size:=by
     rw[(hz2 (RO w0 R0 I w m) I m.next w).length];exact hs.2
    have hrep:=yW5 (hz2 (RO w0 R0 I w m) I m.next w) n
    -- the zero cells
    have hzero:∃zs:Array Value,((n*re.size=0/\zs=#[])\/(¬n*re.size=0/\zs=z.cells))/\((Array.range (n*re.size)).map (zs[· % zs.size]!)).toList=(List.range (n*z.cells.toList.length)).map λi=>z.cells.toList.getD (i % z.cells.toList.length) default:=by
     by_cases h0:n*re.size=0
     .refine⟨#[],.inl ⟨h0,rfl⟩,?_⟩
      rw[hzl,h0];simp
     .refine⟨z.cells,.inr ⟨h0,rfl⟩,?_⟩
      rw[hzl]
      have hsz:z.cells.size=re.size:=by rw[<-hzl];simp
      simp only[Array.toList_map,Array.toList_range];apply List.map_congr_left;intro i _;rw[hsz]
      have:re.size≠0:=λhc=>h0 (by rw[hc];simp)
      have hi:i % re.size<z.cells.size:=by rw[hsz];exact Nat.mod_lt _ (by omega)
      simp[List.getD,getElem!_pos,hi]
    obtain⟨zs,q1,q2⟩:=hzero;obtain⟨arr',h5,h6⟩:=h2 _ _ _ _ _ ((Array.range (n*re.size)).map (zs[· % zs.size]!)) hv (by rw[q2];exact hrep);obtain⟨g1,g2⟩:=hm.alloc (o:=.cells arr' e) h3 n n (λR n' I' e'=>⟨arr',e,(0,0),heap_alloc_new w _,xV9 _,j7.mono e' _ _ h6⟩);refine⟨.slice (some ⟨w.heap.size,0,none⟩) n n,w.alloc (.cells arr' e),?_,_,g1,g2,by rw[h3.2];omega,by rw[t9]⟩
    have hbig:¬n*re.size>2 ^ 24:=by have:=hs.1;omega
    simp only[Instr.buildSlice,Sem.run_bind,run_underlying hu,Result.andThen_ok,y72 hok,hbig,if_false,pure_bind];rcases q1 with⟨h0,rfl⟩|⟨h0,rfl⟩
    .rw[if_pos h0,h5]
     simp[newRow]
    .rw[if_neg h0]
     simp only[Sem.run_bind,hz1,Result.andThen_ok];rw[h5];simp[newRow]
   .exact h.elim
  .exact h.elim
 .exact h.elim
theorem yB3(hE:EOK P E){t:TypeId}{len cap:SV}{Z:r9 O}(h:(yB2 E t len cap p m Z).holds L):
  ∃v m',(Z v p m').holds L/\∀w0 R0 I w (lv cv:Value),MRel w0 R0 I w m->Rep (RO w0 R0 I w m) I m.next w len lv->Rep (RO w0 R0 I w m) I m.next w cap cv->ze7 P m v m' (Instr.makeSlice t lv cv) w0 R0 I w:=by
 unfold yB2 at h
 split at h
 .rename_i n c
  split at h
  .rename_i e sz by_ ze ty eg he hr
   have hu:=(hE.row _ _ hr).und;dsimp only at hu
   split at h
   .rename_i de size bytes ze' u eg' he' hre
    have hok:=hE.row _ _ hre;obtain⟨z,hz1,hz2,hz3⟩:=y78 hok;obtain⟨i,hi,hib,his⟩:=y77 hok
    split at h
    .rename_i hs
     have hs':size=u.sz:=by simpa using hs
     obtain⟨hb,h⟩:=h;simp only[Bool.and_eq_true,decide_eq_true_eq,beq_iff_eq]at hb;obtain⟨⟨⟨hb1,hb2⟩,hb3⟩,hb4⟩:=hb;obtain⟨m',h1,h2⟩:=Mem.push_holds h;refine⟨_,m',h2,λw0 R0 I w lv cv hm hl hc=>?_⟩;rw[show lv=_ from hl,show cv=_ from hc,<-hb2]
     have hw:i64.wrap n=n:=by
      unfold IntKind.wrap;simp only[IntKind.signed,IntKind.bits];have:n % (2 ^ 64:Int)=n:=Int.emod_eq_of_lt hb1 (by omega);simp only[this];rw[if_neg (by simp;omega)]
     have hzl:=(r8.flat (I:=I) (n:=0) u u.dflt _ (hz3 u rfl (λ_=>True) w)).1
     have hzs:z.cells.size=size:=by rw[hs'];simpa using hzl
     have hdl:∀k,zd3 (RO w0 R0 I w m) w u (List.replicate k u.dflt) ((List.range (k*size)).map λi=>z.cells.toList.getD (i % size) default):=by
      intro k
      refine za8.repDL (by simp[hs']) λi hi'=>?_
      rw[List.length_replicate]at hi';refine⟨z.cells.toList,hzl,λj hj=>?_,by simpa using hz3 u rfl _ _⟩
      have hlt:i*u.sz+j<k*size:=by
       have:(i+1)*u.sz<=k*size:=by rw[hs'];exact Nat.mul_le_mul_right _ hi'
       rw[Nat.succ_mul]at this;omega
      have hmod:(i*u.sz+j) % size=j:=by
       rw[hs',Nat.mul_comm,Nat.mul_add_mod];exact Nat.mod_eq_of_lt hj
      dsimp only;rw[List.getElem?_map,List.getElem?_range hlt,Option.map_some,hmod]
      have hjl:j<z.cells.toList.length:=by omega
      rw[List.getD_eq_getElem?_getD,List.getElem?_eq_getElem hjl];rfl
     have hzero:∃zs:Array Value,((n.toNat*size=0/\zs=#[])\/(¬n.toNat*size=0/\zs=z.cells))/\((Array.range (n.toNat*size)).map (zs[· % zs.size]!)).toList=(List.range (n.toNat*size)).map λi=>z.cells.toList.getD (i % size) default:=by
      by_cases h0:n.toNat*size=0
      .refine⟨#[],.inl ⟨h0,rfl⟩,?_⟩
       rw[h0];simp
      .refine⟨z.cells,.inr ⟨h0,rfl⟩,?_⟩
       simp only[Array.toList_map,Array.toList_range];apply List.map_congr_left;intro k _;rw[hzs]
       have:size≠0:=λhc=>h0 (by rw[hc];simp)
       have hk:k % size<z.cells.size:=by rw[hzs];exact Nat.mod_lt _ (by omega)
       simp[List.getD,getElem!_pos,hk]
     obtain⟨zs,q1,q2⟩:=hzero
     have hkey:=yP3 (u:=u) (l:=List.replicate n.toNat u.dflt) (cap:=n.toNat) (vs:=(List.range (n.toNat*size)).map λi=>z.cells.toList.getD (i % size) default) (rest:=[])
      (w1:=w.alloc (.cells ((Array.range (n.toNat*size)).map (zs[· % zs.size]!)) e)) hm h1 rfl rfl rfl (by simp) (λk hk=>Below.heap_alloc w _ k hk) (heap_alloc_new w _) ⟨xV9 _,λh=>hok.el (.inl (congrArg some h)) (by subst h;exact hs')⟩ (by simp[hs']) (by simp) (by rw[q2];simp) (hdl _)
     refine⟨_,_,?_,by simpa using hkey⟩
     have t1:¬n<0:=by omega
     have t2:¬(281474976710656< (i.bytes:Int)*n):=by
      have e1:(i.bytes:Int)=(bytes:Int):=by rw[hib]
      rw[e1];omega
     have hsr:=y72 hok;dsimp only at hsr;simp only[Instr.makeSlice,Sem.run_bind,run_underlying hu,Result.andThen_ok,asInt,asIntOf,Sem.run_pure,hi,hw];rw[if_neg (by simp;omega)];simp only[Sem.run_bind,run_askRoom,Result.andThen_ok,hsr,pure_bind];rcases q1 with⟨h0,rfl⟩|⟨h0,rfl⟩
     .rw[if_pos h0]
      simp[newRow]
     .rw[if_neg h0]
      simp only[Sem.run_bind,hz1,Result.andThen_ok];simp[newRow]
    .exact h.elim
   .exact h.elim
  .exact h.elim
 .exact h.elim
theorem yB7{Z:r9 O}(h:(yB6 x p m Z).holds L):
  ∃v m',(Z v p m').holds L/\∀t w0 R0 I w (xv:Value),P.underlying t=some .string->MRel w0 R0 I w m->Rep (RO w0 R0 I w m) I m.next w x xv->ze7 P m v m' (Instr.range t xv) w0 R0 I w:=by
 unfold yB6 at h
 split at h
 .rename_i s
  obtain⟨m',h1,h2⟩:=Mem.push_holds h;refine⟨_,m',h2,λt w0 R0 I w xv hu hm hx=>?_⟩;rw[show xv=_ from hx];obtain⟨g1,g2⟩:=hm.alloc (o:=.stringIter ⟨⟨s⟩⟩ 0) h1 0 0 (λR n' I' e'=>heap_alloc_new w _);refine⟨.pointer (some ⟨w.heap.size,0,none⟩),_,?_,_,g1,g2,by rw[h1.2];omega,by rw[t9]⟩;simp[Instr.range,run_underlying hu]
 .exact h.elim
theorem yB5{Z:r9 O}(h:(yB4 x p m Z).holds L):
  ∃v p' m',(Z v p' m').holds L/\∀t w0 R0 I w (xv:Value),MRel w0 R0 I w m->Rep (RO w0 R0 I w m) I m.next w x xv->ze7 P m v m' (Instr.next xv true t) w0 R0 I w:=by
 unfold yB4 at h
 split at h
 .rename_i id
  split at h
  .rename_i s pos hg
   obtain⟨p',h⟩:=zK3 h
   have hb:∀w0 R0 I w,MRel w0 R0 I w m->w.heap[(I id).1]? =some (.stringIter ⟨⟨s⟩⟩ pos):=λw0 R0 I w hm=>hm.box id _ hg
   by_cases hlt:pos<s.length
   .rw[decide_eq_true hlt]at h
    dsimp only at h;obtain⟨m',h1,h2⟩:=Mem.set_holds h;refine⟨_,p',m',h2,λt w0 R0 I w xv hm hx=>?_⟩;obtain⟨hid,rfl⟩:=hx;have hh:=hb w0 R0 I w hm;have hsz:(ByteArray.mk ⟨s⟩).size=s.length:=rfl;have hlb:(I id).1<w.heap.size:=hm.hi id _ hg trivial;refine⟨.tuple #[.bool true,.int .i64 pos,.int .i32 (Utf8.decode ⟨⟨s⟩⟩ pos).1],{w with heap:=w.heap.setIfInBounds (I id).1 (.stringIter ⟨⟨s⟩⟩ (pos+(Utf8.decode ⟨⟨s⟩⟩ pos).2))},?_,I,?_⟩
    .simp only[Instr.next,Sem.run_bind,getObj,Sem.run,hh,Result.andThen_ok,hsz,hlt,if_true,setObj,goInt]
     rfl
    .obtain⟨g1,g2⟩:=hm.setBox (w':={w with heap:=w.heap.setIfInBounds (I id).1 (.stringIter ⟨⟨s⟩⟩ (pos+(Utf8.decode ⟨⟨s⟩⟩ pos).2))}) hg trivial h1 rfl rfl rfl (by simp) (λk hk=>by simp[Array.getElem?_setIfInBounds,Ne.symm hk]) (λR e'=>by simp[za2,Array.getElem?_setIfInBounds,hlb])
     exact⟨g1,g2,_,rfl,_,_,rfl,rfl,_,_,rfl,rfl,_,_,rfl,rfl,rfl⟩
   .rw[decide_eq_false hlt]at h
    dsimp only at h;refine⟨_,p',m,h,λt w0 R0 I w xv hm hx=>?_⟩;obtain⟨hid,rfl⟩:=hx;have hh:=hb w0 R0 I w hm;have hsz:(ByteArray.mk ⟨s⟩).size=s.length:=rfl;refine zd0.yields ⟨.tuple #[.bool false],?_,_,rfl,_,_,rfl,rfl,rfl⟩ hm;simp only[Instr.next,Sem.run_bind,getObj,Sem.run,hh,Result.andThen_ok,hsz,hlt,if_false];rfl
  .exact h.elim
 .exact h.elim
end
end Go.Sx
