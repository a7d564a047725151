/-
  Evaluator, closed run of the example, contracts, law.
-/
import Derived.Still
import Derived.Below
import Derived.KernelRfl
import Derived.WalkKit
import Derived.Laws.CopyRow
import Derived.Lib.ConvBytes
import Derived.Lib.Strings
import Derived.Laws.BytesString
import Derived.Laws.BytesArg
import Derived.Laws.Append
set_option maxRecDepth 100000
set_option linter.unusedVariables false
set_option linter.unusedSimpArgs false
open Go.IntKind (i64 u64)
namespace Go.Sx
inductive Ty where
 |unit
 |int (k:IntKind)
 |bool
 |str
 |list (t:Ty)
 |pair (a b:Ty)
 deriving DecidableEq
def Ty.T:Ty→Type
 |.unit=>Unit
 |.int _=>Int
 |.bool=>Bool
 |.str=>List UInt8
 |.list t=>List t.T
 |.pair a b=>a.T×b.T
def Ty.sz:Ty→Nat
 |.unit=>0
 |.pair a b=>a.sz+b.sz
 |_=>1
def Ty.dflt:(t:Ty)→t.T
 |.unit=>()
 |.int _=>(0:Int)
 |.bool=>false
 |.str=>([] :List UInt8)
 |.list _=>[]
 |.pair a b=>(a.dflt,b.dflt)
inductive SV where
 |undef
 |top
 |int (k:IntKind) (n:Int)
 |bool (b:Bool)
 |str (s:List UInt8)
 |nilS
 |list (t:Ty) (l:List t.T)
 |row (id:Nat)
 |arr (id off n:Nat)
 |ptr (id off:Nat)
 |nilP
 |eptr (t:Ty) (l:List t.T) (i off:Nat)
 |rptr (id sz i off:Nat)
 |agg (cs:List SV)
 |tuple (vs:List SV)
 |fn (f:Nat) (first cap:List SV)
 |raw (v:Value)
 |vsl (id off n lb z:Nat) (ex:Bool)
 |vptr (id off:Nat)
 |mp (id:Nat)
def flat:(t:Ty)→t.T→List SV
 |.unit,_=>[]
 |.int k,n=>[.int k n]
 |.bool,b=>[.bool b]
 |.str,s=>[.str s]
 |.list t,l=>[.list t l]
 |.pair a b,x=>flat a x.1++flat b x.2
def unflat:(t:Ty)→List SV→Option (t.T×List SV)
 |.unit,cs=>some ((),cs)
 |.int k,cs=>match cs with
  |.int k' n::cs=>if k=k' then some (n,cs)else none
  |_=>none
 |.bool,cs=>match cs with
  |.bool b::cs=>some (b,cs)
  |_=>none
 |.str,cs=>match cs with
  |.str s::cs=>some (s,cs)
  |_=>none
 |.list t,cs=>match cs with
  |.list t' l::cs=>if h:t'=t then some (h▸l,cs)else none
  |.nilS::cs=>some ([],cs)
  |_=>none
 |.pair a b,cs=>match unflat a cs with
  |some (x,cs)=>match unflat b cs with
   |some (y,cs)=>some ((x,y),cs)
   |none=>none
  |none=>none
def unflatN(t:Ty):Nat→List SV→Option (List t.T)
 |0,cs=>match cs with
  |[] =>some []
  |_=>none
 |n+1,cs=>match unflat t cs with
  |some (x,cs)=>match unflatN t n cs with
   |some l=>some (x::l)
   |none=>none
  |none=>none
inductive Box where
 |cells (cs:List SV)
 |rows (t:Ty) (l:List t.T)
 |iter (s:List UInt8) (pos:Nat)
 |obj (t:TypeId) (cs:List SV)
 |vec (cs:List SV)
 |map (es:List (SV×SV×Nat)) (clock:Nat)
 |miter (m:Option Nat) (since:Nat) (seen:List Nat) (last:Nat)
inductive Tb (β:Type) where
 |e
 |n (l:Tb β) (v:Option β) (r:Tb β)
def Tb.pick{γ:Type}(j:Nat)(a b:Nat→γ):γ:=match Nat.beq (j % 2) 0 with
 |true=>a (j / 2)
 |false=>b (j / 2)
noncomputable def Tb.get{β:Type}(t:Tb β):Nat→Option β:=
 Tb.rec (motive:=fun _=>Nat→Option β) (fun _=>none) (fun _ v _ gl gr i=>Nat.casesOn (motive:=fun _=>Option β) i v fun j=>Tb.pick j gl gr) t
structure Mem where
 next:Nat
 tb:Tb Box
structure Fr where
 size:Nat
 tb:Tb SV
noncomputable def Mem.get(m:Mem)(id:Nat):Option Box:=m.tb.get id
noncomputable def Fr.get(fr:Fr)(t:Nat):SV:=match fr.tb.get t with
 |some v=>v
 |none=>.undef
inductive Plan where
 |all
 |auto
 |lit (p:Plan)
 |fork (t f:Plan)
 |go (p:Plan)
 |stop
 |allM
/-- So many. -/
def Plan.ln:Nat→Plan→Plan
 |0,p=>p
 |n+1,p=>.lit (Plan.ln n p)
theorem sL:(type_of% @false_iff)∧(type_of% @true_iff)∧(type_of% @iff_false)∧(type_of% @iff_true)∧(type_of% @Bool.not_eq_true')∧(type_of% @Bool.not_eq_false')∧(type_of% @Bool.not_eq_eq_eq_not)∧(type_of% @decide_eq_true_eq)∧(type_of% @decide_eq_false_iff_not)∧(type_of% @Bool.and_eq_true)∧(type_of% @Bool.and_eq_false_iff)∧(type_of% @Bool.or_eq_true)∧(type_of% @Bool.or_eq_false_iff)∧(type_of% @Bool.not_true)∧(type_of% @Bool.not_false)∧(type_of% @Bool.true_eq_false)∧(type_of% @Bool.false_eq_true)∧(type_of% @Bool.and_true)∧(type_of% @Bool.true_and)∧(type_of% @or_false)∧(type_of% @false_or)∧(type_of% @and_false)∧(type_of% @false_and)∧(type_of% @false_implies)∧(type_of% @true_implies)∧(type_of% @and_true)∧(type_of% @true_and)∧(type_of% @not_true_eq_false)∧(type_of% @not_false_eq_true)∧(type_of% @and_self):=
 ⟨@false_iff,@true_iff,@iff_false,@iff_true,@Bool.not_eq_true',@Bool.not_eq_false',@Bool.not_eq_eq_eq_not,@decide_eq_true_eq,@decide_eq_false_iff_not,@Bool.and_eq_true,@Bool.and_eq_false_iff,@Bool.or_eq_true,@Bool.or_eq_false_iff,@Bool.not_true,@Bool.not_false,@Bool.true_eq_false,@Bool.false_eq_true,@Bool.and_true,@Bool.true_and,@or_false,@false_or,@and_false,@false_and,@false_implies,@true_implies,@and_true,@true_and,@not_true_eq_false,@not_false_eq_true,@and_self⟩
inductive Tree (α:Type) where
 |leaf (a:α)
 |node (b:Bool) (t f:Tree α)
 |req (b:Bool) (t:Tree α)
 |fail (code:Nat)
def Tree.holds{α:Type}(L:α→Prop):Tree α→Prop
 |.leaf a=>L a
 |.node b t f=>(b=true→t.holds L)∧(b=false→f.holds L)
 |.req b t=>b=true∧t.holds L
 |.fail _=>False
section
variable {α:Type}
def dec(p:Plan)(b:Bool)(k:Bool→Plan→Tree α):Tree α:=
 match p with
 |.all=>.node b (k true .all) (k false .all)
 |.auto=>match b with
  |true=>k true .auto
  |false=>k false .auto
 |.lit p=>match b with
  |true=>k true p
  |false=>k false p
 |.fork pt pf=>.node b (k true pt) (k false pf)
 |.go _=>.fail 1
 |.stop=>.fail 2
 |.allM=>.node b (k true .allM) (k false .allM)
def frc(v:SV)(k:SV→Tree α):Tree α:=
 match v with
 |.undef=>k .undef
 |.top=>k .top
 |.int i n=>k (.int i n)
 |.bool b=>k (.bool b)
 |.str s=>k (.str s)
 |.nilS=>k .nilS
 |.list t l=>k (.list t l)
 |.row i=>k (.row i)
 |.arr i o n=>k (.arr i o n)
 |.ptr i o=>k (.ptr i o)
 |.nilP=>k .nilP
 |.eptr t l i o=>k (.eptr t l i o)
 |.rptr a z i o=>k (.rptr a z i o)
 |.agg cs=>k (.agg cs)
 |.tuple vs=>k (.tuple vs)
 |.fn f a c=>k (.fn f a c)
 |.raw v=>k (.raw v)
 |.vsl i o n l z x=>k (.vsl i o n l z x)
 |.vptr i o=>k (.vptr i o)
 |.mp i=>k (.mp i)
def frcN(n:Nat)(k:Nat→Tree α):Tree α:=
 match n with
 |0=>k 0
 |m+1=>k (m+1)
noncomputable def frcL(l:List SV):(List SV→Tree α)→Tree α:=
 List.rec (motive:=fun _=>(List SV→Tree α)→Tree α) (fun k=>k []) (fun x _ ih k=>frc x fun x=>ih fun xs=>k (x::xs)) l
noncomputable def nth{β:Type}(l:List β):Nat→Option β:=
 List.rec (motive:=fun _=>Nat→Option β) (fun _=>none) (fun x _ ih n=>Nat.casesOn (motive:=fun _=>Option β) n (some x) ih) l
noncomputable def setT{β:Type}(d:Nat):Tb β→Nat→Option β→(Tb β→Tree α)→Tree α:=
 Nat.rec (motive:=fun _=>Tb β→Nat→Option β→(Tb β→Tree α)→Tree α) (fun _ _ _ _=>.fail 3)
  (fun _ ih t=>Tb.casesOn (motive:=fun _=>(Tb β→Nat→Option β→(Tb β→Tree α)→Tree α)→Nat→Option β→(Tb β→Tree α)→Tree α) t
    (fun ih i=>Nat.casesOn (motive:=fun _=>(Tb β→Nat→Option β→(Tb β→Tree α)→Tree α)→Option β→(Tb β→Tree α)→Tree α) i (fun _ v k=>k (.n .e v .e))
      (fun j ih=>Bool.rec (motive:=fun _=>(Tb β→Nat→Option β→(Tb β→Tree α)→Tree α)→Nat→Option β→(Tb β→Tree α)→Tree α) (fun ih j v k=>ih .e (j / 2) v fun r=>k (.n .e none r)) (fun ih j v k=>ih .e (j / 2) v fun l=>k (.n l none .e)) (Nat.beq (j % 2) 0) ih j) ih)
    (fun l u r ih i=>Nat.casesOn (motive:=fun _=>Tb β→Option β→Tb β→(Tb β→Nat→Option β→(Tb β→Tree α)→Tree α)→Option β→(Tb β→Tree α)→Tree α) i (fun l _ r _ v k=>k (.n l v r))
      (fun j l u r ih=>Bool.rec (motive:=fun _=>Nat→Tb β→Option β→Tb β→(Tb β→Nat→Option β→(Tb β→Tree α)→Tree α)→Option β→(Tb β→Tree α)→Tree α) (fun j l u r ih v k=>ih r (j / 2) v fun r=>k (.n l u r)) (fun j l u r ih v k=>ih l (j / 2) v fun l=>k (.n l u r)) (Nat.beq (j % 2) 0) j l u r ih) l u r ih) ih) d
noncomputable def Mem.set(m:Mem)(id:Nat)(b:Option Box)(k:Mem→Tree α):Tree α:=setT 40 m.tb id b fun tb=>k ⟨m.next,tb⟩
noncomputable def Mem.push(m:Mem)(b:Box)(k:Mem→Nat→Tree α):Tree α:=frcN m.next fun n=>setT 40 m.tb n (some b) fun tb=>k ⟨n+1,tb⟩ n
noncomputable def Fr.set(fr:Fr)(t:Nat)(v:SV)(k:Fr→Tree α):Tree α:=match Nat.ble (t+1) fr.size with
 |true=>setT 40 fr.tb t (some v) fun tb=>k ⟨fr.size,tb⟩
 |false=>.fail 5
noncomputable def Fr.make(size:Nat)(args:List SV):(Fr→Tree α)→Tree α:=
 List.rec (motive:=fun _=>Nat→Fr→(Fr→Tree α)→Tree α) (fun _ fr k=>k fr) (fun x _ ih i fr k=>frc x fun x=>fr.set i x fun fr=>ih (i+1) fr k) args 0 ⟨size,.e⟩
noncomputable def overK(cs:List SV):Nat→List SV→(List SV→Tree α)→Tree α:=
 List.rec (motive:=fun _=>Nat→List SV→(List SV→Tree α)→Tree α)
  (fun _ vs k=>match vs with|[] =>k [] |_::_=>.fail 6)
  (fun c cs ih off vs k=>match vs with
    |[] =>k (c::cs)
    |v::vs=>Nat.casesOn (motive:=fun _=>Tree α) off (frc v fun v=>ih 0 vs fun ys=>k (v::ys)) fun off=>ih off (v::vs) fun ys=>k (c::ys)) cs
noncomputable def takeK(cs:List SV):Nat→Nat→(List SV→Tree α)→Tree α:=
 List.rec (motive:=fun _=>Nat→Nat→(List SV→Tree α)→Tree α)
  (fun _ n k=>Nat.casesOn (motive:=fun _=>Tree α) n (k []) fun _=>.fail 4)
  (fun c _ ih off n k=>Nat.casesOn (motive:=fun _=>Tree α) n (k []) fun n=>Nat.casesOn (motive:=fun _=>Tree α) off (frc c fun c=>ih 0 n fun ys=>k (c::ys)) fun off=>ih off (n+1) k) cs
end
def SV.cells:SV→List SV
 |.agg cs=>cs
 |v=>[v]
def SV.one:SV→Bool
 |.undef=>false
 |.top=>false
 |.agg _=>false
 |.tuple _=>false
 |.raw v=>match v with
  |.agg _=>false
  |.tuple _=>false
  |_=>true
 |_=>true
noncomputable def all1(l:List SV):Bool:=List.rec (motive:=fun _=>Bool) true (fun x _ ih=>match x.one with
 |true=>ih
 |false=>false) l
def ofLeaf:Value→SV
 |.int k n=>.int k n
 |.bool b=>.bool b
 |.string s=>.str s.data.toList
 |.slice none 0 0=>.nilS
 |.pointer none=>.nilP
 |v=>.raw v
def ofVal:Value→SV
 |.agg cs=>.agg (cs.toList.map ofLeaf)
 |.func (.func f) a c=>match a.toList,c.toList with
  |[],[] =>.fn f [] []
  |_,_=>.raw (.func (.func f) a c)
 |v=>ofLeaf v
def svLeaf:SV→Option Value
 |.int k n=>some (.int k n)
 |.bool b=>some (.bool b)
 |.str s=>some (.string ⟨⟨s⟩⟩)
 |_=>none
def svLeaves:List SV→Option (List Value)
 |[] =>some []
 |x::xs=>match svLeaf x,svLeaves xs with
  |some v,some vs=>some (v::vs)
  |_,_=>none
def svVal:SV→Option Value
 |.agg cs=>match svLeaves cs with
  |some vs=>some (.agg vs.toArray)
  |none=>none
 |v=>svLeaf v
def isIface:TypeDesc→Bool
 |.interface _=>true
 |_=>false
structure Row where
 desc:TypeDesc
 size:Nat
 bytes:Nat
 zero:List SV
 ty:Option Ty
 eqg:Bool
 held:Bool
inductive Ex where
 |ok (v:SV) (m:Mem)
 |pan (v:SV) (m:Mem)
structure Env where
 row:TypeId→Option Row
 fn:FuncId→Option Func
 sum:FuncId→Option (List SV→Option (Tree SV))
 wr:FuncId→Option (List SV→Mem→Option (Tree (SV×Mem)))
 rd:FuncId→Bool
 pn:FuncId→Option (List SV→Mem→Option (Tree Ex))
 cut:Nat→Bool
 typed:TypeId→Bool:=fun _=>false
 lst:FuncId→Bool:=fun _=>false
 zv:TypeId→Option Value:=fun _=>none
 bx:FuncId→Option (List SV→Box→Option (Tree (Bool×SV×Box))):=fun _=>none
 ow:FuncId→Option (List SV→Option (Tree (SV×Mem))):=fun _=>none
 hp:Bool:=false
def Row.isAgg(r:Row):Bool:=match r.desc with
 |.struct _=>true
 |.array _ _=>true
 |_=>false
section
variable {α:Type} (E:Env)
abbrev Kont(α:Type):=SV→Plan→Mem→Tree α
noncomputable def loadCells(r:Row)(cs:List SV)(off:Nat)(p:Plan)(m:Mem)(κ:Kont α):Tree α:=
 match r.isAgg with
 |true=>takeK cs off r.size fun ys=>κ (.agg ys) p m
 |false=>match nth cs off with
  |some v=>frc v fun v=>κ v p m
  |none=>.fail 10
noncomputable def opLoad(t:TypeId)(a:SV)(p:Plan)(m:Mem)(κ:Kont α):Tree α:=
 match E.row t with
 |none=>.fail 11
 |some r=>match a with
  |.ptr id off=>match m.get id with
   |some (.cells cs)=>loadCells r cs off p m κ
   |some (.obj _ cs)=>loadCells r cs off p m κ
   |_=>.fail 12
  |.vptr id off=>match m.get id with
   |some (.vec cs)=>loadCells r cs off p m κ
   |_=>.fail 12
  |.eptr u l i off=>loadCells r (flat u (l.getD i u.dflt)) off p m κ
  |.rptr id sz i off=>match m.get id with
   |some (.rows u l)=>match sz==u.sz with
    |true=>.req (decide (i<l.length)) (loadCells r (flat u (l.getD i u.dflt)) off p m κ)
    |false=>.fail 13
   |_=>.fail 13
  |_=>.fail 14
noncomputable def opStore(t:TypeId)(a v:SV)(p:Plan)(m:Mem)(κ:Kont α):Tree α:=
 match E.row t with
 |none=>.fail 15
 |some r=>match r.size==v.cells.length&&all1 v.cells with
  |false=>.fail 16
  |true=>match a with
   |.ptr id off=>match m.get id with
    |some (.cells cs)=>overK cs off v.cells fun cs=>m.set id (some (.cells cs)) fun m=>κ .undef p m
    |some (.obj u cs)=>overK cs off v.cells fun cs=>m.set id (some (.obj u cs)) fun m=>κ .undef p m
    |_=>.fail 17
   |.vptr id off=>match m.get id with
    |some (.vec cs)=>overK cs off v.cells fun cs=>m.set id (some (.vec cs)) fun m=>κ .undef p m
    |_=>.fail 17
   |.rptr id sz i off=>match m.get id with
    |some (.rows u l)=>match sz==u.sz with
     |true=>.req (decide (i<l.length)) (overK (flat u (l.getD i u.dflt)) off v.cells fun cs=>match unflat u cs with
      |some (x,[])=>m.set id (some (.rows u (l.set i x))) fun m=>κ .undef p m
      |_=>.fail 18)
     |false=>.fail 19
    |_=>.fail 19
   |_=>.fail 20
noncomputable def addOff(a:SV)(n:Nat):Option SV:=
 match a with
 |.ptr id off=>some (.ptr id (off+n))
 |.eptr t l i off=>some (.eptr t l i (off+n))
 |.rptr id z i off=>some (.rptr id z i (off+n))
 |.vptr id off=>some (.vptr id (off+n))
 |_=>none
noncomputable def opFieldAddr(s:TypeId)(a:SV)(f:Nat)(p:Plan)(m:Mem)(κ:Kont α):Tree α:=
 match E.row s with
 |some {desc:=.struct fs, ..}=>match fs[f]? with
  |some fd=>match E.row fd.type with
   |some r=>match r.size with
    |0=>.fail 21
    |_+1=>match addOff a fd.offset with
     |some v=>frc v fun v=>κ v p m
     |none=>.fail 22
   |none=>.fail 23
  |none=>.fail 24
 |_=>.fail 25
noncomputable def partOf(t:TypeId)(cs:List SV)(off:Nat)(p:Plan)(m:Mem)(κ:Kont α):Tree α:=
 match E.row t with
 |some r=>loadCells r cs off p m κ
 |none=>.fail 26
noncomputable def opField(s:TypeId)(x:SV)(f:Nat)(p:Plan)(m:Mem)(κ:Kont α):Tree α:=
 match E.row s with
 |some {desc:=.struct fs, ..}=>match fs[f]?,x with
  |some fd,.agg cs=>partOf E fd.type cs fd.offset p m κ
  |_,_=>.fail 27
 |_=>.fail 28
noncomputable def opIndexAddr(t:TypeId)(x ix:SV)(p:Plan)(m:Mem)(κ:Kont α):Tree α:=
 match ix with
 |.int _ i=>match E.row t with
  |some {desc:=.slice e, ..}=>match x with
   |.list u l=>match E.row e with
    |some r=>match r.size==u.sz with
     |true=>.req (decide (0≤i)&&decide (i<l.length)) (κ (.eptr u l i.toNat 0) p m)
     |false=>.fail 30
    |none=>.fail 31
   |.row id=>match m.get id with
    |some (.rows u l)=>match E.row e with
     |some r=>match r.size==u.sz with
      |true=>.req (decide (0≤i)&&decide (i<l.length)) (κ (.rptr id u.sz i.toNat 0) p m)
      |false=>.fail 32
     |none=>.fail 33
    |_=>.fail 34
   |.arr id off n=>match E.row e with
    |some r=>.req (decide (0≤i)&&decide (i<n)) (κ (.ptr id (off+i.toNat*r.size)) p m)
    |none=>.fail 35
   |.vsl id off n _ z _=>match E.row e with
    |some r=>match r.size==z with
     |true=>.req (decide (0≤i)&&decide (i<n)) (κ (.vptr id (off+i.toNat*z)) p m)
     |false=>.fail 35
    |none=>.fail 35
   |_=>.fail 36
  |some {desc:=.array n e, ..}=>match E.row e with
   |some r=>match addOff x (i.toNat*r.size)with
    |some v=>.req (decide (0≤i)&&decide (i<n)) (κ v p m)
    |none=>.fail 37
   |none=>.fail 38
  |_=>.fail 39
 |_=>.fail 40
noncomputable def opIndex(t:TypeId)(x ix:SV)(p:Plan)(m:Mem)(κ:Kont α):Tree α:=
 match ix with
 |.int _ i=>match E.row t with
  |some {desc:=.string, ..}=>match x with
   |.str s=>.req (decide (0≤i)&&decide (i<s.length)) (κ (.int .u8 (s.getD i.toNat 0).toNat) p m)
   |_=>.fail 41
  |some {desc:=.array n e, ..}=>match x with
   |.agg cs=>match E.row e with
    |some r=>.req (decide (0≤i)&&decide (i<n)) (loadCells r cs (i.toNat*r.size) p m κ)
    |none=>.fail 42
   |_=>.fail 43
  |_=>.fail 44
 |_=>.fail 45
noncomputable def eqIn.part(t:TypeId)(cs:List SV)(off:Nat):Option SV:=match E.row t with
 |some r=>if r.isAgg then(if off+r.size≤cs.length then some (.agg ((cs.drop off).take r.size))else none)else nth cs off
 |none=>none
noncomputable def eqIn.go(eq:TypeId→SV→SV→Option Bool)(xs ys:List SV):List Field→Option Bool
 |[] =>some true
 |f::fs=>match eqIn.part E f.type xs f.offset,eqIn.part E f.type ys f.offset with
  |some a,some b=>match eq f.type a b,eqIn.go eq xs ys fs with
   | some u, some v => if f.name = "_" then none else some (u && v)
   |_,_=>none
  |_,_=>none
noncomputable def eqIn.goN(eq:TypeId→SV→SV→Option Bool)(e:TypeId)(r:Row)(xs ys:List SV):Nat→Nat→Option Bool
 |0,_=>some true
 |n+1,i=>match eqIn.part E e xs (i*r.size),eqIn.part E e ys (i*r.size)with
  |some a,some b=>match eq e a b,eqIn.goN eq e r xs ys n (i+1)with
   |some u,some v=>some (u&&v)
   |_,_=>none
  |_,_=>none
def ifaceNil:Value→Value→Option Bool
 |.nilIface,.nilIface=>some true
 |.nilIface,.iface _ _=>some false
 |.iface _ _,.nilIface=>some false
 |_,_=>none
noncomputable def eqIn:Nat→TypeId→SV→SV→Option Bool
 |0,_,_,_=>none
 |d+1,t,x,y=>match E.row t with
  |some {desc:=.bool, ..}=>match x,y with
   |.bool a,.bool b=>some (a==b)
   |_,_=>none
  |some {desc:=.int _, ..}=>match x,y with
   |.int k a,.int k' b=>if k=k' then some (a==b)else none
   |_,_=>none
  |some {desc:=.string, ..}=>match x,y with
   |.str a,.str b=>some (a==b)
   |_,_=>none
  |some {desc:=.struct fs,held:=false, ..}=>match x,y with
   |.agg xs,.agg ys=>eqIn.go E (eqIn d) xs ys fs.toList
   |_,_=>none
  |some {desc:=.array n e, ..}=>match x,y,E.row e with
   |.agg xs,.agg ys,some r=>eqIn.goN E (eqIn d) e r xs ys n 0
   |_,_,_=>none
  |some {desc:=.interface _, ..}=>match x,y with
   |.raw a,.raw b=>ifaceNil a b
   |_,_=>none
  |_=>none
noncomputable def intOp(op:BinOp)(k:IntKind)(a b:Int):Option SV:=
 match op with
 |.add=>some (.int k (k.wrap (a+b)))
 |.sub=>some (.int k (k.wrap (a-b)))
 |.mul=>some (.int k (k.wrap (a*b)))
 |.and=>some (.int k (k.wrap (BitVec.ofInt k.bits a &&&BitVec.ofInt k.bits b).toNat))
 |.or=>some (.int k (k.wrap (BitVec.ofInt k.bits a |||BitVec.ofInt k.bits b).toNat))
 |.xor=>some (.int k (k.wrap (BitVec.ofInt k.bits a ^^^ BitVec.ofInt k.bits b).toNat))
 |.andNot=>some (.int k (k.wrap (BitVec.ofInt k.bits a &&& ~~~BitVec.ofInt k.bits b).toNat))
 |.eql=>some (.bool (a==b))
 |.neq=>some (.bool (a != b))
 |.lss=>some (.bool (decide (a<b)))
 |.leq=>some (.bool (decide (a≤b)))
 |.gtr=>some (.bool (decide (a>b)))
 |.geq=>some (.bool (decide (a≥b)))
 |_=>none
noncomputable def strOp(op:BinOp)(a b:List UInt8):Option SV:=
 match op with
 |.eql=>some (.bool (a==b))
 |.neq=>some (.bool (!(a==b)))
 |.lss=>some (.bool (Op.bytesLess a b))
 |.leq=>some (.bool (Op.bytesLess a b||a==b))
 |.gtr=>some (.bool (!(Op.bytesLess a b||a==b)))
 |.geq=>some (.bool (!(Op.bytesLess a b)))
 |_=>none
def nilTest:SV→SV→Option (Bool×Bool)
 |.nilS,.nilS=>some (true,true)
 |.list _ l,.nilS=>some (!l.isEmpty,false)
 |.arr _ _ _,.nilS=>some (true,false)
 |.vsl _ _ _ _ _ _,.nilS=>some (true,false)
 |.raw v,.nilS=>match v with
  |.slice none _ _=>some (true,true)
  |.slice (some _) _ _=>some (true,false)
  |_=>none
 |_,_=>none
noncomputable def opBin(op:BinOp)(t:TypeId)(x y:SV)(p:Plan)(m:Mem)(κ:Kont α):Tree α:=
 match x,y with
 |.int k a,.int k' b=>match op with
  |.shl=>.req (decide (0≤b)) (κ (.int k (k.wrap (a*2 ^ (min b.toNat k.bits)))) p m)
  |.shr=>.req (decide (0≤b)) (κ (.int k (a.fdiv (2 ^ (min b.toNat k.bits)))) p m)
  |op=>if k=k' then match op with
   |.quo=>.req (!(b==0)) (κ (.int k (k.wrap (a.tdiv b))) p m)
   |.rem=>.req (!(b==0)) (κ (.int k (a.tmod b)) p m)
   |op=>match intOp op k a b with
    |some v=>κ v p m
    |none=>.fail 50
   else .fail 51
 |.str a,.str b=>match op with
  |.add=>.req (decide (((a.length+b.length:Nat):Int)≤9223372036854775807)) (κ (.str (a++b)) p m)
  |op=>match strOp op a b with
   |some v=>κ v p m
   |none=>.fail 52
 |x,y=>match nilTest x y with
  |some rb=>match E.row t with
   |some {desc:=.slice _, ..}=>match op with
    |.eql=>.req rb.1 (κ (.bool rb.2) p m)
    |.neq=>.req rb.1 (κ (.bool (!rb.2)) p m)
    |_=>.fail 57
   |_=>.fail 58
  |none=>match E.row t with
   |some {eqg:=false, ..}=>match op with
    |.eql=>match eqIn E 100 t x y with
     |some b=>κ (.bool b) p m
     |none=>.fail 53
    |.neq=>match eqIn E 100 t x y with
     |some b=>κ (.bool (!b)) p m
     |none=>.fail 54
    |_=>.fail 55
   |_=>.fail 56
noncomputable def opUn(op:UnOp)(x:SV)(p:Plan)(m:Mem)(κ:Kont α):Tree α:=
 match op,x with
 |.neg,.int k n=>κ (.int k (k.wrap (0-n))) p m
 |.xor,.int k n=>κ (.int k (k.wrap (BitVec.ofInt k.bits (if k.signed then -1 else k.max) ^^^ BitVec.ofInt k.bits n).toNat)) p m
 |.not,.bool b=>κ (.bool (!b)) p m
 |_,_=>.fail 60
noncomputable def bytesOf(m:Mem):SV→Option (List UInt8)
 |.nilS=>some []
 |.list (.int .u8) l=>some ((l:List Int).map fun n=>UInt8.ofNat n.toNat)
 |.row id=>match m.get id with
  |some (.rows (.int .u8) l)=>some ((l:List Int).map fun n=>UInt8.ofNat n.toNat)
  |_=>none
 |.arr id off n=>match m.get id with
  |some (.cells cs)=>match unflatN (.int .u8) n ((cs.drop off).take (n*(Ty.int .u8).sz))with
   |some l=>some ((l:List Int).map fun n=>UInt8.ofNat n.toNat)
   |none=>none
  |_=>none
 |.vsl id off n _ z _=>match Nat.beq z 1 with
  |true=>match m.get id with
   |some (.vec cs)=>match unflatN (.int .u8) n ((cs.drop off).take n)with
    |some l=>some ((l:List Int).map fun n=>UInt8.ofNat n.toNat)
    |none=>none
   |_=>none
  |false=>none
 |_=>none
noncomputable def opConv(src dst:TypeId)(x:SV)(p:Plan)(m:Mem)(κ:Kont α):Tree α:=
 match E.row src,E.row dst with
 |some rs,some rd=>match rs.desc,rd.desc,x with
  |_,.int k,.int _ n=>κ (.int k (k.wrap n)) p m
  |_,.string,.str s=>κ (.str s) p m
  |.string,.slice e,.str s=>match E.row e with
   |some {desc:=.int .u8,size:=size, ..}=>match size==1 with
    |true=>match E.hp with
     |false=>m.push ((.rows (.int .u8) (s.map fun b=>(b.toNat:Int)))) fun m id=>κ (.row id) p m
     |true=>frcL (s.map fun b=>.int .u8 b.toNat) fun cs=>m.push (.vec cs) fun m id=>κ (.vsl id 0 s.length s.length 1 false) p m
    |false=>.fail 61
   |_=>.fail 61
  |.slice e,.string,x=>match E.row e with
   |some {desc:=.int .u8, ..}=>match bytesOf m x with
    |some s=>κ (.str s) p m
    |none=>.fail 62
   |_=>.fail 63
  |_,_,_=>.fail 64
 |_,_=>.fail 65
noncomputable def opExtract(x:SV)(i:Nat)(p:Plan)(m:Mem)(κ:Kont α):Tree α:=
 match x with
 |.tuple vs=>match nth vs i with
  |some v=>frc v fun v=>κ v p m
  |none=>.fail 66
 |_=>.fail 67
def cut{γ:Type}(l:List γ)(lo hi:Option SV):Option (Bool×List γ):=
 match lo,hi with
 |none,none=>some (true,l)
 |some (.int _ a),none=>some (decide (0≤a)&&decide (a≤l.length),l.drop a.toNat)
 |none,some (.int _ b)=>some (decide (0≤b)&&decide (b≤l.length),l.take b.toNat)
 |some (.int _ a),some (.int _ b)=>some (decide (0≤b)&&decide (b≤l.length)&&decide (0≤a)&&decide (a≤b),(l.take b.toNat).drop a.toNat)
 |_,_=>none
def emptyOk:SV→Bool
 |.nilS=>true
 |.list _ _=>true
 |.row _=>true
 |_=>false
noncomputable def opSlice(t:TypeId)(x:SV)(lo hi mx:Option SV)(p:Plan)(m:Mem)(κ:Kont α):Tree α:=
 match E.row t,mx with
 |some r,none=>match r.desc,x with
  |.string,.str s=>match cut s lo hi with
   |some bl=>.req bl.1 (κ (.str bl.2) p m)
   |none=>.fail 70
  |.slice e,.list u xs=>match E.row e with
   |some re=>match re.size==u.sz with
    |true=>match cut xs lo hi with
     |some bl=>.req bl.1 (κ (.list u bl.2) p m)
     |none=>.fail 71
    |false=>.fail 75
   |none=>.fail 76
  |.array n e,.ptr id off=>match E.row e,lo,hi with
   |some _,none,none=>κ (.arr id off n) p m
   |_,_,_=>.fail 72
  |_,_=>.fail 73
 |some r,some mx=>match r.desc,lo,hi,mx with
  |.slice e,none,some (.int _ h),.int _ c=>match E.row e with
   |some {ty:=some u,size:=size, ..}=>match size==u.sz&&emptyOk x with
    |true=>.req (h==0&&c==0) (m.push (.rows u []) fun m id=>κ (.row id) p m)
    |false=>.fail 77
   |_=>.fail 78
  |_,_,_,_=>.fail 79
 |_,_=>.fail 74
noncomputable def elemsOf(u:Ty)(m:Mem):SV→Option (List u.T)
 |.nilS=>some []
 |.list t l=>if h:t=u then some (h▸l)else none
 |.row id=>match m.get id with
  |some (.rows t l)=>if h:t=u then some (h▸l)else none
  |_=>none
 |.arr id off n=>match m.get id with
  |some (.cells cs)=>unflatN u n ((cs.drop off).take (n*u.sz))
  |_=>none
 |.str s=>if h:u=.int .u8 then some (h▸(s.map fun b=>(b.toNat:Int):List Int))else none
 |.raw v=>match v with
  |.slice _ 0 _=>some []
  |_=>none
 |_=>none
noncomputable def opAppend(t:TypeId)(s x:SV)(p:Plan)(m:Mem)(κ:Kont α):Tree α:=
 match E.row t with
 |some {desc:=.slice e, ..}=>match E.row e with
  |some {ty:=some u,bytes:=bytes,size:=size, ..}=>match size==u.sz&&Nat.ble 1 bytes with
   |true=>match elemsOf u m x with
    |some xs=>match s with
     |.nilS=>.req (decide (xs.length*bytes≤140737488355328)) (m.push ((.rows u xs)) fun m id=>κ (.row id) p m)
     |.row id=>match m.get id with
      |some (.rows v l)=>if h:v=u then
        .req (decide ((l.length+xs.length)*bytes≤140737488355328)) (m.set id none fun m=>m.push ((.rows u ((h▸l:List u.T)++xs))) fun m id=>κ (.row id) p m)
       else .fail 80
      |_=>.fail 81
     |.arr id off n=>match elemsOf u m (.arr id off n)with
      |some l=>dec p xs.isEmpty fun b p=>match b with
       |true=>κ (.arr id off n) p m
       |false=>.req (decide ((l.length+xs.length)*bytes≤140737488355328)) (m.push (.rows u (l++xs)) fun m id=>κ (.row id) p m)
      |none=>.fail 87
     |_=>.fail 82
    |none=>.fail 83
   |false=>.fail 84
  |_=>.fail 85
 |_=>.fail 86
noncomputable def lenOf(m:Mem):SV→Option Nat
 |.nilS=>some 0
 |.list _ l=>some l.length
 |.row id=>match m.get id with
  |some (.rows _ l)=>some l.length
  |_=>none
 |.arr _ _ n=>some n
 |.vsl _ _ n _ _ _=>some n
 |_=>none
noncomputable def opLen(t:TypeId)(x:SV)(p:Plan)(m:Mem)(κ:Kont α):Tree α:=
 match E.row t with
 |some r=>match r.desc with
  |.array n _=>κ (.int .i64 n) p m
  |.string=>match x with
   |.str s=>κ (.int .i64 s.length) p m
   |_=>.fail 87
  |.slice _=>match lenOf m x with
   |some n=>κ (.int .i64 n) p m
   |none=>.fail 88
  |.map _ _=>match x with
   |.mp id=>match m.get id with
    |some (.map es _)=>κ (.int .i64 es.length) p m
    |_=>.fail 88
   |.raw v=>match v with
    |.map none=>κ (.int .i64 0) p m
    |_=>.fail 88
   |_=>.fail 88
  |_=>.fail 89
 |none=>.fail 90
def maxAll:SV→List SV→Option SV
 |v,[] =>some v
 |.int k x,.int _ y::vs=>maxAll (.int k (if y>x then y else x)) vs
 |_,_=>none
def minAll:SV→List SV→Option SV
 |v,[] =>some v
 |.int k x,.int _ y::vs=>minAll (.int k (if y<x then y else x)) vs
 |_,_=>none
noncomputable def opCopy(t:TypeId)(d x:SV)(p:Plan)(m:Mem)(κ:Kont α):Tree α:=
 match E.row t with
 |some {desc:=.slice e, ..}=>match E.row e with
  |some {ty:=some u,size:=size, ..}=>match size==u.sz with
   |true=>match elemsOf u m x with
    |some xs=>match d with
     |.row id=>match m.get id with
      |some (.rows v l)=>if h:v=u then match x with
        |.str _=>.req (decide (xs.length≤l.length)&&!l.isEmpty) (m.set id (some (.rows u (xs++(h▸l:List u.T).drop xs.length))) fun m=>κ (.int .i64 xs.length) p m)
        |_=>.req (xs.length==l.length&&!xs.isEmpty) (m.set id (some (.rows u xs)) fun m=>κ (.int .i64 xs.length) p m)
       else .fail 190
      |_=>.fail 191
     |_=>.fail 192
    |none=>.fail 193
   |false=>.fail 194
  |_=>.fail 195
 |_=>.fail 196
noncomputable def repeatL(z:List SV):Nat→List SV
 |0=>[]
 |n+1=>z++repeatL z n
noncomputable def srcK(z:Nat)(m:Mem)(x:SV)(k:List SV→Nat→Tree α):Tree α:=
 match x with
 |.nilS=>k [] 0
 |.vsl id off n _ z' _=>match Nat.beq z' z with
  |true=>match m.get id with
   |some (.vec cs)=>takeK cs off (n*z) fun ys=>k ys n
   |_=>.fail 200
  |false=>.fail 201
 |.arr id off n=>match m.get id with
  |some (.cells cs)=>takeK cs off (n*z) fun ys=>k ys n
  |_=>.fail 202
 |.str s=>match Nat.beq z 1 with
  |true=>frcL (s.map fun b=>.int .u8 b.toNat) fun ys=>k ys s.length
  |false=>.fail 203
 |_=>.fail 204
noncomputable def newK(bytes:Nat)(cs:List SV)(n z:Nat)(p:Plan)(m:Mem)(κ:Kont α):Tree α:=
 .req (Nat.ble (n*bytes) 140737488355328) (m.push (.vec cs) fun m id=>κ (.vsl id 0 n n z false) p m)
noncomputable def opAppendH(t:TypeId)(s x:SV)(p:Plan)(m:Mem)(κ:Kont α):Tree α:=
 match E.row t with
 |some {desc:=.slice e, ..}=>match E.row e with
  |some re=>match Nat.ble 1 re.bytes&& (Nat.ble 1 re.size&&Nat.beq re.zero.length re.size)with
   |true=>srcK re.size m x fun xs k=>match s with
    |.nilS=>match k with
     |0=>κ .nilS p m
     |k+1=>newK re.bytes xs (k+1) re.size p m κ
    |.vsl id off n lb z ex=>match Nat.beq z re.size with
     |true=>match k with
      |0=>κ (.vsl id off n lb z ex) p m
      |k+1=>match m.get id with
       |some (.vec cs)=>match Nat.ble (n+(k+1)) lb with
        |true=>match all1 xs with
         |true=>overK cs (off+n*z) xs fun cs=>m.set id (some (.vec cs)) fun m=>κ (.vsl id off (n+(k+1)) lb z ex) p m
         |false=>.fail 199
        |false=>match all1 xs with
         |true=>takeK cs off (n*z) fun ys=>match ex with
          |true=>newK re.bytes (ys++xs) (n+(k+1)) z p m κ
          |false=>m.set id none fun m=>newK re.bytes (ys++xs) (n+(k+1)) z p m κ
         |false=>.fail 199
       |_=>.fail 205
     |false=>.fail 206
    |.arr id off n=>match k with
     |0=>κ (.arr id off n) p m
     |k+1=>match m.get id with
      |some (.cells cs)=>takeK cs off (n*re.size) fun ys=>newK re.bytes (ys++xs) (n+(k+1)) re.size p m κ
      |_=>.fail 207
    |_=>.fail 208
   |false=>.fail 209
  |none=>.fail 210
 |_=>.fail 211
noncomputable def storeK(id off:Nat)(cs:List SV)(m:Mem)(k:Mem→Tree α):Tree α:=
 match m.get id with
 |some (.vec old)=>match all1 cs with
  |true=>overK old off cs fun cs=>m.set id (some (.vec cs)) k
  |false=>.fail 198
 |_=>.fail 212
noncomputable def opCopyH(t:TypeId)(d x:SV)(p:Plan)(m:Mem)(κ:Kont α):Tree α:=
 match E.row t with
 |some {desc:=.slice e, ..}=>match E.row e with
  |some re=>match Nat.ble 1 re.size with
   |true=>srcK re.size m x fun xs k=>match d with
    |.nilS=>κ (.int .i64 0) p m
    |.vsl id off n _ z _=>match Nat.beq z re.size with
     |true=>match min k n with
      |0=>κ (.int .i64 0) p m
      |j+1=>takeK xs 0 ((j+1)*re.size) fun ys=>storeK id off ys m fun m=>κ (.int .i64 (j+1:Nat)) p m
     |false=>.fail 215
    |_=>.fail 216
   |false=>.fail 217
  |none=>.fail 218
 |_=>.fail 219
noncomputable def opClearH(t:TypeId)(x:SV)(p:Plan)(m:Mem)(κ:Kont α):Tree α:=
 match E.row t with
 |some {desc:=.slice e, ..}=>match E.row e with
  |some re=>match Nat.beq re.zero.length re.size&&Nat.ble 1 re.size with
   |true=>match x with
    |.nilS=>κ (.tuple []) p m
    |.vsl id off n _ z _=>match Nat.beq z re.size with
     |true=>match n with
      |0=>κ (.tuple []) p m
      |n+1=>frcL (repeatL re.zero (n+1)) fun ys=>storeK id off ys m fun m=>κ (.tuple []) p m
     |false=>.fail 220
    |_=>.fail 221
   |false=>.fail 222
  |none=>.fail 223
 |_=>.fail 224
def boundOf(d:Nat):Option SV→Option (Bool×Nat)
 |none=>some (true,d)
 |some (.int _ i)=>some (decide (0≤i),i.toNat)
 |_=>none
noncomputable def opSliceH(t:TypeId)(x:SV)(lo hi mx:Option SV)(p:Plan)(m:Mem)(κ:Kont α):Tree α:=
 match E.row t with
 |some {desc:=.slice e, ..}=>match E.row e with
  |some re=>match x with
   |.nilS=>match boundOf 0 lo,boundOf 0 hi,boundOf 0 mx with
    |some (b1,l),some (b2,h),some (b3,c)=>match mx.isSome&&hi.isNone with
     |true=>.fail 226
     |false=>.req (b1&& (b2&& (b3&& (Nat.beq l 0&& (Nat.beq h 0&&Nat.beq c 0))))) (κ .nilS p m)
    |_,_,_=>.fail 225
   |.vsl id off n lb z ex=>match Nat.beq z re.size with
    |true=>match boundOf 0 lo,boundOf n hi,boundOf lb mx with
     |some (b1,l),some (b2,h),some (b3,c)=>match mx.isSome&&hi.isNone with
      |true=>.fail 226
      |false=>.req (b1&& (b2&& (b3&& (Nat.ble l h&& (Nat.ble h c&&Nat.ble c lb))))) (frcN (off+l*z) fun o=>frcN (h-l) fun k=>frcN (c-l) fun c=>κ (.vsl id o k c z (ex||mx.isSome)) p m)
     |_,_,_=>.fail 227
    |false=>.fail 228
   |_=>opSlice E t x lo hi mx p m κ
  |none=>.fail 229
 |_=>opSlice E t x lo hi mx p m κ
noncomputable def opMakeSliceH(t:TypeId)(len cap:SV)(p:Plan)(m:Mem)(κ:Kont α):Tree α:=
 match len,cap with
 |.int .i64 n,.int .i64 c=>match E.row t with
  |some {desc:=.slice e, ..}=>match E.row e with
   |some re=>match Nat.beq re.zero.length re.size&&Nat.ble 1 re.size with
    |true=>.req (decide (0≤n)&& (decide (n≤c)&&Nat.ble (re.bytes*c.toNat) 140737488355328&&decide (c≤9223372036854775807))) (frcL (repeatL re.zero c.toNat) fun cs=>m.push (.vec cs) fun m id=>κ (.vsl id 0 n.toNat c.toNat re.size true) p m)
    |false=>.fail 230
   |none=>.fail 231
  |_=>.fail 232
 |_,_=>.fail 233
noncomputable def findM(kt:TypeId)(k:SV):List (SV×SV×Nat)→Nat→Option (Option (Nat×SV×Nat))
 |[],_=>some none
 |e::es,i=>match eqIn E 100 kt k e.1 with
  |some b=>match b with
   |true=>some (some (i,e.2.1,e.2.2))
   |false=>findM kt k es (i+1)
  |none=>none
noncomputable def keyV:Nat→TypeId→SV→Bool
 |0,_,_=>false
 |d+1,t,x=>match E.row t with
  |some {desc:=.bool, ..}=>match x with
   |.bool _=>true
   |_=>false
  |some {desc:=.int _, ..}=>match x with
   |.int _ _=>true
   |_=>false
  |some {desc:=.string, ..}=>match x with
   |.str _=>true
   |_=>false
  |some {desc:=.struct fs, ..}=>match x with
   |.agg xs=>fs.toList.all fun f=>match eqIn.part E f.type xs f.offset with
    |some y=>keyV d f.type y
    |none=>false
   |_=>false
  |_=>false
def sameLeaf:SV→SV→Bool
 |.int k a,.int j b=>decide (k=j)&&a==b
 |.bool a,.bool b=>a==b
 |.str a,.str b=>a==b
 |_,_=>false
def sameLeaves:List SV→List SV→Bool
 |[],[] =>true
 |x::xs,y::ys=>match sameLeaf x y with
  |true=>sameLeaves xs ys
  |false=>false
 |_,_=>false
def sameKey:SV→SV→Bool
 |.agg xs,.agg ys=>sameLeaves xs ys
 |x,y=>sameLeaf x y
noncomputable def keyAt(es:List (SV×SV×Nat))(i:Nat)(k:SV):Bool:=match nth es i with
 |some e=>sameKey e.1 k
 |none=>false
noncomputable def opLookup(t:TypeId)(x i:SV)(ok:Bool)(p:Plan)(m:Mem)(κ:Kont α):Tree α:=
 match E.row t with
 |some {desc:=.map kt et, ..}=>match keyV E 10 kt i with
  |true=>match E.zv et with
   |some z=>match(match x with
     |.mp id=>match m.get id with
      |some (.map es _)=>some es
      |_=>none
     |.raw v=>match v with
      |.map none=>some []
      |_=>none
     |_=>none:Option (List (SV×SV×Nat)))with
    |some es=>match findM E kt i es 0 with
     |some r=>match r with
      |some y=>match ok with
       |true=>frc y.2.1 fun v=>κ (.tuple [v,.bool true]) p m
       |false=>frc y.2.1 fun v=>κ v p m
      |none=>match ok with
       |true=>frc (ofVal z) fun v=>κ (.tuple [v,.bool false]) p m
       |false=>frc (ofVal z) fun v=>κ v p m
     |none=>.fail 234
    |none=>.fail 235
   |none=>.fail 236
  |false=>.fail 237
 |_=>.fail 238
noncomputable def opMapUpdate(t:TypeId)(x k v:SV)(p:Plan)(m:Mem)(κ:Kont α):Tree α:=
 match E.row t with
 |some {desc:=.map kt _, ..}=>match keyV E 10 kt k with
  |true=>match x with
   |.mp id=>match m.get id with
    |some (.map es c)=>match findM E kt k es 0 with
     |some r=>match r with
      |some y=>match keyAt es y.1 k with
       |true=>frcN y.1 fun i=>m.set id (some (.map (es.modify i fun e=>(k,v,e.2.2)) c)) fun m=>κ .undef p m
       |false=>.fail 197
      |none=>frcN c fun c=>m.set id (some (.map (es++[(k,v,c)]) (c+1))) fun m=>κ .undef p m
     |none=>.fail 239
    |_=>.fail 240
   |_=>.fail 241
  |false=>.fail 242
 |_=>.fail 243
noncomputable def opMapEntry(t:TypeId)(x k:SV)(p:Plan)(m:Mem)(κ:Kont α):Tree α:=
 match E.row t with
 |some {desc:=.map kt et, ..}=>match keyV E 10 kt k with
  |true=>match E.zv et with
   |some z=>match x with
    |.mp id=>match m.get id with
     |some (.map es c)=>match findM E kt k es 0 with
      |some r=>match r with
       |some y=>match keyAt es y.1 k with
        |true=>frcN y.1 fun i=>frc y.2.1 fun v=>frcN y.2.2 fun b=>m.set id (some (.map (es.modify i fun e=>(k,e.2.1,e.2.2)) c)) fun m=>κ (.tuple [v,.int .i64 b]) p m
        |false=>.fail 197
       |none=>frcN c fun c=>frc (ofVal z) fun v=>m.set id (some (.map (es++[(k,v,c)]) (c+1))) fun m=>κ (.tuple [v,.int .i64 c]) p m
      |none=>.fail 244
     |_=>.fail 245
    |_=>.fail 246
   |none=>.fail 247
  |false=>.fail 248
 |_=>.fail 249
def stampM(b:Nat):List (SV×SV×Nat)→Nat→Option Nat
 |[],_=>none
 |e::es,i=>match Nat.beq e.2.2 b with
  |true=>some i
  |false=>stampM b es (i+1)
noncomputable def opEntryStore(x b v:SV)(p:Plan)(m:Mem)(κ:Kont α):Tree α:=
 match x,b with
 |.mp id,.int _ b=>match decide (0≤b)with
  |true=>match m.get id with
   |some (.map es c)=>match stampM b.toNat es 0 with
    |some i=>frcN i fun i=>m.set id (some (.map (es.modify i fun e=>(e.1,v,e.2.2)) c)) fun m=>κ .undef p m
    |none=>.fail 250
   |_=>.fail 251
  |false=>.fail 252
 |_,_=>.fail 253
noncomputable def opDelete(t:TypeId)(x k:SV)(p:Plan)(m:Mem)(κ:Kont α):Tree α:=
 match E.row t with
 |some {desc:=.map kt _, ..}=>match keyV E 10 kt k with
  |true=>match x with
   |.mp id=>match m.get id with
    |some (.map es c)=>match findM E kt k es 0 with
     |some r=>match r with
      |some y=>frcN y.1 fun i=>m.set id (some (.map (es.eraseIdx i) c)) fun m=>κ (.tuple []) p m
      |none=>κ (.tuple []) p m
     |none=>.fail 254
    |_=>.fail 255
   |_=>.fail 256
  |false=>.fail 257
 |_=>.fail 258
noncomputable def opRangeM(x:SV)(p:Plan)(m:Mem)(κ:Kont α):Tree α:=
 match x with
 |.mp id=>match m.get id with
  |some (.map _ c)=>frcN c fun c=>m.push (.miter (some id) c [] c) fun m i=>κ (.ptr i 0) p m
  |_=>.fail 259
 |.raw v=>match v with
  |.map none=>m.push (.miter none 0 [] 0) fun m i=>κ (.ptr i 0) p m
  |_=>.fail 260
 |_=>.fail 261
noncomputable def opNextM(x:SV)(p:Plan)(m:Mem)(κ:Kont α):Tree α:=
 match x with
 |.ptr i 0=>match m.get i with
  |some (.miter none _ _ _)=>κ (.tuple [.bool false]) p m
  |some (.miter (some id) _ _ _)=>match m.get id with
   |some (.map [] _)=>κ (.tuple [.bool false]) p m
   |_=>.fail 262
  |_=>.fail 263
 |_=>.fail 264
def bornM(b:Nat):List (SV×SV×Nat)→Option (SV×SV)
 |[] =>none
 |e::es=>match Nat.beq e.2.2 b with
  |true=>some (e.1,e.2.1)
  |false=>bornM b es
noncomputable def opEntry(x:SV)(p:Plan)(m:Mem)(κ:Kont α):Tree α:=
 match x with
 |.ptr i 0=>match m.get i with
  |some (.miter (some id) _ (b::_) c)=>match m.get id with
   |some (.map es c')=>match Nat.beq c c' with
    |true=>match bornM b es with
     |some y=>frc y.1 fun k=>frc y.2 fun v=>κ (.tuple [k,v]) p m
     |none=>.fail 267
    |false=>.fail 268
   |_=>.fail 269
  |_=>.fail 270
 |_=>.fail 271
noncomputable def opBuiltin(b:Builtin)(ts:List TypeId)(vs:List SV)(p:Plan)(m:Mem)(κ:Kont α):Tree α:=
 match b,ts,vs with
 |.len,[t],[x] =>opLen E t x p m κ
 |.append,[t,t1],[s,x] =>match E.row t1 with
  |some {desc:=.slice _, ..}=>match E.hp with
   |false=>opAppend E t s x p m κ
   |true=>opAppendH E t s x p m κ
  |some {desc:=.string, ..}=>match E.hp with
   |false=>opAppend E t s x p m κ
   |true=>opAppendH E t s x p m κ
  |_=>.fail 89
 |.copy,[t,_],[d,x] =>match E.hp with
  |false=>opCopy E t d x p m κ
  |true=>opCopyH E t d x p m κ
 |.clear,[t],[x] =>opClearH E t x p m κ
 |.delete,[t,_],[x,k] =>opDelete E t x k p m κ
 |.max,_,v::vs=>match maxAll v vs with
  |some v=>κ v p m
  |none=>.fail 91
 |.min,_,v::vs=>match minAll v vs with
  |some v=>κ v p m
  |none=>.fail 92
 |_,_,_=>.fail 93
noncomputable def fillK(place:Nat→Option (Nat×Nat))(cs:List SV)(parts:List (Nat×SV)):(List SV→Tree α)→Tree α:=
 List.rec (motive:=fun _=>List SV→(List SV→Tree α)→Tree α) (fun cs k=>k cs)
  (fun x _ ih cs k=>match place x.1 with
    |some os=>match os.2==x.2.cells.length&&all1 x.2.cells&&Nat.ble 1 os.2 with
     |true=>overK cs os.1 x.2.cells fun cs=>ih cs k
     |false=>.fail 94
    |none=>.fail 95) parts cs
noncomputable def placesOf(fs:List Field):Option (List (Nat×Nat)):=
 List.rec (motive:=fun _=>Option (List (Nat×Nat))) (some []) (fun f _ ih=>match E.row f.type,ih with
  |some r,some l=>some ((f.offset,r.size)::l)
  |_,_=>none) fs
noncomputable def opBuild(t:TypeId)(parts:List (Nat×SV))(p:Plan)(m:Mem)(κ:Kont α):Tree α:=
 match E.row t with
 |some r=>match r.desc with
  |.struct fs=>match placesOf E fs.toList with
   |some pl=>fillK (fun i=>nth pl i) r.zero parts fun cs=>κ (.agg cs) p m
   |none=>.fail 95
  |.array _ e=>match E.row e with
   |some re=>fillK (fun i=>some (i*re.size,re.size)) r.zero parts fun cs=>κ (.agg cs) p m
   |none=>.fail 96
  |_=>.fail 97
 |none=>.fail 98
noncomputable def opBuildSlice(t:TypeId)(n:Nat)(parts:List (Nat×SV))(p:Plan)(m:Mem)(κ:Kont α):Tree α:=
 match E.row t with
 |some {desc:=.slice e, ..}=>match E.row e with
  |some re=>match decide (n*re.size≤1000)&&decide (re.zero.length=re.size)with
   |true=>fillK (fun i=>some (i*re.size,re.size)) (repeatL re.zero n) parts fun cs=>match E.hp with
    |false=>m.push ((.cells cs)) fun m id=>κ (.arr id 0 n) p m
    |true=>match Nat.beq cs.length (n*re.size)with
     |true=>m.push (.vec cs) fun m id=>κ (.vsl id 0 n n re.size true) p m
     |false=>.fail 196
   |false=>.fail 99
  |none=>.fail 100
 |_=>.fail 101
noncomputable def opMakeSlice(t:TypeId)(len cap:SV)(p:Plan)(m:Mem)(κ:Kont α):Tree α:=
 match len,cap with
 |.int .i64 n,.int .i64 c=>match E.row t with
  |some {desc:=.slice e, ..}=>match E.row e with
   |some {ty:=some u,bytes:=bytes,size:=size, ..}=>match size==u.sz with
    |true=>.req (decide (0≤n)&&n==c&&decide (bytes*n≤140737488355328)&&decide (n≤9223372036854775807)) (m.push ((.rows u (List.replicate n.toNat u.dflt))) fun m id=>κ (.row id) p m)
    |false=>.fail 102
   |_=>.fail 103
  |_=>.fail 104
 |_,_=>.fail 105
noncomputable def opRange(x:SV)(p:Plan)(m:Mem)(κ:Kont α):Tree α:=
 match x with
 |.str s=>m.push ((.iter s 0)) fun m id=>κ (.ptr id 0) p m
 |_=>.fail 106
noncomputable def opNext(x:SV)(p:Plan)(m:Mem)(κ:Kont α):Tree α:=
 match x with
 |.ptr id 0=>match m.get id with
  |some (.iter s pos)=>dec p (decide (pos<s.length)) fun b p=>match b with
   |true=>m.set id (some (.iter s (pos+(Utf8.decode ⟨⟨s⟩⟩ pos).2))) fun m=>κ (.tuple [.bool true,.int .i64 pos,.int .i32 (Utf8.decode ⟨⟨s⟩⟩ pos).1]) p m
   |false=>κ (.tuple [.bool false]) p m
  |_=>.fail 107
 |_=>.fail 108
noncomputable def SV.data(v:SV):Bool:=
 SV.rec (motive_1:=fun _=>Bool) (motive_2:=fun _=>Bool) true false (fun _ _=>true) (fun _=>true) (fun _=>true) true (fun _ _=>true) (fun _=>false) (fun _ _ _=>false) (fun _ _=>false) true
  (fun _ _ _ _=>true) (fun _ _ _ _=>false) (fun _ ih=>ih) (fun _ ih=>ih) (fun _ _ _ a b=>match a with|true=>b|false=>false) (fun _=>true) (fun _ _ _ _ _ _=>false) (fun _ _=>false) (fun _=>false) true (fun _ _ a b=>match a with|true=>b|false=>false) v
noncomputable def dataL(l:List SV):Bool:=List.rec (motive:=fun _=>Bool) true (fun x _ ih=>match x.data with
 |true=>ih
 |false=>false) l
noncomputable def adopt1(v:SV)(mc m:Mem)(k:SV→Mem→Mem→Tree α):Tree α:=
 match v with
 |.row id=>match mc.get id with
  |some (.rows t l)=>mc.set id none fun mc=>m.push (.rows t l) fun m id=>k (.row id) mc m
  |_=>.fail 112
 |v=>match v.data with
  |true=>k v mc m
  |false=>.fail 113
noncomputable def adoptL(vs:List SV):Mem→Mem→(List SV→Mem→Mem→Tree α)→Tree α:=
 List.rec (motive:=fun _=>Mem→Mem→(List SV→Mem→Mem→Tree α)→Tree α) (fun mc m k=>k [] mc m)
  (fun x _ ih mc m k=>adopt1 x mc m fun v mc m=>ih mc m fun vs mc m=>k (v::vs) mc m) vs
noncomputable def adopt(v:SV)(mc m:Mem)(k:SV→Mem→Tree α):Tree α:=
 match v with
 |.tuple vs=>adoptL vs mc m fun vs _ m=>k (.tuple vs) m
 |.agg vs=>adoptL vs mc m fun vs _ m=>k (.agg vs) m
 |v=>adopt1 v mc m fun v _ m=>k v m
noncomputable def bindT(m:Mem)(κ:Kont α):Tree SV→Plan→Tree α
 |.leaf v,p=>κ v p m
 |.node b t f,p=>dec p b fun b p=>match b with
  |true=>bindT m κ t p
  |false=>bindT m κ f p
 |.req b t,p=>.req b (bindT m κ t p)
 |.fail n,_=>.fail n
noncomputable def bindM(κ:Kont α):Tree (SV×Mem)→Plan→Tree α
 |.leaf x,p=>κ x.1 p x.2
 |.node b t f,p=>dec p b fun b p=>match b with
  |true=>bindM κ t p
  |false=>bindM κ f p
 |.req b t,p=>.req b (bindM κ t p)
 |.fail n,_=>.fail n
noncomputable def bindO(m:Mem)(κ:Kont α):Tree (SV×Mem)→Plan→Tree α
 |.leaf x,p=>adopt x.1 x.2 m fun v m=>κ v p m
 |.node b t f,p=>dec p b fun b p=>match b with
  |true=>bindO m κ t p
  |false=>bindO m κ f p
 |.req b t,p=>.req b (bindO m κ t p)
 |.fail n,_=>.fail n
noncomputable def bindX(κ:Kont α)(esc:SV→Mem→Tree α):Tree Ex→Plan→Tree α
 |.leaf x,p=>match x with
  |.ok v m=>κ v p m
  |.pan v m=>esc v m
 |.node b t f,p=>dec p b fun b p=>match b with
  |true=>bindX κ esc t p
  |false=>bindX κ esc f p
 |.req b t,p=>.req b (bindX κ esc t p)
 |.fail n,_=>.fail n
noncomputable def bindB(κ:SV→Plan→Box→Tree α):Tree (Bool×SV×Box)→Plan→Tree α
 |.leaf x,p=>match x.1 with
  |false=>κ x.2.1 p x.2.2
  |true=>.fail 177
 |.node b t f,p=>dec p b fun b p=>match b with
  |true=>bindB κ t p
  |false=>bindB κ f p
 |.req b t,p=>.req b (bindB κ t p)
 |.fail n,_=>.fail n
abbrev CallK(α:Type):=FuncId→List SV→Plan→Mem→Kont α→Tree α
noncomputable def opCall(call:CallK α)(ev:Operand→SV)(c:Call)(p:Plan)(m:Mem)(κ:Kont α):Tree α:=
 match c.callee with
 |.builtin b=>opBuiltin E b c.argTypes.toList (c.args.toList.map ev) p m κ
 |.value f=>match ev f with
  |.fn k first cap=>call k (first++(c.args.toList.map ev++cap)) p m κ
  |_=>.fail 110
 |.invoke _ _=>.fail 111
noncomputable def execOp(call:CallK α)(ev:Operand→SV)(o:Op)(p:Plan)(m:Mem)(κ:Kont α):Tree α:=
 match o with
 |.move x=>frc (ev x) fun v=>κ v p m
 |.assign x=>frc (ev x) fun v=>κ v p m
 |.pick c a b=>match ev c with
  |.bool c=>dec p c fun c p=>frc (match c with|true=>ev a|false=>ev b) fun v=>κ v p m
  |_=>.fail 120
 |.alloc t=>match E.row t with
  |some r=>match E.typed t with
   |true=>frcL r.zero fun z=>m.push ((.obj t z)) fun m id=>κ (.ptr id 0) p m
   |false=>frcL r.zero fun z=>m.push ((.cells z)) fun m id=>κ (.ptr id 0) p m
  |none=>.fail 121
 |.box _ x=>match all1 (ev x).cells with
  |true=>frcL (ev x).cells fun cs=>m.push (.cells cs) fun m id=>κ (.ptr id 0) p m
  |false=>.fail 125
 |.build t parts=>opBuild E t (parts.toList.map fun x=>(x.1,ev x.2)) p m κ
 |.buildSlice t n parts=>opBuildSlice E t n (parts.toList.map fun x=>(x.1,ev x.2)) p m κ
 |.load t a=>opLoad E t (ev a) p m κ
 |.store t a x=>opStore E t (ev a) (ev x) p m κ
 |.nilCheck x=>match ev x with
  |.ptr i o=>κ (.ptr i o) p m
  |.eptr t l i o=>κ (.eptr t l i o) p m
  |.rptr a z i o=>κ (.rptr a z i o) p m
  |.vptr i o=>κ (.vptr i o) p m
  |.fn f a c=>κ (.fn f a c) p m
  |_=>.fail 122
 |.binOp op t x y _=>opBin E op t (ev x) (ev y) p m κ
 |.unOp op _ x=>opUn op (ev x) p m κ
 |.convert s d x=>opConv E s d (ev x) p m κ
 |.makeFunc (.func f) first cap=>κ (.fn f (first.toList.map ev) (cap.toList.map ev)) p m
 |.makeSlice t l c=>match E.hp with
  |false=>opMakeSlice E t (ev l) (ev c) p m κ
  |true=>opMakeSliceH E t (ev l) (ev c) p m κ
 |.slice t x lo hi mx=>match E.hp with
  |false=>opSlice E t (ev x) (lo.map ev) (hi.map ev) (mx.map ev) p m κ
  |true=>opSliceH E t (ev x) (lo.map ev) (hi.map ev) (mx.map ev) p m κ
 |.makeMap _ none=>m.push (.map [] 0) fun m id=>κ (.mp id) p m
 |.makeMap t (some r)=>match E.row t with
  |some {desc:=.map _ _, ..}=>match ev r with
   |.int _ _=>m.push (.map [] 0) fun m id=>κ (.mp id) p m
   |_=>.fail 265
  |_=>.fail 266
 |.lookup t x i ok=>opLookup E t (ev x) (ev i) ok p m κ
 |.mapUpdate t x k v=>opMapUpdate E t (ev x) (ev k) (ev v) p m κ
 |.insert t x k v=>opMapUpdate E t (ev x) (ev k) (ev v) p m κ
 |.mapEntry t x k=>opMapEntry E t (ev x) (ev k) p m κ
 |.entryStore _ x b v=>opEntryStore (ev x) (ev b) (ev v) p m κ
 |.fieldAddr s x f=>opFieldAddr E s (ev x) f p m κ
 |.field s x f=>opField E s (ev x) f p m κ
 |.indexAddr t x i=>opIndexAddr E t (ev x) (ev i) p m κ
 |.index t x i=>opIndex E t (ev x) (ev i) p m κ
 |.range t x=>match E.row t with
  |some {desc:=.string, ..}=>opRange (ev x) p m κ
  |some {desc:=.map _ _, ..}=>opRangeM (ev x) p m κ
  |_=>.fail 126
 |.next x true=>opNext (ev x) p m κ
 |.next x false=>opNextM (ev x) p m κ
 |.entry x=>opEntry (ev x) p m κ
 |.extract x i=>opExtract (ev x) i p m κ
 |.call c=>opCall E call ev c p m κ
 |.makeInterface t x=>match E.row t with
  |some r=>match isIface r.desc with
   |false=>match svVal (ev x)with
    |some v=>κ (.raw (.iface t v)) p m
    |none=>.fail 127
   |true=>.fail 128
  |none=>.fail 129
 |.typeAssert x _ t true=>match E.row t with
  |some r=>match isIface r.desc with
   |false=>match ev x with
    |.raw u=>match u with
     |.nilIface=>match E.zv t with
      |some z=>κ (.tuple [ofVal z,.bool false]) p m
      |none=>.fail 187
     |.iface t' v=>match Nat.beq t' t with
      |true=>κ (.tuple [ofVal v,.bool true]) p m
      |false=>.fail 182
     |_=>.fail 183
    |_=>.fail 183
   |true=>.fail 184
  |none=>.fail 185
 |_=>.fail 123
noncomputable def evalIn(fr:Fr):Operand→SV
 |.tmp t=>fr.get t
 |.const v=>ofVal v
 |.global g=>.raw (.pointer (some ⟨g,0,none⟩))
 |.func f=>.fn f [] []
noncomputable def putK(fr:Fr)(d:Option Tmp)(v:SV)(k:Fr→Tree α):Tree α:=
 match d with
 |some d=>fr.set d v k
 |none=>k fr
noncomputable def quiet:Op→Bool
 |.move _|.assign _|.pick .. |.load .. |.nilCheck _|.binOp .. |.unOp .. |.fieldAddr .. |.field .. |.indexAddr .. |.index .. |.extract .. |.makeFunc .. |.build .. =>true
 |.slice _ _ _ _ none=>true
 |.convert _ d _=>match E.row d with
  |some {desc:=.slice _, ..}=>false
  |some _=>true
  |none=>false
 |.call {callee:=.builtin .len, ..}=>true
 |.call {callee:=.builtin .max, ..}=>true
 |.call {callee:=.builtin .min, ..}=>true
 |.call {callee:=.value _, ..}=>true
 |_=>false
noncomputable def pureOp:Op→Bool
 |.move _|.assign _|.pick .. |.nilCheck _|.binOp .. |.unOp .. |.fieldAddr .. |.field .. |.index .. |.extract .. |.makeFunc .. |.build .. =>true
 |_=>false
noncomputable def shapeOp:Op→Bool
 |.indexAddr .. =>true
 |.call {callee:=.builtin .len, ..}=>true
 |_=>false
noncomputable def upOp:Op→Bool
 |.load .. =>true
 |.lookup .. =>true
 |.call {callee:=.value _, ..}=>true
 |_=>false
noncomputable def isStore:Op→Bool
 |.store .. =>true
 |_=>false
noncomputable def isAlloc:Op→Bool
 |.alloc _=>true
 |_=>false
noncomputable def writer(o:Op):Bool:=isStore o||isAlloc o
noncomputable def wetPre(al:Bool)(o:Op):Bool:=quiet E o&& (!al||(pureOp o||(shapeOp o||upOp o)))
noncomputable def wetPost(al:Bool)(o:Op):Bool:=pureOp o||(isStore o||(shapeOp o&&!al))
noncomputable def wetGo(al:Bool)(l:List Oper):Bool:=
 List.rec (motive:=fun _=>Bool) true (fun o os ih=>match writer o.op with
  |true=>(isAlloc o.op==al)&&os.all fun o=>wetPost al o.op
  |false=>wetPre E al o.op&&ih) l
noncomputable def tmpsOf(l:List Operand)(r:List Nat):List Nat:=List.rec (motive:=fun _=>List Nat) r (fun x _ ih=>match x with
 |.tmp t=>t::ih
 |_=>ih) l
noncomputable def rdsOf(all:List Oper)(o:Oper):List Nat:=tmpsOf o.op.operands.toList (match o.guard with
 |some jw=>match nth all jw.1 with
  |some oj=>match oj.dst with
   |some d=>[d]
   |none=>[]
  |none=>[]
 |none=>[])
noncomputable def memN(l:List Nat)(k:Nat):Bool:=List.rec (motive:=fun _=>Bool) false (fun x _ ih=>match Nat.beq x k with
 |true=>true
 |false=>ih) l
noncomputable def apartN(di:Option Nat)(ri:List Nat)(dj:Option Nat)(rj:List Nat):Bool:=
 match(match di with
  |some d=>match memN rj d with
   |true=>false
   |false=>match dj with
    |some e=>match Nat.beq e d with
     |true=>false
     |false=>true
    |none=>true
  |none=>true)with
 |false=>false
 |true=>match dj with
  |some d=>match memN ri d with
   |true=>false
   |false=>true
  |none=>true
noncomputable def onsOf(o:Oper)(l:List Nat):List Nat:=List.rec (motive:=fun _=>List Nat) l (fun e _ ih=>match Region.binds .any e with
 |true=>e.on::ih
 |false=>ih) o.after.toList
noncomputable def pairsN(ons:List Nat)(dj:Option Nat)(rj:List Nat)(acc:List (Nat×Option Nat×List Nat)):Bool:=List.rec (motive:=fun _=>Bool) true (fun x _ ih=>match memN ons x.1 with
 |true=>ih
 |false=>match apartN x.2.1 x.2.2 dj rj with
  |true=>ih
  |false=>false) acc
noncomputable def belowN(j:Nat)(l:List Nat):Bool:=List.rec (motive:=fun _=>Bool) true (fun x _ ih=>match Nat.blt x j with
 |true=>ih
 |false=>false) l
noncomputable def lexGo(all ops:List Oper):Nat→List (Nat×Option Nat×List Nat)→Bool:=
 List.rec (motive:=fun _=>Nat→List (Nat×Option Nat×List Nat)→Bool) (fun _ _=>true) (fun o _ ih j acc=>match belowN j (onsOf o [])with
  |true=>match pairsN (onsOf o []) o.dst (rdsOf all o) acc with
   |true=>match o.op with
    |.select .. =>false
    |_=>ih (j+1) ((j,o.dst,rdsOf all o)::acc)
   |false=>false
  |false=>false) ops
noncomputable def lexL(all:List Oper):Bool:=lexGo all all 0 []
noncomputable def closeN(all:List Oper)(i:Nat)(n:Nat):List Nat→List Nat→Bool:=
 Nat.rec (motive:=fun _=>List Nat→List Nat→Bool) (fun _ _=>false) (fun _ ih todo seen=>match todo with
  |[] =>false
  |j::todo=>match Nat.beq j i with
   |true=>true
   |false=>match Nat.blt j i||seen.any fun x=>Nat.beq x j with
    |true=>ih todo seen
    |false=>match nth all j with
     |some o=>ih (onsOf o todo) (j::seen)
     |none=>ih todo seen) n
noncomputable def boundTo(all:List Oper)(_:Nat)(o:Oper)(i:Nat):Bool:=closeN all i 300 (onsOf o []) []
noncomputable def wetPairs(all:List Oper):Bool:=
 all.zipIdx.all fun oj=>!isStore oj.1.op||all.zipIdx.all fun oi=>!Nat.blt oi.2 oj.2||(pureOp oi.1.op||(shapeOp oi.1.op||boundTo all 3 oj.1 oi.2))
noncomputable def wetB(all:List Oper):Bool:=(wetGo E false all||wetGo E true all)&&wetPairs all
abbrev OpsK(α:Type):=Plan→Fr→Mem→Tree α
noncomputable def oneOp(let_:Op→Bool)(call:CallK α)(all:List Oper)(o:Oper)(ih:OpsK α)(p:Plan)(fr:Fr)(m:Mem):Tree α:=
 match o.guard with
 |none=>match let_ o.op with
  |true=>execOp E call (evalIn fr) o.op p m fun v p m=>putK fr o.dst v fun fr=>ih p fr m
  |false=>.fail 133
 |some jw=>match nth all jw.1 with
  |some oj=>match oj.dst with
   |some d=>match fr.get d with
    |.bool b=>dec p b fun b p=>fr.set d (.bool b) fun fr=>match b==jw.2 with
     |true=>match let_ o.op with
      |true=>execOp E call (evalIn fr) o.op p m fun v p m=>putK fr o.dst v fun fr=>ih p fr m
      |false=>.fail 133
     |false=>putK fr o.dst .undef fun fr=>ih p fr m
    |.undef=>putK fr o.dst .undef fun fr=>ih p fr m
    |_=>.fail 130
   |none=>.fail 131
  |none=>.fail 132
noncomputable def execOps(let_:Op→Bool)(call:CallK α)(all ops:List Oper)(k:OpsK α):OpsK α:=
 List.rec (motive:=fun _=>OpsK α) k (fun o _ ih=>oneOp E let_ call all o ih) ops
noncomputable def oneOpP(call:CallK α)(esc:SV→Fr→Mem→Tree α)(all:List Oper)(o:Oper)(ih:OpsK α)(p:Plan)(fr:Fr)(m:Mem):Tree α:=
 match o.guard with
 |some _=>oneOp E (fun _=>true) call all o ih p fr m
 |none=>match o.op with
  |.panic x=>match evalIn fr x with
   |.raw v=>match v with
    |.iface t v=>esc (.raw (.iface t v)) fr m
    |_=>.fail 171
   |_=>.fail 171
  |.call c=>match c.callee with
   |.value g=>match evalIn fr g with
    |.fn f first cap=>match E.pn f with
     |some s=>match s (first++(c.args.toList.map (evalIn fr)++cap)) m with
      |some t=>bindX (fun v p m=>putK fr o.dst v fun fr=>ih p fr m) (fun v m=>esc v fr m) t p
      |none=>.fail 172
     |none=>oneOp E (fun _=>true) call all o ih p fr m
    |_=>oneOp E (fun _=>true) call all o ih p fr m
   |_=>oneOp E (fun _=>true) call all o ih p fr m
  |_=>oneOp E (fun _=>true) call all o ih p fr m
noncomputable def execOpsP(call:CallK α)(esc:SV→Fr→Mem→Tree α)(all ops:List Oper)(k:OpsK α):OpsK α:=
 List.rec (motive:=fun _=>OpsK α) k (fun o _ ih=>oneOpP E call esc all o ih) ops
abbrev PendM:=Option ((Nat×Bool)×Bool×Nat×Fr)
noncomputable def mrgK(callQ:CallK α)(o:Oper)(ih:PendM→OpsK α)(jw:Nat×Bool)(b:Bool)(d:Nat)(frX:Fr)(p:Plan)(fr:Fr)(m:Mem):Tree α:=
 match quiet E o.op&& (match o.dst with|some e=>!Nat.beq e d|none=>true)with
 |true=>execOp E callQ (evalIn frX) o.op p m fun v p _=>putK frX o.dst v fun frX=>putK fr o.dst .top fun fr=>ih (some (jw,b,d,frX)) p fr m
 |false=>.fail 303
noncomputable def pickK(o:Oper)(ih:PendM→OpsK α)(w b:Bool)(x y:Operand)(frX:Fr)(p:Plan)(fr:Fr)(m:Mem):Tree α:=
 match(match w with|true=>evalIn frX x|false=>evalIn frX y),(match w with|true=>evalIn fr y|false=>evalIn fr x)with
 |.bool b1,.bool b2=>putK fr o.dst (.bool (match b==w with|true=>b1|false=>b2)) fun fr=>ih none p fr m
 |_,_=>.fail 304
noncomputable def oneOpM(call callQ:CallK α)(all:List Oper)(o:Oper)(ih:PendM→OpsK α)(q:PendM)(p:Plan)(fr:Fr)(m:Mem):Tree α:=
 match q with
 |none=>match o.guard with
  |none=>execOp E call (evalIn fr) o.op p m fun v p m=>putK fr o.dst v fun fr=>ih none p fr m
  |some jw=>match nth all jw.1 with
   |some oj=>match oj.dst with
    |some d=>match fr.get d with
     |.bool b=>mrgK E callQ o ih jw b d fr p fr m
     |_=>.fail 305
    |none=>.fail 131
   |none=>.fail 132
 |some (jw,b,d,frX)=>match o.guard with
  |some iw=>match Nat.beq iw.1 jw.1&& (iw.2==jw.2)with
   |true=>mrgK E callQ o ih jw b d frX p fr m
   |false=>.fail 302
  |none=>match o.op with
   |.pick (.tmp t) x y=>match Nat.beq t d with
    |true=>pickK o ih jw.2 b x y frX p fr m
    |false=>.fail 306
   |_=>.fail 307
noncomputable def execOpsM(call callQ:CallK α)(all ops:List Oper)(k:OpsK α):PendM→OpsK α:=
 List.rec (motive:=fun _=>PendM→OpsK α) (fun q p fr m=>match q with
  |none=>k p fr m
  |some _=>.fail 301) (fun o _ ih=>oneOpM E call callQ all o ih) ops
noncomputable def cellTy(hint:Ty)(cs:List SV):Ty:=match hint with
 |.unit=>match cs with
  |.int k _::_=>.int k
  |.str _::_=>.str
  |.bool _::_=>.bool
  |_=>.unit
 |u=>u
noncomputable def give1(hint:Ty)(m:Mem)(v:SV):SV:=match v with
 |.nilS=>match hint with
  |.unit=>.nilS
  |t=>.list t []
 |.row id=>match m.get id with
  |some (.rows t l)=>.list t l
  |_=>.row id
 |.arr id off n=>match m.get id with
  |some (.cells cs)=>match unflatN (cellTy hint (cs.drop off)) n ((cs.drop off).take (n*(cellTy hint (cs.drop off)).sz))with
   |some l=>.list (cellTy hint (cs.drop off)) l
   |none=>.arr id off n
  |_=>.arr id off n
 |v=>v
noncomputable def giveL(hint:Ty)(m:Mem):List SV→List SV
 |[] =>[]
 |x::xs=>give1 hint m x::giveL hint m xs
noncomputable def giveA(hint:Ty)(m:Mem)(v:SV):SV:=match v with
 |.agg cs=>.agg (giveL hint m cs)
 |v=>give1 hint m v
noncomputable def giveM(hint:Ty)(m:Mem):List SV→List SV
 |[] =>[]
 |x::xs=>giveA hint m x::giveM hint m xs
noncomputable def give(hint:Ty)(m:Mem)(v:SV):SV:=match v with
 |.tuple cs=>.tuple (giveM hint m cs)
 |v=>giveA hint m v
noncomputable def isW:Op→Bool
 |.store .. =>true
 |.alloc _=>true
 |.call {callee:=.builtin .append, ..}=>true
 |.call {callee:=.value f, ..}=>match f with
  |.func k=>(E.sum k).isNone
  |_=>true
 |_=>false
noncomputable def hasW:Op→Bool
 |.call {callee:=.value f, ..}=>match f with
  |.func k=>(E.wr k).isSome
  |_=>false
 |_=>false
noncomputable def hintOf:Op→Ty
 |.buildSlice t _ _=>match E.row t with
  |some {desc:=.slice e, ..}=>match E.row e with
   |some r=>r.ty.getD .unit
   |none=>.unit
  |_=>.unit
 |_=>.unit
noncomputable def chainB(all:List Oper):Bool:=
 all.zipIdx.all fun oj=>!isW E oj.1.op||all.zipIdx.all fun oi=>!Nat.blt oi.2 oj.2||(!isW E oi.1.op||boundTo all 3 oj.1 oi.2)
noncomputable def oneOpF(call:CallK α)(o:Oper)(ih:OpsK α)(p:Plan)(fr:Fr)(m:Mem):Tree α:=
 match o.guard with
 |none=>match isW E o.op with
  |true=>execOp E call (evalIn fr) o.op p m fun v p m=>putK fr o.dst v fun fr=>ih p fr m
  |false=>match pureOp o.op with
   |true=>execOp E call (evalIn fr) o.op p m fun v p _=>putK fr o.dst v fun fr=>ih p fr m
   |false=>match dataL (o.op.operands.toList.map (evalIn fr))with
    |true=>execOp E call (evalIn fr) o.op p ⟨0,.e⟩ fun v p mc=>match(give (hintOf E o.op) mc v).data with
     |true=>frc (give (hintOf E o.op) mc v) fun v=>putK fr o.dst v fun fr=>ih p fr m
     |false=>.fail 135
    |false=>.fail 136
 |some _=>.fail 137
noncomputable def execOpsF(call:CallK α)(ops:List Oper)(k:OpsK α):OpsK α:=
 List.rec (motive:=fun _=>OpsK α) k (fun o _ ih=>oneOpF E call o ih) ops
def idx:List Nat→Nat→Option Nat
 |[],_=>none
 |x::l,k=>match Nat.beq x k with
  |true=>some 0
  |false=>match idx l k with
   |some j=>some (j+1)
   |none=>none
def addId(id:Nat)(l:List Nat):List Nat:=match idx l id with
 |some _=>l
 |none=>l++[id]
mutual
/-- The boxes that a value names, behind those of the list. -/
def idsV:SV→List Nat→List Nat
 |.row id,l=>addId id l
 |.arr id _ _,l=>addId id l
 |.ptr id _,l=>addId id l
 |.rptr id _ _ _,l=>addId id l
 |.vsl id _ _ _ _ _,l=>addId id l
 |.vptr id _,l=>addId id l
 |.mp id,l=>addId id l
 |.agg cs,l=>idsL cs l
 |.tuple cs,l=>idsL cs l
 |.fn _ a b,l=>idsL b (idsL a l)
 |_,l=>l
def idsL:List SV→List Nat→List Nat
 |[],l=>l
 |x::xs,l=>idsL xs (idsV x l)
end
mutual
/-- Is the box mentioned? -/
def ment(k:Nat):SV→Bool
 |.row id=>Nat.beq id k
 |.arr id _ _=>Nat.beq id k
 |.ptr id _=>Nat.beq id k
 |.rptr id _ _ _=>Nat.beq id k
 |.vsl id _ _ _ _ _=>Nat.beq id k
 |.vptr id _=>Nat.beq id k
 |.mp id=>Nat.beq id k
 |.agg cs=>mentL k cs
 |.tuple cs=>mentL k cs
 |.fn _ a b=>mentL k a||mentL k b
 |_=>false
def mentL(k:Nat):List SV→Bool
 |[] =>false
 |x::xs=>ment k x||mentL k xs
end
def mentB(k:Nat):Option Box→Bool
 |some (.cells cs)=>mentL k cs
 |some (.obj _ cs)=>mentL k cs
 |some (.vec cs)=>mentL k cs
 |some (.map es _)=>es.any fun e=>ment k e.1||ment k e.2.1
 |some (.miter (some id) _ _ _)=>Nat.beq id k
 |_=>false
mutual
/-- Nothing is mentioned that lies elsewhere, but rows. -/
def noRef:SV→Bool
 |.undef=>true
 |.top=>true
 |.int _ _=>true
 |.bool _=>true
 |.str _=>true
 |.nilS=>true
 |.nilP=>true
 |.row _=>true
 |.agg cs=>noRefL cs
 |.tuple cs=>noRefL cs
 |_=>false
def noRefL:List SV→Bool
 |[] =>true
 |x::xs=>noRef x&&noRefL xs
end
def Ty.flatT:Ty→Bool
 |.list _=>false
 |.pair a b=>a.flatT&&b.flatT
 |_=>true
def flatB:Box→Bool
 |.rows t _=>t.flatT
 |_=>false
def Tb.filt{β:Type}(f:β→Bool):Tb β→Tb β
 |.e=>.e
 |.n l v r=>.n (l.filt f) (match v with
  |some x=>match f x with
   |true=>some x
   |false=>none
  |none=>none) (r.filt f)
def Mem.flats(m:Mem):Mem:=⟨m.next,m.tb.filt flatB⟩
noncomputable def argR(m:Mem)(v:SV):SV:=match v with
 |.row id=>match m.get id with
  |some (.rows t l)=>.list t l
  |_=>.row id
 |v=>v
noncomputable def Mem.only(m:Mem)(ids:List Nat):Mem→(Mem→Tree α)→Tree α:=
 List.rec (motive:=fun _=>Mem→(Mem→Tree α)→Tree α) (fun mF k=>k mF) (fun id _ ih mF k=>match m.get id with
  |some B=>mF.set id (some B) fun mF=>ih mF k
  |none=>ih mF k) ids
noncomputable def Mem.patch(mF:Mem)(ids:List Nat):Mem→(Mem→Tree α)→Tree α:=
 List.rec (motive:=fun _=>Mem→(Mem→Tree α)→Tree α) (fun m k=>k m) (fun id _ ih m k=>m.set id (mF.get id) fun m=>ih m k) ids
structure Rec where
 i:Nat
 rd:List Nat
 wt:List Nat
 g:Bool
def hasN(l:List Nat)(k:Nat):Bool:=l.any fun x=>Nat.beq x k
def meet(l k:List Nat):Bool:=l.any (hasN k)
def Rec.conf(r s:Rec):Bool:=meet r.wt s.rd||(meet r.wt s.wt||(meet r.rd s.wt||(r.g&&s.g)))
noncomputable def refsOf(l:List Oper):Nat→Nat→List (Nat×Nat):=
 List.rec (motive:=fun _=>Nat→Nat→List (Nat×Nat)) (fun _ _=>[]) (fun o _ ih i k=>match isAlloc o.op with
  |true=>(i,k)::ih (i+1) (k+1)
  |false=>ih (i+1) k) l
def idOf(refs:List (Nat×Nat))(i:Nat):Option Nat:=match refs with
 |[] =>none
 |x::l=>match Nat.beq x.1 i with
  |true=>some x.2
  |false=>idOf l i
noncomputable def okRefs(all:List Oper)(refs:List (Nat×Nat))(o:Oper)(i:Nat)(v:SV)(wt:List Nat)(bs:List (Option Box)):Bool:=
 refs.all fun ck=>!(ment ck.2 v||(hasN wt ck.2||bs.any (mentB ck.2)))||(Nat.beq ck.1 i||boundTo all 3 o ck.1)
structure AccR where
 r:Rec
 fr:Fr
 o:Op
 v:SV
abbrev OpsT(α:Type):=List AccR→Plan→Fr→Mem→Tree α
noncomputable def footOf(ev:Operand→SV)(o:Op):List Nat:=match o with
 |.store _ a _=>idsV (ev a) []
 |o=>idsL (o.operands.toList.map ev) []
noncomputable def footR(ev:Operand→SV)(o:Op):List Nat:=match pureOp o with
 |true=>[]
 |false=>footOf ev o
noncomputable def isLoad:Op→Bool
 |.load .. =>true
 |.lookup .. =>true
 |_=>false
noncomputable def isG:Op→Bool
 |.buildSlice _ n parts=>match n,parts.toList with
  |0,[] =>true
  |_,_=>false
 |.call {callee:=.builtin .append, ..}=>true
 |.call {callee:=.value f, ..}=>match f with
  |.func k=>(E.sum k).isNone
  |_=>false
 |_=>false
noncomputable def hasR:Op→Bool
 |.call {callee:=.value f, ..}=>match f with
  |.func k=>E.rd k
  |_=>false
 |_=>false
mutual
/-- Surely the same value. -/
def sameSV:SV→SV→Bool
 |.undef,.undef=>true
 |.top,.top=>true
 |.int k a,.int j b=>decide (k=j)&&a==b
 |.bool a,.bool b=>a==b
 |.str a,.str b=>a==b
 |.nilS,.nilS=>true
 |.nilP,.nilP=>true
 |.arr a b c,.arr a' b' c'=>Nat.beq a a'&& (Nat.beq b b'&&Nat.beq c c')
 |.ptr a b,.ptr a' b'=>Nat.beq a a'&&Nat.beq b b'
 |.vsl a b c d e f,.vsl a' b' c' d' e' f'=>Nat.beq a a'&& (Nat.beq b b'&& (Nat.beq c c'&& (Nat.beq d d'&& (Nat.beq e e'&&f==f'))))
 |.vptr a b,.vptr a' b'=>Nat.beq a a'&&Nat.beq b b'
 |.mp a,.mp a'=>Nat.beq a a'
 |.agg xs,.agg ys=>sameSVL xs ys
 |.tuple xs,.tuple ys=>sameSVL xs ys
 |.fn f a c,.fn f' a' c'=>Nat.beq f f'&& (sameSVL a a'&&sameSVL c c')
 |_,_=>false
def sameSVL:List SV→List SV→Bool
 |[],[] =>true
 |x::xs,y::ys=>match sameSV x y with
  |true=>sameSVL xs ys
  |false=>false
 |_,_=>false
end
def sameEs:List (SV×SV×Nat)→List (SV×SV×Nat)→Bool
 |[],[] =>true
 |x::xs,y::ys=>sameSV x.1 y.1&& (sameSV x.2.1 y.2.1&& (Nat.beq x.2.2 y.2.2&&sameEs xs ys))
 |_,_=>false
def sameBox:Option Box→Option Box→Bool
 |some (.cells a),some (.cells b)=>sameSVL a b
 |some (.obj t a),some (.obj u b)=>Nat.beq t u&&sameSVL a b
 |some (.vec a),some (.vec b)=>sameSVL a b
 |some (.map a c),some (.map b d)=>Nat.beq c d&&sameEs a b
 |_,_=>false
def idsB:Option Box→List Nat→List Nat
 |some (.cells cs),l=>idsL cs l
 |some (.obj _ cs),l=>idsL cs l
 |some (.vec cs),l=>idsL cs l
 |some (.map es _),l=>es.foldl (fun l e=>idsV e.2.1 (idsV e.1 l)) l
 |some (.miter (some i) _ _ _),l=>addId i l
 |_,l=>l
noncomputable def reachN(m:Mem)(n:Nat):List Nat→Nat→List Nat:=
 Nat.rec (motive:=fun _=>List Nat→Nat→List Nat) (fun l _=>l) (fun _ ih l i=>match nth l i with
  |some id=>ih (idsB (m.get id) l) (i+1)
  |none=>l) n
noncomputable def turnedL(mF mF':Mem)(ids:List Nat):List Nat:=ids.filter fun id=>match mF.get id with
 |some B=>!sameBox (mF'.get id) (some B)
 |none=>false
def isV(v:SV):Tree SV→Bool
 |.leaf u=>sameSV u v
 |_=>false
noncomputable def softB(acc:List AccR)(a:AccR)(mN:Mem):Bool:=match a.r.wt with
 |_::_=>false
 |[] =>match a.r.g with
  |true=>false
  |false=>match pureOp a.o||(shapeOp a.o||isLoad a.o)with
   |true=>match acc.all fun b=>Nat.ble b.r.i a.r.i||!meet b.r.wt a.r.rd with
    |true=>isV a.v (mN.only a.r.rd ⟨mN.next,.e⟩ fun mF=>execOp E (fun _ _ _ _ _=>.fail 0) (evalIn a.fr) a.o .auto mF fun v _ _=>.leaf v)
    |false=>false
   |false=>false
noncomputable def okAcc(all:List Oper)(o:Oper)(acc:List AccR)(s:Rec)(mN:Mem):Bool:=acc.all fun a=>!a.r.conf s||(boundTo all 3 o a.r.i||softB E acc a mN)
noncomputable def finT(refs:List (Nat×Nat))(all:List Oper)(o:Oper)(acc:List AccR)(ih:OpsT α)(v:SV)(p:Plan)(fr:Fr)(mN:Mem)(s:Rec):Tree α:=
 match okRefs all refs o s.i v s.wt (s.wt.map mN.get)&&okAcc E all o acc s mN with
 |true=>putK fr o.dst v fun fr1=>ih (⟨s,fr,o.op,v⟩::acc) p fr1 mN
 |false=>.fail 165
noncomputable def valK(o:Oper):Bool:=match o.op with
 |.convert _ d _=>match E.row d with
  |some r=>match r.desc with
   |.slice _=>false
   |_=>true
  |none=>false
 |.slice .. =>true
 |.call {callee:=.builtin b, ..}=>match b with
  |.max=>true
  |.min=>true
  |_=>false
 |.call {callee:=.value _, ..}=>match E.row o.type with
  |some r=>match r.desc with
   |.int _=>true
   |.bool=>true
   |.string=>true
   |_=>false
  |none=>false
 |.makeInterface .. =>true
 |.typeAssert .. =>true
 |_=>false
noncomputable def isSl(ev:Operand→SV):Op→Bool
 |.slice t x _ _ _=>match E.row t with
  |some {desc:=.slice e, ..}=>match E.row e with
   |some _=>match ev x with
    |.vsl _ _ _ _ _ _=>true
    |.nilS=>true
    |_=>false
   |none=>false
  |_=>false
 |_=>false
noncomputable def isIn(m:Mem)(l:List Nat):Bool:=List.rec (motive:=fun _=>Bool) true (fun k _ ih=>match m.get k with
 |some _=>ih
 |none=>false) l
noncomputable def lightF(n:Nat)(mF mF':Mem)(F:List Nat):Bool:=List.rec (motive:=fun _=>Bool) true (fun id _ ih=>match Nat.blt id n with
 |true=>match belowN n (idsB (mF.get id) [])with
  |true=>match isIn mF (idsB (mF'.get id) [])with
   |true=>ih
   |false=>false
  |false=>false
 |false=>false) F
noncomputable def lightB(n:Nat)(mF mF':Mem)(F:List Nat)(v:SV)(args:List Nat):Bool:=match isIn mF (idsV v [])with
 |true=>match belowN n args with
  |true=>lightF n mF mF' F
  |false=>false
 |false=>false
noncomputable def runH(call:CallK α)(refs:List (Nat×Nat))(all:List Oper)(i:Nat)(o:Oper)(ih:OpsT α)(acc:List AccR)(p:Plan)(fr:Fr)(m:Mem):Tree α:=
 match reachN m 100000 (footOf (evalIn fr) o.op) 0 with
 |F=>m.only F ⟨m.next,.e⟩ fun mF=>execOp E call (evalIn fr) o.op p mF fun v p mF'=>match Nat.ble mF.next mF'.next with
  |true=>match lightB m.next mF mF' F v (idsL (o.op.operands.toList.map (evalIn fr)) [])with
   |true=>match turnedL mF mF' F with
    |W=>Mem.patch mF' W m fun mN=>finT E refs all o acc ih v p fr mN ⟨i,F,W,false⟩
   |false=>match turnedL mF mF' F++List.range' m.next (mF'.next-m.next)with
    |W=>Mem.patch mF' W ⟨mF'.next,m.tb⟩ fun mN=>finT E refs all o acc ih v p fr mN ⟨i,F,W,true⟩
  |false=>.fail 195
noncomputable def runT(call callQ callG:CallK α)(refs:List (Nat×Nat))(all:List Oper)(i:Nat)(o:Oper)(ih:OpsT α)(acc:List AccR)(p:Plan)(fr:Fr)(m:Mem):Tree α:=
 match isAlloc o.op with
 |true=>match o.op with
  |.alloc t=>match idOf refs i with
   |some k=>match(match o.guard with|none=>E.row t|some _=>none)with
    |some r=>frcL r.zero fun z=>m.set k (some (.cells z)) fun mN=>finT E refs all o acc ih (.ptr k 0) p fr mN ⟨i,[],[k],false⟩
    |none=>.fail 166
   |none=>.fail 167
  |_=>.fail 168
 |false=>match pureOp o.op||(shapeOp o.op||isLoad o.op)with
  |true=>m.only (footR (evalIn fr) o.op) ⟨m.next,.e⟩ fun mF=>execOp E callQ (evalIn fr) o.op p mF fun v p _=>finT E refs all o acc ih v p fr m ⟨i,footR (evalIn fr) o.op,[],false⟩
  |false=>match isStore o.op with
   |true=>m.only (footOf (evalIn fr) o.op) ⟨m.next,.e⟩ fun mF=>execOp E callQ (evalIn fr) o.op p mF fun v p mF'=>Mem.patch mF' (footOf (evalIn fr) o.op) m fun mN=>finT E refs all o acc ih v p fr mN ⟨i,[],footOf (evalIn fr) o.op,false⟩
   |false=>match E.hp with
     |true=>match isSl E (evalIn fr) o.op with
       |true=>execOp E callQ (evalIn fr) o.op p m fun v p _=>finT E refs all o acc ih v p fr m ⟨i,[],[],false⟩
       |false=>match valK E o&&dataL (o.op.operands.toList.map (evalIn fr))with
        |true=>execOp E call (evalIn fr) o.op p ⟨0,.e⟩ fun v p mc=>match(give (hintOf E o.op) mc v).data with
         |true=>frc (give (hintOf E o.op) mc v) fun v=>finT E refs all o acc ih v p fr m ⟨i,[],[],false⟩
         |false=>.fail 135
        |false=>runH E call refs all i o ih acc p fr m
     |false=>match isG E o.op with
       |true=>m.only (footOf (evalIn fr) o.op) ⟨m.next,.e⟩ fun mF=>execOp E callG (evalIn fr) o.op p mF fun v p mF'=>match footOf (evalIn fr) o.op++List.range' m.next (mF'.next-m.next)with
        |W=>Mem.patch mF' W ⟨mF'.next,m.tb⟩ fun mN=>finT E refs all o acc ih v p fr mN ⟨i,[],W,true⟩
       |false=>match dataL (o.op.operands.toList.map (evalIn fr))with
        |true=>execOp E call (evalIn fr) o.op p ⟨0,.e⟩ fun v p mc=>match(give (hintOf E o.op) mc v).data with
         |true=>frc (give (hintOf E o.op) mc v) fun v=>finT E refs all o acc ih v p fr m ⟨i,[],[],false⟩
         |false=>.fail 135
        |false=>.fail 136
noncomputable def oneOpT(call callQ callG:CallK α)(refs:List (Nat×Nat))(all:List Oper)(i:Nat)(o:Oper)(ih:OpsT α)(acc:List AccR)(p:Plan)(fr:Fr)(m:Mem):Tree α:=
 match o.guard with
 |none=>runT E call callQ callG refs all i o ih acc p fr m
 |some jw=>match nth all jw.1 with
  |some oj=>match oj.dst with
   |some d=>match fr.get d with
    |.bool b=>dec p b fun b p=>fr.set d (.bool b) fun fr=>match b==jw.2 with
     |true=>runT E call callQ callG refs all i o ih acc p fr m
     |false=>putK fr o.dst .undef fun fr1=>ih (⟨⟨i,[],[],false⟩,fr,o.op,.undef⟩::acc) p fr1 m
    |.undef=>putK fr o.dst .undef fun fr1=>ih (⟨⟨i,[],[],false⟩,fr,o.op,.undef⟩::acc) p fr1 m
    |_=>.fail 130
   |none=>.fail 131
  |none=>.fail 132
noncomputable def execOpsT(call callQ callG:CallK α)(refs:List (Nat×Nat))(all ops:List Oper)(k:OpsK α):Nat→OpsT α:=
 List.rec (motive:=fun _=>Nat→OpsT α) (fun _ _ p fr m=>k p fr m) (fun o _ ih i=>oneOpT E call callQ callG refs all i o (ih (i+1))) ops
noncomputable def isLst:Op→Bool
 |.call {callee:=.value f, ..}=>match f with
  |.func k=>E.lst k
  |_=>false
 |_=>false
noncomputable def lastB(all:List Oper):Bool:=
 all.zipIdx.all fun oi=>Nat.beq (oi.2+1) all.length||all.zipIdx.any fun oj=>Nat.blt oi.2 oj.2&&oj.1.after.toList.any fun e=>Region.binds .any e&&Nat.beq e.on oi.2
noncomputable def execOpsL(callQ call:CallK α)(all ops:List Oper)(k:OpsK α):OpsK α:=
 List.rec (motive:=fun _=>OpsK α) k (fun o rest ih=>match rest with
  |[] =>oneOp E (fun _=>true) call all o k
  |_::_=>oneOp E (quiet E) callQ all o ih) ops
noncomputable def isPn:Op→Bool
 |.call {callee:=.value f, ..}=>match f with
  |.func k=>(E.pn k).isSome
  |_=>false
 |_=>false
noncomputable def pnAt(l:List Oper):Nat→Option Nat:=
 List.rec (motive:=fun _=>Nat→Option Nat) (fun _=>none) (fun o _ ih i=>match isPn E o.op with
  |true=>some i
  |false=>ih (i+1)) l
noncomputable def waitsOf(c:Nat)(l:List Oper):Nat→List Nat→List Nat:=
 List.rec (motive:=fun _=>Nat→List Nat→List Nat) (fun _ acc=>acc) (fun o _ ih i acc=>match Nat.beq i c||o.after.toList.any (fun e=>Region.binds .any e&&hasN acc e.on)with
  |true=>ih (i+1) (i::acc)
  |false=>ih (i+1) acc) l
noncomputable def execPre(callQ:CallK α)(W:List Nat)(all ops:List Oper)(k:OpsK α):Nat→OpsK α:=
 List.rec (motive:=fun _=>Nat→OpsK α) (fun _=>k) (fun o _ ih i=>match hasN W i with
  |true=>ih (i+1)
  |false=>oneOp E (quiet E) callQ all o (ih (i+1))) ops
noncomputable def topK(ops:List Oper):Fr→(Fr→Tree α)→Tree α:=
 List.rec (motive:=fun _=>Fr→(Fr→Tree α)→Tree α) (fun fr k=>k fr) (fun o _ ih fr k=>match o.dst with
  |some d=>fr.set d .top fun fr=>ih fr k
  |none=>ih fr k) ops
noncomputable def pnTree(fr:Fr)(m:Mem):Op→Option (Tree Ex)
 |.call c=>match c.callee with
  |.value g=>match g with
   |.func f=>match E.pn f with
    |some s=>s (c.args.toList.map (evalIn fr)) m
    |none=>none
   |_=>none
  |_=>none
 |_=>none
inductive Out where
 |ret (p:Plan) (fr:Fr) (m:Mem)
 |stop (items:List Item) (fr:Fr) (m:Mem)
 |pan (v:SV) (fr:Fr) (m:Mem)
noncomputable def resOf(m:Mem)(fr:Fr)(r:ResultVar)(k:SV→Tree α):Tree α:=
 match r with
 |.tmp t=>frc (fr.get t) k
 |.cell a t=>opLoad E t (fr.get a) .auto m fun v _ _=>k v
noncomputable def resList(m:Mem)(fr:Fr)(rs:List ResultVar):(List SV→Tree α)→Tree α:=
 List.rec (motive:=fun _=>(List SV→Tree α)→Tree α) (fun k=>k []) (fun r _ ih k=>resOf E m fr r fun v=>ih fun vs=>k (v::vs)) rs
noncomputable def results(fn:Func)(m:Mem)(fr:Fr)(k:SV→Tree α):Tree α:=
 resList E m fr fn.results.toList fun vs=>match vs with
  |[v] =>k v
  |vs=>k (.tuple vs)
abbrev ExecK(α:Type):=List Item→Plan→Fr→Mem→(Out→Tree α)→Tree α
noncomputable def callR(ih:ExecK α):CallK α:=fun f args p m k=>match E.fn f with
 |some fn=>match fn.body with
  | some body => match fn.name == "runtime.NumGoroutine" with
    |false=>match dataL (args.map (argR m))with
     |true=>Fr.make fn.ntmps (args.map (argR m)) fun fr=>ih [.code body] p fr ⟨0,.e⟩ fun o=>match o with
      |.ret p fr mc=>results E fn mc fr fun v=>match noRef v with
       |true=>adopt v mc.flats m fun v m=>k v p m
       |false=>.fail 160
      |_=>.fail 142
     |false=>.fail 161
    |true=>.fail 143
  |none=>.fail 144
 |none=>.fail 145
noncomputable def callD(ih:ExecK α):CallK α:=fun f args p m k=>match E.fn f with
 |some fn=>match fn.body with
  | some body => match fn.name == "runtime.NumGoroutine" with
    |false=>match dataL args with
     |true=>Fr.make fn.ntmps args fun fr=>ih [.code body] p fr ⟨0,.e⟩ fun o=>match o with
      |.ret p fr mc=>results E fn mc fr fun v=>adopt v mc m fun v m=>k v p m
      |_=>.fail 142
     |false=>.fail 162
    |true=>.fail 143
  |none=>.fail 144
 |none=>.fail 145
noncomputable def callG(ih:ExecK α):CallK α:=fun f args p m k=>match E.sum f with
 |some _=>.fail 163
 |none=>match E.wr f with
  |some _=>.fail 164
  |none=>match E.bx f with
   |some s=>match args with
    |.ptr id off::rest=>match Nat.beq off 0 with
     |true=>match m.get id with
      |some B=>match s rest B with
       |some t=>bindB (fun v p B'=>m.set id (some B') fun m=>k v p m) t p
       |none=>.fail 178
      |none=>.fail 179
     |false=>.fail 179
    |_=>.fail 179
   |none=>match E.ow f with
    |some s=>match s args with
     |some t=>bindO m k t p
     |none=>.fail 188
    |none=>match E.rd f with
     |true=>callR E ih f args p m k
     |false=>callD E ih f args p m k
noncomputable def callIn(ih:ExecK α):CallK α:=fun f args p m k=>match E.sum f with
 |some s=>match s args with
  |some t=>bindT m k t p
  |none=>.fail 141
 |none=>match E.wr f with
  |some s=>match s args m with
   |some t=>bindM k t p
   |none=>.fail 155
  |none=>match E.ow f with
   |some s=>match s args with
    |some t=>bindO m k t p
    |none=>.fail 189
   |none=>match E.rd f with
    |true=>callR E ih f args p m k
    |false=>match E.fn f with
     |some fn=>match fn.body with
      | some body => match fn.name == "runtime.NumGoroutine" with
        |false=>match dataL args&& (!E.lst f&&!E.hp)with
         |true=>Fr.make fn.ntmps args fun fr=>ih [.code body] p fr ⟨0,.e⟩ fun o=>match o with
          |.ret p fr mc=>results E fn mc fr fun v=>adopt v mc m fun v m=>k v p m
          |_=>.fail 142
         |false=>Fr.make fn.ntmps args fun fr=>ih [.code body] p fr m fun o=>match o with
          |.ret p fr m=>results E fn m fr fun v=>k v p m
          |_=>.fail 142
        |true=>.fail 143
      |none=>.fail 144
     |none=>.fail 145
noncomputable def callQ(ih:ExecK α):CallK α:=fun f args p m k=>match E.sum f with
 |some s=>match s args with
  |some t=>bindT m k t p
  |none=>.fail 141
 |none=>match E.fn f with
  |some fn=>match fn.body with
   | some body => match fn.name == "runtime.NumGoroutine" with
     |false=>match dataL args with
      |true=>Fr.make fn.ntmps args fun fr=>ih [.code body] p fr ⟨0,.e⟩ fun o=>match o with
       |.ret p fr mc=>results E fn mc fr fun v=>match v.data with
        |true=>k v p m
        |false=>.fail 151
       |_=>.fail 142
      |false=>.fail 152
     |true=>.fail 143
   |none=>.fail 144
  |none=>.fail 145
noncomputable def tRun(ih:ExecK α)(ops:List Oper)(k:OpsK α)(p:Plan)(fr:Fr)(m:Mem):Tree α:=
 match refsOf ops 0 m.next with
 |refs=>execOpsT E (callIn E ih) (callQ E ih) (callG E ih) refs ops ops k 0 [] p fr ⟨m.next+refs.length,m.tb⟩
noncomputable def codeStep(ih:ExecK α)(c:Code)(k:List Item)(p:Plan)(fr:Fr)(m:Mem)(κ:Out→Tree α):Tree α:=
 match c with
 |.skip=>ih k p fr m κ
 |.label _=>ih k p fr m κ
 |.region id ops draw=>match E.cut id with
  |true=>κ (.stop (.code (.region id ops draw)::k) fr m)
  |false=>match draw with
   |false=>match p with
    |.allM=>execOpsM E (callIn E ih) (callQ E ih) ops.toList ops.toList (fun p fr m=>ih k p fr m κ) none .allM fr m
    |p=>execOpsP E (callIn E ih) (fun v fr m=>κ (.pan v fr m)) ops.toList ops.toList (fun p fr m=>ih k p fr m κ) p fr m
   |true=>match lexL ops.toList with
     |true=>match E.hp with
       |true=>tRun E ih ops.toList (fun p fr m=>ih k p fr m κ) p fr m
       |false=>match ops.toList.any (fun o=>isLst E o.op)with
        |true=>match lastB ops.toList with
         |true=>execOpsL E (callQ E ih) (callIn E ih) ops.toList ops.toList (fun p fr m=>ih k p fr m κ) p fr m
         |false=>.fail 173
        |false=>match pnAt E ops.toList 0 with
         |some c=>match nth ops.toList c with
          |some o=>match o.guard with
           |none=>match waitsOf c ops.toList 0 []with
            |W=>execPre E (callQ E ih) W ops.toList ops.toList (fun p fr1 _=>match pnTree E fr1 m o.op with
             |some t=>bindX (fun _ p _=>tRun E ih ops.toList (fun p fr m=>ih k p fr m κ) p fr m) (fun v m'=>topK ops.toList fr fun fr2=>κ (.pan v fr2 m')) t p
             |none=>.fail 175) 0 p fr m
           |some _=>.fail 174
          |none=>.fail 174
         |none=>match ops.toList.any (fun o=>hasW E o.op)with
          |true=>match chainB E ops.toList with
           |true=>execOpsF E (callIn E ih) ops.toList (fun p fr m=>ih k p fr m κ) p fr m
           |false=>.fail 133
          |false=>match wetB E ops.toList&&!ops.toList.any (fun o=>hasR E o.op)with
           |true=>match p with
            |.allM=>execOpsM E (callQ E ih) (callQ E ih) ops.toList ops.toList (fun p fr m=>ih k p fr m κ) none .allM fr m
            |p=>execOps E (fun o=>quiet E o||writer o) (callQ E ih) ops.toList ops.toList (fun p fr m=>ih k p fr m κ) p fr m
           |false=>tRun E ih ops.toList (fun p fr m=>ih k p fr m κ) p fr m
     |false=>.fail 146
 |.seq a b=>ih (.code a::.code b::k) p fr m κ
 |.cond c x y=>match evalIn fr c with
  |.bool b=>dec p b fun b p=>match b with
   |true=>ih (.code x::k) p fr m κ
   |false=>ih (.code y::k) p fr m κ
  |_=>.fail 147
 |.block id b=>ih (.code b::.inBlock id::k) p fr m κ
 |.scope b=>ih (.code b::.inScope b::k) p fr m κ
 |.loop b=>match p with
  |.go p=>ih (.code b::.inLoop b::k) p fr m κ
  |.auto=>ih (.code b::.inLoop b::k) .auto fr m κ
  |_=>κ (.stop (.code (.loop b)::k) fr m)
 |.exit id=>match exitTo id k with
  |some k=>ih k p fr m κ
  |none=>.fail 148
 |.ret=>κ (.ret p fr m)
 |_=>.fail 149
noncomputable def stepIn(ih:ExecK α):ExecK α:=fun items p fr m κ=>
 match items with
 |[] =>κ (.ret p fr m)
 |.inBlock _::k=>ih k p fr m κ
 |.inScope _::k=>ih k p fr m κ
 |.inLoop b::k=>match p with
  |.go p=>ih (.code b::.inLoop b::k) p fr m κ
  |.auto=>ih (.code b::.inLoop b::k) .auto fr m κ
  |_=>κ (.stop (.inLoop b::k) fr m)
 |.code c::k=>codeStep E ih c k p fr m κ
 |.inRegion ops l::k=>match l with
  |[] =>ih k p fr m κ
  |i::_=>match decide (l=List.range' i (ops.size-i))with
   |true=>execOpsP E (callIn E ih) (fun v fr m=>κ (.pan v fr m)) ops.toList (ops.toList.drop i) (fun p fr m=>ih k p fr m κ) p fr m
   |false=>.fail 186
 |_=>.fail 150
noncomputable def exec(n:Nat):ExecK α:=
 Nat.rec (motive:=fun _=>ExecK α) (fun _ _ _ _ _=>.fail 140) (fun _ ih=>stepIn E ih) n
noncomputable def execFn(n:Nat)(f:FuncId)(args:List SV)(p:Plan):Tree (SV×Mem):=
 match E.fn f with
 |some fn=>match fn.body with
  | some body => match fn.name == "runtime.NumGoroutine" with
    |false=>Fr.make fn.ntmps args fun fr=>exec E n [.code body] p fr ⟨0,.e⟩ fun o=>match o with
     |.ret _ fr m=>results E fn m fr fun v=>.leaf (v,m)
     |_=>.fail 142
    |true=>.fail 143
  |none=>.fail 144
 |none=>.fail 145
end
def tyOf.rep(u:Ty):Nat→Ty
 |0=>.unit
 |1=>u
 |n+1=>.pair u (tyOf.rep u n)
def tyOf.goF(ty:TypeId→Option Ty):List Field→Option Ty
 |[] =>some .unit
 |[f] =>ty f.type
 |f::fs=>match ty f.type,tyOf.goF ty fs with
  |some a,some b=>some (.pair a b)
  |_,_=>none
def tyOf.one:Option Ty→Option Ty
 |some (.int k)=>some (.pair (.int k) .unit)
 |u=>u
def tyOf(P:Program):Nat→TypeId→Option Ty
 |0,_=>none
 |d+1,t=>match P.underlying t with
  |some .bool=>some .bool
  |some (.int k)=>some (.int k)
  |some .string=>some .str
  |some (.slice e)=>match tyOf P d e with
   |some u=>some (.list u)
   |none=>none
  |some (.struct fs)=>tyOf.one (tyOf.goF (tyOf P d) fs.toList)
  |some (.array n e)=>match tyOf P d e with
   |some u=>tyOf.one (some (tyOf.rep u n))
   |none=>none
  |_=>none
def dfltChk:Ty→List Value→Option (List Value)
 |.unit,vs=>some vs
 |.int k,vs=>match vs with
  |.int k' 0::vs=>if k=k' then some vs else none
  |_=>none
 |.bool,vs=>match vs with
  |.bool false::vs=>some vs
  |_=>none
 |.str,vs=>match vs with
  |.string ⟨⟨[]⟩⟩::vs=>some vs
  |_=>none
 |.list _,vs=>match vs with
  |.slice none 0 0::vs=>some vs
  |_=>none
 |.pair a b,vs=>match dfltChk a vs with
  |some vs=>dfltChk b vs
  |none=>none
def tyIf(u:Option Ty)(vs:List Value):Option Ty:=
 match u with
 |some u=>match dfltChk u vs with
  |some [] =>some u
  |_=>none
 |none=>none
def rowOf(P:Program)(t:TypeId):Option Row:=
 match P.underlying t,P.info? t with
 |some d,some i=>match i.zero with
  |some z=>some {desc:=d,size:=i.size,bytes:=i.bytes,zero:=z.cells.toList.map ofLeaf,ty:=tyIf (tyOf P 20 t) z.cells.toList,eqg:=P.eqGuardType P.depth t,held:=P.stoodInHeld t}
  |none=>none
 |_,_=>none
noncomputable def Env.of(P:Program)(sum:FuncId→Option (List SV→Option (Tree SV))):Env:=
 {row:=rowOf P,fn:=fun f=>P.funcs[f]?,sum:=sum,wr:=fun _=>none,rd:=fun _=>false,pn:=fun _=>none,cut:=fun _=>false}
noncomputable def Env.ofB(P:Program)(sum:FuncId→Option (List SV→Option (Tree SV)))(wr:FuncId→Option (List SV→Mem→Option (Tree (SV×Mem))))(pn:FuncId→Option (List SV→Mem→Option (Tree Ex)))(bx:FuncId→Option (List SV→Box→Option (Tree (Bool×SV×Box))))(typed:TypeId→Bool)(lst:FuncId→Bool)(rd:FuncId→Bool)(cut:Nat→Bool):Env:=
 {row:=rowOf P,fn:=fun f=>P.funcs[f]?,sum:=sum,wr:=wr,rd:=rd,pn:=pn,cut:=cut,typed:=typed,lst:=lst,bx:=bx,zv:=fun t=>(P.info? t).bind fun i=>i.zero}
open Go.RowKit
def Gnd(_:World):Prop:=True
def El8(_:TypeId):Prop:=True
class ElOK (P:Program):Prop where
 ok:∀e,P.underlying e=some (.int .u8)→P.cellsOf e=1→El8 e
instance (P:Program):ElOK P:=⟨fun _ _ _=>trivial⟩
theorem Gnd.mono{w w':World}(_:Gnd w)(_:Below w.heap.size w w'):Gnd w':=trivial
theorem tyOf_one{u:Option Ty}{k:IntKind}(h:tyOf.one u=some (.int k)):False:=by
 unfold tyOf.one at h
 split at h
 ·cases h
 ·rename_i h1
  exact h1 k h
theorem tyOf_u8{P:Program}{k:IntKind}:∀{d:Nat} {t:TypeId},tyOf P d t=some (.int k)→P.underlying t=some (.int k)
 |0,t,h=>by cases h
 |d+1,t,h=>by
  unfold tyOf at h
  split at h
  all_goals first
   |(cases h;done)
   |(injection h with h;injection h with h;subst h;assumption)
   |exact(tyOf_one h).elim
   |(split at h<;>first|(cases h;done)|exact(tyOf_one h).elim)
theorem tyIf_eq{u:Option Ty}{vs:List Value}{t:Ty}(h:tyIf u vs=some t):u=some t:=by
 unfold tyIf at h
 split at h
 ·split at h
  ·exact h
  ·cases h
 ·cases h
theorem rowOf_cells{P:Program}{t:TypeId}{r:Row}(h:rowOf P t=some r)(h1:r.size=1):P.cellsOf t=1:=by
 unfold rowOf at h
 split at h
 ·rename_i d i hd hi
  split at h
  ·injection h with h
   subst h
   unfold Program.cellsOf
   rw[hi]
   exact h1
  ·cases h
 ·cases h
theorem rowOf_u8{P:Program}[ElOK P]{t:TypeId}{r:Row}(h:rowOf P t=some r)(hk:r.ty=some (.int .u8)∨r.desc=.int .u8)(h1:r.size=1):El8 t:=by
 refine ElOK.ok (P:=P) t ?_ (rowOf_cells h h1)
 unfold rowOf at h
 split at h
 ·rename_i d i hd hi
  split at h
  ·injection h with h
   subst h
   rcases hk with hk|hk
   ·exact tyOf_u8 (tyIf_eq hk)
   ·exact hd.trans (congrArg some hk)
  ·cases h
 ·cases h
open Go.RowKit
abbrev Rho:=Nat→Nat×Nat×Nat
def RepD(R:Nat→Prop)(w:World):(t:Ty)→t.T→List Value→Prop
 |.unit,_,vs=>vs=[]
 |.int k,n,vs=>vs=[.int k n]
 |.bool,b,vs=>vs=[.bool b]
 |.str,s,vs=>vs=[.string ⟨⟨s⟩⟩]
 |.list t,l,vs=>∃ (a:Option Addr) (cap:Nat),vs=[.slice a (List.length l) cap] ∧List.length l≤cap∧
   (0<List.length l→∃b o,a=some ⟨b,o,none⟩∧R b∧∀i (h:i<List.length l),∃cs:List Value,cs.length=t.sz∧
     (∀j,j<t.sz→w.cell? ⟨b,o+(i*t.sz+j),none⟩=cs[j]?)∧RepD R w t (List.get l ⟨i,h⟩) cs)
 |.pair a b,x,vs=>∃v1 v2,vs=v1++v2∧RepD R w a x.1 v1∧RepD R w b x.2 v2
def ElemsAt(R:Nat→Prop)(w:World)(t:Ty)(b o:Nat)(l:List t.T):Prop:=
 R b∧∀i (h:i<l.length),∃cs:List Value,cs.length=t.sz∧(∀j,j<t.sz→w.cell? ⟨b,o+(i*t.sz+j),none⟩=cs[j]?)∧RepD R w t l[i] cs
mutual
def Rep(R:Nat→Prop)(ρ:Rho)(n:Nat)(w:World):SV→Value→Prop
 |.undef,v=>v=Go.undef
 |.top,_=>True
 |.int k i,v=>v=.int k i
 |.bool b,v=>v=.bool b
 |.str s,v=>v=.string ⟨⟨s⟩⟩
 |.nilS,v=>v=.slice none 0 0
 |.list t l,v=>RepD R w (.list t) l [v]
 |.row id,v=>id<n∧∃a,v=.slice a (ρ id).2.1 (ρ id).2.2∧(0< (ρ id).2.2→a=some ⟨(ρ id).1,0,none⟩)
 |.arr id off k,v=>id<n∧v=.slice (some ⟨(ρ id).1,off,none⟩) k k
 |.ptr id off,v=>id<n∧v=.pointer (some ⟨(ρ id).1,off,none⟩)
 |.nilP,v=>v=.pointer none
 |.eptr t l i off,v=>∃b o,v=.pointer (some ⟨b,o+(i*t.sz+off),none⟩)∧i<l.length∧ElemsAt R w t b o l
 |.rptr id sz i off,v=>id<n∧v=.pointer (some ⟨(ρ id).1,i*sz+off,none⟩)
 |.agg cs,v=>∃vs:List Value,v=.agg ⟨vs⟩∧RepL R ρ n w cs vs
 |.tuple cs,v=>∃vs:List Value,v=.tuple ⟨vs⟩∧RepL R ρ n w cs vs
 |.fn f first cap,v=>∃vs us:List Value,v=.func (.func f) ⟨vs⟩ ⟨us⟩∧RepL R ρ n w first vs∧RepL R ρ n w cap us
 |.raw u,v=>v=u
 |.vsl id off k lb z ex,v=>id<n∧∃ (a:Addr) (cap:Nat),v=.slice (some a) k cap∧k≤lb∧lb≤cap∧(ex=true→cap=lb)∧(0<cap→a=⟨(ρ id).1,(ρ id).2.1+off,none⟩)∧off+cap*z≤(ρ id).2.2
 |.vptr id off,v=>id<n∧v=.pointer (some ⟨(ρ id).1,(ρ id).2.1+off,none⟩)
 |.mp id,v=>id<n∧v=.map (some (ρ id).1)
def RepL(R:Nat→Prop)(ρ:Rho)(n:Nat)(w:World):List SV→List Value→Prop
 |[],vs=>vs=[]
 |c::cs,vs=>∃u us,vs=u::us∧Rep R ρ n w c u∧RepL R ρ n w cs us
end
def RepM(R:Nat→Prop)(ρ:Rho)(n:Nat)(w:World):List (SV×SV×Nat)→List MapEntry→Prop
 |[],es=>es=[]
 |x::xs,es=>∃e es',es=e::es'∧Rep R ρ n w x.1 e.key∧Rep R ρ n w x.2.1 e.val∧e.born=x.2.2∧RepM R ρ n w xs es'
structure Ext (R:Nat→Prop) (ρ:Rho) (n:Nat) (w:World) (R':Nat→Prop) (ρ':Rho) (n':Nat) (w':World):Prop where
 le:n≤n'
 same:∀id,id<n→ρ' id=ρ id
 keep:∀b,R b→R' b∧w'.heap[b]? =w.heap[b]?
theorem Ext.refl(R:Nat→Prop)(ρ:Rho)(n:Nat)(w:World):Ext R ρ n w R ρ n w:=⟨Nat.le_refl _,fun _ _=>rfl,fun _ h=>⟨h,rfl⟩⟩
theorem Ext.trans{R R' R'':Nat→Prop}{ρ ρ' ρ'':Rho}{n n' n'':Nat}{w w' w'':World}(h:Ext R ρ n w R' ρ' n' w')(k:Ext R' ρ' n' w' R'' ρ'' n'' w''):Ext R ρ n w R'' ρ'' n'' w'':=
 ⟨Nat.le_trans h.le k.le,fun id hid=>(k.same id (Nat.lt_of_lt_of_le hid h.le)).trans (h.same id hid),fun b hb=>let ⟨h1,h2⟩:=h.keep b hb;let ⟨k1,k2⟩:=k.keep b h1;⟨k1,k2.trans h2⟩⟩
theorem cell_of_heap{w w':World}{a:Addr}(h:w'.heap[a.block]? =w.heap[a.block]?):w'.cell? a=w.cell? a:=by
 simp only[World.cell?,h]
theorem RepD.mono{R R':Nat→Prop}{w w':World}(hk:∀b,R b→R' b∧w'.heap[b]? =w.heap[b]?):∀ (t:Ty) (x:t.T) (vs:List Value),RepD R w t x vs→RepD R' w' t x vs
 |.unit,_,_,h=>h
 |.int _,_,_,h=>h
 |.bool,_,_,h=>h
 |.str,_,_,h=>h
 |.list t,l,vs,h=>by
  obtain⟨a,cap,hvs,hc,hi⟩:=h
  refine⟨a,cap,hvs,hc,fun hp=>?_⟩
  obtain⟨b,o,ha,hR,he⟩:=hi hp
  refine⟨b,o,ha,(hk b hR).1,fun i h=>?_⟩
  obtain⟨cs,h1,h2,h3⟩:=he i h
  exact⟨cs,h1,fun j hj=>(cell_of_heap (a:=⟨b,_,none⟩) (hk b hR).2).trans (h2 j hj),RepD.mono hk t _ _ h3⟩
 |.pair a b,x,vs,h=>by
  obtain⟨v1,v2,hv,h1,h2⟩:=h
  exact⟨v1,v2,hv,RepD.mono hk a _ _ h1,RepD.mono hk b _ _ h2⟩
theorem ElemsAt.mono{R R':Nat→Prop}{w w':World}(hk:∀b,R b→R' b∧w'.heap[b]? =w.heap[b]?){t:Ty}{b o:Nat}{l:List t.T}(h:ElemsAt R w t b o l):ElemsAt R' w' t b o l:=
 ⟨(hk b h.1).1,fun i hi=>by
   obtain⟨cs,h1,h2,h3⟩:=h.2 i hi
   exact⟨cs,h1,fun j hj=>(cell_of_heap (a:=⟨b,_,none⟩) (hk b h.1).2).trans (h2 j hj),RepD.mono hk t _ _ h3⟩⟩
mutual
theorem Rep.mono{R R':Nat→Prop}{ρ ρ':Rho}{n n':Nat}{w w':World}(e:Ext R ρ n w R' ρ' n' w'):∀ (x:SV) (v:Value),Rep R ρ n w x v→Rep R' ρ' n' w' x v
 |.undef,_,h=>h
 |.top,_,_=>trivial
 |.int _ _,_,h=>h
 |.bool _,_,h=>h
 |.str _,_,h=>h
 |.nilS,_,h=>h
 |.list t l,v,h=>RepD.mono e.keep (.list t) l [v] h
 |.row id,_,h=>⟨Nat.lt_of_lt_of_le h.1 e.le,by rw[e.same id h.1];exact h.2⟩
 |.arr id _ _,_,h=>⟨Nat.lt_of_lt_of_le h.1 e.le,by rw[e.same id h.1];exact h.2⟩
 |.ptr id _,_,h=>⟨Nat.lt_of_lt_of_le h.1 e.le,by rw[e.same id h.1];exact h.2⟩
 |.nilP,_,h=>h
 |.eptr t l i off,v,h=>by
  obtain⟨b,o,h1,h2,h3⟩:=h
  exact⟨b,o,h1,h2,h3.mono e.keep⟩
 |.rptr id _ _ _,_,h=>⟨Nat.lt_of_lt_of_le h.1 e.le,by rw[e.same id h.1];exact h.2⟩
 |.agg cs,v,h=>by
  obtain⟨vs,h1,h2⟩:=h
  exact⟨vs,h1,RepL.mono e cs vs h2⟩
 |.tuple cs,v,h=>by
  obtain⟨vs,h1,h2⟩:=h
  exact⟨vs,h1,RepL.mono e cs vs h2⟩
 |.fn f first cap,v,h=>by
  obtain⟨vs,us,h1,h2,h3⟩:=h
  exact⟨vs,us,h1,RepL.mono e first vs h2,RepL.mono e cap us h3⟩
 |.raw _,_,h=>h
 |.vsl id _ _ _ _ _,_,h=>⟨Nat.lt_of_lt_of_le h.1 e.le,by rw[e.same id h.1];exact h.2⟩
 |.vptr id _,_,h=>⟨Nat.lt_of_lt_of_le h.1 e.le,by rw[e.same id h.1];exact h.2⟩
 |.mp id,_,h=>⟨Nat.lt_of_lt_of_le h.1 e.le,by rw[e.same id h.1];exact h.2⟩
theorem RepL.mono{R R':Nat→Prop}{ρ ρ':Rho}{n n':Nat}{w w':World}(e:Ext R ρ n w R' ρ' n' w'):∀ (xs:List SV) (vs:List Value),RepL R ρ n w xs vs→RepL R' ρ' n' w' xs vs
 |[],_,h=>h
 |x::xs,vs,h=>by
  obtain⟨u,us,h1,h2,h3⟩:=h
  exact⟨u,us,h1,Rep.mono e x u h2,RepL.mono e xs us h3⟩
end
theorem RepM.mono{R R':Nat→Prop}{ρ ρ':Rho}{n n':Nat}{w w':World}(e:Ext R ρ n w R' ρ' n' w'):∀ (xs:List (SV×SV×Nat)) (es:List MapEntry),RepM R ρ n w xs es→RepM R' ρ' n' w' xs es
 |[],_,h=>h
 |x::xs,_,h=>by
  obtain⟨u,us,h1,h2,h3,h4,h5⟩:=h
  exact⟨u,us,h1,Rep.mono e _ _ h2,Rep.mono e _ _ h3,h4,RepM.mono e xs us h5⟩
def unfrozen(arr:Array Value)(fr:Nat×Nat):Prop:=∀i,i<arr.size→¬(fr.1≤i∧i<fr.2)
def unfrozenT(t:Ty)(e:TypeId)(arr:Array Value)(fr:Nat×Nat):Prop:=unfrozen arr fr∧(t=.int .u8→El8 e)
def BoxRel(R:Nat→Prop)(ρ:Rho)(n:Nat)(w:World)(r:Nat×Nat×Nat):Box→Prop
 |.cells cs=>∃arr e fr,w.heap[r.1]? =some (.cells arr e fr)∧unfrozen arr fr∧RepL R ρ n w cs arr.toList
 |.rows t l=>l.length=r.2.1∧l.length≤r.2.2∧(0<r.2.2→∃arr e fr,w.heap[r.1]? =some (.cells arr e fr)∧unfrozenT t e arr fr∧arr.size=r.2.2*t.sz∧
   ∀i (h:i<l.length),∃cs:List Value,cs.length=t.sz∧(∀j,j<t.sz→arr[i*t.sz+j]? =cs[j]?)∧RepD R w t l[i] cs)
 |.iter s pos=>w.heap[r.1]? =some (.stringIter ⟨⟨s⟩⟩ pos)
 |.obj t cs=>∃arr,w.heap[r.1]? =some (.cells arr t (0,0))∧RepL R ρ n w cs arr.toList
 |.vec cs=>∃arr e fr,w.heap[r.1]? =some (.cells arr e fr)∧unfrozen arr fr∧arr.size=r.2.1+r.2.2∧cs.length≤r.2.2∧RepL R ρ n w cs ((arr.toList.drop r.2.1).take cs.length)
 |.map es c=>∃arr,w.heap[r.1]? =some (.map arr c)∧RepM R ρ n w es arr.toList
 |.miter om since seen last=>w.heap[r.1]? =some (.mapIter (om.map fun id=>(ρ id).1) since ⟨seen.reverse⟩ last)∧∀id,om=some id→id<n
def solid(r:Nat×Nat×Nat):Box→Prop
 |.rows _ _=>0<r.2.2
 |_=>True
structure RSet where
 p:Nat→Prop
 keep:Nat→Option Obj
instance:CoeFun RSet (fun _=>Nat→Prop):=⟨RSet.p⟩
abbrev RSet.all(w:World):RSet:=⟨fun b=>b<w.heap.size,fun b=>w.heap[b]?⟩
def RO(w0:World)(R0:RSet)(ρ:Rho)(w:World)(m:Mem)(b:Nat):Prop:=
 (R0 b∧b<w0.heap.size)∨(w0.heap.size≤b∧b<w.heap.size∧(∀id B,m.get id=some B→solid (ρ id) B→(ρ id).1≠b)∧¬R0 b)
structure BelowG (B:Nat) (w w':World):Prop extends Below B w w' where
 gr:Gnd w
theorem BelowG.trans{B:Nat}{a b c:World}(h:BelowG B a b)(k:Below B b c):BelowG B a c:=⟨h.toBelow.trans k,h.gr⟩
abbrev RS(w0:World)(R0:RSet)(ρ:Rho)(w:World)(m:Mem):RSet:=⟨RO w0 R0 ρ w m,fun b=>w.heap[b]?⟩
structure MRel (w0:World) (R0:RSet) (ρ:Rho) (w:World) (m:Mem):Prop where
 below:BelowG w0.heap.size w0 w
 lt:∀id B,m.get id=some B→id<m.next
 lo:∀id B,m.get id=some B→solid (ρ id) B→w0.heap.size≤(ρ id).1
 hi:∀id B,m.get id=some B→solid (ρ id) B→(ρ id).1<w.heap.size
 inj:∀id id' B B',m.get id=some B→m.get id'=some B'→solid (ρ id) B→solid (ρ id') B'→(ρ id).1=(ρ id').1→id=id'
 box:∀id B,m.get id=some B→BoxRel (RO w0 R0 ρ w m) ρ m.next w (ρ id) B
 hid:(∀b,R0 b→b<w.heap.size∧w.heap[b]? =R0.keep b)∧∀id B,m.get id=some B→solid (ρ id) B→¬R0 (ρ id).1
theorem MRel.gnd{w0:World}{R0:RSet}{ρ:Rho}{w:World}{m:Mem}(h:MRel w0 R0 ρ w m):Gnd w:=h.below.gr.mono h.below.toBelow
abbrev MExt(w0:World)(R0:RSet)(ρ:Rho)(w:World)(m:Mem)(ρ':Rho)(w':World)(m':Mem):Prop:=
 Ext (RO w0 R0 ρ w m) ρ m.next w (RO w0 R0 ρ' w' m') ρ' m'.next w'
theorem BoxRel.mono{R R':Nat→Prop}{ρ ρ':Rho}{n n':Nat}{w w':World}(e:Ext R ρ n w R' ρ' n' w'){r:Nat×Nat×Nat}(B:Box)(hh:solid r B→w'.heap[r.1]? =w.heap[r.1]?)(h:BoxRel R ρ n w r B):BoxRel R' ρ' n' w' r B:=by
 cases B with
 |cells cs=>
  obtain⟨arr,el,fr,h1,h2,h3⟩:=h
  exact⟨arr,el,fr,(hh trivial).trans h1,h2,RepL.mono e _ _ h3⟩
 |rows t l=>
  obtain⟨h0,h0',hp⟩:=h
  refine⟨h0,h0',fun hc=>?_⟩
  obtain⟨arr,el,fr,h1,h2,h3,h4⟩:=hp hc
  refine⟨arr,el,fr,(hh hc).trans h1,h2,h3,fun i hi=>?_⟩
  obtain⟨cs,k1,k2,k3⟩:=h4 i hi
  exact⟨cs,k1,k2,RepD.mono e.keep _ _ _ k3⟩
 |iter s pos=>exact(hh trivial).trans h
 |obj t cs=>
  obtain⟨arr,h1,h3⟩:=h
  exact⟨arr,(hh trivial).trans h1,RepL.mono e _ _ h3⟩
 |vec cs=>
  obtain⟨arr,el,fr,h1,h2,h3,h4,h5⟩:=h
  exact⟨arr,el,fr,(hh trivial).trans h1,h2,h3,h4,RepL.mono e _ _ h5⟩
 |map es c=>
  obtain⟨arr,h1,h2⟩:=h
  exact⟨arr,(hh trivial).trans h1,RepM.mono e _ _ h2⟩
 |miter om since seen last=>
  obtain⟨h1,h2⟩:=h
  refine⟨(hh trivial).trans ?_,fun id hid=>Nat.lt_of_lt_of_le (h2 id hid) e.le⟩
  rw[h1]
  cases om with
  |none=>rfl
  |some id=>simp only[Option.map_some,e.same id (h2 id rfl)]
section
variable {β:Type}
theorem Tb.get_e(i:Nat):(Tb.e:Tb β).get i=none:=rfl
theorem Tb.get_n_zero(l:Tb β)(v:Option β)(r:Tb β):(Tb.n l v r).get 0=v:=rfl
theorem Tb.get_n_succ(l:Tb β)(v:Option β)(r:Tb β)(j:Nat):(Tb.n l v r).get (j+1)=Tb.pick j l.get r.get:=rfl
theorem Tb.pick_even{γ:Type}{j:Nat}(h:j % 2=0)(a b:Nat→γ):Tb.pick j a b=a (j / 2):=by simp[Tb.pick,h]
theorem Tb.pick_odd{γ:Type}{j:Nat}(h:¬j % 2=0)(a b:Nat→γ):Tb.pick j a b=b (j / 2):=by
 have:Nat.beq (j % 2) 0=false:=by
  rw[←Bool.not_eq_true,Nat.beq_eq];exact h
 simp[Tb.pick,this]
def TbSet(t:Tb β)(i:Nat)(v:Option β)(t':Tb β):Prop:=∀k,t'.get k=if k=i then v else t.get k
theorem setT_e{α β:Type}(d j:Nat)(v:Option β)(k:Tb β→Tree α):setT (d+1) .e (j+1) v k=Tb.pick j (fun i=>setT d .e i v fun l=>k (.n l none .e)) (fun i=>setT d .e i v fun r=>k (.n .e none r)):=by
 unfold Tb.pick
 have key:∀b:Bool,(Bool.rec (motive:=fun _=>(Tb β→Nat→Option β→(Tb β→Tree α)→Tree α)→Nat→Option β→(Tb β→Tree α)→Tree α) (fun ih j v k=>ih .e (j / 2) v fun r=>k (.n .e none r)) (fun ih j v k=>ih .e (j / 2) v fun l=>k (.n l none .e)) b (setT d) j v k:Tree α) =
   match b with
   |true=>setT d .e (j / 2) v fun l=>k (.n l none .e)
   |false=>setT d .e (j / 2) v fun r=>k (.n .e none r):=fun b=>by cases b<;>rfl
 exact key _
theorem setT_n{α β:Type}(d j:Nat)(l r:Tb β)(u v:Option β)(k:Tb β→Tree α):setT (d+1) (.n l u r) (j+1) v k=Tb.pick j (fun i=>setT d l i v fun l=>k (.n l u r)) (fun i=>setT d r i v fun r=>k (.n l u r)):=by
 unfold Tb.pick
 have key:∀b:Bool,(Bool.rec (motive:=fun _=>Nat→Tb β→Option β→Tb β→(Tb β→Nat→Option β→(Tb β→Tree α)→Tree α)→Option β→(Tb β→Tree α)→Tree α) (fun j l u r ih v k=>ih r (j / 2) v fun r=>k (.n l u r)) (fun j l u r ih v k=>ih l (j / 2) v fun l=>k (.n l u r)) b j l u r (setT d) v k:Tree α) =
   match b with
   |true=>setT d l (j / 2) v fun l=>k (.n l u r)
   |false=>setT d r (j / 2) v fun r=>k (.n l u r):=fun b=>by cases b<;>rfl
 exact key _
theorem holds_setT{α:Type}{L:α→Prop}:∀ (d:Nat) (t:Tb β) (i:Nat) (v:Option β) (k:Tb β→Tree α),(setT d t i v k).holds L→∃t',TbSet t i v t'∧(k t').holds L
 |0,_,_,_,_,h=>h.elim
 |d+1,.e,0,v,k,h=>⟨_,fun j=>by cases j with
   |zero=>simp[Tb.get_n_zero]
   |succ j=>rw[Tb.get_n_succ];by_cases hj:j % 2=0<;>simp[Tb.pick_even,Tb.pick_odd,hj,Tb.get_e],h⟩
 |d+1,.n l u r,0,v,k,h=>⟨_,fun j=>by cases j with
   |zero=>simp[Tb.get_n_zero]
   |succ j=>simp[Tb.get_n_succ],h⟩
 |d+1,.e,i+1,v,k,h=>by
  rw[setT_e]at h
  by_cases hi:i % 2=0
  ·rw[Tb.pick_even hi]at h
   obtain⟨t',h1,h2⟩:=holds_setT d _ _ _ _ h
   refine⟨_,fun j=>?_,h2⟩
   cases j with
   |zero=>simp[Tb.get_n_zero,Tb.get_e]
   |succ j=>
    rw[Tb.get_n_succ]
    by_cases hj:j % 2=0
    ·rw[Tb.pick_even hj,h1 (j / 2),Tb.get_e,Tb.get_e]
     have:j / 2=i / 2↔j+1=i+1:=by omega
     simp[this]
    ·rw[Tb.pick_odd hj,Tb.get_e,Tb.get_e,if_neg (by omega)]
  ·rw[Tb.pick_odd hi]at h
   obtain⟨t',h1,h2⟩:=holds_setT d _ _ _ _ h
   refine⟨_,fun j=>?_,h2⟩
   cases j with
   |zero=>simp[Tb.get_n_zero,Tb.get_e]
   |succ j=>
    rw[Tb.get_n_succ]
    by_cases hj:j % 2=0
    ·rw[Tb.pick_even hj,Tb.get_e,Tb.get_e,if_neg (by omega)]
    ·rw[Tb.pick_odd hj,h1 (j / 2),Tb.get_e,Tb.get_e]
     have:j / 2=i / 2↔j+1=i+1:=by omega
     simp[this]
 |d+1,.n l u r,i+1,v,k,h=>by
  rw[setT_n]at h
  by_cases hi:i % 2=0
  ·rw[Tb.pick_even hi]at h
   obtain⟨t',h1,h2⟩:=holds_setT d _ _ _ _ h
   refine⟨_,fun j=>?_,h2⟩
   cases j with
   |zero=>simp[Tb.get_n_zero]
   |succ j=>
    rw[Tb.get_n_succ,Tb.get_n_succ]
    by_cases hj:j % 2=0
    ·rw[Tb.pick_even hj,Tb.pick_even hj,h1 (j / 2)]
     have:j / 2=i / 2↔j+1=i+1:=by omega
     simp[this]
    ·rw[Tb.pick_odd hj,Tb.pick_odd hj,if_neg (by omega)]
  ·rw[Tb.pick_odd hi]at h
   obtain⟨t',h1,h2⟩:=holds_setT d _ _ _ _ h
   refine⟨_,fun j=>?_,h2⟩
   cases j with
   |zero=>simp[Tb.get_n_zero]
   |succ j=>
    rw[Tb.get_n_succ,Tb.get_n_succ]
    by_cases hj:j % 2=0
    ·rw[Tb.pick_even hj,Tb.pick_even hj,if_neg (by omega)]
    ·rw[Tb.pick_odd hj,Tb.pick_odd hj,h1 (j / 2)]
     have:j / 2=i / 2↔j+1=i+1:=by omega
     simp[this]
end
section
variable {α:Type} {L:α→Prop}
theorem frc_eq(v:SV)(k:SV→Tree α):frc v k=k v:=by cases v<;>rfl
theorem frcN_eq(n:Nat)(k:Nat→Tree α):frcN n k=k n:=by cases n<;>rfl
theorem frcL_eq:∀ (l:List SV) (k:List SV→Tree α),frcL l k=k l
 |[],_=>rfl
 |x::xs,k=>by
  change frc x (fun x=>frcL xs fun xs=>k (x::xs))=_
  rw[frc_eq,frcL_eq xs]
theorem nth_eq{β:Type}:∀ (l:List β) (n:Nat),nth l n=l[n]?
 |[],n=>by simp[nth]
 |x::xs,0=>rfl
 |x::xs,n+1=>by
  change nth xs n=_
  rw[nth_eq xs n];simp
theorem dec_holds{p:Plan}{b:Bool}{k:Bool→Plan→Tree α}(h:(dec p b k).holds L):∃p',(k b p').holds L:=by
 cases p with
 |all=>cases b with
  |false=>exact⟨_,h.2 rfl⟩
  |true=>exact⟨_,h.1 rfl⟩
 |fork pt pf=>cases b with
  |false=>exact⟨_,h.2 rfl⟩
  |true=>exact⟨_,h.1 rfl⟩
 |auto=>cases b<;>exact⟨_,h⟩
 |lit p=>cases b<;>exact⟨_,h⟩
 |go p=>exact h.elim
 |stop=>exact h.elim
 |allM=>cases b with
  |false=>exact⟨_,h.2 rfl⟩
  |true=>exact⟨_,h.1 rfl⟩
def over(cs:List SV)(off:Nat)(vs:List SV):List SV:=cs.take off++vs++cs.drop (off+vs.length)
theorem overK_holds:∀ (cs:List SV) (off:Nat) (vs:List SV) (k:List SV→Tree α),(overK cs off vs k).holds L→(vs=[] ∧(k cs).holds L)∨(off+vs.length≤cs.length∧(k (over cs off vs)).holds L)
 |[],off,[],k,h=>.inl ⟨rfl,h⟩
 |[],off,_::_,k,h=>h.elim
 |c::cs,off,[],k,h=>.inl ⟨rfl,h⟩
 |c::cs,0,v::vs,k,h=>by
  change (frc v fun v=>overK cs 0 vs fun ys=>k (v::ys)).holds L at h
  rw[frc_eq]at h
  rcases overK_holds cs 0 vs _ h with⟨rfl,h1⟩|⟨h1,h2⟩
  ·exact .inr ⟨by simp,by simpa[over]using h1⟩
  ·exact .inr ⟨by simp at h1 ⊢;omega,by simpa[over,Nat.add_comm]using h2⟩
 |c::cs,off+1,v::vs,k,h=>by
  change (overK cs off (v::vs) fun ys=>k (c::ys)).holds L at h
  rcases overK_holds cs off (v::vs) _ h with⟨h0,_⟩|⟨h1,h2⟩
  ·cases h0
  ·refine .inr ⟨by simp at h1 ⊢;omega,?_⟩
   have e:over (c::cs) (off+1) (v::vs)=c::over cs off (v::vs):=by
    unfold over
    rw[show off+1+(v::vs).length=(off+(v::vs).length)+1 from by omega]
    simp only[List.take_succ_cons,List.drop_succ_cons,List.cons_append]
   rw[e];exact h2
theorem takeK_holds:∀ (cs:List SV) (off n:Nat) (k:List SV→Tree α),(takeK cs off n k).holds L→(n=0∧(k []).holds L)∨(off+n≤cs.length∧(k ((cs.drop off).take n)).holds L)
 |[],off,0,k,h=>.inl ⟨rfl,h⟩
 |[],off,n+1,k,h=>h.elim
 |c::cs,off,0,k,h=>.inl ⟨rfl,h⟩
 |c::cs,0,n+1,k,h=>by
  change (frc c fun c=>takeK cs 0 n fun ys=>k (c::ys)).holds L at h
  rw[frc_eq]at h
  rcases takeK_holds cs 0 n _ h with⟨rfl,h1⟩|⟨h1,h2⟩
  ·exact .inr ⟨by simp,by simpa using h1⟩
  ·exact .inr ⟨by simp at h1 ⊢;omega,by simpa using h2⟩
 |c::cs,off+1,n+1,k,h=>by
  change (takeK cs off (n+1) k).holds L at h
  rcases takeK_holds cs off (n+1) _ h with⟨h0,_⟩|⟨h1,h2⟩
  ·cases h0
  ·exact .inr ⟨by simp at h1 ⊢;omega,by simpa using h2⟩
end
open Go.RowKit
theorem MRel.size_le{w0:World}{R0:RSet}{ρ:Rho}{w:World}{m:Mem}(h:MRel w0 R0 ρ w m):w0.heap.size≤w.heap.size:=h.below.size
theorem MRel.ro_lt{w0:World}{R0:RSet}{ρ:Rho}{w:World}{m:Mem}(h:MRel w0 R0 ρ w m){b:Nat}(hb:RO w0 R0 ρ w m b):b<w.heap.size:=by
 rcases hb with⟨_,h1⟩|⟨_,h1,_⟩
 ·have:=h.size_le;omega
 ·exact h1
theorem MRel.ro_ne{w0:World}{R0:RSet}{ρ:Rho}{w:World}{m:Mem}(h:MRel w0 R0 ρ w m){b id:Nat}{B:Box}(hb:RO w0 R0 ρ w m b)(hid:m.get id=some B)(hs:solid (ρ id) B):(ρ id).1≠b:=by
 rcases hb with⟨_,h1⟩|⟨_,_,h1,_⟩
 ·have:=h.lo id B hid hs;omega
 ·exact h1 id B hid hs
theorem MRel.sameHeap{w0:World}{R0:RSet}{ρ:Rho}{w w':World}{m:Mem}(h:MRel w0 R0 ρ w m)(hh:w'.heap=w.heap)(ho:w'.os=w.os)(ht:w'.tape=w.tape)(hp:w'.output=w.output):
  MRel w0 R0 ρ w' m∧MExt w0 R0 ρ w m ρ w' m:=by
 have hro:∀b,RO w0 R0 ρ w' m b↔RO w0 R0 ρ w m b:=fun b=>by simp only[RO,hh]
 have e:MExt w0 R0 ρ w m ρ w' m:=⟨Nat.le_refl _,fun _ _=>rfl,fun b hb=>⟨(hro b).2 hb,by rw[hh]⟩⟩
 refine⟨⟨⟨⟨by rw[ho,h.below.os],by rw[ht,h.below.tape],by rw[hp,h.below.output],by rw[hh];exact h.below.size,fun k hk=>by rw[hh];exact h.below.block k hk⟩,h.below.gr⟩,h.lt,h.lo,by rw[hh];exact h.hi,h.inj,fun id B hB=>?_,by rw[hh];exact h.hid⟩,e⟩
 exact BoxRel.mono e B (fun _=>by rw[hh]) (h.box id B hB)
theorem MRel.drew{w0:World}{R0:RSet}{ρ:Rho}{w:World}{m:Mem}(h:MRel w0 R0 ρ w m):MRel w0 R0 ρ w.drew m∧MExt w0 R0 ρ w m ρ w.drew m:=h.sameHeap rfl rfl rfl rfl
def upd(ρ:Rho)(id:Nat)(r:Nat×Nat×Nat):Rho:=fun k=>if k=id then r else ρ k
theorem upd_same(ρ:Rho)(id:Nat)(r:Nat×Nat×Nat):upd ρ id r id=r:=by simp[upd]
theorem upd_other(ρ:Rho){id k:Nat}(r:Nat×Nat×Nat)(h:k≠id):upd ρ id r k=ρ k:=by simp[upd,h]
def MSet(m:Mem)(id:Nat)(b:Option Box)(m':Mem):Prop:=(∀k,m'.get k=if k=id then b else m.get k)∧m'.next=m.next
def MPush(m:Mem)(B:Box)(m':Mem):Prop:=(∀k,m'.get k=if k=m.next then some B else m.get k)∧m'.next=m.next+1
def Up(m m2:Mem):Prop:=∀id B,m.get id=some B→m2.get id=some B
theorem Up.refl(m:Mem):Up m m:=fun _ _ h=>h
def Box.like:Box→Box→Prop
 |.cells a,.cells b=>a.length=b.length
 |.rows u l,.rows u' l'=>u=u'∧l.length=l'.length
 |.iter _ _,.iter _ _=>True
 |.obj t a,.obj u b=>t=u∧a.length=b.length
 |.vec a,.vec b=>a.length=b.length
 |.map a c,.map b d=>a=b∧c=d
 |.miter a b c d,.miter a' b' c' d'=>a=a'∧b=b'∧c=c'∧d=d'
 |_,_=>False
theorem Box.like_refl:∀B:Box,B.like B
 |.cells _=>rfl
 |.rows _ _=>⟨rfl,rfl⟩
 |.iter _ _=>trivial
 |.obj _ _=>⟨rfl,rfl⟩
 |.vec _=>rfl
 |.map _ _=>⟨rfl,rfl⟩
 |.miter _ _ _ _=>⟨rfl,rfl,rfl,rfl⟩
theorem Box.like_symm:∀{B C:Box},B.like C→C.like B
 |.cells _,.cells _,h=>Eq.symm h
 |.rows _ _,.rows _ _,h=>⟨h.1.symm,h.2.symm⟩
 |.iter _ _,.iter _ _,_=>trivial
 |.obj _ _,.obj _ _,h=>⟨h.1.symm,h.2.symm⟩
 |.vec _,.vec _,h=>Eq.symm h
 |.map _ _,.map _ _,h=>⟨h.1.symm,h.2.symm⟩
 |.miter _ _ _ _,.miter _ _ _ _,h=>⟨h.1.symm,h.2.1.symm,h.2.2.1.symm,h.2.2.2.symm⟩
theorem Box.like_trans:∀{B C D:Box},B.like C→C.like D→B.like D
 |.cells _,.cells _,.cells _,h,k=>Eq.trans h k
 |.rows _ _,.rows _ _,.rows _ _,h,k=>⟨h.1.trans k.1,h.2.trans k.2⟩
 |.iter _ _,.iter _ _,.iter _ _,_,_=>trivial
 |.obj _ _,.obj _ _,.obj _ _,h,k=>⟨h.1.trans k.1,h.2.trans k.2⟩
 |.vec _,.vec _,.vec _,h,k=>Eq.trans h k
 |.map _ _,.map _ _,.map _ _,h,k=>⟨h.1.trans k.1,h.2.trans k.2⟩
 |.miter _ _ _ _,.miter _ _ _ _,.miter _ _ _ _,h,k=>⟨h.1.trans k.1,h.2.1.trans k.2.1,h.2.2.1.trans k.2.2.1,h.2.2.2.trans k.2.2.2⟩
def Shape(m m2:Mem):Prop:=∀id B,m.get id=some B→∃B',m2.get id=some B'∧B.like B'
theorem Shape.refl(m:Mem):Shape m m:=fun _ B h=>⟨B,h,B.like_refl⟩
theorem Shape.trans{m m1 m2:Mem}(h:Shape m m1)(k:Shape m1 m2):Shape m m2:=fun id B hb=>by
 obtain⟨C,h1,h2⟩:=h id B hb
 obtain⟨D,k1,k2⟩:=k id C h1
 exact⟨D,k1,Box.like_trans h2 k2⟩
theorem Up.shape{m m2:Mem}(h:Up m m2):Shape m m2:=fun id B hb=>⟨B,h id B hb,B.like_refl⟩
theorem MSet.shape{m m':Mem}{id:Nat}{B C:Box}(hg:m.get id=some B)(h:MSet m id (some C) m')(hl:B.like C):Shape m m'∧Shape m' m:=by
 refine⟨fun k D hk=>?_,fun k D hk=>?_⟩
 ·rw[h.1 k]
  by_cases hki:k=id
  ·subst hki;rw[hg]at hk;injection hk with hk;subst hk;exact⟨C,by simp,hl⟩
  ·exact⟨D,by rw[if_neg hki];exact hk,D.like_refl⟩
 ·rw[h.1 k]at hk
  by_cases hki:k=id
  ·subst hki;simp at hk;subst hk;exact⟨B,hg,Box.like_symm hl⟩
  ·rw[if_neg hki]at hk;exact⟨D,hk,D.like_refl⟩
theorem MPush.up{m m':Mem}{B:Box}(h:MPush m B m')(hn:m.get m.next=none):Up m m':=fun k D hk=>by
 rw[h.1 k]
 by_cases hki:k=m.next
 ·subst hki;rw[hn]at hk;cases hk
 ·rw[if_neg hki];exact hk
theorem Mem.set_holds{α:Type}{L:α→Prop}{m:Mem}{id:Nat}{b:Option Box}{k:Mem→Tree α}(h:(m.set id b k).holds L):∃m',MSet m id b m'∧(k m').holds L:=by
 obtain⟨t',h1,h2⟩:=holds_setT _ _ _ _ _ h
 exact⟨⟨m.next,t'⟩,⟨h1,rfl⟩,h2⟩
theorem Mem.push_holds{α:Type}{L:α→Prop}{m:Mem}{B:Box}{k:Mem→Nat→Tree α}(h:(m.push B k).holds L):∃m',MPush m B m'∧(k m' m.next).holds L:=by
 unfold Mem.push at h
 rw[frcN_eq]at h
 obtain⟨t',h1,h2⟩:=holds_setT _ _ _ _ _ h
 exact⟨⟨m.next+1,t'⟩,⟨h1,rfl⟩,h2⟩
theorem MRel.fresh{w0:World}{R0:RSet}{ρ:Rho}{w:World}{m:Mem}(h:MRel w0 R0 ρ w m):m.get m.next=none:=by
 cases hg:m.get m.next with
 |none=>rfl
 |some B=>exact absurd (h.lt _ B hg) (Nat.lt_irrefl _)
theorem MRel.push{w0:World}{R0:RSet}{ρ:Rho}{w w':World}{m m':Mem}{B:Box}{r:Nat×Nat×Nat}(h:MRel w0 R0 ρ w m)(hm:MPush m B m')
  (hos:w'.os=w.os) (ht:w'.tape=w.tape) (hp:w'.output=w.output) (hsz:w.heap.size≤w'.heap.size) (hold:∀k,k<w.heap.size→w'.heap[k]? =w.heap[k]?)
  (hs:solid r B→w.heap.size≤r.1∧r.1<w'.heap.size)
  (hB:∀R n ρ',Ext (RO w0 R0 ρ w m) ρ m.next w R ρ' n w'→BoxRel R ρ' n w' r B):
  MRel w0 R0 (upd ρ m.next r) w' m'∧MExt w0 R0 ρ w m (upd ρ m.next r) w' m':=by
 have hle:=h.size_le
 have hg:∀k C,m'.get k=some C→(k=m.next∧C=B)∨(k≠m.next∧m.get k=some C):=fun k C hk=>by
  rw[hm.1 k]at hk
  by_cases e:k=m.next
  ·rw[if_pos e]at hk;exact .inl ⟨e,by injection hk with hk;exact hk.symm⟩
  ·rw[if_neg e]at hk;exact .inr ⟨e,hk⟩
 have e:MExt w0 R0 ρ w m (upd ρ m.next r) w' m':=by
  refine⟨by rw[hm.2];omega,fun id hid=>upd_other _ _ (by omega),fun b hb=>⟨?_,hold b (h.ro_lt hb)⟩⟩
  have hlt:=h.ro_lt hb
  rcases hb with hb|⟨h1,h2,h3,h4⟩
  ·exact .inl hb
  ·refine .inr ⟨h1,by omega,fun id C hid hsol=>?_,h4⟩
   rcases hg id C hid with⟨rfl,rfl⟩|⟨hne,hk⟩
   ·rw[upd_same]at hsol ⊢;have:=(hs hsol).1;omega
   ·rw[upd_other _ _ hne]at hsol ⊢;exact h3 id C hk hsol
 refine⟨⟨h.below.trans ⟨hos,ht,hp,hsz,fun k hk=>hold k (by omega)⟩,fun id C hid=>?_,fun id C hid hsol=>?_,fun id C hid hsol=>?_,fun id id' C C' hid hid' hs1 hs2 he=>?_,fun id C hid=>?_,fun b hb=>⟨Nat.lt_of_lt_of_le (h.hid.1 b hb).1 hsz,(hold b (h.hid.1 b hb).1).trans (h.hid.1 b hb).2⟩,fun id C hid hsol=>?_⟩,e⟩
 ·rw[hm.2]
  rcases hg id C hid with⟨rfl,_⟩|⟨_,hk⟩
  ·omega
  ·have:=h.lt id C hk;omega
 ·rcases hg id C hid with⟨rfl,rfl⟩|⟨hne,hk⟩
  ·rw[upd_same]at hsol ⊢;have:=(hs hsol).1;omega
  ·rw[upd_other _ _ hne]at hsol ⊢;exact h.lo id C hk hsol
 ·rcases hg id C hid with⟨rfl,rfl⟩|⟨hne,hk⟩
  ·rw[upd_same]at hsol ⊢;exact(hs hsol).2
  ·rw[upd_other _ _ hne]at hsol ⊢;have:=h.hi id C hk hsol;omega
 ·rcases hg id C hid with⟨rfl,rfl⟩|⟨hne,hk⟩<;>rcases hg id' C' hid' with⟨rfl,rfl⟩|⟨hne',hk'⟩
  ·rfl
  ·rw[upd_same]at hs1 he;rw[upd_other _ _ hne']at hs2 he
   have:=h.hi id' C' hk' hs2;have:=(hs hs1).1;omega
  ·rw[upd_same]at hs2 he;rw[upd_other _ _ hne]at hs1 he
   have:=h.hi id C hk hs1;have:=(hs hs2).1;omega
  ·rw[upd_other _ _ hne]at hs1 he;rw[upd_other _ _ hne']at hs2 he
   exact h.inj id id' C C' hk hk' hs1 hs2 he
 ·rcases hg id C hid with⟨rfl,rfl⟩|⟨hne,hk⟩
  ·rw[upd_same]
   exact hB _ _ _ e
  ·rw[upd_other _ _ hne]
   exact BoxRel.mono e C (fun hsol=>hold _ (h.hi id C hk hsol)) (h.box id C hk)
 ·rcases hg id C hid with⟨rfl,rfl⟩|⟨hne,hk⟩
  ·rw[upd_same]at hsol ⊢;exact fun hr=>by have:=(h.hid.1 _ hr).1;have:=(hs hsol).1;omega
  ·rw[upd_other _ _ hne]at hsol ⊢;exact h.hid.2 id C hk hsol
theorem MRel.alloc{w0:World}{R0:RSet}{ρ:Rho}{w:World}{m m':Mem}{B:Box}{o:Obj}(h:MRel w0 R0 ρ w m)(hm:MPush m B m')(len cap:Nat)
  (hB:∀R n ρ',Ext (RO w0 R0 ρ w m) ρ m.next w R ρ' n (w.alloc o)→BoxRel R ρ' n (w.alloc o) (w.heap.size,len,cap) B):
  MRel w0 R0 (upd ρ m.next (w.heap.size,len,cap)) (w.alloc o) m'∧MExt w0 R0 ρ w m (upd ρ m.next (w.heap.size,len,cap)) (w.alloc o) m':=
 h.push hm rfl rfl rfl (by simp) (fun k hk=>Below.heap_alloc w o k hk) (fun _=>⟨Nat.le_refl _,by simp⟩) hB
theorem MRel.setBox{w0:World}{R0:RSet}{ρ:Rho}{w w':World}{m m':Mem}{id:Nat}{B B':Box}(h:MRel w0 R0 ρ w m)(hid:m.get id=some B)(hsol:solid (ρ id) B)(hm:MSet m id (some B') m')
  (hos:w'.os=w.os) (ht:w'.tape=w.tape) (hp:w'.output=w.output) (hsz:w'.heap.size=w.heap.size) (hoth:∀k,k≠(ρ id).1→w'.heap[k]? =w.heap[k]?)
  (hB:∀R,Ext (RO w0 R0 ρ w m) ρ m.next w R ρ m.next w'→BoxRel R ρ m.next w' (ρ id) B'):
  MRel w0 R0 ρ w' m'∧MExt w0 R0 ρ w m ρ w' m':=by
 have hg:∀k C,m'.get k=some C→(k=id∧C=B')∨(k≠id∧m.get k=some C):=fun k C hk=>by
  rw[hm.1 k]at hk
  by_cases e:k=id
  ·rw[if_pos e]at hk;exact .inl ⟨e,by injection hk with hk;exact hk.symm⟩
  ·rw[if_neg e]at hk;exact .inr ⟨e,hk⟩
 have hro:∀b,RO w0 R0 ρ w m b→RO w0 R0 ρ w' m' b:=fun b hb=>by
  rcases hb with hb|⟨h1,h2,h3,h4⟩
  ·exact .inl hb
  ·refine .inr ⟨h1,by omega,fun k C hk hs=>?_,h4⟩
   rcases hg k C hk with⟨rfl,_⟩|⟨_,hk'⟩
   ·exact h3 k B hid hsol
   ·exact h3 k C hk' hs
 have e:MExt w0 R0 ρ w m ρ w' m':=⟨by rw[hm.2];exact Nat.le_refl _,fun _ _=>rfl,fun b hb=>⟨hro b hb,hoth b fun he=>h.ro_ne hb hid hsol he.symm⟩⟩
 have hlo:=h.lo id B hid hsol
 refine⟨⟨h.below.trans ⟨hos,ht,hp,by omega,fun k hk=>hoth k (by omega)⟩,fun k C hk=>?_,fun k C hk hs=>?_,fun k C hk hs=>?_,fun k k' C C' hk hk' hs hs' he=>?_,fun k C hk=>?_,fun b hb=>⟨by rw[hsz];exact(h.hid.1 b hb).1,(hoth b fun he=>h.hid.2 id B hid hsol (he▸hb)).trans (h.hid.1 b hb).2⟩,fun k C hk hs=>?_⟩,e⟩
 ·rw[hm.2]
  rcases hg k C hk with⟨rfl,_⟩|⟨_,hk'⟩
  ·exact h.lt k B hid
  ·exact h.lt k C hk'
 ·rcases hg k C hk with⟨rfl,_⟩|⟨_,hk'⟩
  ·exact hlo
  ·exact h.lo k C hk' hs
 ·rw[hsz]
  rcases hg k C hk with⟨rfl,_⟩|⟨_,hk'⟩
  ·exact h.hi k B hid hsol
  ·exact h.hi k C hk' hs
 ·have live:∀j D,m'.get j=some D→solid (ρ j) D→∃D',m.get j=some D'∧solid (ρ j) D':=fun j D hj hsj=>by
   rcases hg j D hj with⟨rfl,_⟩|⟨_,hj'⟩
   ·exact⟨B,hid,hsol⟩
   ·exact⟨D,hj',hsj⟩
  obtain⟨D,hD,hDs⟩:=live k C hk hs
  obtain⟨D',hD',hDs'⟩:=live k' C' hk' hs'
  exact h.inj k k' D D' hD hD' hDs hDs' he
 ·rcases hg k C hk with⟨rfl,rfl⟩|⟨hne,hk'⟩
  ·have:=hB (RO w0 R0 ρ w' m') ⟨Nat.le_refl _,e.same,e.keep⟩
   rw[hm.2];exact this
  ·exact BoxRel.mono e C (fun hs=>hoth _ fun he=>hne (h.inj k id C B hk' hid hs hsol he)) (h.box k C hk')
 ·rcases hg k C hk with⟨rfl,_⟩|⟨_,hk'⟩
  ·exact h.hid.2 k B hid hsol
  ·exact h.hid.2 k C hk' hs
theorem MRel.drop{w0:World}{R0:RSet}{ρ:Rho}{w:World}{m m':Mem}{id:Nat}(h:MRel w0 R0 ρ w m)(hm:MSet m id none m'):
  MRel w0 R0 ρ w m'∧MExt w0 R0 ρ w m ρ w m':=by
 have hg:∀k C,m'.get k=some C→k≠id∧m.get k=some C:=fun k C hk=>by
  rw[hm.1 k]at hk
  by_cases e:k=id
  ·rw[if_pos e]at hk;cases hk
  ·rw[if_neg e]at hk;exact⟨e,hk⟩
 have hro:∀b,RO w0 R0 ρ w m b→RO w0 R0 ρ w m' b:=fun b hb=>by
  rcases hb with hb|⟨h1,h2,h3,h4⟩
  ·exact .inl hb
  ·exact .inr ⟨h1,h2,fun k C hk=>h3 k C (hg k C hk).2,h4⟩
 have e:MExt w0 R0 ρ w m ρ w m':=⟨by rw[hm.2];exact Nat.le_refl _,fun _ _=>rfl,fun b hb=>⟨hro b hb,rfl⟩⟩
 exact⟨⟨h.below,fun k C hk=>by rw[hm.2];exact h.lt k C (hg k C hk).2,fun k C hk=>h.lo k C (hg k C hk).2,fun k C hk=>h.hi k C (hg k C hk).2,
  fun k k' C C' hk hk'=>h.inj k k' C C' (hg k C hk).2 (hg k' C' hk').2,fun k C hk=>BoxRel.mono e C (fun _=>rfl) (h.box k C (hg k C hk).2),h.hid.1,fun k C hk=>h.hid.2 k C (hg k C hk).2⟩,e⟩
section
variable {R:Nat→Prop} {ρ:Rho} {n:Nat} {w:World}
theorem RepL.length:∀{cs:List SV} {vs:List Value},RepL R ρ n w cs vs→vs.length=cs.length
 |[],_,h=>by rw[h];rfl
 |_::_,_,h=>by
  obtain⟨u,us,rfl,_,h2⟩:=h
  simp[RepL.length h2]
theorem RepL.get:∀{cs:List SV} {vs:List Value},RepL R ρ n w cs vs→∀{i:Nat} {c:SV},cs[i]? =some c→∃v,vs[i]? =some v∧Rep R ρ n w c v
 |[],_,_,i,c,hi=>by simp at hi
 |x::xs,_,h,0,c,hi=>by
  obtain⟨u,us,rfl,h1,_⟩:=h
  simp at hi;subst hi
  exact⟨u,by simp,h1⟩
 |x::xs,_,h,i+1,c,hi=>by
  obtain⟨u,us,rfl,_,h2⟩:=h
  simp at hi
  obtain⟨v,h3,h4⟩:=RepL.get h2 hi
  exact⟨v,by simpa using h3,h4⟩
theorem RepL.mk:∀{cs:List SV} {vs:List Value},vs.length=cs.length→(∀ (i:Nat) (c:SV) (v:Value),cs[i]? =some c→vs[i]? =some v→Rep R ρ n w c v)→RepL R ρ n w cs vs
 |[],vs,hl,_=>by simpa[RepL]using hl
 |c::cs,[],hl,_=>by simp at hl
 |c::cs,v::vs,hl,h=>⟨v,vs,rfl,h 0 c v (by simp) (by simp),RepL.mk (by simpa using hl) fun i c' v' h1 h2=>h (i+1) c' v' (by simpa using h1) (by simpa using h2)⟩
theorem RepL.append{as1 bs:List SV}{us vs:List Value}(h:RepL R ρ n w as1 us)(k:RepL R ρ n w bs vs):RepL R ρ n w (as1++bs) (us++vs):=by
 induction as1 generalizing us with
 |nil=>rw[show us=[]from h];exact k
 |cons a as1 ih=>
  obtain⟨u,us,rfl,h1,h2⟩:=h
  exact⟨u,us++vs,rfl,h1,ih h2⟩
theorem RepL.drop{cs:List SV}{vs:List Value}(h:RepL R ρ n w cs vs)(k:Nat):RepL R ρ n w (cs.drop k) (vs.drop k):=
 RepL.mk (by simp[h.length]) fun i c v h1 h2=>by
  rw[List.getElem?_drop]at h1 h2
  obtain⟨v',h3,h4⟩:=h.get h1
  rw[h3]at h2;injection h2 with h2;exact h2▸h4
theorem RepL.take{cs:List SV}{vs:List Value}(h:RepL R ρ n w cs vs)(k:Nat):RepL R ρ n w (cs.take k) (vs.take k):=
 RepL.mk (by simp[h.length]) fun i c v h1 h2=>by
  rw[List.getElem?_take]at h1 h2
  by_cases hi:i<k
  ·rw[if_pos hi]at h1 h2
   obtain⟨v',h3,h4⟩:=h.get h1
   rw[h3]at h2;injection h2 with h2;exact h2▸h4
  ·rw[if_neg hi]at h1;cases h1
theorem RepL.map(ev:Operand→SV)(eb:Operand→Value):∀xs:List Operand,(∀x∈xs,Rep R ρ n w (ev x) (eb x))→RepL R ρ n w (xs.map ev) (xs.map eb)
 |[],_=>rfl
 |x::xs,h=>⟨_,_,rfl,h x List.mem_cons_self,RepL.map ev eb xs fun y hy=>h y (List.mem_cons_of_mem _ hy)⟩
theorem RepD.flat:∀ (t:Ty) (x:t.T) (vs:List Value),RepD R w t x vs→vs.length=t.sz∧RepL R ρ n w (Go.Sx.flat t x) vs
 |.unit,_,vs,h=>by rw[show vs=[]from h];exact⟨rfl,rfl⟩
 |.int _,_,vs,h=>by rw[show vs=_ from h];exact⟨rfl,_,_,rfl,rfl,rfl⟩
 |.bool,_,vs,h=>by rw[show vs=_ from h];exact⟨rfl,_,_,rfl,rfl,rfl⟩
 |.str,_,vs,h=>by rw[show vs=_ from h];exact⟨rfl,_,_,rfl,rfl,rfl⟩
 |.list t,l,vs,h=>by
  have h':=h
  obtain⟨a,cap,rfl,_⟩:=h
  exact⟨rfl,_,_,rfl,h',rfl⟩
 |.pair a b,x,vs,h=>by
  obtain⟨v1,v2,rfl,h1,h2⟩:=h
  obtain⟨l1,r1⟩:=RepD.flat a x.1 v1 h1
  obtain⟨l2,r2⟩:=RepD.flat b x.2 v2 h2
  exact⟨by simp[l1,l2,Ty.sz],r1.append r2⟩
theorem flat_length:∀ (t:Ty) (x:t.T),(Go.Sx.flat t x).length=t.sz
 |.unit,_=>rfl
 |.int _,_=>rfl
 |.bool,_=>rfl
 |.str,_=>rfl
 |.list _,_=>rfl
 |.pair a b,x=>by simp[Go.Sx.flat,Ty.sz,flat_length a,flat_length b]
theorem RepD.unflat:∀ (t:Ty) (cs:List SV) (x:t.T) (rest:List SV) (vs:List Value),Go.Sx.unflat t cs=some (x,rest)→RepL R ρ n w cs vs→
  ∃v1 v2,vs=v1++v2∧v1.length=t.sz∧RepD R w t x v1∧RepL R ρ n w rest v2
 |.unit,cs,x,rest,vs,he,h=>by
  simp only[Go.Sx.unflat,Option.some.injEq,Prod.mk.injEq]at he
  obtain⟨_,rfl⟩:=he
  exact⟨[],vs,rfl,rfl,rfl,h⟩
 |.int k,cs,x,rest,vs,he,h=>by
  cases cs with
  |nil=>simp[Go.Sx.unflat]at he
  |cons c cs=>
   cases c<;>simp only[Go.Sx.unflat]at he<;>try(cases he;done)
   split at he
   ·rename_i hk
    simp only[Option.some.injEq,Prod.mk.injEq]at he
    obtain⟨rfl,rfl⟩:=he
    subst hk
    obtain⟨u,us,rfl,h1,h2⟩:=h
    exact⟨[u],us,rfl,rfl,by rw[show u=_ from h1];rfl,h2⟩
   ·cases he
 |.bool,cs,x,rest,vs,he,h=>by
  cases cs with
  |nil=>simp[Go.Sx.unflat]at he
  |cons c cs=>
   cases c<;>simp only[Go.Sx.unflat]at he<;>try(cases he;done)
   simp only[Option.some.injEq,Prod.mk.injEq]at he
   obtain⟨rfl,rfl⟩:=he
   obtain⟨u,us,rfl,h1,h2⟩:=h
   exact⟨[u],us,rfl,rfl,by rw[show u=_ from h1];rfl,h2⟩
 |.str,cs,x,rest,vs,he,h=>by
  cases cs with
  |nil=>simp[Go.Sx.unflat]at he
  |cons c cs=>
   cases c<;>simp only[Go.Sx.unflat]at he<;>try(cases he;done)
   simp only[Option.some.injEq,Prod.mk.injEq]at he
   obtain⟨rfl,rfl⟩:=he
   obtain⟨u,us,rfl,h1,h2⟩:=h
   exact⟨[u],us,rfl,rfl,by rw[show u=_ from h1];rfl,h2⟩
 |.list t,cs,x,rest,vs,he,h=>by
  cases cs with
  |nil=>simp[Go.Sx.unflat]at he
  |cons c cs=>
   cases c<;>simp only[Go.Sx.unflat]at he<;>try(cases he;done)
   ·simp only[Option.some.injEq,Prod.mk.injEq]at he
    obtain⟨rfl,rfl⟩:=he
    obtain⟨u,us,rfl,h1,h2⟩:=h
    exact⟨[u],us,rfl,rfl,⟨none,0,by rw[show u=_ from h1];rfl,Nat.le_refl _,fun h0=>absurd h0 (Nat.lt_irrefl _)⟩,h2⟩
   ·split at he
    ·rename_i ht
     simp only[Option.some.injEq,Prod.mk.injEq]at he
     obtain⟨rfl,rfl⟩:=he
     subst ht
     obtain⟨u,us,rfl,h1,h2⟩:=h
     exact⟨[u],us,rfl,rfl,h1,h2⟩
    ·cases he
 |.pair a b,cs,x,rest,vs,he,h=>by
  simp only[Go.Sx.unflat]at he
  cases h1:Go.Sx.unflat a cs with
  |none=>rw[h1]at he;cases he
  |some q=>
   obtain⟨x1,cs1⟩:=q
   rw[h1]at he
   dsimp only at he
   cases h2:Go.Sx.unflat b cs1 with
   |none=>rw[h2]at he;cases he
   |some q=>
    obtain⟨x2,cs2⟩:=q
    rw[h2]at he
    simp only[Option.some.injEq,Prod.mk.injEq]at he
    obtain⟨rfl,rfl⟩:=he
    obtain⟨v1,v2,rfl,l1,r1,k1⟩:=RepD.unflat a cs x1 cs1 vs h1 h
    obtain⟨v3,v4,rfl,l2,r2,k2⟩:=RepD.unflat b cs1 x2 _ v2 h2 k1
    exact⟨v1++v3,v4,by simp,by simp[l1,l2,Ty.sz],⟨v1,v3,rfl,r1,r2⟩,k2⟩
end
open Go.RowKit
structure RowOK (P:Program) (t:TypeId) (r:Row):Prop where
 und:P.underlying t=some r.desc
 info:∃i z,P.info? t=some i∧i.size=r.size∧i.bytes=r.bytes∧i.zero=some z∧(∀R ρ n w,RepL R ρ n w r.zero z.cells.toList)∧(∀u,r.ty=some u→∀R w,RepD R w u u.dflt z.cells.toList)
 eqg:r.eqg=P.eqGuardType P.depth t
 held:r.held=P.stoodInHeld t
 el:(r.ty=some (.int .u8)∨r.desc=.int .u8)→r.size=1→El8 t
structure EOK (P:Program) (E:Env):Prop where
 row:∀t r,E.row t=some r→RowOK P t r
 fn:∀f fn,E.fn f=some fn→P.funcs[f]? =some fn
 zv:∀t z,E.zv t=some z→∃i,P.info? t=some i∧i.zero=some z
def OpOut(w0:World)(R0:RSet)(ρ:Rho)(w:World)(m:Mem)(v:SV)(m':Mem)(u:Value)(w':World):Prop:=
 ∃ρ',MRel w0 R0 ρ' w' m'∧MExt w0 R0 ρ w m ρ' w' m'∧Rep (RO w0 R0 ρ' w' m') ρ' m'.next w' v u
theorem OpOut.same{w0:World}{R0:RSet}{ρ:Rho}{w:World}{m:Mem}{v:SV}{u:Value}(h:MRel w0 R0 ρ w m)(hv:Rep (RO w0 R0 ρ w m) ρ m.next w v u):OpOut w0 R0 ρ w m v m u w:=
 ⟨ρ,h,Ext.refl _ _ _ _,hv⟩
section
variable {P:Program} {E:Env} {α:Type} {L:α→Prop}
theorem run_isAgg{t:TypeId}{r:Row}(h:RowOK P t r)(w:World):(isAgg t).run P w=.ok r.isAgg w:=by
 simp only[isAgg,Sem.run_bind,run_underlying h.und,Result.andThen_ok]
 unfold Row.isAgg
 cases r.desc<;>rfl
theorem run_sizeOf'{t:TypeId}{r:Row}(h:RowOK P t r)(w:World):(sizeOf t).run P w=.ok r.size w:=by
 obtain⟨i,z,h1,h2,_⟩:=h.info
 simp only[sizeOf,typeInfo,Sem.run_bind,run_program,Result.andThen_ok,h1,Sem.run_pure,h2]
theorem run_typeInfo'{t:TypeId}{r:Row}(h:RowOK P t r):∃i,(∀w,(typeInfo t).run P w=.ok i w)∧i.bytes=r.bytes∧i.size=r.size:=by
 obtain⟨i,z,h1,h2,h3,_⟩:=h.info
 exact⟨i,fun w=>by simp only[typeInfo,Sem.run_bind,run_program,Result.andThen_ok,h1,Sem.run_pure],h3,h2⟩
theorem run_zero'{t:TypeId}{r:Row}(h:RowOK P t r):∃z:Value,(∀w,(zeroValue t).run P w=.ok z w)∧(∀R ρ n w,RepL R ρ n w r.zero z.cells.toList)∧(∀u,r.ty=some u→∀R w,RepD R w u u.dflt z.cells.toList):=by
 obtain⟨i,z,h1,_,_,h4,h5,h6⟩:=h.info
 exact⟨z,fun w=>by simp only[zeroValue,typeInfo,Sem.run_bind,run_program,Result.andThen_ok,h1,Sem.run_pure,h4],h5,h6⟩
def CellsAt(R:Nat→Prop)(ρ:Rho)(n:Nat)(w:World)(g o:Nat)(cs:List SV):Prop:=
 ∃vs:List Value,RepL R ρ n w cs vs∧∀j,j<vs.length→w.cell? ⟨g,o+j,none⟩=vs[j]?
def loaded(r:Row)(cs:List SV)(off:Nat):Option SV:=
 match r.isAgg with
 |true=>if r.size=0∨off+r.size≤cs.length then some (.agg ((cs.drop off).take r.size))else none
 |false=>cs[off]?
theorem loadCells_holds{r:Row}{cs:List SV}{off:Nat}{p:Plan}{m:Mem}{κ:Kont α}(h:(loadCells r cs off p m κ).holds L):∃v,loaded r cs off=some v∧(κ v p m).holds L:=by
 unfold loadCells at h
 unfold loaded
 cases hr:r.isAgg with
 |true=>
  rw[hr]at h
  rcases takeK_holds _ _ _ _ h with⟨h0,h1⟩|⟨h0,h1⟩
  ·exact⟨_,by rw[if_pos (.inl h0),h0],by simpa using h1⟩
  ·exact⟨_,by rw[if_pos (.inr h0)],h1⟩
 |false=>
  rw[hr]at h
  dsimp only at h
  rw[nth_eq]at h
  cases hc:cs[off]? with
  |none=>rw[hc]at h;exact h.elim
  |some v=>rw[hc]at h;dsimp only at h;rw[frc_eq]at h;exact⟨v,rfl,h⟩
theorem run_loadCells_at{R:Nat→Prop}{ρ:Rho}{n:Nat}{w:World}{g o:Nat}{cs:List SV}{off k:Nat}(hc:CellsAt R ρ n w g o cs)(hk:k=0∨off+k≤cs.length):
  ∃us:List Value,(Go.loadCells ⟨g,o+off,none⟩ k).run P w=.ok ⟨us⟩ w∧RepL R ρ n w ((cs.drop off).take k) us:=by
 obtain⟨vs,h1,h2⟩:=hc
 rcases hk with rfl|hk
 ·exact⟨[],rfl,by simp[RepL]⟩
 ·have hl:=h1.length
  have hlen:((vs.drop off).take k).length=k:=by simp;omega
  refine⟨(vs.drop off).take k,?_,(h1.drop off).take k⟩
  have:=run_loadCells_list (P:=P) w ⟨g,o+off,none⟩ ((vs.drop off).take k) (fun j v hj=>by
   have hjk:j<k:=by
    have:=(List.getElem?_eq_some_iff.1 hj).1
    omega
   rw[List.getElem?_take,if_pos hjk,List.getElem?_drop]at hj
   rw[Addr.add_lit,Nat.add_assoc,h2 (off+j) (by omega)]
   exact hj)
  rw[hlen]at this
  exact this
theorem run_loadVar'{t:TypeId}{r:Row}(hr:RowOK P t r){R:Nat→Prop}{ρ:Rho}{n:Nat}{w:World}{g o:Nat}{cs:List SV}{off:Nat}{v:SV}(hc:CellsAt R ρ n w g o cs)(hv:loaded r cs off=some v):
  ∃u,(loadVar t ⟨g,o+off,none⟩).run P w=.ok u w∧Rep R ρ n w v u:=by
 unfold loaded at hv
 simp only[loadVar,Sem.run_bind,run_isAgg hr,Result.andThen_ok]
 cases ha:r.isAgg with
 |true=>
  rw[ha]at hv
  dsimp only at hv
  split at hv
  ·rename_i hk
   injection hv with hv
   obtain⟨us,h1,h2⟩:=run_loadCells_at (P:=P) hc hk
   refine⟨.agg ⟨us⟩,?_,by rw[←hv];exact⟨us,rfl,h2⟩⟩
   simp only[if_true,Sem.run_bind,run_sizeOf' hr,Result.andThen_ok,h1,Sem.run_pure]
  ·cases hv
 |false=>
  rw[ha]at hv
  dsimp only at hv
  obtain⟨vs,h1,h2⟩:=hc
  obtain⟨u,h3,h4⟩:=h1.get hv
  refine⟨u,?_,h4⟩
  have hlt:off<vs.length:=(List.getElem?_eq_some_iff.1 h3).1
  simp[h2 off hlt,h3]
theorem ptr_cells{w0:World}{R0:RSet}{ρ:Rho}{w:World}{m:Mem}(hm:MRel w0 R0 ρ w m){id:Nat}{cs:List SV}(h:m.get id=some (.cells cs)):CellsAt (RO w0 R0 ρ w m) ρ m.next w (ρ id).1 0 cs:=by
 obtain⟨arr,e,fr,h1,h2,h3⟩:=hm.box id _ h
 exact⟨arr.toList,h3,fun j hj=>by rw[Nat.zero_add,cell_of_row w _ j arr e fr h1];simp⟩
theorem ptr_obj{w0:World}{R0:RSet}{ρ:Rho}{w:World}{m:Mem}(hm:MRel w0 R0 ρ w m){id:Nat}{t:TypeId}{cs:List SV}(h:m.get id=some (.obj t cs)):CellsAt (RO w0 R0 ρ w m) ρ m.next w (ρ id).1 0 cs:=by
 obtain⟨arr,h1,h3⟩:=hm.box id _ h
 exact⟨arr.toList,h3,fun j hj=>by rw[Nat.zero_add,cell_of_row w _ j arr t (0,0) h1];simp⟩
theorem vec_cells{w0:World}{R0:RSet}{ρ:Rho}{w:World}{m:Mem}(hm:MRel w0 R0 ρ w m){id:Nat}{cs:List SV}(h:m.get id=some (.vec cs)):CellsAt (RO w0 R0 ρ w m) ρ m.next w (ρ id).1 (ρ id).2.1 cs:=by
 obtain⟨arr,e,fr,h1,h2,h3,h4,h5⟩:=hm.box id _ h
 refine⟨_,h5,fun j hj=>?_⟩
 simp only[List.length_take,List.length_drop,Array.length_toList]at hj
 rw[cell_of_row w _ _ arr e fr h1,List.getElem?_take,if_pos (by omega),List.getElem?_drop]
 simp
theorem elem_cells{R:Nat→Prop}{ρ:Rho}{n:Nat}{w:World}{u:Ty}{l:List u.T}{b o i:Nat}(h:ElemsAt R w u b o l)(hi:i<l.length):CellsAt R ρ n w b (o+i*u.sz) (flat u (l.getD i u.dflt)):=by
 obtain⟨cs,h1,h2,h3⟩:=h.2 i hi
 obtain⟨h4,h5⟩:=RepD.flat (ρ:=ρ) (n:=n) u _ cs h3
 refine⟨cs,?_,fun j hj=>by rw[Nat.add_assoc];exact h2 j (by omega)⟩
 have:l.getD i u.dflt=l[i] :=by simp[hi]
 rw[this];exact h5
theorem rows_cells{w0:World}{R0:RSet}{ρ:Rho}{w:World}{m:Mem}(hm:MRel w0 R0 ρ w m){id:Nat}{u:Ty}{l:List u.T}(h:m.get id=some (.rows u l)){i:Nat}(hi:i<l.length):
  CellsAt (RO w0 R0 ρ w m) ρ m.next w (ρ id).1 (i*u.sz) (flat u (l.getD i u.dflt)):=by
 obtain⟨_,hc,hp⟩:=hm.box id _ h
 obtain⟨arr,e,fr,h1,h2,h3,h4⟩:=hp (by omega)
 obtain⟨cs,k1,k2,k3⟩:=h4 i hi
 obtain⟨h5,h6⟩:=RepD.flat (ρ:=ρ) (n:=m.next) u _ cs k3
 refine⟨cs,?_,fun j hj=>by rw[cell_of_row w _ _ arr e fr h1];exact k2 j (by omega)⟩
 have:l.getD i u.dflt=l[i] :=by simp[hi]
 rw[this];exact h6
theorem opLoad_sound(hE:EOK P E){t:TypeId}{a:SV}{p:Plan}{m:Mem}{κ:Kont α}(h:(opLoad E t a p m κ).holds L):
  ∃v,(κ v p m).holds L∧∀m2,Up m m2→∀w0 R0 ρ w (av:Value),MRel w0 R0 ρ w m2→Rep (RO w0 R0 ρ w m2) ρ m2.next w a av→∃u,(Instr.loadAt t av).run P w=.ok u w∧Rep (RO w0 R0 ρ w m2) ρ m2.next w v u:=by
 unfold opLoad at h
 cases hr:E.row t with
 |none=>rw[hr]at h;exact h.elim
 |some r=>
  rw[hr]at h
  have hok:=hE.row t r hr
  cases a<;>try exact h.elim
  case ptr id off=>
   dsimp only at h
   cases hg:m.get id with
   |none=>rw[hg]at h;exact h.elim
   |some B=>
    rw[hg]at h
    cases B<;>try exact h.elim
    case cells cs=>
     obtain⟨v,h1,h2⟩:=loadCells_holds h
     refine⟨v,h2,fun m2 hup w0 R0 ρ w av hm ha=>?_⟩
     obtain⟨_,rfl⟩:=ha
     obtain⟨u,h3,h4⟩:=run_loadVar' hok (ptr_cells hm (hup _ _ hg)) h1
     refine⟨u,?_,h4⟩
     rw[Nat.zero_add]at h3
     simpa[Instr.loadAt,Instr.sureAddr]using h3
    case obj _ cs=>
     obtain⟨v,h1,h2⟩:=loadCells_holds h
     refine⟨v,h2,fun m2 hup w0 R0 ρ w av hm ha=>?_⟩
     obtain⟨_,rfl⟩:=ha
     obtain⟨u,h3,h4⟩:=run_loadVar' hok (ptr_obj hm (hup _ _ hg)) h1
     refine⟨u,?_,h4⟩
     rw[Nat.zero_add]at h3
     simpa[Instr.loadAt,Instr.sureAddr]using h3
  case vptr id off=>
   dsimp only at h
   cases hg:m.get id with
   |none=>rw[hg]at h;exact h.elim
   |some B=>
    rw[hg]at h
    cases B<;>try exact h.elim
    case vec cs=>
     obtain⟨v,h1,h2⟩:=loadCells_holds h
     refine⟨v,h2,fun m2 hup w0 R0 ρ w av hm ha=>?_⟩
     obtain⟨_,rfl⟩:=ha
     obtain⟨u,h3,h4⟩:=run_loadVar' hok (vec_cells hm (hup _ _ hg)) h1
     refine⟨u,?_,h4⟩
     simpa[Instr.loadAt,Instr.sureAddr]using h3
  case eptr u l i off=>
   obtain⟨v,h1,h2⟩:=loadCells_holds h
   refine⟨v,h2,fun m2 hup w0 R0 ρ w av hm ha=>?_⟩
   obtain⟨b,o,rfl,hi,he⟩:=ha
   obtain⟨x,h3,h4⟩:=run_loadVar' hok (elem_cells (ρ:=ρ) (n:=m2.next) he hi) h1
   refine⟨x,?_,h4⟩
   rw[Nat.add_assoc]at h3
   simpa[Instr.loadAt,Instr.sureAddr]using h3
  case rptr id sz i off=>
   dsimp only at h
   cases hg:m.get id with
   |none=>rw[hg]at h;exact h.elim
   |some B=>
    rw[hg]at h
    cases B<;>try exact h.elim
    case rows u l=>
     dsimp only at h
     split at h
     ·rename_i hsz0
      obtain⟨hsz2,h⟩:=h
      have hsz:sz=u.sz∧i<l.length:=⟨by simpa using hsz0,by simpa using hsz2⟩
      obtain⟨v,h1,h2⟩:=loadCells_holds h
      refine⟨v,h2,fun m2 hup w0 R0 ρ w av hm ha=>?_⟩
      obtain⟨_,rfl⟩:=ha
      obtain⟨x,h3,h4⟩:=run_loadVar' hok (rows_cells hm (hup _ _ hg) hsz.2) h1
      refine⟨x,?_,h4⟩
      rw[←hsz.1]at h3
      simpa[Instr.loadAt,Instr.sureAddr]using h3
     ·exact h.elim
theorem all1_spec:∀ (l:List SV),all1 l=true→∀x∈l,x.one=true
 |[],_,x,hx=>by cases hx
 |y::ys,h,x,hx=>by
  change (match y.one with|true=>all1 ys|false=>false)=true at h
  cases hy:y.one with
  |false=>rw[hy]at h;cases h
  |true=>
   rw[hy]at h
   cases hx with
   |head=>exact hy
   |tail _ hx=>exact all1_spec ys h x hx
theorem one_cell{R:Nat→Prop}{ρ:Rho}{n:Nat}{w:World}{x:SV}{v:Value}(h:Rep R ρ n w x v)(h1:x.one=true):v.oneCell'=true:=by
 cases x<;>simp only[SV.one]at h1<;>try(cases h1;done)
 case int=>rw[show v=_ from h];rfl
 case bool=>rw[show v=_ from h];rfl
 case str=>rw[show v=_ from h];rfl
 case nilS=>rw[show v=_ from h];rfl
 case list t l=>
  obtain⟨a,cap,hv,_⟩:=h
  injection hv with hv
  rw[hv];rfl
 case row=>obtain⟨a,h2,_⟩:=h.2;rw[h2];rfl
 case arr=>rw[show v=_ from h.2];rfl
 case ptr=>rw[show v=_ from h.2];rfl
 case nilP=>rw[show v=_ from h];rfl
 case eptr=>obtain⟨b,o,rfl,_⟩:=h;rfl
 case rptr=>rw[show v=_ from h.2];rfl
 case fn=>obtain⟨a,b,rfl,_⟩:=h;rfl
 case vsl=>obtain⟨_,a,c,rfl,_⟩:=h;rfl
 case vptr=>rw[show v=_ from h.2];rfl
 case mp=>rw[show v=_ from h.2];rfl
 case raw u=>
  rw[show v=u from h]
  cases u<;>first|rfl|(cases h1;done)
theorem Rep.cells{R:Nat→Prop}{ρ:Rho}{n:Nat}{w:World}{x:SV}{v:Value}(h:Rep R ρ n w x v)(h1:all1 x.cells=true):RepL R ρ n w x.cells v.cells.toList∧∀u∈v.cells.toList,u.oneCell'=true:=by
 have key:RepL R ρ n w x.cells v.cells.toList:=by
  cases x with
  |agg cs=>obtain⟨vs,rfl,h2⟩:=h;exact h2
  |_=>
   have hx:=all1_spec _ h1 _ (List.mem_singleton.2 rfl)
   have ho:=one_cell h hx
   have hv:v.cells=#[v] :=by cases v<;>first|rfl|(cases ho;done)
   rw[hv]
   exact⟨v,[],rfl,h,rfl⟩
 refine⟨key,fun u hu=>?_⟩
 obtain⟨i,hi⟩:=List.getElem?_of_mem hu
 have hl:=key.length
 have hlt:i<x.cells.length:=by have:=(List.getElem?_eq_some_iff.1 hi).1;omega
 obtain⟨c,hc⟩:∃c,x.cells[i]? =some c:=⟨_,List.getElem?_eq_getElem hlt⟩
 obtain⟨u',h2,h3⟩:=key.get hc
 rw[hi]at h2;injection h2 with h2;subst h2
 exact one_cell h3 (all1_spec _ h1 c (List.mem_of_getElem? hc))
def overA(arr:Array Value)(off:Nat)(vs:List Value):Array Value:=⟨arr.toList.take off++vs++arr.toList.drop (off+vs.length)⟩
theorem overA_nil(arr:Array Value)(off:Nat):overA arr off [] =arr:=by
 apply Array.ext'
 simp[overA]
theorem overA_size{arr:Array Value}{off:Nat}{vs:List Value}(h:off+vs.length≤arr.size):(overA arr off vs).size=arr.size:=by
 simp[overA];omega
theorem overA_get{arr:Array Value}{off:Nat}{vs:List Value}(h:off+vs.length≤arr.size)(k:Nat):(overA arr off vs)[k]? =if off≤k∧k<off+vs.length then vs[k-off]? else arr[k]? :=by
 have hl:arr.toList.length=arr.size:=by simp
 rw[←Array.getElem?_toList,←Array.getElem?_toList]
 simp only[overA]
 by_cases h1:k<off
 ·rw[if_neg (by omega),List.append_assoc,List.getElem?_append_left (by rw[List.length_take];omega),List.getElem?_take,if_pos h1]
 ·by_cases h2:k<off+vs.length
  ·rw[if_pos ⟨by omega,h2⟩,List.append_assoc,List.getElem?_append_right (by rw[List.length_take];omega),List.length_take,Nat.min_eq_left (by omega),List.getElem?_append_left (by omega)]
  ·rw[if_neg (by omega),List.getElem?_append_right (by rw[List.length_append,List.length_take];omega),List.length_append,List.length_take,Nat.min_eq_left (by omega),List.getElem?_drop,show off+vs.length+(k-(off+vs.length))=k by omega]
theorem overA_cons{arr:Array Value}{off:Nat}{v:Value}{vs:List Value}(h:off+(v::vs).length≤arr.size):overA (arr.setIfInBounds off v) (off+1) vs=overA arr off (v::vs):=by
 simp only[List.length_cons]at h
 apply Array.ext_getElem?
 intro k
 rw[overA_get (by simp;omega),overA_get (by simp;omega)]
 simp only[List.length_cons]
 by_cases h1:k=off
 ·subst h1
  rw[if_neg (by omega),if_pos ⟨by omega,by omega⟩]
  simp[Array.getElem?_setIfInBounds,show k<arr.size by omega]
 ·by_cases h2:off+1≤k∧k<off+1+vs.length
  ·rw[if_pos h2,if_pos ⟨by omega,by omega⟩,show k-off=(k-(off+1))+1 by omega,List.getElem?_cons_succ]
  ·rw[if_neg h2,if_neg (by omega),Array.getElem?_setIfInBounds_ne (Ne.symm h1)]
theorem run_storeCells'(g:Nat)(o:Nat)(e:TypeId)(fr:Nat×Nat):∀ (vs:List Value) (i:Nat) (cur:Array Value) (w:World),w.heap[g]? =some (.cells cur e fr)→unfrozen cur fr→o+i+vs.length≤cur.size→(∀v∈vs,v.oneCell'=true)→
  ∃w',(storeCells ⟨g,o,none⟩ vs i).run P w=.ok () w'∧w'.heap[g]? =some (.cells (overA cur (o+i) vs) e fr)∧w'.os=w.os∧w'.tape=w.tape∧w'.output=w.output∧w'.heap.size=w.heap.size∧(∀k,k≠g→w'.heap[k]? =w.heap[k]?)
 |[],i,cur,w,hg,hu,hl,h1=>⟨w,rfl,by rw[overA_nil];exact hg,rfl,rfl,rfl,rfl,fun _ _=>rfl⟩
 |v::vs,i,cur,w,hg,hu,hl,h1=>by
  simp only[List.length_cons]at hl
  have hc:w.cell? ⟨g,o+i,none⟩=some (cur[o+i]'(by omega)):=by rw[cell_of_row w g _ cur e fr hg];simp
  have hf:w.frozen? ⟨g,o+i,none⟩=false:=by
   have:=hu (o+i) (by omega)
   simp only[World.frozen?,hg]
   by_cases h2:fr.1≤o+i
   ·have h3:¬o+i<fr.2:=fun h3=>this ⟨h2,h3⟩
    simp[h3]
   ·simp[h2]
  have hrow:=setCell_eq_setRow w g (o+i) cur e fr v hg
  have hg':(w.setCell ⟨g,o+i,none⟩ v).heap[g]? =some (.cells (cur.setIfInBounds (o+i) v) e fr):=by rw[hrow];exact setRow_heap w g cur _ e fr hg
  have hu':unfrozen (cur.setIfInBounds (o+i) v) fr:=fun k hk=>hu k (by simpa using hk)
  obtain⟨w',r1,r2,r3,r4,r5,r6,r7⟩:=run_storeCells' g o e fr vs (i+1) _ _ hg' hu' (by simp;omega) (fun u hu=>h1 u (List.mem_cons_of_mem _ hu))
  refine⟨w',?_,?_,r3,r4,r5,r6.trans (by simp),fun k hk=>(r7 k hk).trans (heap_setCell_other w _ k v hk)⟩
  ·simp only[storeCells,Sem.run_bind,Addr.add_lit,run_store P w _ v _ (h1 v List.mem_cons_self),hc,hf,Bool.false_eq_true,if_false,Result.andThen_ok,r1]
  ·rw[r2,←Nat.add_assoc,overA_cons (by simp;omega)]
theorem run_storeVar'{t:TypeId}{r:Row}(hr:RowOK P t r){w:World}{g o:Nat}{cur:Array Value}{e:TypeId}{fr:Nat×Nat}{v:Value}(hg:w.heap[g]? =some (.cells cur e fr))(hu:unfrozen cur fr)
  (hl:o+v.cells.toList.length≤cur.size) (h1:∀u∈v.cells.toList,u.oneCell'=true) (hs:r.size=v.cells.toList.length):
  ∃w',(storeVar t ⟨g,o,none⟩ v).run P w=.ok () w'∧w'.heap[g]? =some (.cells (overA cur o v.cells.toList) e fr)∧w'.os=w.os∧w'.tape=w.tape∧w'.output=w.output∧w'.heap.size=w.heap.size∧(∀k,k≠g→w'.heap[k]? =w.heap[k]?):=by
 obtain⟨w',r1,r2,r3⟩:=run_storeCells' (P:=P) g o e fr v.cells.toList 0 cur w hg hu (by simpa using hl) h1
 refine⟨w',?_,by simpa using r2,r3⟩
 have hsz:v.cells.size=r.size:=by rw[hs];simp
 simp only[storeVar,Sem.run_bind,run_sizeOf' hr,Result.andThen_ok,hsz,ne_eq,not_true_eq_false,if_false,Sem.run_pure,r1]
theorem over_rep{R:Nat→Prop}{ρ:Rho}{n:Nat}{w:World}{cs:List SV}{arr:Array Value}{vs:List SV}{us:List Value}{off:Nat}(h:RepL R ρ n w cs arr.toList)(k:RepL R ρ n w vs us):RepL R ρ n w (over cs off vs) (overA arr off us).toList:=by
 unfold over overA
 rw[show off+us.length=off+vs.length by rw[k.length]]
 exact((h.take off).append k).append (h.drop _)
theorem unfrozen_over{arr:Array Value}{fr:Nat×Nat}{off:Nat}{us:List Value}(h:unfrozen arr fr)(hl:off+us.length≤arr.size):unfrozen (overA arr off us) fr:=fun i hi=>h i (by rw[overA_size hl]at hi;exact hi)
theorem vec_over{arr:Array Value}{b off n:Nat}{us:List Value}(h:off+us.length≤n)(hn:b+n≤arr.size):
  ((overA arr (b+off) us).toList.drop b).take n=((arr.toList.drop b).take n).take off++us++((arr.toList.drop b).take n).drop (off+us.length):=by
 have hl:arr.toList.length=arr.size:=by simp
 apply List.ext_getElem?
 intro k
 rw[List.getElem?_take,List.getElem?_drop,Array.getElem?_toList,overA_get (by omega)]
 by_cases h0:k<n
 ·rw[if_pos h0]
  by_cases h1:k<off
  ·rw[if_neg (by omega),List.append_assoc,List.getElem?_append_left (by simp;omega),List.getElem?_take,if_pos h1,List.getElem?_take,if_pos h0,List.getElem?_drop,Array.getElem?_toList]
  ·by_cases h2:k<off+us.length
   ·rw[if_pos ⟨by omega,by omega⟩,List.append_assoc,List.getElem?_append_right (by simp;omega),List.length_take,List.length_take,List.length_drop,hl,Nat.min_eq_left (by omega),List.getElem?_append_left (by omega)]
    congr 1;omega
   ·rw[if_neg (by omega),List.getElem?_append_right (by simp;omega),List.getElem?_drop,List.getElem?_take,List.getElem?_drop,Array.getElem?_toList]
    simp only[List.length_append,List.length_take,List.length_drop,hl]
    rw[Nat.min_eq_left (by omega),if_pos (by omega)]
    congr 1;omega
 ·rw[if_neg h0]
  symm
  rw[List.getElem?_eq_none_iff]
  simp only[List.length_append,List.length_take,List.length_drop,hl]
  omega
theorem vec_store{w0:World}{R0:RSet}{ρ:Rho}{w:World}{m m':Mem}(hm:MRel w0 R0 ρ w m){id off:Nat}{cs vs:List SV}{us:List Value}(hg:m.get id=some (.vec cs))(hl:off+vs.length≤cs.length)(hs:MSet m id (some (.vec (over cs off vs))) m')
  (hr:RepL (RO w0 R0 ρ w m) ρ m.next w vs us) (h1:∀u∈us,u.oneCell'=true):
  ∃w',(storeCells ⟨(ρ id).1,(ρ id).2.1+off,none⟩ us).run P w=.ok () w'∧MRel w0 R0 ρ w' m'∧MExt w0 R0 ρ w m ρ w' m':=by
 obtain⟨arr,e,fr,k1,k2,k3,k4,k5⟩:=hm.box id _ hg
 have hlen:=hr.length
 obtain⟨w',r1,r2,r3,r4,r5,r6,r7⟩:=run_storeCells' (P:=P) (ρ id).1 ((ρ id).2.1+off) e fr us 0 arr w k1 k2 (by omega) h1
 rw[Nat.add_zero]at r2
 have hol:(over cs off vs).length=cs.length:=by simp only[over,List.length_append,List.length_take,List.length_drop];omega
 refine⟨w',r1,hm.setBox hg trivial hs r3 r4 r5 r6 r7 fun R e'=>⟨_,e,fr,r2,unfrozen_over k2 (by omega),by rw[overA_size (by omega)];exact k3,by rw[hol];exact k4,?_⟩⟩
 rw[hol,vec_over (by omega) (by omega)]
 have k5':=RepL.mono e' _ _ k5
 rw[hlen]
 exact((k5'.take off).append (RepL.mono e' _ _ hr)).append (k5'.drop _)
theorem opStore_sound(hE:EOK P E){t:TypeId}{a v:SV}{p:Plan}{m:Mem}{κ:Kont α}(h:(opStore E t a v p m κ).holds L):
  ∃m',(κ .undef p m').holds L∧(Shape m m'∧Shape m' m)∧∀w0 R0 ρ w (av vv:Value),MRel w0 R0 ρ w m→Rep (RO w0 R0 ρ w m) ρ m.next w a av→Rep (RO w0 R0 ρ w m) ρ m.next w v vv→
   ∃w',(Instr.storeAt t av vv).run P w=.ok () w'∧MRel w0 R0 ρ w' m'∧MExt w0 R0 ρ w m ρ w' m':=by
 unfold opStore at h
 cases hr:E.row t with
 |none=>rw[hr]at h;exact h.elim
 |some r=>
  rw[hr]at h
  have hok:=hE.row t r hr
  dsimp only at h
  split at h
  ·exact h.elim
  ·rename_i hs
   simp only[Bool.and_eq_true,beq_iff_eq]at hs
   cases a<;>try exact h.elim
   case ptr id off=>
    dsimp only at h
    cases hg:m.get id with
    |none=>rw[hg]at h;exact h.elim
    |some B=>
     rw[hg]at h
     cases B<;>try exact h.elim
     case cells cs=>
      dsimp only at h
      have key:∃m',(κ .undef p m').holds L∧((v.cells=[] ∧MSet m id (some (.cells cs)) m')∨(off+v.cells.length≤cs.length∧MSet m id (some (.cells (over cs off v.cells))) m')):=by
       rcases overK_holds _ _ _ _ h with⟨h0,h1⟩|⟨h0,h1⟩
       ·obtain⟨m',h2,h3⟩:=Mem.set_holds h1
        exact⟨m',h3,.inl ⟨h0,h2⟩⟩
       ·obtain⟨m',h2,h3⟩:=Mem.set_holds h1
        exact⟨m',h3,.inr ⟨h0,h2⟩⟩
      obtain⟨m',h1,h2⟩:=key
      have hsh:Shape m m'∧Shape m' m:=by
       rcases h2 with⟨_,h2⟩|⟨h0,h2⟩
       ·exact h2.shape hg (Box.like_refl _)
       ·exact h2.shape hg (by simp only[Box.like,over,List.length_append,List.length_take,List.length_drop];omega)
      refine⟨m',h1,hsh,fun w0 R0 ρ w av vv hm ha hv=>?_⟩
      obtain⟨_,rfl⟩:=ha
      obtain⟨hc1,hc2⟩:=hv.cells hs.2
      obtain⟨arr,e,fr,k1,k2,k3⟩:=hm.box id _ hg
      have hlen:=hc1.length
      have hal:arr.toList.length=cs.length:=k3.length
      rcases h2 with⟨h0,h2⟩|⟨h0,h2⟩
      ·rw[h0]at hlen hs
       have hnil:vv.cells.toList=[] :=List.eq_nil_of_length_eq_zero hlen
       refine⟨w,?_,hm.setBox hg trivial h2 rfl rfl rfl rfl (fun _ _=>rfl) fun R e'=>⟨arr,e,fr,k1,k2,RepL.mono e' _ _ k3⟩⟩
       have hsz:vv.cells.size=r.size:=by rw[hs.1];simp[←Array.length_toList,hnil]
       simp only[Instr.storeAt,Instr.sureAddr,storeVar,pure_bind,Sem.run_bind,run_sizeOf' hok,Result.andThen_ok,hsz,ne_eq,not_true_eq_false,if_false,Sem.run_pure,hnil,storeCells]
      ·obtain⟨w',r1,r2,r3,r4,r5,r6,r7⟩:=run_storeVar' (P:=P) hok (o:=off) (v:=vv) k1 k2 (by simp at hal;omega) hc2 (by rw[hlen];exact hs.1)
       refine⟨w',by simpa[Instr.storeAt,Instr.sureAddr]using r1,hm.setBox hg trivial h2 r3 r4 r5 r6 r7 fun R e'=>⟨_,e,fr,r2,unfrozen_over k2 (by simp at hal;omega),over_rep (RepL.mono e' _ _ k3) (RepL.mono e' _ _ hc1)⟩⟩
     case obj u cs=>
      dsimp only at h
      have key:∃m',(κ .undef p m').holds L∧((v.cells=[] ∧MSet m id (some (.obj u cs)) m')∨(off+v.cells.length≤cs.length∧MSet m id (some (.obj u (over cs off v.cells))) m')):=by
       rcases overK_holds _ _ _ _ h with⟨h0,h1⟩|⟨h0,h1⟩
       ·obtain⟨m',h2,h3⟩:=Mem.set_holds h1
        exact⟨m',h3,.inl ⟨h0,h2⟩⟩
       ·obtain⟨m',h2,h3⟩:=Mem.set_holds h1
        exact⟨m',h3,.inr ⟨h0,h2⟩⟩
      obtain⟨m',h1,h2⟩:=key
      have hsh:Shape m m'∧Shape m' m:=by
       rcases h2 with⟨_,h2⟩|⟨h0,h2⟩
       ·exact h2.shape hg (Box.like_refl _)
       ·exact h2.shape hg ⟨rfl,by simp only[over,List.length_append,List.length_take,List.length_drop];omega⟩
      refine⟨m',h1,hsh,fun w0 R0 ρ w av vv hm ha hv=>?_⟩
      obtain⟨_,rfl⟩:=ha
      obtain⟨hc1,hc2⟩:=hv.cells hs.2
      obtain⟨arr,k1,k3⟩:=hm.box id _ hg
      have k2:unfrozen arr (0,0):=fun i _ h=>absurd h.2 (Nat.not_lt_zero _)
      have hlen:=hc1.length
      have hal:arr.toList.length=cs.length:=k3.length
      rcases h2 with⟨h0,h2⟩|⟨h0,h2⟩
      ·rw[h0]at hlen hs
       have hnil:vv.cells.toList=[] :=List.eq_nil_of_length_eq_zero hlen
       refine⟨w,?_,hm.setBox hg trivial h2 rfl rfl rfl rfl (fun _ _=>rfl) fun R e'=>⟨arr,k1,RepL.mono e' _ _ k3⟩⟩
       have hsz:vv.cells.size=r.size:=by rw[hs.1];simp[←Array.length_toList,hnil]
       simp only[Instr.storeAt,Instr.sureAddr,storeVar,pure_bind,Sem.run_bind,run_sizeOf' hok,Result.andThen_ok,hsz,ne_eq,not_true_eq_false,if_false,Sem.run_pure,hnil,storeCells]
      ·obtain⟨w',r1,r2,r3,r4,r5,r6,r7⟩:=run_storeVar' (P:=P) hok (o:=off) (v:=vv) k1 k2 (by simp at hal;omega) hc2 (by rw[hlen];exact hs.1)
       refine⟨w',by simpa[Instr.storeAt,Instr.sureAddr]using r1,hm.setBox hg trivial h2 r3 r4 r5 r6 r7 fun R e'=>⟨_,r2,over_rep (RepL.mono e' _ _ k3) (RepL.mono e' _ _ hc1)⟩⟩
   case vptr id off=>
    dsimp only at h
    cases hg:m.get id with
    |none=>rw[hg]at h;exact h.elim
    |some B=>
     rw[hg]at h
     cases B<;>try exact h.elim
     case vec cs=>
      dsimp only at h
      rcases overK_holds _ _ _ _ h with⟨h0,h1⟩|⟨h0,h1⟩
      ·obtain⟨m',h2,h3⟩:=Mem.set_holds h1
       refine⟨m',h3,h2.shape hg (Box.like_refl _),fun w0 R0 ρ w av vv hm ha hv=>?_⟩
       obtain⟨_,rfl⟩:=ha
       obtain⟨hc1,hc2⟩:=hv.cells hs.2
       have hlen:=hc1.length
       rw[h0]at hlen hs
       have hnil:vv.cells.toList=[] :=List.eq_nil_of_length_eq_zero hlen
       obtain⟨arr,e,fr,k1,k2,k3,k4,k5⟩:=hm.box id _ hg
       refine⟨w,?_,hm.setBox hg trivial h2 rfl rfl rfl rfl (fun _ _=>rfl) fun R e'=>⟨arr,e,fr,k1,k2,k3,k4,RepL.mono e' _ _ k5⟩⟩
       have hsz:vv.cells.size=r.size:=by rw[hs.1];simp[←Array.length_toList,hnil]
       simp only[Instr.storeAt,Instr.sureAddr,storeVar,pure_bind,Sem.run_bind,run_sizeOf' hok,Result.andThen_ok,hsz,ne_eq,not_true_eq_false,if_false,Sem.run_pure,hnil,storeCells]
      ·obtain⟨m',h2,h3⟩:=Mem.set_holds h1
       refine⟨m',h3,h2.shape hg (by simp only[Box.like,over,List.length_append,List.length_take,List.length_drop];omega),fun w0 R0 ρ w av vv hm ha hv=>?_⟩
       obtain⟨_,rfl⟩:=ha
       obtain⟨hc1,hc2⟩:=hv.cells hs.2
       obtain⟨w',r1,r2,r3⟩:=vec_store (P:=P) hm hg h0 h2 hc1 hc2
       refine⟨w',?_,r2,r3⟩
       have hsz:vv.cells.size=r.size:=by rw[hs.1,←hc1.length];simp
       simp only[Instr.storeAt,Instr.sureAddr,storeVar,pure_bind,Sem.run_bind,run_sizeOf' hok,Result.andThen_ok,hsz,ne_eq,not_true_eq_false,if_false,Sem.run_pure,r1]
   case rptr id sz i off=>
    dsimp only at h
    cases hg:m.get id with
    |none=>rw[hg]at h;exact h.elim
    |some B=>
     rw[hg]at h
     cases B<;>try exact h.elim
     case rows u l=>
      dsimp only at h
      split at h
      ·rename_i hsz
       obtain⟨hi0,h⟩:=h
       have hi:i<l.length:=by simpa using hi0
       have hszu:sz=u.sz:=by simpa using hsz
       have key:∃m' cs x,(κ .undef p m').holds L∧unflat u cs=some (x,[])∧MSet m id (some (.rows u (l.set i x))) m'∧((v.cells=[] ∧cs=flat u (l.getD i u.dflt))∨(off+v.cells.length≤(flat u (l.getD i u.dflt)).length∧cs=over (flat u (l.getD i u.dflt)) off v.cells)):=by
        rcases overK_holds _ _ _ _ h with⟨h0,h1⟩|⟨h0,h1⟩
        all_goals
         split at h1
         ·rename_i x hx
          obtain⟨m',h2,h3⟩:=Mem.set_holds h1
          exact⟨m',_,x,h3,hx,h2,by first|exact .inl ⟨h0,rfl⟩|exact .inr ⟨h0,rfl⟩⟩
         ·exact h1.elim
       obtain⟨m',cs',x,h1,hx,h2,h3⟩:=key
       refine⟨m',h1,h2.shape hg ⟨rfl,by simp⟩,fun w0 R0 ρ w av vv hm ha hv=>?_⟩
       obtain⟨_,rfl⟩:=ha
       obtain⟨hc1,hc2⟩:=hv.cells hs.2
       have hlen:=hc1.length
       obtain⟨b1,b2,bp⟩:=hm.box id _ hg
       have hcap:0< (ρ id).2.2:=by omega
       obtain⟨arr,e,fr,k1,k2,k3,k4⟩:=bp hcap
       obtain⟨cs,q1,q2,q3⟩:=k4 i hi
       have hget:l.getD i u.dflt=l[i] :=by simp[hi]
       obtain⟨q4,q5⟩:=RepD.flat (ρ:=ρ) (n:=m.next) u _ cs q3
       rw[hget]at h3
       have hfl:=flat_length u l[i]
       -- the room
       have hroom:i*u.sz+u.sz≤arr.size:=by
        rw[k3]
        have:(i+1)*u.sz≤(ρ id).2.2*u.sz:=Nat.mul_le_mul_right _ (by omega)
        rwa [Nat.succ_mul]at this
       have hoff:off+vv.cells.toList.length≤u.sz∨vv.cells.toList=[] :=by
        rcases h3 with⟨h0,_⟩|⟨h0,_⟩
        ·right;exact List.eq_nil_of_length_eq_zero (by rw[hlen,h0];rfl)
        ·left;rw[hlen];omega
       have hrun:∃w',(Instr.storeAt t (.pointer (some ⟨(ρ id).1,i*sz+off,none⟩)) vv).run P w=.ok () w'∧w'.heap[(ρ id).1]? =some (.cells (if vv.cells.toList=[]then arr else overA arr (i*u.sz+off) vv.cells.toList) e fr)∧w'.os=w.os∧w'.tape=w.tape∧w'.output=w.output∧w'.heap.size=w.heap.size∧(∀k,k≠(ρ id).1→w'.heap[k]? =w.heap[k]?):=by
        by_cases hnil:vv.cells.toList=[]
        ·refine⟨w,?_,by rw[if_pos hnil];exact k1,rfl,rfl,rfl,rfl,fun _ _=>rfl⟩
         have h00:r.size=0:=by rw[hs.1,←hlen,hnil];rfl
         have hsz:vv.cells.size=r.size:=by rw[h00];simp[←Array.length_toList,hnil]
         simp only[Instr.storeAt,Instr.sureAddr,storeVar,pure_bind,Sem.run_bind,run_sizeOf' hok,Result.andThen_ok,hsz,ne_eq,not_true_eq_false,if_false,Sem.run_pure,hnil,storeCells]
        ·rw[if_neg hnil]
         have ho:off+vv.cells.toList.length≤u.sz:=hoff.resolve_right hnil
         obtain⟨w',r1,r2⟩:=run_storeVar' (P:=P) hok (o:=i*u.sz+off) (v:=vv) k1 k2.1 (by omega) hc2 (by rw[hlen];exact hs.1)
         exact⟨w',by rw[hszu];simpa[Instr.storeAt,Instr.sureAddr]using r1,r2⟩
       obtain⟨w',r1,r2,r3,r4,r5,r6,r7⟩:=hrun
       refine⟨w',r1,hm.setBox hg hcap h2 r3 r4 r5 r6 r7 fun R e'=>⟨by simpa using b1,by simpa using b2,fun _=>⟨_,e,fr,r2,?_,?_,?_⟩⟩⟩
       ·split
        ·exact k2
        ·rename_i hnil
         have ho:off+vv.cells.toList.length≤u.sz:=hoff.resolve_right hnil
         exact⟨unfrozen_over k2.1 (by omega),k2.2⟩
       ·split
        ·exact k3
        ·rename_i hnil
         have ho:off+vv.cells.toList.length≤u.sz:=hoff.resolve_right hnil
         rw[overA_size (by omega)];exact k3
       ·intro j hj
        rw[List.length_set]at hj
        by_cases hji:j=i
        ·subst hji
         -- the element that was turned
         have hcells:∃us:List Value,us.length=u.sz∧RepL R ρ m.next w' cs' us∧∀k,k<u.sz→(if vv.cells.toList=[]then arr else overA arr (j*u.sz+off) vv.cells.toList)[j*u.sz+k]? =us[k]? :=by
          rcases h3 with⟨h0,rfl⟩|⟨h0,rfl⟩
          ·have hnil:vv.cells.toList=[] :=List.eq_nil_of_length_eq_zero (by rw[hlen,h0];rfl)
           rw[if_pos hnil]
           exact⟨cs,q1,RepL.mono e' _ _ q5,q2⟩
          ·by_cases hnil:vv.cells.toList=[]
           ·have hvn:v.cells=[] :=List.eq_nil_of_length_eq_zero (by rw[←hlen,hnil];rfl)
            rw[if_pos hnil]
            refine⟨cs,q1,?_,q2⟩
            have:over (flat u l[j]) off v.cells=flat u l[j] :=by rw[hvn];simp[over]
            rw[this];exact RepL.mono e' _ _ q5
           ·rw[if_neg hnil]
            refine⟨cs.take off++vv.cells.toList++cs.drop (off+vv.cells.toList.length),?_,?_,fun k hk=>?_⟩
            ·simp at hlen ⊢;omega
            ·unfold over
             rw[show off+vv.cells.toList.length=off+v.cells.length by rw[hlen]]
             exact(((RepL.mono e' _ _ q5).take off).append (RepL.mono e' _ _ hc1)).append ((RepL.mono e' _ _ q5).drop _)
            ·have ho:off+vv.cells.toList.length≤u.sz:=hoff.resolve_right hnil
             rw[overA_get (by omega)]
             by_cases c1:off≤k∧k<off+vv.cells.toList.length
             ·rw[if_pos ⟨by omega,by omega⟩,List.append_assoc,List.getElem?_append_right (by rw[List.length_take];omega),List.length_take,Nat.min_eq_left (by omega),List.getElem?_append_left (by omega),show j*u.sz+k-(j*u.sz+off)=k-off by omega]
             ·rw[if_neg (by omega),q2 k hk]
              by_cases c2:k<off
              ·rw[List.append_assoc,List.getElem?_append_left (by rw[List.length_take];omega),List.getElem?_take,if_pos c2]
              ·rw[List.getElem?_append_right (by rw[List.length_append,List.length_take];omega),List.length_append,List.length_take,Nat.min_eq_left (by omega),List.getElem?_drop,show off+vv.cells.toList.length+(k-(off+vv.cells.toList.length))=k by omega]
         obtain⟨us,hus,hrep,hcell⟩:=hcells
         obtain⟨v1,v2,hv12,hl1,hd,hr2⟩:=RepD.unflat u cs' x [] us hx hrep
         rw[show v2=[]from hr2,List.append_nil]at hv12
         subst hv12
         refine⟨us,hus,hcell,?_⟩
         simpa using hd
        ·obtain⟨ds,d1,d2,d3⟩:=k4 j hj
         refine⟨ds,d1,fun k hk=>?_,?_⟩
         ·rw[←d2 k hk]
          split
          ·rfl
          ·rename_i hnil
           have ho:off+vv.cells.toList.length≤u.sz:=hoff.resolve_right hnil
           rw[overA_get (by omega)]
           rcases Nat.lt_or_ge j i with hlt|hge
           ·have hb:j*u.sz+u.sz≤i*u.sz:=by
             have:(j+1)*u.sz≤i*u.sz:=Nat.mul_le_mul_right _ hlt
             rwa [Nat.succ_mul]at this
            rw[if_neg (by omega)]
           ·have hb:i*u.sz+u.sz≤j*u.sz:=by
             have:(i+1)*u.sz≤j*u.sz:=Nat.mul_le_mul_right _ (by omega)
             rwa [Nat.succ_mul]at this
            rw[if_neg (by omega)]
         ·have:(l.set i x)[j]'(by simpa using hj)=l[j] :=by simp[List.getElem_set,Ne.symm hji]
          rw[this]
          exact RepD.mono e'.keep _ _ _ d3
      ·exact h.elim
end
open Go.RowKit
section
variable {P:Program} {E:Env} {α:Type} {L:α→Prop}
abbrev Plainly(P:Program)(m:Mem)(v:SV)(s:Sem Value)(w0:World)(R0:RSet)(ρ:Rho)(w:World):Prop:=
 ∃u,s.run P w=.ok u w∧Rep (RO w0 R0 ρ w m) ρ m.next w v u
theorem addOff_rep{R:Nat→Prop}{ρ:Rho}{n:Nat}{w:World}{a v:SV}{av:Value}{k:Nat}(h:addOff a k=some v)(ha:Rep R ρ n w a av):
  ∃b o,av=.pointer (some ⟨b,o,none⟩)∧Rep R ρ n w v (.pointer (some ⟨b,o+k,none⟩)):=by
 cases a<;>simp only[addOff,Option.some.injEq]at h<;>try(cases h;done)
 case ptr id off=>
  subst h
  exact⟨_,_,ha.2,ha.1,rfl⟩
 case eptr t l i off=>
  subst h
  obtain⟨b,o,h1,h2,h3⟩:=ha
  exact⟨_,_,h1,b,o,by rw[Nat.add_assoc,Nat.add_assoc],h2,h3⟩
 case rptr id sz i off=>
  subst h
  exact⟨_,_,ha.2,ha.1,by rw[Nat.add_assoc]⟩
 case vptr id off=>
  subst h
  exact⟨_,_,ha.2,ha.1,by rw[Nat.add_assoc]⟩
theorem opFieldAddr_sound(hE:EOK P E){s:TypeId}{a:SV}{f:Nat}{p:Plan}{m:Mem}{κ:Kont α}(h:(opFieldAddr E s a f p m κ).holds L):
  ∃v,(κ v p m).holds L∧∀ (m:Mem) w0 R0 ρ w (av:Value),Rep (RO w0 R0 ρ w m) ρ m.next w a av→Plainly P m v (Instr.fieldAt s av f) w0 R0 ρ w:=by
 unfold opFieldAddr at h
 split at h
 ·rename_i fs sz by_ ze ty eg he hrow
  have hok:=hE.row _ _ hrow
  split at h
  ·rename_i fd hfd
   split at h
   ·rename_i r hr
    have hok':=hE.row _ _ hr
    split at h
    ·exact h.elim
    ·rename_i k hk
     split at h
     ·rename_i v hv
      rw[frc_eq]at h
      refine⟨v,h,fun m w0 R0 ρ w av ha=>?_⟩
      obtain⟨b,o,rfl,h2⟩:=addOff_rep hv ha
      refine⟨_,?_,h2⟩
      have hu:P.underlying s=some (.struct fs):=hok.und
      have hsz:¬r.size=0:=by omega
      simp only[Instr.fieldAt,Sem.run_bind,run_underlying hu,Result.andThen_ok,hfd,Instr.sureAddr,Sem.run_pure,fieldPlace,run_sizeOf' hok',hsz,if_false,Addr.add_lit,Sem.run_ite]
     ·exact h.elim
   ·exact h.elim
  ·exact h.elim
 ·exact h.elim
theorem run_partOf{t:TypeId}{r:Row}(hr:RowOK P t r){R:Nat→Prop}{ρ:Rho}{n:Nat}{w:World}{cs:List SV}{vs:List Value}{off:Nat}{v:SV}(hc:RepL R ρ n w cs vs)(hv:loaded r cs off=some v):
  ∃u,(Go.part t ⟨vs⟩ off).run P w=.ok u w∧Rep R ρ n w v u:=by
 unfold loaded at hv
 simp only[Go.part,Sem.run_bind,run_isAgg hr,Result.andThen_ok]
 cases ha:r.isAgg with
 |true=>
  rw[ha]at hv
  dsimp only at hv
  split at hv
  ·rename_i hk
   injection hv with hv
   refine⟨.agg ⟨(vs.drop off).take r.size⟩,?_,by rw[←hv];exact⟨_,rfl,(hc.drop off).take _⟩⟩
   simp only[if_true,Sem.run_bind,run_sizeOf' hr,Result.andThen_ok,Sem.run_pure,Result.ok.injEq,and_true,Value.agg.injEq]
   apply Array.ext'
   simp[Array.toList_extract,List.extract_eq_take_drop]
  ·cases hv
 |false=>
  rw[ha]at hv
  dsimp only at hv
  obtain⟨u,h3,h4⟩:=hc.get hv
  refine⟨u,?_,h4⟩
  simp[h3]
theorem opField_sound(hE:EOK P E){s:TypeId}{x:SV}{f:Nat}{p:Plan}{m:Mem}{κ:Kont α}(h:(opField E s x f p m κ).holds L):
  ∃v,(κ v p m).holds L∧∀ (m:Mem) w0 R0 ρ w (xv:Value),Rep (RO w0 R0 ρ w m) ρ m.next w x xv→Plainly P m v (Instr.field s xv f) w0 R0 ρ w:=by
 unfold opField at h
 split at h
 ·rename_i fs sz by_ ze ty eg he hrow
  have hok:=hE.row _ _ hrow
  split at h
  ·rename_i fd cs hfd
   unfold partOf at h
   split at h
   ·rename_i r hr
    have hok':=hE.row _ _ hr
    obtain⟨v,h1,h2⟩:=loadCells_holds h
    refine⟨v,h2,fun m w0 R0 ρ w xv hx=>?_⟩
    obtain⟨vs,rfl,hvs⟩:=hx
    obtain⟨u,h3,h4⟩:=run_partOf hok' hvs h1
    refine⟨u,?_,h4⟩
    have hu:P.underlying s=some (.struct fs):=hok.und
    simp only[Instr.field,Sem.run_bind,run_underlying hu,Result.andThen_ok,hfd,asAgg,Sem.run_pure,h3]
   ·exact h.elim
  ·exact h.elim
 ·exact h.elim
theorem opIndexAddr_sound(hE:EOK P E){t:TypeId}{x ix:SV}{p:Plan}{m:Mem}{κ:Kont α}(h:(opIndexAddr E t x ix p m κ).holds L):
  ∃v,(κ v p m).holds L∧∀m2,Shape m m2→∀w0 R0 ρ w (xv iv:Value),MRel w0 R0 ρ w m2→Rep (RO w0 R0 ρ w m2) ρ m2.next w x xv→Rep (RO w0 R0 ρ w m2) ρ m2.next w ix iv→Plainly P m2 v (Instr.indexAt t xv iv) w0 R0 ρ w:=by
 unfold opIndexAddr at h
 split at h
 ·rename_i k i
  split at h
  · -- a slice
    rename_i e sz by_ ze ty eg he hrow
    have hok:=hE.row _ _ hrow
    have hu:P.underlying t=some (.slice e):=hok.und
    split at h
    ·rename_i u l
     split at h
     ·rename_i r hr
      have hok':=hE.row _ _ hr
      split at h
      ·rename_i hs
       obtain⟨hb,h⟩:=h
       simp only[Bool.and_eq_true,decide_eq_true_eq]at hb
       have hs':r.size=u.sz:=by simpa using hs
       refine⟨_,h,fun m2 hsh w0 R0 ρ w xv iv hm hx hi=>?_⟩
       rw[show iv=_ from hi]
       obtain⟨a,cap,hxv,hc,hel⟩:=hx
       injection hxv with hxv
       subst hxv
       obtain⟨b,o,rfl,hR,hall⟩:=hel (by omega)
       refine⟨.pointer (some ⟨b,o+i.toNat*u.sz,none⟩),?_,b,o,by simp,by omega,hR,hall⟩
       simp only[Instr.indexAt,asIntOf,Sem.run_bind,run_underlying hu,Result.andThen_ok,Sem.run_pure,hb.1,hb.2,and_self,if_true,run_sizeOf' hok',hs',Addr.add_lit,Sem.run_ite]
      ·exact h.elim
     ·exact h.elim
    ·rename_i id
     split at h
     ·rename_i u l hg
      split at h
      ·rename_i r hr
       have hok':=hE.row _ _ hr
       split at h
       ·rename_i hs
        obtain⟨hb,h⟩:=h
        simp only[Bool.and_eq_true,decide_eq_true_eq]at hb
        have hs':r.size=u.sz:=by simpa using hs
        refine⟨_,h,fun m2 hsh w0 R0 ρ w xv iv hm hx hi=>?_⟩
        rw[show iv=_ from hi]
        obtain⟨hid,a,rfl,ha⟩:=hx
        obtain⟨B',hg2,hl⟩:=hsh id _ hg
        cases B'<;>try exact hl.elim
        rename_i u2 l2
        obtain⟨rfl,hll⟩:=hl
        obtain⟨b1,b2,_⟩:=hm.box id _ hg2
        rw[←hll]at b1
        obtain rfl:=ha (by omega)
        refine⟨.pointer (some ⟨(ρ id).1,0+i.toNat*u.sz,none⟩),?_,hid,by simp⟩
        have hb2:i< ((ρ id).2.1:Int):=by rw[←b1];exact hb.2
        simp only[Instr.indexAt,asIntOf,Sem.run_bind,run_underlying hu,Result.andThen_ok,Sem.run_pure,hb.1,hb2,and_self,if_true,run_sizeOf' hok',hs',Addr.add_lit,Sem.run_ite]
       ·exact h.elim
      ·exact h.elim
     ·exact h.elim
    ·rename_i id off n
     split at h
     ·rename_i r hr
      have hok':=hE.row _ _ hr
      obtain⟨hb,h⟩:=h
      simp only[Bool.and_eq_true,decide_eq_true_eq]at hb
      refine⟨_,h,fun m2 hsh w0 R0 ρ w xv iv hm hx hi=>?_⟩
      rw[show iv=_ from hi]
      obtain⟨hid,rfl⟩:=hx
      refine⟨.pointer (some ⟨(ρ id).1,off+i.toNat*r.size,none⟩),?_,hid,rfl⟩
      simp only[Instr.indexAt,asIntOf,Sem.run_bind,run_underlying hu,Result.andThen_ok,Sem.run_pure,hb.1,hb.2,and_self,if_true,run_sizeOf' hok',Addr.add_lit,Sem.run_ite]
     ·exact h.elim
    ·rename_i id off n lb z ex
     split at h
     ·rename_i r hr
      have hok':=hE.row _ _ hr
      split at h
      ·rename_i hs
       obtain⟨hb,h⟩:=h
       simp only[Bool.and_eq_true,decide_eq_true_eq]at hb
       have hs':r.size=z:=by simpa using hs
       refine⟨_,h,fun m2 hsh w0 R0 ρ w xv iv hm hx hi=>?_⟩
       rw[show iv=_ from hi]
       obtain⟨hid,a,cap,rfl,h1,h2,_,h4,h5⟩:=hx
       obtain rfl:=h4 (by omega)
       refine⟨.pointer (some ⟨(ρ id).1,(ρ id).2.1+off+i.toNat*z,none⟩),?_,hid,by rw[Nat.add_assoc]⟩
       simp only[Instr.indexAt,asIntOf,Sem.run_bind,run_underlying hu,Result.andThen_ok,Sem.run_pure,hb.1,hb.2,and_self,if_true,run_sizeOf' hok',hs',Addr.add_lit,Sem.run_ite]
      ·exact h.elim
     ·exact h.elim
    ·exact h.elim
  · -- an array
    rename_i n e sz by_ ze ty eg he hrow
    have hok:=hE.row _ _ hrow
    have hu:P.underlying t=some (.array n e):=hok.und
    split at h
    ·rename_i r hr
     have hok':=hE.row _ _ hr
     split at h
     ·rename_i v hv
      obtain⟨hb,h⟩:=h
      simp only[Bool.and_eq_true,decide_eq_true_eq]at hb
      refine⟨_,h,fun m2 hsh w0 R0 ρ w xv iv hm hx hi=>?_⟩
      rw[show iv=_ from hi]
      obtain⟨b,o,rfl,h2⟩:=addOff_rep hv hx
      refine⟨_,?_,h2⟩
      simp only[Instr.indexAt,asIntOf,Sem.run_bind,run_underlying hu,Result.andThen_ok,Sem.run_pure,Instr.sureAddr,hb.1,hb.2,and_self,if_true,run_sizeOf' hok',Addr.add_lit,Sem.run_ite]
     ·exact h.elim
    ·exact h.elim
  ·exact h.elim
 ·exact h.elim
theorem opIndex_sound(hE:EOK P E){t:TypeId}{x ix:SV}{p:Plan}{m:Mem}{κ:Kont α}(h:(opIndex E t x ix p m κ).holds L):
  ∃v,(κ v p m).holds L∧∀ (m:Mem) w0 R0 ρ w (xv iv:Value),Rep (RO w0 R0 ρ w m) ρ m.next w x xv→Rep (RO w0 R0 ρ w m) ρ m.next w ix iv→Plainly P m v (Instr.index t xv iv) w0 R0 ρ w:=by
 unfold opIndex at h
 split at h
 ·rename_i k i
  split at h
  ·rename_i sz by_ ze ty eg he hrow
   have hok:=hE.row _ _ hrow
   have hu:P.underlying t=some .string:=hok.und
   split at h
   ·rename_i s
    obtain⟨hb,h⟩:=h
    simp only[Bool.and_eq_true,decide_eq_true_eq]at hb
    refine⟨_,h,fun m w0 R0 ρ w xv iv hx hi=>?_⟩
    rw[show iv=_ from hi,show xv=_ from hx]
    refine⟨_,?_,rfl⟩
    have hlt:i.toNat<s.length:=by omega
    have hg:(⟨⟨s⟩⟩:ByteArray)[i.toNat]? =some (s[i.toNat]'hlt):=by
     have:i.toNat< (⟨⟨s⟩⟩:ByteArray).size:=by simpa[ByteArray.size]using hlt
     rw[getElem?_pos (⟨⟨s⟩⟩:ByteArray) i.toNat this]
     rfl
    simp only[Instr.index,asIntOf,Sem.run_bind,run_underlying hu,Result.andThen_ok,Sem.run_pure,hb.1,if_true,hg]
    simp[hlt]
   ·exact h.elim
  ·rename_i n e sz by_ ze ty eg he hrow
   have hok:=hE.row _ _ hrow
   have hu:P.underlying t=some (.array n e):=hok.und
   split at h
   ·rename_i cs
    split at h
    ·rename_i r hr
     have hok':=hE.row _ _ hr
     obtain⟨hb,h⟩:=h
     simp only[Bool.and_eq_true,decide_eq_true_eq]at hb
     obtain⟨v,h1,h2⟩:=loadCells_holds h
     refine⟨v,h2,fun m w0 R0 ρ w xv iv hx hi=>?_⟩
     rw[show iv=_ from hi]
     obtain⟨vs,rfl,hvs⟩:=hx
     obtain⟨u,h3,h4⟩:=run_partOf hok' hvs h1
     refine⟨u,?_,h4⟩
     simp only[Instr.index,asIntOf,Sem.run_bind,run_underlying hu,Result.andThen_ok,Sem.run_pure,hb.1,hb.2,and_self,if_true,run_sizeOf' hok',h3,Sem.run_ite]
    ·exact h.elim
   ·exact h.elim
  ·exact h.elim
 ·exact h.elim
theorem eqPart_loaded{t:TypeId}{cs:List SV}{off:Nat}{v:SV}(h:eqIn.part E t cs off=some v):∃r,E.row t=some r∧loaded r cs off=some v:=by
 unfold eqIn.part at h
 split at h
 ·rename_i r hr
  refine⟨r,hr,?_⟩
  unfold loaded
  split at h
  ·rename_i ha
   rw[ha]
   dsimp only
   split at h
   ·rename_i hk;rw[if_pos (.inr hk)];exact h
   ·cases h
  ·rename_i ha
   rw[show r.isAgg=false by simpa using ha]
   dsimp only
   rw[nth_eq]at h;exact h
 ·cases h
theorem list_forIn_eq{β σ:Type}(xs:Array β)(init:σ)(f:β→σ→Sem (ForInStep σ)):forIn xs init f=forIn xs.toList init f:=by
 simp
theorem eqIn_sound(hE:EOK P E):∀ (d:Nat) (t:TypeId) (x y:SV) (b:Bool),eqIn E d t x y=some b→∀ (D:Nat),d≤D→∀{R:Nat→Prop} {ρ:Rho} {n:Nat} {w:World} {xv yv:Value},Rep R ρ n w x xv→Rep R ρ n w y yv→
  (Op.equalIn D t xv yv).run P w=.ok b w:=by
 intro d
 induction d with
 |zero=>intro t x y b h;unfold eqIn at h;cases h
 |succ d ih=>
  intro t x y b h D hD
  obtain⟨D,rfl⟩:∃D',D=D'+1:=⟨D-1,by omega⟩
  have hdD:d≤D:=by omega
  intro R ρ n w xv yv hx hy
  unfold eqIn at h
  split at h
  ·rename_i sz by_ ze ty eg he hrow
   have hu:=(hE.row _ _ hrow).und
   dsimp only at hu
   split at h
   ·rename_i a b'
    injection h with h
    rw[show xv=_ from hx,show yv=_ from hy]
    simp only[Op.equalIn,Sem.run_bind,run_underlying hu,Result.andThen_ok,Sem.run_pure,h]
   ·cases h
  ·rename_i k sz by_ ze ty eg he hrow
   have hu:=(hE.row _ _ hrow).und
   dsimp only at hu
   split at h
   ·rename_i k1 a k2 b'
    split at h
    ·rename_i hk
     injection h with h
     subst hk
     rw[show xv=_ from hx,show yv=_ from hy]
     simp only[Op.equalIn,Sem.run_bind,run_underlying hu,Result.andThen_ok,Sem.run_pure,h,if_true]
    ·cases h
   ·cases h
  ·rename_i sz by_ ze ty eg he hrow
   have hu:=(hE.row _ _ hrow).und
   dsimp only at hu
   split at h
   ·rename_i a b'
    injection h with h
    rw[show xv=_ from hx,show yv=_ from hy]
    rw[run_equalIn_string w D t _ _ hu,←h,ByteArray.toList_eq,ByteArray.toList_eq]
   ·cases h
  ·rename_i fs sz by_ ze ty eg hrow
   have hok:=hE.row _ _ hrow
   have hu:P.underlying t=some (.struct fs):=hok.und
   have hheld:P.stoodInHeld t=false:=hok.held.symm
   split at h
   ·rename_i xs ys
    obtain⟨vx,rfl,hvx⟩:=hx
    obtain⟨vy,rfl,hvy⟩:=hy
    have hfs:P.fieldsOf t=fs:=by simp[Program.fieldsOf,hu]
    rw[run_equalIn_struct w D t ⟨vx⟩ ⟨vy⟩ (by rw[hfs];exact hu) hheld,hfs]
    clear hu hrow hok hfs
    generalize fs.toList=l at h
    clear fs
    induction l generalizing b with
    |nil=>simp only[eqIn.go]at h;injection h with h;rw[←h];rfl
    |cons f l ihl=>
     simp only[eqIn.go]at h
     split at h
     ·rename_i a b' ha hb
      split at h
      ·rename_i u v hu hv
       split at h
       ·cases h
       ·rename_i hn
        injection h with h
        obtain⟨r1,hr1,hl1⟩:=eqPart_loaded ha
        obtain⟨r2,hr2,hl2⟩:=eqPart_loaded hb
        obtain⟨p1,hp1,hq1⟩:=run_partOf (P:=P) (hE.row _ _ hr1) hvx hl1
        obtain⟨p2,hp2,hq2⟩:=run_partOf (P:=P) (hE.row _ _ hr2) hvy hl2
        have he:=ih _ _ _ _ hu D hdD hq1 hq2
        simp only[Op.eqFields,hn,ne_eq,not_false_eq_true,if_true,Sem.run_bind,hp1,hp2,Result.andThen_ok,he]
        cases u with
        |false=>rw[←h];rfl
        |true=>
         simp only[Bool.not_true,Bool.false_eq_true,if_false]
         rw[Bool.true_and]at h
         subst h
         exact ihl _ hv
      ·cases h
     ·cases h
   ·cases h
  ·rename_i n0 e sz by_ ze ty eg he hrow
   have hok:=hE.row _ _ hrow
   have hu:P.underlying t=some (.array n0 e):=hok.und
   split at h
   ·rename_i xs ys r hr
    have hok':=hE.row _ _ hr
    obtain⟨vx,rfl,hvx⟩:=hx
    obtain⟨vy,rfl,hvy⟩:=hy
    simp only[Op.equalIn,Sem.run_bind,run_underlying hu,Result.andThen_ok,run_sizeOf' hok',Std.Legacy.Range.forIn_eq_forIn_range',Std.Legacy.Range.size,Nat.sub_zero,Nat.add_sub_cancel,Nat.div_one]
    clear hu hrow hok
    have key:∀ (k i:Nat) (b:Bool),eqIn.goN E (eqIn E d) e r xs ys k i=some b→
      ((forIn (List.range' i k 1) ((none,()):Option Bool×Unit) fun i _=>do
        if(!(←Op.equalIn D e (←Go.part e ⟨vx⟩ (i*r.size)) (←Go.part e ⟨vy⟩ (i*r.size))))=true then pure (ForInStep.done (some false,()))else pure (ForInStep.yield (none,()))):Sem _).run P w
        =.ok (if b then(none,())else(some false,())) w:=by
     intro k
     induction k with
     |zero=>intro i b hb;unfold eqIn.goN at hb;injection hb with hb;subst hb;rfl
     |succ k ihk=>
      intro i b hb
      unfold eqIn.goN at hb
      split at hb
      ·rename_i a b' ha hb'
       split at hb
       ·rename_i u v hu hv
        injection hb with hb
        obtain⟨r1,hr1,hl1⟩:=eqPart_loaded ha
        obtain⟨r2,hr2,hl2⟩:=eqPart_loaded hb'
        obtain⟨p1,hp1,hq1⟩:=run_partOf (P:=P) (hE.row _ _ hr1) hvx hl1
        obtain⟨p2,hp2,hq2⟩:=run_partOf (P:=P) (hE.row _ _ hr2) hvy hl2
        have he:=ih _ _ _ _ hu D hdD hq1 hq2
        simp only[List.range'_succ,List.forIn_cons,Sem.run_bind,hp1,hp2,Result.andThen_ok,he]
        cases u with
        |false=>rw[←hb];rfl
        |true=>
         simp only[Bool.not_true,Bool.false_eq_true,if_false,Sem.run_pure,Result.andThen_ok]
         rw[Bool.true_and]at hb
         subst hb
         exact ihk (i+1) _ hv
       ·cases hb
      ·cases hb
    have hk:=key n0 0 b h
    rw[hk]
    cases b<;>rfl
   ·cases h
  ·rename_i ms sz by_ ze ty eg he hrow
   have hu:=(hE.row _ _ hrow).und
   dsimp only at hu
   split at h
   ·rename_i a b'
    rw[show xv=_ from hx,show yv=_ from hy]
    unfold ifaceNil at h
    split at h
    ·injection h with h;subst h
     simp only[Op.equalIn,Sem.run_bind,run_underlying hu,Result.andThen_ok,Sem.run_pure]
    ·injection h with h;subst h
     simp only[Op.equalIn,Sem.run_bind,run_underlying hu,Result.andThen_ok,Sem.run_pure]
    ·injection h with h;subst h
     simp only[Op.equalIn,Sem.run_bind,run_underlying hu,Result.andThen_ok,Sem.run_pure]
    ·cases h
   ·cases h
  ·cases h
end
open Go.RowKit
section
variable {P:Program} {E:Env} {α:Type} {L:α→Prop}
theorem intOp_run{op:BinOp}{k:IntKind}{a b:Int}{v:SV}(h:intOp op k a b=some v)(t:TypeId)(w:World):∃u,(Go.binOp op t (.int k a) (.int k b)).run P w=.ok u w∧∀R ρ n,Rep R ρ n w v u:=by
 cases op<;>simp only[intOp,Option.some.injEq]at h<;>first
  |(cases h;done)
  |(subst h;exact⟨_,by simp[Go.binOp,Op.intArith,Op.intBits,Op.intCmp],fun _ _ _=>rfl⟩)
theorem toList_mk'(l:List UInt8):(ByteArray.mk ⟨l⟩).toList=l:=ByteArray.toList_eq _
theorem strOp_run{op:BinOp}{a b:List UInt8}{v:SV}(h:strOp op a b=some v)(t:TypeId)(w:World):∃u,(Go.binOp op t (.string ⟨⟨a⟩⟩) (.string ⟨⟨b⟩⟩)).run P w=.ok u w∧∀R ρ n,Rep R ρ n w v u:=by
 cases op<;>simp only[strOp,Option.some.injEq]at h<;>first
  |(cases h;done)
  |(subst h;exact⟨_,by simp[Go.binOp,Op.stringOp,toList_mk'],fun _ _ _=>rfl⟩)
theorem eqIn_shape{d:Nat}{t:TypeId}{x y:SV}{b:Bool}(h:eqIn E d t x y=some b):(∃k a k' c,x=.int k a∧y=.int k' c)∨(∃a c,x=.str a∧y=.str c)∨(∃a c,x=.bool a∧y=.bool c)∨(∃a c,x=.agg a∧y=.agg c)∨(∃a c ms r,x=.raw a∧y=.raw c∧ifaceNil a c=some b∧E.row t=some r∧r.desc=.interface ms):=by
 cases d with
 |zero=>unfold eqIn at h;cases h
 |succ d=>
  unfold eqIn at h
  split at h
  ·split at h
   ·exact .inr (.inr (.inl ⟨_,_,rfl,rfl⟩))
   ·cases h
  ·split at h
   ·exact .inl ⟨_,_,_,_,rfl,rfl⟩
   ·cases h
  ·split at h
   ·exact .inr (.inl ⟨_,_,rfl,rfl⟩)
   ·cases h
  ·split at h
   ·exact .inr (.inr (.inr (.inl ⟨_,_,rfl,rfl⟩)))
   ·cases h
  ·split at h
   ·exact .inr (.inr (.inr (.inl ⟨_,_,rfl,rfl⟩)))
   ·cases h
  ·rename_i hrow
   split at h
   ·exact .inr (.inr (.inr (.inr ⟨_,_,_,_,rfl,rfl,h,hrow,rfl⟩)))
   ·cases h
  ·cases h
theorem run_equal_nil{t e:TypeId}(hu:P.underlying t=some (.slice e))(a:Option Addr)(l c l' c':Nat)(w:World):(Op.equal t (.slice a l c) (.slice none l' c')).run P w=.ok a.isNone w:=by
 have key:∀d,(Op.equalIn (d+1) t (.slice a l c) (.slice none l' c')).run P w=.ok a.isNone w:=fun d=>by
  simp only[Op.equalIn,Sem.run_bind,run_underlying hu,Result.andThen_ok]
  cases a<;>rfl
 exact key 9999
theorem opBin_sound(hE:EOK P E){op:BinOp}{t:TypeId}{x y:SV}{p:Plan}{m:Mem}{κ:Kont α}(h:(opBin E op t x y p m κ).holds L):
  ∃v,(κ v p m).holds L∧∀ (m:Mem) w0 R0 ρ w (xv yv:Value) (xo yo:Operand),Rep (RO w0 R0 ρ w m) ρ m.next w x xv→Rep (RO w0 R0 ρ w m) ρ m.next w y yv→Plainly P m v (do eqGuard op t xo yo xv yv;Go.binOp op t xv yv) w0 R0 ρ w:=by
 unfold opBin at h
 split at h
 ·rename_i k a k' b
  split at h
  ·obtain⟨hb,h⟩:=h
   refine⟨_,h,fun m w0 R0 ρ w xv yv xo yo hx hy=>?_⟩
   rw[show xv=_ from hx,show yv=_ from hy]
   have hb':¬b<0:=by have:=of_decide_eq_true hb;omega
   exact⟨_,by simp[eqGuard_at_int,Go.binOp,Op.shift,hb'],rfl⟩
  ·obtain⟨hb,h⟩:=h
   refine⟨_,h,fun m w0 R0 ρ w xv yv xo yo hx hy=>?_⟩
   rw[show xv=_ from hx,show yv=_ from hy]
   have hb':¬b<0:=by have:=of_decide_eq_true hb;omega
   exact⟨_,by simp[eqGuard_at_int,Go.binOp,Op.shift,hb'],rfl⟩
  ·split at h
   ·rename_i hk
    subst hk
    split at h
    ·obtain⟨hb,h⟩:=h
     refine⟨_,h,fun m w0 R0 ρ w xv yv xo yo hx hy=>?_⟩
     rw[show xv=_ from hx,show yv=_ from hy]
     have hb':¬b=0:=by simpa using hb
     exact⟨_,by simp[eqGuard_at_int,Go.binOp,Op.intDiv,hb'],rfl⟩
    ·obtain⟨hb,h⟩:=h
     refine⟨_,h,fun m w0 R0 ρ w xv yv xo yo hx hy=>?_⟩
     rw[show xv=_ from hx,show yv=_ from hy]
     have hb':¬b=0:=by simpa using hb
     exact⟨_,by simp[eqGuard_at_int,Go.binOp,Op.intDiv,hb'],rfl⟩
    ·split at h
     ·rename_i v hv
      refine⟨v,h,fun m w0 R0 ρ w xv yv xo yo hx hy=>?_⟩
      rw[show xv=_ from hx,show yv=_ from hy]
      obtain⟨u,h1,h2⟩:=intOp_run (P:=P) hv t w
      exact⟨u,by simp only[eqGuard_at_int,pure_bind,h1],h2 _ _ _⟩
     ·exact h.elim
   ·exact h.elim
 ·rename_i a b
  split at h
  ·obtain⟨hb,h⟩:=h
   refine⟨_,h,fun m w0 R0 ρ w xv yv xo yo hx hy=>?_⟩
   rw[show xv=_ from hx,show yv=_ from hy]
   have hb':¬(9223372036854775807:Int)< ((a.length+b.length:Nat):Int):=by have:=of_decide_eq_true hb;omega
   refine⟨.string ⟨⟨a++b⟩⟩,?_,rfl⟩
   simp only[eqGuard_at_string,pure_bind,Go.binOp,Op.stringOp]
   have hs:∀l:List UInt8,(ByteArray.mk ⟨l⟩).size=l.length:=fun l=>rfl
   rw[hs,hs,if_neg (by rw[IntKind.max_i64];exact hb')]
   simp only[Sem.run_pure,Result.ok.injEq,and_true,Value.string.injEq]
   apply ByteArray.ext
   simp
  ·split at h
   ·rename_i v hv
    refine⟨v,h,fun m w0 R0 ρ w xv yv xo yo hx hy=>?_⟩
    rw[show xv=_ from hx,show yv=_ from hy]
    obtain⟨u,h1,h2⟩:=strOp_run (P:=P) hv t w
    exact⟨u,by simp only[eqGuard_at_string,pure_bind,h1],h2 _ _ _⟩
   ·exact h.elim
 ·rename_i hni hns
  have key:∀ (b:Bool) (op:BinOp),(op=.eql∨op=.neq)→(∃r,E.row t=some r∧r.eqg=false)→eqIn E 100 t x y=some b→∀ (m:Mem) w0 R0 ρ w (xv yv:Value) (xo yo:Operand),Rep (RO w0 R0 ρ w m) ρ m.next w x xv→Rep (RO w0 R0 ρ w m) ρ m.next w y yv→
    (do eqGuard op t xo yo xv yv;Go.binOp op t xv yv).run P w=.ok (.bool (if op=.eql then b else !b)) w:=by
   intro b op hop ⟨r,hr,hg⟩ he m w0 R0 ρ w xv yv xo yo hx hy
   have hok:=hE.row _ _ hr
   have hq:=eqIn_sound (P:=P) hE 100 t x y b he 10000 (by omega) hx hy
   rcases eqIn_shape he with⟨k,a,k',c,rfl,rfl⟩|⟨a,c,rfl,rfl⟩|⟨a,c,rfl,rfl⟩|⟨a,c,rfl,rfl⟩|⟨a,c,ms,r',rfl,rfl,hn,hr',hd⟩
   ·exact(hni _ _ _ _ rfl rfl).elim
   ·exact(hns _ _ rfl rfl).elim
   ·rw[show xv=_ from hx,show yv=_ from hy]at hq ⊢
    rcases hop with rfl|rfl
    ·simp[eqGuard_at_bool,Go.binOp,Op.equal,Op.maxDepth,hq]
    ·simp[eqGuard_at_bool,Go.binOp,Op.equal,Op.maxDepth,hq]
   ·obtain⟨vx,rfl,_⟩:=hx
    obtain⟨vy,rfl,_⟩:=hy
    have hm:P.eqGuardType P.depth t=false:=by rw[←hok.eqg];exact hg
    rcases hop with rfl|rfl
    ·simp only[Sem.run_bind,run_eqGuard_agg w _ t xo yo _ _ hm,Result.andThen_ok,run_eql_struct,hq];rfl
    ·simp only[Sem.run_bind,run_eqGuard_agg w _ t xo yo _ _ hm,Result.andThen_ok,run_neq_struct,hq];rfl
   ·have hu:P.underlying t=some (.interface ms):=by rw[(hE.row _ _ hr').und,hd]
    have hm:P.eqGuardType P.depth t=false:=by rw[←hok.eqg];exact hg
    have hms:ms.isEmpty=true:=by
     cases hdp:P.depth with
     |zero=>rw[hdp]at hm;simp[Program.eqGuardType]at hm
     |succ d=>rw[hdp]at hm;simpa[Program.eqGuardType,hu]using hm
    rw[show xv=_ from hx,show yv=_ from hy]at hq ⊢
    unfold ifaceNil at hn
    split at hn
    ·have hgi:∀d,(Op.eqGuardIn (d+1) t .nilIface .nilIface).run P w=.ok false w:=fun d=>by
      simp only[Op.eqGuardIn,Sem.run_bind,run_underlying hu,Result.andThen_ok,Sem.run_pure,hms];rfl
     have hgj : (do if ← Op.eqGuardIn Op.maxDepth t .nilIface .nilIface then unsupported (.noEntry "binop/eql: two nil values of an interface type with methods, neither of them the literal nil") : Sem Unit).run P w = .ok () w := by
      rw[Sem.run_bind,show Op.maxDepth=9999+1 from rfl,hgi 9999];rfl
     have hgd:∀op,(op=.eql∨op=.neq)→(eqGuard op t xo yo .nilIface .nilIface).run P w=.ok () w:=fun op hop=>by
      rcases hop with rfl|rfl
      ·cases xo<;>cases yo<;>first|exact hgj|rfl
      ·cases xo<;>cases yo<;>first|exact hgj|rfl
     rcases hop with rfl|rfl
     ·rw[Sem.run_bind,hgd _ (.inl rfl)];simp[Go.binOp,Op.equal,Op.maxDepth,hq]
     ·rw[Sem.run_bind,hgd _ (.inr rfl)];simp[Go.binOp,Op.equal,Op.maxDepth,hq]
    ·rcases hop with rfl|rfl<;>simp[eqGuard,Go.binOp,Op.equal,Op.maxDepth,hq]
    ·rcases hop with rfl|rfl<;>simp[eqGuard,Go.binOp,Op.equal,Op.maxDepth,hq]
    ·cases hn
  split at h
  ·rename_i rb hnt
   split at h<;>try exact h.elim
   rename_i e sz by_ ze ty eg he hrow
   have hok:=hE.row _ _ hrow
   have hu:P.underlying t=some (.slice e):=hok.und
   have kn:rb.1=true→∀ (m:Mem) w0 R0 ρ w (xv yv:Value) (xo yo:Operand),Rep (RO w0 R0 ρ w m) ρ m.next w x xv→Rep (RO w0 R0 ρ w m) ρ m.next w y yv→(∃a l c l' c',xv=.slice a l c∧yv=.slice none l' c')∧(Op.equal t xv yv).run P w=.ok rb.2 w:=by
    intro hr m w0 R0 ρ w xv yv xo yo hx hy
    unfold nilTest at hnt
    split at hnt
    ·injection hnt with hnt;subst hnt
     rw[show xv=_ from hx,show yv=_ from hy]
     exact⟨⟨_,_,_,_,_,rfl,rfl⟩,run_equal_nil hu _ _ _ _ _ w⟩
    ·rename_i u l
     injection hnt with hnt;subst hnt
     obtain⟨a,cap,hxv,_,hel⟩:=hx
     injection hxv with hxv
     rw[hxv,show yv=_ from hy]
     have hne:0<List.length l:=by
      cases l with
      |nil=>cases hr
      |cons _ _=>simp
     obtain⟨b,o,rfl,_⟩:=hel hne
     exact⟨⟨_,_,_,_,_,rfl,rfl⟩,run_equal_nil hu _ _ _ _ _ w⟩
    ·injection hnt with hnt;subst hnt
     rw[show xv=_ from hx.2,show yv=_ from hy]
     exact⟨⟨_,_,_,_,_,rfl,rfl⟩,run_equal_nil hu _ _ _ _ _ w⟩
    ·injection hnt with hnt;subst hnt
     obtain⟨_,a,cap,hxv,_⟩:=hx
     rw[hxv,show yv=_ from hy]
     exact⟨⟨_,_,_,_,_,rfl,rfl⟩,run_equal_nil hu _ _ _ _ _ w⟩
    ·split at hnt
     ·injection hnt with hnt;subst hnt
      rw[show xv=_ from hx,show yv=_ from hy]
      exact⟨⟨_,_,_,_,_,rfl,rfl⟩,run_equal_nil hu _ _ _ _ _ w⟩
     ·injection hnt with hnt;subst hnt
      rw[show xv=_ from hx,show yv=_ from hy]
      exact⟨⟨_,_,_,_,_,rfl,rfl⟩,run_equal_nil hu _ _ _ _ _ w⟩
     ·cases hnt
    ·cases hnt
   split at h<;>try exact h.elim
   ·obtain⟨hr,h⟩:=h
    refine⟨_,h,fun m w0 R0 ρ w xv yv xo yo hx hy=>?_⟩
    obtain⟨⟨a,l,c,l',c',rfl,rfl⟩,h2⟩:=kn hr m w0 R0 ρ w xv yv xo yo hx hy
    exact⟨_,by simp only[eqGuard,Go.binOp,Sem.run_bind,Sem.run_pure,Result.andThen_ok,h2,pure_bind,Bool.not_true,Bool.false_eq_true,if_false],rfl⟩
   ·obtain⟨hr,h⟩:=h
    refine⟨_,h,fun m w0 R0 ρ w xv yv xo yo hx hy=>?_⟩
    obtain⟨⟨a,l,c,l',c',rfl,rfl⟩,h2⟩:=kn hr m w0 R0 ρ w xv yv xo yo hx hy
    exact⟨_,by simp only[eqGuard,Go.binOp,Sem.run_bind,Sem.run_pure,Result.andThen_ok,h2,pure_bind,Bool.not_true,Bool.false_eq_true,if_false],rfl⟩
  split at h
  ·rename_i de sz by_ ze ty he hrow
   split at h
   ·split at h
    ·rename_i b hb
     exact⟨_,h,fun m w0 R0 ρ w xv yv xo yo hx hy=>⟨_,key b .eql (.inl rfl) ⟨_,hrow,rfl⟩ hb m w0 R0 ρ w xv yv xo yo hx hy,rfl⟩⟩
    ·exact h.elim
   ·split at h
    ·rename_i b hb
     exact⟨_,h,fun m w0 R0 ρ w xv yv xo yo hx hy=>⟨_,key b .neq (.inr rfl) ⟨_,hrow,rfl⟩ hb m w0 R0 ρ w xv yv xo yo hx hy,rfl⟩⟩
    ·exact h.elim
   ·exact h.elim
  ·exact h.elim
theorem opUn_sound{op:UnOp}{x:SV}{p:Plan}{m:Mem}{κ:Kont α}(h:(opUn op x p m κ).holds L):
  ∃v,(κ v p m).holds L∧∀ (m:Mem) w0 R0 ρ w (xv:Value),Rep (RO w0 R0 ρ w m) ρ m.next w x xv→Plainly P m v (Op.unary op xv) w0 R0 ρ w:=by
 unfold opUn at h
 split at h
 ·exact⟨_,h,fun m w0 R0 ρ w xv hx=>by rw[show xv=_ from hx];exact⟨_,rfl,rfl⟩⟩
 ·exact⟨_,h,fun m w0 R0 ρ w xv hx=>by rw[show xv=_ from hx];exact⟨_,rfl,rfl⟩⟩
 ·exact⟨_,h,fun m w0 R0 ρ w xv hx=>by rw[show xv=_ from hx];exact⟨_,rfl,rfl⟩⟩
 ·exact h.elim
def RepDL(R:Nat→Prop)(w:World)(t:Ty):List t.T→List Value→Prop
 |[],vs=>vs=[]
 |x::xs,vs=>∃v1 v2,vs=v1++v2∧RepD R w t x v1∧RepDL R w t xs v2
theorem RepDL.append{R:Nat→Prop}{w:World}{t:Ty}:∀{xs ys:List t.T} {us vs:List Value},RepDL R w t xs us→RepDL R w t ys vs→RepDL R w t (xs++ys) (us++vs)
 |[],_,us,vs,h,k=>by rw[show us=[]from h];exact k
 |x::xs,ys,us,vs,h,k=>by
  obtain⟨v1,v2,rfl,h1,h2⟩:=h
  exact⟨v1,v2++vs,by simp,h1,RepDL.append h2 k⟩
theorem RepDL.length{R:Nat→Prop}{w:World}{t:Ty}:∀{xs:List t.T} {us:List Value},RepDL R w t xs us→us.length=xs.length*t.sz
 |[],us,h=>by rw[show us=[]from h];simp
 |x::xs,us,h=>by
  obtain⟨v1,v2,rfl,h1,h2⟩:=h
  rw[List.length_append,(RepD.flat (ρ:=fun _=>(0,0,0)) (n:=0) t x v1 h1).1,RepDL.length h2,List.length_cons,Nat.succ_mul,Nat.add_comm]
theorem RepDL.mono{R R':Nat→Prop}{w w':World}(hk:∀b,R b→R' b∧w'.heap[b]? =w.heap[b]?){t:Ty}:∀{xs:List t.T} {us:List Value},RepDL R w t xs us→RepDL R' w' t xs us
 |[],_,h=>h
 |x::xs,us,h=>by
  obtain⟨v1,v2,rfl,h1,h2⟩:=h
  exact⟨v1,v2,rfl,RepD.mono hk t _ _ h1,RepDL.mono hk h2⟩
def Elems(R:Nat→Prop)(w:World)(t:Ty)(l:List t.T)(g:Nat→Option Value):Prop:=
 ∀i (h:i<l.length),∃cs:List Value,cs.length=t.sz∧(∀j,j<t.sz→g (i*t.sz+j)=cs[j]?)∧RepD R w t l[i] cs
theorem RepDL.elems{R:Nat→Prop}{w:World}{t:Ty}:∀{xs:List t.T} {us:List Value},RepDL R w t xs us→Elems R w t xs fun k=>us[k]?
 |[],_,_,i,hi=>absurd hi (Nat.not_lt_zero _)
 |x::xs,us,h,0,hi=>by
  obtain⟨v1,v2,rfl,h1,h2⟩:=h
  have hl:=(RepD.flat (ρ:=fun _=>(0,0,0)) (n:=0) t x v1 h1).1
  exact⟨v1,hl,fun j hj=>by simp only[Nat.zero_mul,Nat.zero_add];rw[List.getElem?_append_left (by omega)],h1⟩
 |x::xs,us,h,i+1,hi=>by
  obtain⟨v1,v2,rfl,h1,h2⟩:=h
  have hl:=(RepD.flat (ρ:=fun _=>(0,0,0)) (n:=0) t x v1 h1).1
  obtain⟨cs,k1,k2,k3⟩:=RepDL.elems h2 i (by simpa using hi)
  refine⟨cs,k1,fun j hj=>?_,by simpa using k3⟩
  rw[←k2 j hj]
  dsimp only
  rw[List.getElem?_append_right (by rw[Nat.succ_mul];omega)]
  congr 1
  rw[Nat.succ_mul];omega
theorem Elems.repDL{R:Nat→Prop}{w:World}{t:Ty}:∀{xs:List t.T} {us:List Value},us.length=xs.length*t.sz→Elems R w t xs (fun k=>us[k]?)→RepDL R w t xs us
 |[],us,hl,_=>List.eq_nil_of_length_eq_zero (by simpa using hl)
 |x::xs,us,hl,h=>by
  rw[List.length_cons,Nat.succ_mul]at hl
  obtain⟨cs,k1,k2,k3⟩:=h 0 (by simp)
  have hcs:us.take t.sz=cs:=by
   apply List.ext_getElem?
   intro j
   by_cases hj:j<t.sz
   ·rw[List.getElem?_take,if_pos hj]
    have:=k2 j hj
    simpa using this
   ·rw[List.getElem?_take,if_neg hj,List.getElem?_eq_none (by omega)]
  refine⟨us.take t.sz,us.drop t.sz,(List.take_append_drop _ _).symm,by rw[hcs];exact k3,Elems.repDL (by rw[List.length_drop];omega) fun i hi=>?_⟩
  obtain⟨ds,d1,d2,d3⟩:=h (i+1) (by simpa using hi)
  refine⟨ds,d1,fun j hj=>?_,by simpa using d3⟩
  rw[←d2 j hj]
  dsimp only
  rw[List.getElem?_drop]
  congr 1
  rw[Nat.succ_mul];omega
theorem unflatN_repDL{R:Nat→Prop}{ρ:Rho}{n:Nat}{w:World}{t:Ty}:∀{k:Nat} {cs:List SV} {l:List t.T} {vs:List Value},unflatN t k cs=some l→RepL R ρ n w cs vs→RepDL R w t l vs∧l.length=k
 |0,cs,l,vs,h,hr=>by
  cases cs with
  |nil=>simp only[unflatN]at h;injection h with h;subst h;exact⟨hr,rfl⟩
  |cons c cs=>simp[unflatN]at h
 |k+1,cs,l,vs,h,hr=>by
  simp only[unflatN]at h
  cases h1:unflat t cs with
  |none=>rw[h1]at h;cases h
  |some q=>
   obtain⟨x,cs1⟩:=q
   rw[h1]at h
   dsimp only at h
   cases h2:unflatN t k cs1 with
   |none=>rw[h2]at h;cases h
   |some l'=>
    rw[h2]at h
    injection h with h
    subst h
    obtain⟨v1,v2,rfl,_,r1,r2⟩:=RepD.unflat t cs x cs1 vs h1 hr
    obtain⟨r3,r4⟩:=unflatN_repDL h2 r2
    exact⟨⟨v1,v2,rfl,r1,r3⟩,by simp[r4]⟩
theorem bytes_repDL{R:Nat→Prop}{w:World}:∀ (s:List UInt8),RepDL R w (.int .u8) (s.map fun b=>(b.toNat:Int):List Int) (s.map fun b=>Value.int .u8 b.toNat)
 |[] =>rfl
 |b::s=>⟨[_],_,rfl,rfl,bytes_repDL s⟩
theorem rows_repDL{w0:World}{R0:RSet}{ρ:Rho}{w:World}{m:Mem}(hm:MRel w0 R0 ρ w m){id:Nat}{u:Ty}{l:List u.T}(h:m.get id=some (.rows u l))(hc:0< (ρ id).2.2):
  ∃arr e fr,w.heap[(ρ id).1]? =some (.cells arr e fr)∧unfrozenT u e arr fr∧arr.size=(ρ id).2.2*u.sz∧RepDL (RO w0 R0 ρ w m) w u l (arr.toList.take (l.length*u.sz)):=by
 obtain⟨b1,b2,hp⟩:=hm.box id _ h
 obtain⟨arr,e,fr,h1,h2,h3,h4⟩:=hp hc
 have hle:l.length*u.sz≤arr.size:=by rw[h3];exact Nat.mul_le_mul_right _ b2
 refine⟨arr,e,fr,h1,h2,h3,Elems.repDL (by rw[List.length_take];simp;omega) fun i hi=>?_⟩
 obtain⟨cs,k1,k2,k3⟩:=h4 i hi
 refine⟨cs,k1,fun j hj=>?_,k3⟩
 have:i*u.sz+j<l.length*u.sz:=by
  have:(i+1)*u.sz≤l.length*u.sz:=Nat.mul_le_mul_right _ hi
  rw[Nat.succ_mul]at this;omega
 dsimp only
 rw[List.getElem?_take,if_pos this,←k2 j hj]
 simp
theorem boxRows_of{R:Nat→Prop}{ρ:Rho}{n:Nat}{w:World}{r:Nat×Nat×Nat}{u:Ty}{l:List u.T}{arr:Array Value}{e:TypeId}{fr:Nat×Nat}{vs rest:List Value}(h0:l.length=r.2.1)(h0':l.length≤r.2.2)
  (h1:w.heap[r.1]? =some (.cells arr e fr)) (h2:unfrozenT u e arr fr) (h3:arr.size=r.2.2*u.sz) (h4:arr.toList=vs++rest) (h5:RepDL R w u l vs):BoxRel R ρ n w r (.rows u l):=by
 refine⟨h0,h0',fun _=>⟨arr,e,fr,h1,h2,h3,fun i hi=>?_⟩⟩
 obtain⟨cs,k1,k2,k3⟩:=h5.elems i hi
 refine⟨cs,k1,fun j hj=>?_,k3⟩
 rw[←k2 j hj,←Array.getElem?_toList,h4]
 have:i*u.sz+j<vs.length:=by
  rw[h5.length]
  have:(i+1)*u.sz≤l.length*u.sz:=Nat.mul_le_mul_right _ hi
  rw[Nat.succ_mul]at this;omega
 rw[List.getElem?_append_left this]
theorem unfrozen_zero(arr:Array Value):unfrozen arr (0,0):=fun i _ h=>absurd h.2 (Nat.not_lt_zero _)
end
open Go.RowKit
section
variable {P:Program} {E:Env} {α:Type} {L:α→Prop}
abbrev Yields'(P:Program)(m:Mem)(v:SV)(m':Mem)(s:Sem Value)(w0:World)(R0:RSet)(ρ:Rho)(w:World):Prop:=
 ∃u w',s.run P w=.ok u w'∧OpOut w0 R0 ρ w m v m' u w'
theorem Plainly.yields{m:Mem}{v:SV}{s:Sem Value}{w0:World}{R0:RSet}{ρ:Rho}{w:World}(h:Plainly P m v s w0 R0 ρ w)(hm:MRel w0 R0 ρ w m):Yields' P m v m s w0 R0 ρ w:=
 let ⟨u,h1,h2⟩:=h
 ⟨u,w,h1,OpOut.same hm h2⟩
theorem elemsOf_cells{u:Ty}{m:Mem}{x:SV}{xs:List u.T}(h:elemsOf u m x=some xs){w0:World}{R0:RSet}{ρ:Rho}{w:World}{xv:Value}(hm:MRel w0 R0 ρ w m)(hx:Rep (RO w0 R0 ρ w m) ρ m.next w x xv):
  ∃vs,(Builtin.lenOf xv).run P w=.ok xs.length w∧(Builtin.firstCells u.sz xs.length xv).run P w=.ok ⟨vs⟩ w∧RepDL (RO w0 R0 ρ w m) w u xs vs:=by
 have hsz:∀ (t:Ty) (l:List t.T) (b o:Nat),Elems (RO w0 R0 ρ w m) w t l (fun k=>w.cell? ⟨b,o+k,none⟩)→∃vs:List Value,(Go.loadCells ⟨b,o,none⟩ (l.length*t.sz)).run P w=.ok ⟨vs⟩ w∧RepDL (RO w0 R0 ρ w m) w t l vs:=by
  intro t l b o hel
  have hcell:∀k,k<l.length*t.sz→∃v,w.cell? ⟨b,o+k,none⟩=some v:=by
   intro k hk
   have hpos:0<t.sz:=by
    rcases Nat.eq_zero_or_pos t.sz with h0|h0
    ·rw[h0]at hk;omega
    ·exact h0
   have hdm:=Nat.div_add_mod k t.sz
   have hmod:=Nat.mod_lt k hpos
   have hi:k / t.sz<l.length:=Nat.div_lt_of_lt_mul (by rwa [Nat.mul_comm])
   obtain⟨cs,c1,c2,_⟩:=hel (k / t.sz) hi
   have:=c2 (k % t.sz) hmod
   dsimp only at this
   rw[show k / t.sz*t.sz+k % t.sz=k by rw[Nat.mul_comm];exact hdm]at this
   rw[this,List.getElem?_eq_getElem (by omega)]
   exact⟨_,rfl⟩
  obtain⟨f,hf⟩:∃f:Nat→Value,∀k,k<l.length*t.sz→w.cell? ⟨b,o+k,none⟩=some (f k):=
   ⟨fun k=>if hk:k<l.length*t.sz then(hcell k hk).choose else default,fun k hk=>by simp only[hk,dite_true];exact(hcell k hk).choose_spec⟩
  refine⟨(List.range (l.length*t.sz)).map f,run_loadCells w ⟨b,o,none⟩ _ f (fun j hj=>by rw[Addr.add_lit];exact hf j hj),Elems.repDL (by simp) fun i hi=>?_⟩
  obtain⟨cs,c1,c2,c3⟩:=hel i hi
  refine⟨cs,c1,fun j hj=>?_,c3⟩
  have:i*t.sz+j<l.length*t.sz:=by
   have:(i+1)*t.sz≤l.length*t.sz:=Nat.mul_le_mul_right _ hi
   rw[Nat.succ_mul]at this;omega
  rw[←c2 j hj]
  dsimp only
  rw[hf _ this]
  simp[this]
 cases x<;>simp only[elemsOf]at h<;>try(cases h;done)
 case nilS=>
  injection h with h
  subst h
  rw[show xv=_ from hx]
  exact⟨[],rfl,by simp[Builtin.firstCells],rfl⟩
 case list t l=>
  split at h
  ·rename_i ht
   injection h with h
   subst ht
   dsimp only at h
   subst h
   obtain⟨a,cap,hxv,hc,hel⟩:=hx
   injection hxv with hxv
   subst hxv
   rcases Nat.eq_zero_or_pos (List.length l)with h0|h0
   ·have:l=[] :=List.eq_nil_of_length_eq_zero h0
    subst this
    refine⟨[],rfl,?_,rfl⟩
    cases a<;>simp[Builtin.firstCells,Go.loadCells,loadCellsFrom]
   ·obtain⟨b,o,rfl,hR,hall⟩:=hel h0
    obtain⟨vs,h1,h2⟩:=hsz t l b o (fun i hi=>hall i hi)
    exact⟨vs,rfl,h1,h2⟩
  ·cases h
 case row id=>
  split at h
  ·rename_i t l hg
   split at h
   ·rename_i ht
    injection h with h
    subst ht
    dsimp only at h
    subst h
    obtain⟨hid,a,rfl,ha⟩:=hx
    obtain⟨b1,b2,hp⟩:=hm.box id _ hg
    rcases Nat.eq_zero_or_pos (ρ id).2.2 with h0|h0
    ·have hl:l=[] :=List.eq_nil_of_length_eq_zero (by omega)
     subst hl
     refine⟨[],by rw[←b1];rfl,?_,rfl⟩
     cases a<;>simp[Builtin.firstCells,Go.loadCells,loadCellsFrom]
    ·obtain rfl:=ha h0
     obtain⟨arr,e,fr,h1,h2,h3,h4⟩:=hp h0
     obtain⟨vs,k1,k2⟩:=hsz t l (ρ id).1 0 (fun i hi=>by
      obtain⟨cs,c1,c2,c3⟩:=h4 i hi
      exact⟨cs,c1,fun j hj=>by dsimp only;rw[Nat.zero_add,cell_of_row w _ _ arr e fr h1];exact c2 j hj,c3⟩)
     exact⟨vs,by rw[←b1];rfl,k1,k2⟩
   ·cases h
  ·cases h
 case arr id off n=>
  split at h
  ·rename_i cs hg
   obtain⟨hid,rfl⟩:=hx
   obtain⟨arr,e,fr,h1,h2,h3⟩:=hm.box id _ hg
   have hr:=(h3.drop off).take (n*u.sz)
   obtain⟨hd,hl⟩:=unflatN_repDL h hr
   have hlen:=hd.length
   rw[hl]at hlen ⊢
   refine⟨(arr.toList.drop off).take (n*u.sz),rfl,?_,hd⟩
   have:=run_loadCells_list (P:=P) w ⟨(ρ id).1,off,none⟩ ((arr.toList.drop off).take (n*u.sz)) (fun j v hj=>by
    rw[Addr.add_lit,cell_of_row w _ _ arr e fr h1]
    have hjl:j<n*u.sz:=by have:=(List.getElem?_eq_some_iff.1 hj).1;omega
    rw[List.getElem?_take,if_pos hjl,List.getElem?_drop]at hj
    simpa using hj)
   rw[hlen]at this
   exact this
  ·cases h
 case str s=>
  split at h
  ·rename_i ht
   injection h with h
   subst ht
   dsimp only at h
   subst h
   rw[show xv=_ from hx]
   have hl:List.length (List.map (fun b:UInt8=>(b.toNat:Int)) s)=s.length:=List.length_map _
   refine⟨_,?_,?_,bytes_repDL s⟩
   ·show Result.ok s.length w=Result.ok (List.length (List.map (fun b:UInt8=>(b.toNat:Int)) s)) w
    rw[hl]
   ·show(Builtin.firstCells 1 (List.length (List.map (fun b:UInt8=>(b.toNat:Int)) s)) _).run P w=_
    rw[hl]
    simp only[Builtin.firstCells,Sem.run_pure,Result.ok.injEq,and_true]
    apply Array.ext'
    simp[Lib.extract_data]
  ·cases h
 case raw v=>
  split at h
  ·rename_i a cap
   injection h with h
   subst h
   rw[show xv=_ from hx]
   refine⟨[],rfl,?_,rfl⟩
   cases a with
   |none=>simp[Builtin.firstCells,Go.loadCells]
   |some a=>
    simp[Builtin.firstCells,Go.loadCells]
    rfl
  ·cases h
theorem vsl_cells{w0:World}{R0:RSet}{ρ:Rho}{w:World}{m:Mem}(hm:MRel w0 R0 ρ w m){id off n lb z:Nat}{ex:Bool}{cs:List SV}(hg:m.get id=some (.vec cs))(hl:n*z=0∨off+n*z≤cs.length){xv:Value}(hx:Rep (RO w0 R0 ρ w m) ρ m.next w (.vsl id off n lb z ex) xv):
  ∃a cap vs,xv=.slice (some a) n cap∧(Go.loadCells a (n*z)).run P w=.ok ⟨vs⟩ w∧RepL (RO w0 R0 ρ w m) ρ m.next w ((cs.drop off).take (n*z)) vs:=by
 obtain⟨hid,a,cap,rfl,h1,h2,_,h4,h5⟩:=hx
 rcases Nat.eq_zero_or_pos (n*z)with h0|h0
 ·exact⟨a,cap,[],rfl,by rw[h0];rfl,by rw[h0];simp[RepL]⟩
 ·have hn:0<n:=Nat.pos_of_mul_pos_right h0
  obtain rfl:=h4 (by omega)
  obtain⟨us,k1,k2⟩:=run_loadCells_at (P:=P) (vec_cells hm hg) hl
  exact⟨_,cap,us,rfl,k1,k2⟩
theorem bytesOf_cells{m:Mem}{x:SV}{s:List UInt8}(h:bytesOf m x=some s){w0:World}{R0:RSet}{ρ:Rho}{w:World}{xv:Value}(hm:MRel w0 R0 ρ w m)(hx:Rep (RO w0 R0 ρ w m) ρ m.next w x xv):
  (∃a l c,xv=.slice a l c)∧(Conv.bytesToString xv).run P w=.ok (.string ⟨⟨s⟩⟩) w:=by
 have key:∀ (l:List Int) (vs:List Value),RepDL (RO w0 R0 ρ w m) w (.int .u8) l vs→vs=l.map (Value.int .u8):=by
  intro l
  induction l with
  |nil=>intro vs h;exact h
  |cons n l ih=>
   intro vs h
   obtain⟨v1,v2,rfl,h1,h2⟩:=h
   rw[show v1=_ from h1,ih v2 h2];rfl
 have fin:∀ (ns:List Int) (a:Addr) (len cap:Nat) (vs:List Value),(Go.loadCells a len).run P w=.ok ⟨vs⟩ w→vs=ns.map (Value.int .u8)→(Conv.bytesToString (.slice (some a) len cap)).run P w=.ok (.string ⟨⟨ns.map fun n=>UInt8.ofNat n.toNat⟩⟩) w:=by
  intro ns a len cap vs h1 h2
  subst h2
  rw[run_bytesToString w a len cap ns h1,foldl_push_bytes]
  simp[ByteArray.empty,ByteArray.emptyWithCapacity]
  rfl
 cases x<;>simp only[bytesOf]at h<;>try(cases h;done)
 case nilS=>
  injection h with h
  subst h
  rw[show xv=_ from hx]
  exact⟨⟨_,_,_,rfl⟩,rfl⟩
 case list t l=>
  cases t<;>try(cases h;done)
  case int k=>
   cases k<;>try(cases h;done)
   case u8=>
    injection h with h
    have he:elemsOf (.int .u8) m (.list (.int .u8) l)=some l:=by simp[elemsOf]
    obtain⟨vs,h1,h2,h3⟩:=elemsOf_cells (P:=P) he hm hx
    obtain⟨a,cap,hxv,hc,hel⟩:=hx
    injection hxv with hxv
    subst hxv
    refine⟨⟨_,_,_,rfl⟩,?_⟩
    cases a with
    |none=>
     have:List.length (l:List Int)=0:=by
      rcases Nat.eq_zero_or_pos (List.length (l:List Int))with h0|h0
      ·exact h0
      ·obtain⟨b,o,hb,_⟩:=hel h0;cases hb
     have:(l:List Int)=[] :=List.eq_nil_of_length_eq_zero this
     rw[←h,this];rfl
    |some a=>
     rw[←h]
     exact fin _ _ _ _ _ (by simpa[Builtin.firstCells,Ty.sz]using h2) (key _ _ h3)
 case row id=>
  split at h
  ·rename_i l hg
   injection h with h
   have he:elemsOf (.int .u8) m (.row id)=some l:=by simp[elemsOf,hg]
   obtain⟨vs,h1,h2,h3⟩:=elemsOf_cells (P:=P) he hm hx
   obtain⟨hid,a,rfl,ha⟩:=hx
   obtain⟨b1,b2,hp⟩:=hm.box id _ hg
   refine⟨⟨_,_,_,rfl⟩,?_⟩
   cases a with
   |none=>
    have hc:¬0< (ρ id).2.2:=fun hc=>by have:=ha hc;cases this
    have:(l:List Int)=[] :=List.eq_nil_of_length_eq_zero (by omega)
    rw[←h,this];rfl
   |some a=>
    rw[←h]
    refine fin _ _ _ _ _ (by rw[←b1];simpa[Builtin.firstCells,Ty.sz]using h2) (key _ _ h3)
  ·cases h
 case arr id off n=>
  split at h
  ·rename_i cs hg
   split at h
   ·rename_i l hl
    injection h with h
    have he:elemsOf (.int .u8) m (.arr id off n)=some l:=by simp only[elemsOf,hg];exact hl
    have hln:List.length (l:List Int)=n:=by
     obtain⟨arr,e,fr,h1,h2,h3⟩:=hm.box id _ hg
     exact(unflatN_repDL hl ((h3.drop off).take (n*(Ty.int .u8).sz))).2
    obtain⟨vs,h1,h2,h3⟩:=elemsOf_cells (P:=P) he hm hx
    obtain⟨hid,rfl⟩:=hx
    refine⟨⟨_,_,_,rfl⟩,?_⟩
    rw[←h]
    refine fin _ _ _ _ _ (by rw[←hln];simpa[Builtin.firstCells,Ty.sz]using h2) (key _ _ h3)
   ·cases h
  ·cases h
 case vsl id off n lb z ex=>
  split at h
  ·rename_i hz
   obtain rfl:=Nat.eq_of_beq_eq_true hz
   split at h
   ·rename_i cs hg
    split at h
    ·rename_i l hl
     injection h with h
     have hbox:=hm.box id _ hg
     obtain⟨arr,e,fr,g1,g2,g3,g4,g5⟩:=hbox
     obtain⟨d1,d2⟩:=unflatN_repDL hl ((g5.drop off).take n)
     have hlen:n=0∨off+n≤cs.length:=by
      have e1:=d1.length
      have e2:=((g5.drop off).take n).length
      simp only[Ty.sz,Nat.mul_one]at e1
      rw[e1,d2]at e2
      simp only[List.length_take,List.length_drop]at e2
      omega
     obtain⟨a,cap,vs,rfl,k1,k2⟩:=vsl_cells (P:=P) hm hg (by simpa using hlen) hx
     refine⟨⟨_,_,_,rfl⟩,?_⟩
     rw[←h]
     rw[Nat.mul_one]at k1 k2
     refine fin _ _ _ _ _ k1 (key _ _ (unflatN_repDL hl k2).1)
    ·cases h
   ·cases h
  ·cases h
theorem push_rows{w0:World}{R0:RSet}{ρ:Rho}{w w1:World}{m m':Mem}{u:Ty}{l:List u.T}{arr:Array Value}{e:TypeId}{fr:Nat×Nat}{vs rest:List Value}{cap:Nat}(hm:MRel w0 R0 ρ w m)(hp:MPush m (.rows u l) m')
  (hos:w1.os=w.os) (ht:w1.tape=w.tape) (hpu:w1.output=w.output) (hsz:w1.heap.size=w.heap.size+1) (hold:∀k,k<w.heap.size→w1.heap[k]? =w.heap[k]?) (hnew:w1.heap[w.heap.size]? =some (.cells arr e fr))
  (hu:unfrozenT u e arr fr) (ha:arr.size=cap*u.sz) (hl:l.length≤cap) (hv:arr.toList=vs++rest) (hd:RepDL (RO w0 R0 ρ w m) w u l vs):
  OpOut w0 R0 ρ w m (.row m.next) m' (.slice (some ⟨w.heap.size,0,none⟩) l.length cap) w1:=by
 obtain⟨h1,h2⟩:=hm.push (w':=w1) (r:=(w.heap.size,l.length,cap)) hp hos ht hpu (by omega) hold (fun _=>⟨Nat.le_refl _,by show w.heap.size<_;omega⟩)
  (fun R n ρ' e'=>boxRows_of rfl hl hnew hu ha hv (RepDL.mono e'.keep hd))
 refine⟨_,h1,h2,by rw[hp.2];omega,_,by rw[upd_same],fun _=>by rw[upd_same]⟩
theorem push_vec{w0:World}{R0:RSet}{ρ:Rho}{w w1:World}{m m':Mem}{cs:List SV}{arr:Array Value}{e:TypeId}{fr:Nat×Nat}{vs rest:List Value}{n lb cap z:Nat}{ex:Bool}(hm:MRel w0 R0 ρ w m)(hp:MPush m (.vec cs) m')
  (hos:w1.os=w.os) (ht:w1.tape=w.tape) (hpu:w1.output=w.output) (hsz:w1.heap.size=w.heap.size+1) (hold:∀k,k<w.heap.size→w1.heap[k]? =w.heap[k]?) (hnew:w1.heap[w.heap.size]? =some (.cells arr e fr))
  (hu:unfrozen arr fr) (hv:arr.toList=vs++rest) (hr:RepL (RO w0 R0 ρ w m) ρ m.next w cs vs) (h1:n≤lb) (h2:lb≤cap) (h3:ex=true→cap=lb) (h4:cap*z≤arr.size):
  OpOut w0 R0 ρ w m (.vsl m.next 0 n lb z ex) m' (.slice (some ⟨w.heap.size,0,none⟩) n cap) w1:=by
 have hl:=hr.length
 have hal:arr.size=vs.length+rest.length:=by rw[←Array.length_toList,hv,List.length_append]
 obtain⟨k1,k2⟩:=hm.push (w':=w1) (r:=(w.heap.size,0,arr.size)) hp hos ht hpu (by omega) hold (fun _=>⟨Nat.le_refl _,by show w.heap.size<_;omega⟩)
  (fun R n ρ' e'=>⟨arr,e,fr,hnew,hu,(Nat.zero_add _).symm,by show cs.length≤arr.size;omega,by
    show RepL R ρ' n w1 cs ((arr.toList.drop 0).take cs.length)
    rw[List.drop_zero,hv,←hl,List.take_left]
    exact RepL.mono e' _ _ hr⟩)
 refine⟨_,k1,k2,by rw[hp.2];omega,_,cap,rfl,h1,h2,h3,fun _=>by rw[upd_same],by rw[upd_same];show 0+cap*z≤arr.size;omega⟩
theorem bytes_repL{R:Nat→Prop}{ρ:Rho}{n:Nat}{w:World}:∀ (s:List UInt8),RepL R ρ n w (s.map fun b=>SV.int .u8 b.toNat) (s.map fun b=>Value.int .u8 b.toNat)
 |[] =>rfl
 |_::s=>⟨_,_,rfl,rfl,bytes_repL s⟩
theorem opConv_sound(hE:EOK P E){src dst:TypeId}{x:SV}{p:Plan}{m:Mem}{κ:Kont α}(h:(opConv E src dst x p m κ).holds L):
  ∃v m',(κ v p m').holds L∧((∀r e,E.row dst=some r→r.desc≠.slice e)→m'=m)∧∀w0 R0 ρ w (xv:Value),MRel w0 R0 ρ w m→Rep (RO w0 R0 ρ w m) ρ m.next w x xv→Yields' P m v m' (Go.convert src dst xv) w0 R0 ρ w:=by
 unfold opConv at h
 split at h
 ·rename_i rs rd hs hd
  have hus:=(hE.row _ _ hs).und
  have hud:=(hE.row _ _ hd).und
  split at h
  ·rename_i k k' n hdd
   rw[hdd]at hud
   refine⟨_,m,h,fun _=>rfl,fun w0 R0 ρ w xv hm hx=>Plainly.yields ⟨_,?_,rfl⟩ hm⟩
   rw[show xv=_ from hx]
   simp only[Go.convert,Sem.run_bind,run_underlying hus,run_underlying hud,Result.andThen_ok,Conv.intToInt,Sem.run_pure]
  ·rename_i s hdd
   rw[hdd]at hud
   refine⟨_,m,h,fun _=>rfl,fun w0 R0 ρ w xv hm hx=>Plainly.yields ⟨_,?_,rfl⟩ hm⟩
   rw[show xv=_ from hx]
   simp only[Go.convert,Sem.run_bind,run_underlying hus,run_underlying hud,Result.andThen_ok,Sem.run_pure]
  ·rename_i e s hss hdd
   rw[hss]at hus
   rw[hdd]at hud
   split at h
   ·rename_i sz by_ ze ty eg he hrow
    have hue:=(hE.row _ _ hrow).und
    dsimp only at hue
    split at h
    case h_2=>exact h.elim
    rename_i hsz1
    split at h
    case h_2=>
     rw[frcL_eq]at h
     obtain⟨m',h1,h2⟩:=Mem.push_holds h
     refine⟨_,m',h2,fun hne=>absurd hdd (hne _ _ hd),fun w0 R0 ρ w xv hm hx=>?_⟩
     rw[show xv=_ from hx]
     refine⟨_,_,Lib.run_convert_string_bytes w src dst e ⟨⟨s⟩⟩ hus hud hue,?_⟩
     have hcap:s.length≤grownCap w s.length 0 e:=Nat.le_add_right _ _
     exact push_vec (w1:=Lib.bytesWorld w e ⟨⟨s⟩⟩) (cap:=grownCap w s.length 0 e) (arr:=Lib.bytesCells w e ⟨⟨s⟩⟩) (vs:=s.map fun b=>Value.int .u8 b.toNat) (rest:=(Array.replicate (grownCap w s.length 0 e-s.length) (.int .u8 0)).toList) hm h1 rfl rfl rfl (Lib.bytesWorld_size w e _) (fun k hk=>Lib.bytesWorld_at_old w e _ k hk) (Lib.bytesWorld_at_new w e _)
      (fun i hi hh=>by have:=hh.1;dsimp only at this;omega) (by simp only[Lib.bytesCells,Array.toList_append,Array.toList_map];rfl) (bytes_repL s) (Nat.le_refl _) hcap (fun hc=>by cases hc) (by simp[Lib.bytesCells,ByteArray.size];omega)
    obtain⟨m',h1,h2⟩:=Mem.push_holds h
    refine⟨_,m',h2,fun hne=>absurd hdd (hne _ _ hd),fun w0 R0 ρ w xv hm hx=>?_⟩
    rw[show xv=_ from hx]
    have hl:List.length (List.map (fun b:UInt8=>(b.toNat:Int)) s)=s.length:=List.length_map _
    refine⟨_,_,Lib.run_convert_string_bytes w src dst e ⟨⟨s⟩⟩ hus hud hue,?_⟩
    have hcap:s.length≤grownCap w s.length 0 e:=Nat.le_add_right _ _
    have key:=push_rows (w1:=Lib.bytesWorld w e ⟨⟨s⟩⟩) (u:=.int .u8) (l:=List.map (fun b:UInt8=>(b.toNat:Int)) s) (cap:=grownCap w s.length 0 e) (arr:=Lib.bytesCells w e ⟨⟨s⟩⟩) (rest:=(Array.replicate (grownCap w s.length 0 e-s.length) (.int .u8 0)).toList) hm h1 rfl rfl rfl (Lib.bytesWorld_size w e _) (fun k hk=>Lib.bytesWorld_at_old w e _ k hk) (Lib.bytesWorld_at_new w e _)
     ⟨fun i hi hh=>by have:=hh.1;dsimp only at this;omega,fun _=>(hE.row _ _ hrow).el (.inr rfl) (by simpa using hsz1)⟩ (by simp[Lib.bytesCells,Ty.sz,ByteArray.size];omega) (by show List.length (List.map (fun b:UInt8=>(b.toNat:Int)) s)≤_;rw[hl];exact hcap) (vs:=s.map fun b=>Value.int .u8 b.toNat)
     (by simp only[Lib.bytesCells,Array.toList_append,Array.toList_map];rfl) (bytes_repDL s)
    have e2:(Value.slice (some ⟨w.heap.size,0,none⟩) (List.length (List.map (fun b:UInt8=>(b.toNat:Int)) s)) (grownCap w s.length 0 e))=.slice (some ⟨w.heap.size,0,none⟩) s.length (grownCap w s.length 0 e):=by rw[hl]
    exact e2▸key
   ·exact h.elim
  ·rename_i e hss hdd _
   rw[hss]at hus
   rw[hdd]at hud
   split at h
   ·rename_i sz by_ ze ty eg he hrow
    have hue:=(hE.row _ _ hrow).und
    dsimp only at hue
    split at h
    ·rename_i s hb
     refine⟨_,m,h,fun _=>rfl,fun w0 R0 ρ w xv hm hx=>Plainly.yields ⟨.string ⟨⟨s⟩⟩,?_,rfl⟩ hm⟩
     obtain⟨⟨a,l,c,rfl⟩,hrun⟩:=bytesOf_cells (P:=P) hb hm hx
     rw[run_convert_bytes_string w src dst e a l c hus hue hud,hrun]
    ·exact h.elim
   ·exact h.elim
  ·exact h.elim
 ·exact h.elim
end
open Go.RowKit
section
variable {P:Program} {E:Env} {α:Type} {L:α→Prop}
theorem opExtract_sound{x:SV}{i:Nat}{p:Plan}{m:Mem}{κ:Kont α}(h:(opExtract x i p m κ).holds L):
  ∃v,(κ v p m).holds L∧∀ (m:Mem) w0 R0 ρ w (xv:Value),Rep (RO w0 R0 ρ w m) ρ m.next w x xv→Plainly P m v (Instr.extract xv i) w0 R0 ρ w:=by
 unfold opExtract at h
 split at h
 ·rename_i vs
  split at h
  ·rename_i v hv
   rw[nth_eq]at hv
   rw[frc_eq]at h
   refine⟨v,h,fun m w0 R0 ρ w xv hx=>?_⟩
   obtain⟨us,rfl,hus⟩:=hx
   obtain⟨u,h1,h2⟩:=hus.get hv
   refine⟨u,?_,h2⟩
   have:(⟨us⟩:Array Value)[i]? =some u:=by simpa using h1
   simp only[Instr.extract,this,Sem.run_pure]
  ·exact h.elim
 ·exact h.elim
theorem sliceBound_ok{k:IntKind}{i:Int}{y:Nat}{code:BoundsCode}(h:0≤i∧i≤y)(w:World):(Instr.sliceBound (.int k i) y code).run P w=.ok i.toNat w:=by
 simp only[Instr.sliceBound,asIntOf,Sem.run_bind,Sem.run_pure,Result.andThen_ok,if_pos h]
abbrev OptRep(R:Nat→Prop)(ρ:Rho)(n:Nat)(w:World)(x:Option SV)(v:Option Value):Prop:=
 match x,v with
 |some x,some v=>Rep R ρ n w x v
 |none,none=>True
 |_,_=>False
theorem cut_bounds{γ:Type}{l:List γ}{lo hi:Option SV}{bl:Bool×List γ}(h:cut l lo hi=some bl)(hb:bl.1=true)(isSlice:Bool)(cap:Nat)(hcap:l.length≤cap)(hs:isSlice=false→cap=l.length){R:Nat→Prop}{ρ:Rho}{n:Nat}{w:World}{lv hv:Option Value}
  (hl:OptRep R ρ n w lo lv) (hh:OptRep R ρ n w hi hv):
  ∃a b,(Instr.sliceBounds isSlice l.length cap lv hv none).run P w=.ok (a,b,cap) w∧a≤b∧b≤l.length∧bl.2=(l.take b).drop a:=by
 unfold cut at h
 split at h
 ·injection h with h;subst h
  cases lv<;>cases hv<;>simp[OptRep]at hl hh
  exact⟨0,l.length,by simp[Instr.sliceBounds],Nat.zero_le _,Nat.le_refl _,by simp⟩
 ·rename_i k a
  injection h with h;subst h
  simp only[Bool.and_eq_true,decide_eq_true_eq]at hb
  cases lv with
  |none=>exact hl.elim
  |some v=>
   cases hv<;>simp[OptRep]at hh
   obtain rfl:v=_:=hl
   refine⟨a.toNat,l.length,?_,by omega,Nat.le_refl _,by simp⟩
   simp[Instr.sliceBounds,sliceBound_ok (P:=P) (k:=k) (i:=a) (y:=l.length) (code:=.sliceB) hb w]
 ·rename_i k b
  injection h with h;subst h
  simp only[Bool.and_eq_true,decide_eq_true_eq]at hb
  cases hv with
  |none=>exact hh.elim
  |some v=>
   cases lv<;>simp[OptRep]at hl
   obtain rfl:v=_:=hh
   refine⟨0,b.toNat,?_,by omega,by omega,by simp⟩
   cases isSlice<;>simp[Instr.sliceBounds,sliceBound_ok (P:=P) (k:=k) (i:=b) (y:=cap) (code:=.sliceAcap) (by omega) w,sliceBound_ok (P:=P) (k:=k) (i:=b) (y:=cap) (code:=.sliceAlen) (by omega) w]
 ·rename_i k a k' b
  injection h with h;subst h
  simp only[Bool.and_eq_true,decide_eq_true_eq]at hb
  cases lv with
  |none=>exact hl.elim
  |some v=>
   cases hv with
   |none=>exact hh.elim
   |some u=>
    obtain rfl:v=_:=hl
    obtain rfl:u=_:=hh
    obtain⟨⟨⟨h1,h2⟩,h3⟩,h4⟩:=hb
    have hb2:a≤((b.toNat:Nat):Int):=by omega
    refine⟨a.toNat,b.toNat,?_,by omega,by omega,by simp⟩
    cases isSlice<;>simp[Instr.sliceBounds,sliceBound_ok (P:=P) (k:=k') (i:=b) (y:=cap) (code:=.sliceAcap) (by omega) w,sliceBound_ok (P:=P) (k:=k') (i:=b) (y:=cap) (code:=.sliceAlen) (by omega) w,
     sliceBound_ok (P:=P) (k:=k) (i:=a) (y:=b.toNat) (code:=.sliceB) ⟨h3,hb2⟩ w]
 ·cases h
theorem elems_cut{R:Nat→Prop}{w:World}{u:Ty}{l:List u.T}{b o a e:Nat}(h:∀i (h:i<List.length l),∃cs:List Value,cs.length=u.sz∧(∀j,j<u.sz→w.cell? ⟨b,o+(i*u.sz+j),none⟩=cs[j]?)∧RepD R w u (List.get l ⟨i,h⟩) cs):
  ∀i (h:i<List.length ((l.take e).drop a)),∃cs:List Value,cs.length=u.sz∧(∀j,j<u.sz→w.cell? ⟨b,(o+a*u.sz)+(i*u.sz+j),none⟩=cs[j]?)∧RepD R w u (List.get ((l.take e).drop a) ⟨i,h⟩) cs:=by
 intro i hi
 have hi':a+i<l.length:=by rw[List.length_drop,List.length_take]at hi;omega
 obtain⟨cs,h1,h2,h3⟩:=h (a+i) hi'
 refine⟨cs,h1,fun j hj=>?_,?_⟩
 ·rw[←h2 j hj]
  congr 2
  rw[Nat.add_mul];omega
 ·have:List.get ((l.take e).drop a) ⟨i,hi⟩=List.get l ⟨a+i,hi'⟩:=by simp
  rw[this];exact h3
theorem opSlice_sound(hE:EOK P E){t:TypeId}{x:SV}{lo hi mx:Option SV}{p:Plan}{m:Mem}{κ:Kont α}(h:(opSlice E t x lo hi mx p m κ).holds L):
  ∃v m',(κ v p m').holds L∧(mx=none→m'=m)∧∀w0 R0 ρ w (xv:Value) (lv hv mv:Option Value),MRel w0 R0 ρ w m→Rep (RO w0 R0 ρ w m) ρ m.next w x xv→OptRep (RO w0 R0 ρ w m) ρ m.next w lo lv→OptRep (RO w0 R0 ρ w m) ρ m.next w hi hv→OptRep (RO w0 R0 ρ w m) ρ m.next w mx mv→
   Yields' P m v m' (Instr.sliceAt t xv lv hv mv) w0 R0 ρ w:=by
 unfold opSlice at h
 split at h
 ·rename_i r hr
  have hu:=(hE.row _ _ hr).und
  split at h
  · -- a string
    rename_i s hd
    rw[hd]at hu
    split at h
    ·rename_i bl hbl
     obtain⟨hb,h⟩:=h
     refine⟨_,m,h,fun _=>rfl,fun w0 R0 ρ w xv lv hv mv hm hx hl hh hmx=>Plainly.yields ⟨.string ⟨⟨bl.2⟩⟩,?_,rfl⟩ hm⟩
     rw[show xv=_ from hx]
     cases mv with
     |some _=>exact hmx.elim
     |none=>
      obtain⟨a,b,h1,h2,h3,h4⟩:=cut_bounds (P:=P) hbl hb false s.length (Nat.le_refl _) (fun _=>rfl) hl hh
      have hsz:(ByteArray.mk ⟨s⟩).size=s.length:=rfl
      simp only[Instr.sliceAt,Instr.slice,Sem.run_bind,run_underlying hu,Result.andThen_ok,Option.isSome_none,Bool.false_eq_true,if_false,hsz,Sem.run_pure,h1,Result.ok.injEq,and_true,Value.string.injEq]
      rw[Lib.extract_eq,h4,List.drop_take]
    ·exact h.elim
  · -- a slice
    rename_i e u xs hd
    rw[hd]at hu
    split at h
    ·rename_i re hre
     have hok:=hE.row _ _ hre
     split at h
     ·rename_i hs
      have hs':re.size=u.sz:=by simpa using hs
      split at h
      ·rename_i bl hbl
       obtain⟨hb,h⟩:=h
       refine⟨_,m,h,fun _=>rfl,fun w0 R0 ρ w xv lv hv mv hm hx hl hh hmx=>?_⟩
       cases mv with
       |some _=>exact hmx.elim
       |none=>
        obtain⟨A,cap,hxv,hc,hel⟩:=hx
        injection hxv with hxv
        subst hxv
        obtain⟨a,b,h1,h2,h3,h4⟩:=cut_bounds (P:=P) hbl hb true cap hc (fun h=>by cases h) hl hh
        refine Plainly.yields ⟨.slice (if cap=a then A else A.map (·.add (a*u.sz))) (b-a) (cap-a),?_,?_⟩ hm
        ·simp only[Instr.sliceAt,Instr.slice,Sem.run_bind,run_underlying hu,Result.andThen_ok,h1,run_sizeOf' hok,hs',Sem.run_pure]
        ·have hlen:List.length bl.2=b-a:=by rw[h4,List.length_drop,List.length_take,Nat.min_eq_left h3]
         refine⟨_,cap-a,by rw[hlen],by rw[hlen];omega,fun hp=>?_⟩
         obtain⟨B,o,rfl,hR,hall⟩:=hel (by omega)
         rw[if_neg (by omega)]
         refine⟨B,o+a*u.sz,by simp[Addr.add_lit],hR,?_⟩
         have:=elems_cut (a:=a) (e:=b) hall
         rw[←h4]at this
         exact this
      ·exact h.elim
     ·exact h.elim
    ·exact h.elim
  · -- a whole array behind a pointer
    rename_i n e id off hd
    rw[hd]at hu
    split at h
    ·rename_i re hre
     have hok:=hE.row _ _ hre
     refine⟨_,m,h,fun _=>rfl,fun w0 R0 ρ w xv lv hv mv hm hx hl hh hmx=>?_⟩
     cases lv<;>cases hv<;>cases mv<;>first|exact hl.elim|exact hh.elim|exact hmx.elim|skip
     obtain⟨hid,rfl⟩:=hx
     refine Plainly.yields ⟨.slice (some ⟨(ρ id).1,off,none⟩) n n,?_,hid,rfl⟩ hm
     simp[Instr.sliceAt,run_underlying hu,Instr.sureAddr,Instr.sliceBounds,run_sizeOf' hok,Addr.add]
    ·exact h.elim
  ·exact h.elim
 ·rename_i r mx' hr
  have hu:=(hE.row _ _ hr).und
  split at h
  ·rename_i e k h' k' c hd
   rw[hd]at hu
   split at h
   ·rename_i de sz by_ ze u eg he hre
    have hok:=hE.row _ _ hre
    split at h
    ·rename_i hs
     simp only[Bool.and_eq_true,beq_iff_eq]at hs
     obtain⟨hb,h⟩:=h
     simp only[Bool.and_eq_true,beq_iff_eq]at hb
     obtain⟨m',h1,h2⟩:=Mem.push_holds h
     refine⟨_,m',h2,fun hn=>(by cases hn),fun w0 R0 ρ w xv lv hv mv hm hx hl hh hmx=>?_⟩
     cases lv with
     |some _=>exact hl.elim
     |none=>
      cases hv with
      |none=>exact hh.elim
      |some hv=>
       cases mv with
       |none=>exact hmx.elim
       |some mv=>
        have hform:∃A len cap,xv=.slice A len cap:=by
         cases x<;>simp only[emptyOk]at hs<;>try(cases hs.2;done)
         ·exact⟨_,_,_,hx⟩
         ·obtain⟨A,cap,hxv,_⟩:=hx
          injection hxv with hxv
          exact⟨_,_,_,hxv⟩
         ·obtain⟨_,A,hxv,_⟩:=hx
          exact⟨_,_,_,hxv⟩
        obtain⟨A,len,cap,rfl⟩:=hform
        obtain rfl:hv=_:=hh
        obtain rfl:mv=_:=hmx
        rw[hb.1,hb.2]
        refine⟨.slice A 0 0,w,?_,?_⟩
        ·have hz:∀ (k:IntKind) (y:Nat) (code:BoundsCode),(Instr.sliceBound (.int k 0) y code).run P w=.ok 0 w:=fun k y code=>sliceBound_ok (P:=P) (k:=k) (i:=0) (by omega) w
         simp[Instr.sliceAt,Instr.slice,run_underlying hu,Instr.sliceBounds,hz,run_sizeOf' hok]
        ·obtain⟨g1,g2⟩:=hm.push (w':=w) (r:=(0,0,0)) h1 rfl rfl rfl (Nat.le_refl _) (fun _ _=>rfl) (fun hsol=>absurd hsol (Nat.lt_irrefl _)) (fun R n ρ' e'=>⟨rfl,Nat.le_refl _,fun h0=>absurd h0 (Nat.lt_irrefl _)⟩)
         exact⟨_,g1,g2,by rw[h1.2];omega,A,by rw[upd_same],fun h0=>by rw[upd_same]at h0;exact absurd h0 (Nat.lt_irrefl _)⟩
    ·exact h.elim
   ·exact h.elim
  ·exact h.elim
 ·exact h.elim
end
open Go.RowKit
section
variable {P:Program} {E:Env} {α:Type} {L:α→Prop}
theorem repD_one{R:Nat→Prop}{w:World}:∀ (t:Ty) (x:t.T) (vs:List Value),RepD R w t x vs→∀y∈vs,y.oneCell'=true
 |.unit,_,vs,h,y,hy=>by rw[show vs=[]from h]at hy;cases hy
 |.int _,_,vs,h,y,hy=>by rw[show vs=_ from h]at hy;rw[List.mem_singleton.1 hy];rfl
 |.bool,_,vs,h,y,hy=>by rw[show vs=_ from h]at hy;rw[List.mem_singleton.1 hy];rfl
 |.str,_,vs,h,y,hy=>by rw[show vs=_ from h]at hy;rw[List.mem_singleton.1 hy];rfl
 |.list t,l,vs,h,y,hy=>by
  obtain⟨a,cap,rfl,_⟩:=h
  rw[List.mem_singleton.1 hy];rfl
 |.pair a b,x,vs,h,y,hy=>by
  obtain⟨v1,v2,rfl,h1,h2⟩:=h
  rcases List.mem_append.1 hy with hy|hy
  ·exact repD_one a x.1 v1 h1 y hy
  ·exact repD_one b x.2 v2 h2 y hy
structure AppOK (P:Program) (ts:Array TypeId) (t e:TypeId):Prop where
 t0:ts[0]? =some t
 t1:∃t1,ts[1]? =some t1∧((∃e',P.underlying t1=some (.slice e'))∨P.underlying t1=some .string)
theorem append_room{ts:Array TypeId}{t e ty:TypeId}{re:Row}(ha:AppOK P ts t e)(hu:P.underlying t=some (.slice e))(hok:RowOK P e re){base:Option Addr}{len cap:Nat}{xv:Value}{n:Nat}{w:World}(hn:(Builtin.lenOf xv).run P w=.ok n w)(hle:len+n≤cap):
  (Builtin.append_ ts ty #[.slice base len cap,xv]).run P w=((Builtin.firstCells re.size n xv).run P w).andThen fun new w=>match base with
    |some a=>((storeCells (a.add (len*re.size)) new.toList).run P w).andThen fun _ w=>.ok (.slice base (len+n) cap) w
    |none=>.ok (.slice base (len+n) cap) w:=by
 obtain⟨t1,ht1,hd⟩:=ha.t1
 rcases hd with⟨e',hd⟩|hd<;>cases base<;>simp[Builtin.append_,ha.t0,ht1,run_underlying hu,run_underlying hd,run_sizeOf' hok,hn,hle]
theorem append_grow{ts:Array TypeId}{t e ty:TypeId}{re:Row}(ha:AppOK P ts t e)(hu:P.underlying t=some (.slice e))(hok:RowOK P e re){base:Option Addr}{len cap:Nat}{xv z:Value}{n:Nat}{w:World}{old new:List Value}(hn:(Builtin.lenOf xv).run P w=.ok n w)(hgt:cap<len+n)
  (hb:1≤re.bytes) (hfit:(len+n)*re.bytes≤140737488355328) (ho:(Builtin.firstCells re.size len (.slice base len cap)).run P w.drew=.ok ⟨old⟩ w.drew) (hnew:(Builtin.firstCells re.size n xv).run P w.drew=.ok ⟨new⟩ w.drew) (hz:∀w,(zeroValue e).run P w=.ok z w):
  (Builtin.append_ ts ty #[.slice base len cap,xv]).run P w =
    .ok (.slice (some ⟨w.heap.size,0,none⟩) (len+n) (grownCap w (len+n) cap e)) (w.drew.alloc (.cells (⟨old⟩++⟨new⟩++Builtin.zeroCells z.cells (grownCap w (len+n) cap e-(len+n))) e)):=by
 obtain⟨t1,ht1,hd⟩:=ha.t1
 obtain⟨i,hi,hib,his⟩:=run_typeInfo' hok
 have h1:¬len+n≤cap:=by omega
 have h2:¬i.bytes=0:=by omega
 have h3:¬(281474976710656<Builtin.nextslicecap (len+n) cap*i.bytes):=by
  have:=growslice_fits hgt hfit
  rw[hib];omega
 rcases hd with⟨e',hd⟩|hd<;>simp[Builtin.append_,ha.t0,ht1,run_underlying hu,run_underlying hd,run_sizeOf' hok,hn,h1,hi,h2,h3,Question.forced,ho,hnew,hz,newRow,grownCap]<;>exact congrArg (fun c=>w.drew.alloc (Obj.cells c e)) (Array.ext' (by simp))
theorem old_cells{w0:World}{R0:RSet}{ρ:Rho}{w:World}{m:Mem}(hm:MRel w0 R0 ρ w m){u:Ty}{id:Nat}{l:List u.T}(hg:m.get id=some (.rows u l)){sv:Value}(hs:Rep (RO w0 R0 ρ w m) ρ m.next w (.row id) sv):
  ∃base vs,sv=.slice base l.length (ρ id).2.2∧(0< (ρ id).2.2→base=some ⟨(ρ id).1,0,none⟩)∧(Builtin.firstCells u.sz l.length sv).run P w=.ok ⟨vs⟩ w∧RepDL (RO w0 R0 ρ w m) w u l vs:=by
 obtain⟨vs,h1,h2,h3⟩:=elemsOf_cells (P:=P) (u:=u) (xs:=l) (by simp[elemsOf,hg]) hm hs
 obtain⟨hid,a,rfl,ha⟩:=hs
 obtain⟨b1,_⟩:=hm.box id _ hg
 exact⟨a,vs,by rw[b1],ha,h2,h3⟩
theorem firstCells_drew{size n:Nat}{v:Value}{w:World}{cs:Array Value}(h:(Builtin.firstCells size n v).run P w=.ok cs w):(Builtin.firstCells size n v).run P w.drew=.ok cs w.drew:=by
 cases v with
 |slice a l c=>
  cases a with
  |none=>simp only[Builtin.firstCells,Sem.run_pure,Result.ok.injEq]at h ⊢;exact⟨h.1,trivial⟩
  |some a=>
   simp only[Builtin.firstCells,Go.loadCells]at h ⊢
   have key:∀ (k i:Nat) (acc cs:Array Value),(loadCellsFrom a i k acc).run P w=.ok cs w→(loadCellsFrom a i k acc).run P w.drew=.ok cs w.drew:=by
    intro k
    induction k with
    |zero=>intro i acc cs h;simp only[loadCellsFrom,Sem.run_pure,Result.ok.injEq]at h ⊢;exact⟨h.1,trivial⟩
    |succ k ih=>
     intro i acc cs h
     simp only[loadCellsFrom,Sem.run_bind,run_load,World.cell?_drew]at h ⊢
     cases hc:w.cell? (a.add i)with
     |some v=>rw[hc]at h;exact ih _ _ _ h
     |none=>
      rw[hc]at h
      dsimp only at h ⊢
      have hf:w.drew.farLoad P (a.add i) (Mode.plain==.atomic)=w.farLoad P (a.add i) (Mode.plain==.atomic):=rfl
      rw[hf]
      cases hq:w.farLoad P (a.add i) (Mode.plain==.atomic)with
      |ok q=>rw[hq]at h;exact ih _ _ _ h
      |error e=>rw[hq]at h;cases h
   exact key _ _ _ _ h
 |string s=>simp only[Builtin.firstCells,Sem.run_pure,Result.ok.injEq]at h ⊢;exact⟨h.1,trivial⟩
 |_=>simp[Builtin.firstCells]at h
theorem grown_out{w0:World}{R0:RSet}{ρ:Rho}{w:World}{m m':Mem}{u:Ty}{l xs:List u.T}{old new:List Value}{e:TypeId}{z:Value}{cap:Nat}(hm:MRel w0 R0 ρ w m)(hp:MPush m (.rows u (l++xs)) m')(ho:RepDL (RO w0 R0 ρ w m) w u l old)(hn:RepDL (RO w0 R0 ρ w m) w u xs new)
  (hz:∀R w,RepD R w u u.dflt z.cells.toList) (hel:u=.int .u8→El8 e):
  OpOut w0 R0 ρ w m (.row m.next) m' (.slice (some ⟨w.heap.size,0,none⟩) (l.length+xs.length) (grownCap w (l.length+xs.length) cap e)) (w.drew.alloc (.cells (⟨old⟩++⟨new⟩++Builtin.zeroCells z.cells (grownCap w (l.length+xs.length) cap e-(l.length+xs.length))) e)):=by
 have hzs:z.cells.size=u.sz:=by
  have:=(RepD.flat (ρ:=ρ) (n:=0) u u.dflt _ (hz (fun _=>True) w)).1
  simpa using this
 have hcap:l.length+xs.length≤grownCap w (l.length+xs.length) cap e:=Nat.le_add_right _ _
 have:=push_rows (u:=u) (l:=l++xs) (cap:=grownCap w (l.length+xs.length) cap e) (vs:=old++new) (rest:=(Builtin.zeroCells z.cells (grownCap w (l.length+xs.length) cap e-(l.length+xs.length))).toList)
  (w1:=w.drew.alloc (.cells (⟨old⟩++⟨new⟩++Builtin.zeroCells z.cells (grownCap w (l.length+xs.length) cap e-(l.length+xs.length))) e)) hm hp rfl rfl rfl (by simp) (fun k hk=>Below.heap_alloc w.drew _ k hk) (heap_alloc_new w.drew _) ⟨unfrozen_zero _,hel⟩
  (by
    have h1:=ho.length
    have h2:=hn.length
    simp only[Array.size_append,Builtin.zeroCells,Array.size_map,Array.size_range,hzs]
    have e1:(⟨old⟩:Array Value).size=old.length:=rfl
    have e2:(⟨new⟩:Array Value).size=new.length:=rfl
    rw[e1,e2,h1,h2,←Nat.add_mul,←Nat.add_mul]
    congr 1;omega)
  (by simpa using hcap) (by simp) (ho.append hn)
 simpa using this
theorem opAppend_sound(hE:EOK P E){t:TypeId}{s x:SV}{p:Plan}{m:Mem}{κ:Kont α}(h:(opAppend E t s x p m κ).holds L):
  ∃v p' m',(κ v p' m').holds L∧∀ (ts:Array TypeId) ty w0 R0 ρ w (sv xv:Value),(∀e,P.underlying t=some (.slice e)→AppOK P ts t e)→MRel w0 R0 ρ w m→Rep (RO w0 R0 ρ w m) ρ m.next w s sv→Rep (RO w0 R0 ρ w m) ρ m.next w x xv→
   Yields' P m v m' (Builtin.append_ ts ty #[sv,xv]) w0 R0 ρ w:=by
 unfold opAppend at h
 split at h
 ·rename_i e sz by_ ze ty0 eg he hrow
  have hu:=(hE.row _ _ hrow).und
  dsimp only at hu
  split at h
  ·rename_i de size bytes ze' u eg' he' hre
   have hok:=hE.row _ _ hre
   split at h
   ·rename_i hs
    simp only[Bool.and_eq_true,beq_iff_eq,Nat.ble_eq]at hs
    obtain⟨z,hz1,_,hz3⟩:=run_zero' hok
    have hz3':=hz3 u rfl
    split at h
    ·rename_i xs hxs
     split at h
     · -- nil
       obtain⟨hb,h⟩:=h
       have hb':=of_decide_eq_true hb
       obtain⟨m',h1,h2⟩:=Mem.push_holds h
       refine⟨_,p,m',h2,fun ts ty w0 R0 ρ w sv xv ha hm hsv hxv=>?_⟩
       rw[show sv=_ from hsv]
       obtain⟨vs,k1,k2,k3⟩:=elemsOf_cells (P:=P) hxs hm hxv
       rw[←hs.1]at k2
       by_cases h0:xs.length=0
       ·refine⟨_,_,(append_room (ha e hu) hu hok k1 (by omega)).trans (by rw[k2];rfl),?_⟩
        have hnil:xs=[] :=List.eq_nil_of_length_eq_zero h0
        subst hnil
        obtain⟨g1,g2⟩:=hm.push (w':=w) (r:=(0,0,0)) h1 rfl rfl rfl (Nat.le_refl _) (fun _ _=>rfl) (fun hsol=>absurd hsol (Nat.lt_irrefl _)) (fun R n ρ' e'=>⟨rfl,Nat.le_refl _,fun h0=>absurd h0 (Nat.lt_irrefl _)⟩)
        exact⟨_,g1,g2,by rw[h1.2];omega,none,by rw[upd_same];rfl,fun h0=>by rw[upd_same]at h0;exact absurd h0 (Nat.lt_irrefl _)⟩
       ·have hrun:=append_grow (ts:=ts) (ty:=ty) (len:=0) (cap:=0) (base:=none) (old:=[]) (new:=vs) (z:=z) (ha e hu) hu hok k1 (by omega) hs.2 (by simpa using hb') (by simp[Builtin.firstCells]) (firstCells_drew k2) hz1
        refine⟨_,_,hrun,?_⟩
        have:=grown_out (l:=[]) (xs:=xs) (old:=[]) (new:=vs) (e:=e) (z:=z) (cap:=0) hm (by simpa using h1) rfl k3 hz3' fun h=>hok.el (.inl (congrArg some h)) (by subst h;simpa[Ty.sz]using hs.1)
        simpa using this
     · -- a row of the call's own
       rename_i id
       split at h
       ·rename_i v l hg
        split at h
        ·rename_i hv
         subst hv
         obtain⟨hb,h⟩:=h
         have hb':=of_decide_eq_true hb
         obtain⟨m1,h1,h2⟩:=Mem.set_holds h
         obtain⟨m',h3,h4⟩:=Mem.push_holds h2
         refine⟨_,p,m',h4,fun ts ty w0 R0 ρ w sv xv ha hm hsv hxv=>?_⟩
         obtain⟨vs,k1,k2,k3⟩:=elemsOf_cells (P:=P) hxs hm hxv
         obtain⟨base,olds,rfl,hbase,o2,o3⟩:=old_cells (P:=P) hm hg hsv
         rw[←hs.1]at k2 o2
         obtain⟨d1,d2⟩:=hm.drop h1
         have hlen1:m1.next=m.next:=h1.2
         by_cases hle:l.length+xs.length≤(ρ id).2.2
         · -- in place
           have hrun:=append_room (ty:=ty) (base:=base) (len:=l.length) (cap:=(ρ id).2.2) (ha e hu) hu hok k1 hle
           rw[k2]at hrun
           rcases Nat.eq_zero_or_pos (ρ id).2.2 with hc0|hc0
           · -- no room at all: nothing is appended
             have hl0:l=[] :=List.eq_nil_of_length_eq_zero (by omega)
             have hx0:xs=[] :=List.eq_nil_of_length_eq_zero (by omega)
             subst hl0 hx0
             have hvs:vs=[] :=k3
             subst hvs
             have hrun':(Builtin.append_ ts ty #[.slice base ([] :List v.T).length (ρ id).2.2,xv]).run P w=.ok (.slice base 0 (ρ id).2.2) w:=by
              rw[hrun]
              cases base<;>rfl
             refine⟨_,_,hrun',?_⟩
             obtain⟨g1,g2⟩:=d1.push (w':=w) (r:=(0,0,0)) h3 rfl rfl rfl (Nat.le_refl _) (fun _ _=>rfl) (fun hsol=>absurd hsol (Nat.lt_irrefl _)) (fun R n ρ' e'=>⟨rfl,Nat.le_refl _,fun h0=>absurd h0 (Nat.lt_irrefl _)⟩)
             exact⟨_,g1,d2.trans g2,by rw[h3.2];omega,base,by rw[upd_same,hc0],fun h0=>by rw[upd_same]at h0;exact absurd h0 (Nat.lt_irrefl _)⟩
           ·obtain rfl:=hbase hc0
            obtain⟨arr,el,fr,q1,q2,q3,q4⟩:=rows_repDL hm hg hc0
            have hvl:=k3.length
            have hroom:l.length*v.sz+vs.length≤arr.size:=by
             rw[q3,hvl,←Nat.add_mul];exact Nat.mul_le_mul_right _ hle
            have hone:∀y∈vs,y.oneCell'=true:=by
             have:∀ (ls:List v.T) (us:List Value),RepDL (RO w0 R0 ρ w m) w v ls us→∀y∈us,y.oneCell'=true:=by
              intro ls
              induction ls with
              |nil=>intro us h y hy;rw[show us=[]from h]at hy;cases hy
              |cons a ls ih=>
               intro us h y hy
               obtain⟨v1,v2,rfl,r1,r2⟩:=h
               rcases List.mem_append.1 hy with hy|hy
               ·obtain⟨f1,f2⟩:=RepD.flat (ρ:=ρ) (n:=m.next) v a v1 r1
                exact repD_one v a v1 r1 y hy
               ·exact ih v2 r2 y hy
             exact this xs vs k3
            obtain⟨w',r1,r2,r3,r4,r5,r6,r7⟩:=run_storeCells' (P:=P) (ρ id).1 (l.length*v.sz) el fr vs 0 arr w q1 q2.1 (by omega) hone
            have hrun':(Builtin.append_ ts ty #[.slice (some ⟨(ρ id).1,0,none⟩) l.length (ρ id).2.2,xv]).run P w=.ok (.slice (some ⟨(ρ id).1,0,none⟩) (l.length+xs.length) (ρ id).2.2) w':=by
             rw[hrun]
             simp only[Result.andThen_ok,Addr.add_lit,hs.1,Nat.zero_add,r1]
            refine⟨_,_,hrun',?_⟩
            rw[Nat.add_zero]at r2
            -- the old box let go, a new one in its block
            have hdrop:∀k C,m1.get k=some C→k≠id∧m.get k=some C:=fun k C hk=>by
             rw[h1.1 k]at hk
             by_cases e0:k=id
             ·rw[if_pos e0]at hk;cases hk
             ·rw[if_neg e0]at hk;exact⟨e0,hk⟩
            have hnew:∀k C,m'.get k=some C→(k=m.next∧C=.rows v (l++xs))∨(k≠m.next∧k≠id∧m.get k=some C):=fun k C hk=>by
             rw[h3.1 k,hlen1]at hk
             by_cases e0:k=m.next
             ·rw[if_pos e0]at hk;injection hk with hk;exact .inl ⟨e0,hk.symm⟩
             ·rw[if_neg e0]at hk;exact .inr ⟨e0,hdrop k C hk⟩
            have hidlt:id<m.next:=hm.lt id _ hg
            have hsol:solid (ρ id) (.rows v l):=hc0
            have hblk:=hm.hi id _ hg hsol
            have hblo:=hm.lo id _ hg hsol
            have hro:∀b,RO w0 R0 ρ w m b→RO w0 R0 (upd ρ m.next ((ρ id).1,l.length+xs.length,(ρ id).2.2)) w' m' b:=fun b hb=>by
             have hne:=hm.ro_ne hb hg hsol
             rcases hb with hb|⟨g1,g2,g3,g4⟩
             ·exact .inl hb
             ·refine .inr ⟨g1,by omega,fun k C hk hs'=>?_,g4⟩
              rcases hnew k C hk with⟨rfl,rfl⟩|⟨n1,n2,n3⟩
              ·rw[upd_same];exact hne
              ·rw[upd_other _ _ n1]at hs' ⊢;exact g3 k C n3 hs'
            have hext:MExt w0 R0 ρ w m (upd ρ m.next ((ρ id).1,l.length+xs.length,(ρ id).2.2)) w' m':=
             ⟨by rw[h3.2];omega,fun k hk=>upd_other _ _ (by omega),fun b hb=>⟨hro b hb,r7 b (Ne.symm (hm.ro_ne hb hg hsol))⟩⟩
            have harr:(overA arr (l.length*v.sz) vs).toList=(arr.toList.take (l.length*v.sz)++vs)++arr.toList.drop (l.length*v.sz+vs.length):=by simp[overA]
            refine⟨_,⟨hm.below.trans ⟨r3,r4,r5,by omega,fun k hk=>r7 k (by omega)⟩,fun k C hk=>?_,fun k C hk hs'=>?_,fun k C hk hs'=>?_,fun k k' C C' hk hk' hs1 hs2 he0=>?_,fun k C hk=>?_,fun b hb=>⟨by rw[r6];exact(hm.hid.1 b hb).1,(r7 b fun he=>hm.hid.2 id _ hg hsol (he▸hb)).trans (hm.hid.1 b hb).2⟩,fun k C hk hs'=>?_⟩,hext,by rw[h3.2];omega,_,by rw[hlen1,upd_same],fun _=>by rw[hlen1,upd_same]⟩
            ·rw[h3.2]
             rcases hnew k C hk with⟨rfl,_⟩|⟨_,_,n3⟩
             ·omega
             ·have:=hm.lt k C n3;omega
            ·rcases hnew k C hk with⟨rfl,rfl⟩|⟨n1,_,n3⟩
             ·rw[upd_same];exact hblo
             ·rw[upd_other _ _ n1]at hs' ⊢;exact hm.lo k C n3 hs'
            ·rw[r6]
             rcases hnew k C hk with⟨rfl,rfl⟩|⟨n1,_,n3⟩
             ·rw[upd_same];exact hblk
             ·rw[upd_other _ _ n1]at hs' ⊢;exact hm.hi k C n3 hs'
            ·rcases hnew k C hk with⟨rfl,rfl⟩|⟨n1,n2,n3⟩<;>rcases hnew k' C' hk' with⟨rfl,rfl⟩|⟨n1',n2',n3'⟩
             ·rfl
             ·rw[upd_same]at he0;rw[upd_other _ _ n1']at he0 hs2
              exact absurd (hm.inj id k' _ C' hg n3' hsol hs2 he0).symm n2'
             ·rw[upd_same]at he0;rw[upd_other _ _ n1]at he0 hs1
              exact absurd (hm.inj k id C _ n3 hg hs1 hsol he0) n2
             ·rw[upd_other _ _ n1]at he0 hs1;rw[upd_other _ _ n1']at he0 hs2
              exact hm.inj k k' C C' n3 n3' hs1 hs2 he0
            ·rcases hnew k C hk with⟨rfl,rfl⟩|⟨n1,n2,n3⟩
             ·rw[upd_same]
              exact boxRows_of (by simp) (by simpa using hle) r2 ⟨unfrozen_over q2.1 hroom,q2.2⟩ (by rw[overA_size hroom];exact q3) harr ((RepDL.mono hext.keep q4).append (RepDL.mono hext.keep k3))
             ·rw[upd_other _ _ n1]
              exact BoxRel.mono hext C (fun hs'=>r7 _ fun he0=>n2 (hm.inj k id C _ n3 hg hs' hsol he0)) (hm.box k C n3)
            ·rcases hnew k C hk with⟨rfl,rfl⟩|⟨n1,_,n3⟩
             ·rw[upd_same];exact hm.hid.2 id _ hg hsol
             ·rw[upd_other _ _ n1]at hs' ⊢;exact hm.hid.2 k C n3 hs'
         · -- a new row
           have hrun:=append_grow (ts:=ts) (ty:=ty) (len:=l.length) (cap:=(ρ id).2.2) (base:=base) (old:=olds) (new:=vs) (z:=z) (ha e hu) hu hok k1 (by omega) hs.2 hb' (firstCells_drew o2) (firstCells_drew k2) hz1
           refine⟨_,_,hrun,?_⟩
           obtain⟨ρ',g1,g2,g3⟩:=grown_out (e:=e) (z:=z) (cap:=(ρ id).2.2) d1 h3 (RepDL.mono d2.keep o3) (RepDL.mono d2.keep k3) hz3' fun h=>hok.el (.inl (congrArg some h)) (by subst h;simpa[Ty.sz]using hs.1)
           exact⟨ρ',g1,d2.trans g2,g3⟩
        ·exact h.elim
       ·exact h.elim
     · -- an array's slice
       rename_i id off n
       split at h
       ·rename_i l hl
        obtain⟨p',h⟩:=dec_holds h
        cases hxe:xs.isEmpty with
        |true=>
        rw[hxe]at h
        refine⟨_,p',m,h,fun ts ty w0 R0 ρ w sv xv ha hm hsv hxv=>?_⟩
        have hnil:xs=[] :=by simpa using hxe
        subst hnil
        obtain⟨vs,k1,k2,k3⟩:=elemsOf_cells (P:=P) hxs hm hxv
        rw[←hs.1]at k2
        have hvs:vs=[] :=k3
        subst hvs
        obtain⟨hid,rfl⟩:=hsv
        refine Plainly.yields (m:=m) ⟨.slice (some ⟨(ρ id).1,off,none⟩) n n,?_,hid,rfl⟩ hm
        have hrun:=append_room (ts:=ts) (ty:=ty) (base:=some ⟨(ρ id).1,off,none⟩) (len:=n) (cap:=n) (ha e hu) hu hok k1 (Nat.le_refl _)
        rw[hrun,k2]
        rfl
        |false=>
        rw[hxe]at h
        obtain⟨hb2,h⟩:=h
        have hb:0<xs.length∧(l.length+xs.length)*bytes≤140737488355328:=⟨by cases xs with|nil=>cases hxe|cons _ _=>simp,by simpa using hb2⟩
        obtain⟨m',h1,h2⟩:=Mem.push_holds h
        refine⟨_,p',m',h2,fun ts ty w0 R0 ρ w sv xv ha hm hsv hxv=>?_⟩
        obtain⟨vs,k1,k2,k3⟩:=elemsOf_cells (P:=P) hxs hm hxv
        obtain⟨olds,o1,o2,o3⟩:=elemsOf_cells (P:=P) hl hm hsv
        obtain⟨_,rfl⟩:=hsv
        rw[←hs.1]at k2 o2
        have hn:n=l.length:=by simpa[Builtin.lenOf]using o1
        subst hn
        have hrun:=append_grow (ts:=ts) (ty:=ty) (len:=l.length) (cap:=l.length) (old:=olds) (new:=vs) (z:=z) (ha e hu) hu hok k1 (by omega) hs.2 hb.2 (firstCells_drew o2) (firstCells_drew k2) hz1
        exact⟨_,_,hrun,grown_out (e:=e) (z:=z) (cap:=l.length) hm h1 o3 k3 hz3' fun h=>hok.el (.inl (congrArg some h)) (by subst h;simpa[Ty.sz]using hs.1)⟩
       ·exact h.elim
     ·exact h.elim
    ·exact h.elim
   ·exact h.elim
  ·exact h.elim
 ·exact h.elim
end
end Go.Sx
