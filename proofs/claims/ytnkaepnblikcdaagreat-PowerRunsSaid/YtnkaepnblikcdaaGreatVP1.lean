/-
  Evaluator, contracts, plain law.
-/
import Derived.Still
import Derived.Below
import Derived.KernelRfl
import Derived.WalkKit
import Derived.Laws.CopyRow
import Derived.Lib.ConvBytes
import Derived.Lib.Strings
import Derived.Laws.BytesString
import Derived.Laws.BytesArg
import Derived.Laws.Append
import Derived.Great.FillDense
set_option maxRecDepth 100000
set_option linter.unusedVariables false
set_option linter.defProp false
set_option linter.unusedSimpArgs false
open Go.IntKind (i64 u64 u8)
namespace Go.Sx
noncomputable section
def tB:=@Addr.add_lit
def aX:=@And.intro
def oy:=@Array.ext'
def jx:=@Array.getD_eq_getD_getElem?
def aiD:=@Array.getElem?_append_left
def aBS:=@Array.getElem?_append_right
def qX:=@Array.getElem?_eq_getElem
def aiC:=@Array.getElem?_eq_none
def aBR:=@Array.getElem?_modify
def aiB:=@Array.getElem?_replicate
def uR:=@Array.getElem?_setIfInBounds
def NN:=@Array.getElem?_setIfInBounds_ne
def Cg:=@Array.getElem?_toList
def Ip:=@Array.length_toList
def aBQ:=@Array.mapM_eq_mapM_toList
def U3:=@Array.toList_map
def NL:=@BitVec.ofInt_natCast
def aiy:=@BitVec.toNat_and
def Io:=@BitVec.toNat_ofInt
def Im:=@BitVec.toNat_ofNat
def aix:=@BitVec.toNat_or
def aiw:=@Bool.and_eq_false_iff
def aH:=@Bool.and_eq_true
def wD:=@Bool.and_false
def U2:=@Bool.and_true
def eB:=@Bool.eq_false_iff
def pE:=@Bool.eq_false_or_eq_true
def uQ:=@Bool.eq_iff_iff
def Il:=@Bool.false_and
def eY:=@Bool.false_eq_true
def fS:=@Bool.false_ne_true
def yG:=@Bool.false_or
def qW:=@Bool.not_eq_false'
def EW:=@Bool.not_eq_true
def iJ:=@Bool.not_eq_true'
def U1:=@Bool.not_false
def qt:=@Bool.not_true
def aiv:=@Bool.or_eq_false_iff
def ia:=@Bool.or_eq_true
def aiu:=@Bool.or_true
def tA:=@Bool.true_and
def yF:=@Bool.true_eq_false
def ait:=@ByteArray.toList_eq
def U0:=@Classical.byContradiction
def aBP:=@Int.add_mul_ediv_left
def air:=@Int.ediv_eq_zero_of_lt
def Ii:=@Int.ediv_le_self
def ES:=@Int.ediv_nonneg
def aiq:=@Int.emod_eq_of_lt
def ox:=@Int.eq_ofNat_of_zero_le
def uP:=@Int.fdiv_eq_ediv_of_nonneg
def NK:=@Int.le_ediv_of_mul_le
def Cf:=@Int.le_refl
def Ih:=@Int.le_total
def UX:=@Int.lt_or_le
def NJ:=@Int.mul_assoc
def uO:=@Int.mul_le_mul
def ER:=@Int.mul_le_mul_of_nonneg_left
def Ce:=@Int.mul_le_mul_of_nonneg_right
def wB:=@Int.mul_nonneg
def AE:=@Int.natCast_mul
def NI:=@Int.neg_mul
def NH:=@Int.pow_succ
def aip:=@Int.sub_zero
def EQ:=@Int.tdiv_eq_ediv_of_nonneg
def aBO:=@Int.tmod_eq_emod_of_nonneg
def UW:=@Int.zero_add
def UV:=@Int.zero_mul
def aBN:=@Lib.run_convert_string_bytes
def nM:=@List.all_eq_true
def Cd:=@List.any_eq_true
def Cc:=@List.append_assoc
def wA:=@List.append_nil
def aio:=@List.dropLast_concat_getLast
def aBM:=@List.drop_eq_getElem_cons
def AD:=@List.drop_eq_nil_of_le
def UU:=@List.drop_take
def NG:=@List.drop_zero
def pz:=@List.eq_nil_of_length_eq_zero
def NF:=@List.ext_getElem?
def cK:=@List.getD_eq_getElem?_getD
def yE:=@List.getElem?_append_left
def uN:=@List.getElem?_append_right
def yD:=@List.getElem?_drop
def cc:=@List.getElem?_eq_getElem
def qU:=@List.getElem?_eq_none
def iZ:=@List.getElem?_eq_some_iff
def AB:=@List.getElem?_map
def EP:=@List.getElem?_range
def yC:=@List.getElem?_take
def aBL:=@List.getElem_append_left
def aBK:=@List.getElem_append_right
def Cb:=@List.getElem_mem
def NE:=@List.getElem_of_mem
def ain:=@List.isEmpty_eq_false_iff
def wz:=@List.isEmpty_iff
def eX:=@List.length_append
def tv:=@List.length_cons
def wv:=@List.length_drop
def Ca:=@List.length_eq_zero_iff
def mP:=@List.length_map
def rY:=@List.length_nil
def UT:=@List.length_pos_iff
def qs:=@List.length_replicate
def Ig:=@List.length_set
def ou:=@List.length_take
def EO:=@List.map_append
def EN:=@List.map_congr_left
def US:=@List.map_map
def wu:=@List.mem_append
def ail:=@List.mem_append_left
def aBJ:=@List.mem_append_right
def qT:=@List.mem_cons
def rX:=@List.mem_cons_of_mem
def mO:=@List.mem_cons_self
def EM:=@List.mem_map
def If:=@List.mem_of_getElem?
def aik:=@List.mem_of_getLast?
def aij:=@List.mem_range
def Ie:=@List.mem_singleton
def Ic:=@List.mem_zipIdx_iff_getElem?
def aii:=@List.nodup_cons
def aih:=@List.not_mem_nil
def ND:=@List.range'_succ
def aig:=@List.range_eq_range'
def aBI:=@List.take_append_drop
def AA:=@Nat.add_assoc
def yB:=@Nat.add_comm
def uM:=@Nat.add_mul
def aBH:=@Nat.add_mul_mod_self_left
def UR:=@Nat.add_sub_cancel
def wq:=@Nat.add_zero
def UQ:=@Nat.ble_eq
def UP:=@Nat.blt_eq
def aif:=@Nat.div_add_mod
def aie:=@Nat.div_le_self
def UO:=@Nat.div_lt_iff_lt_mul
def gQ:=@Nat.eq_of_beq_eq_true
def wo:=@Nat.eq_zero_or_pos
def aid:=@Nat.le_add_right
def aic:=@Nat.le_div_iff_mul_le
def UN:=@Nat.le_of_ble_eq_true
def aib:=@Nat.le_of_eq
def bA:=@Nat.le_refl
def UM:=@Nat.le_trans
def gZ:=@Nat.lt_irrefl
def qS:=@Nat.lt_of_lt_of_le
def jv:=@Nat.lt_or_ge
def aia:=@Nat.lt_succ_self
def NC:=@Nat.lt_trichotomy
def Ib:=@Nat.min_eq_left
def yA:=@Nat.mod_eq_of_lt
def yz:=@Nat.mod_lt
def EK:=@Nat.mul_assoc
def yy:=@Nat.mul_comm
def ah9:=@Nat.mul_div_mul_right
def wj:=@Nat.mul_le_mul
def nL:=@Nat.mul_le_mul_right
def tu:=@Nat.not_lt_zero
def NB:=@Nat.pow_add
def ah8:=@Nat.pow_le_pow_right
def UL:=@Nat.sub_self
def UK:=@Nat.sub_zero
def qR:=@Nat.succ_mul
def ah7:=@Nat.testBit_two_pow
def aBG:=@Nat.two_pow_add_eq_or_of_lt
def ah6:=@Nat.two_pow_pos
def UJ:=@Nat.xor_lt_two_pow
def gY:=@Nat.zero_add
def rW:=@Nat.zero_le
def UI:=@Nat.zero_lt_one
def UH:=@Nat.zero_mul
def UG:=@Option.bind_some
def aBF:=@Option.isSome_iff_exists
def ah5:=@Option.map_some
def uK:=@Option.some.injEq
def Ia:=@Prod.ext
def tt:=@Prod.mk.injEq
def bZ:=@Result.andThen_ok
def EI:=@Result.ok.injEq
def bX:=@Sem.run_bind
def H9:=@Sem.run_ite
def cU:=@Sem.run_pure
def H7:=@and_assoc
def Nz:=@and_self
def jI:=@and_true
def dM:=@beq_eq_false_iff_ne
def cI:=@beq_iff_eq
def HZ:=@beq_self_eq_true
def ot:=@bne_eq_false_iff_eq
def px:=@bne_iff_ne
def rR:=@cell_of_row
def rQ:=@congrArg
def iX:=@decide_eq_false
def ez:=@decide_eq_false_iff_not
def bn:=@decide_eq_true
def aV:=@decide_eq_true_eq
def Nt:=@eqGuard_at_int
def HS:=@eq_self
def vW:=@false_iff
def iG:=@false_implies
def BW:=@getElem!_pos
def BR:=@heap_alloc_new
def iD:=@if_false
def au:=@if_neg
def ay:=@if_pos
def pc:=@if_true
def ag8:=@implies_true
def dz:=@ne_eq
def mG:=@not_false_eq_true
def oQ:=@not_true_eq_false
def cO:=@of_decide_eq_false
def bG:=@of_decide_eq_true
def ab7:=@run_loadCells_list
def KC:=@run_program
def ef:=@run_underlying
def dV:=@true_and
def ir:=@true_implies
abbrev nN:List Nat:=[]
inductive Ty where
 |unit
 |int (k:IntKind)
 |bool
 |str
 |list (t:Ty)
 |pair (a b:Ty)
 deriving DecidableEq
def Ty.T:Ty->Type
 |.unit=>Unit
 |.int _=>Int
 |.bool=>Bool
 |.str=>List UInt8
 |.list t=>List t.T
 |.pair a b=>a.T×b.T
def Ty.sz:Ty->Nat
 |.unit=>0
 |.pair a b=>a.sz+b.sz
 |_=>1
def Ty.iH:(t:Ty)->t.T
 |.unit=>()
 |.int _=>(0:Int)
 |.bool=>false
 |.str=>([] :List UInt8)
 |.list _=>[]
 |.pair a b=>(a.iH,b.iH)
inductive SV where
 |undef
 |di
 |int (k:IntKind) (n:Int)
 |bool (b:Bool)
 |str (s:List UInt8)
 |cm
 |list (t:Ty) (l:List t.T)
 |row (id:Nat)
 |arr (id off n:Nat)
 |ptr (id off:Nat)
 |pY
 |jt (t:Ty) (l:List t.T) (i off:Nat)
 |iy (id sz i off:Nat)
 |agg (cs:List SV)
 |tuple (vs:List SV)
 |fn (f:Nat) (first cap:List SV)
 |dO (v:Value)
def flat:(t:Ty)->t.T->List SV
 |.unit,_=>[]
 |.int k,n=>[.int k n]
 |.bool,b=>[.bool b]
 |.str,s=>[.str s]
 |.list t,l=>[.list t l]
 |.pair a b,x=>flat a x.1++flat b x.2
def jC:(t:Ty)->List SV->Option (t.T×List SV)
 |.unit,cs=>some ((),cs)
 |.int k,cs=>match cs with
  |.int k' n::cs=>if k=k' then some (n,cs)else none
  |_=>none
 |.bool,cs=>match cs with
  |.bool b::cs=>some (b,cs)
  |_=>none
 |.str,cs=>match cs with
  |.str s::cs=>some (s,cs)
  |_=>none
 |.list t,cs=>match cs with
  |.list t' l::cs=>if h:t'=t then some (h▸l,cs)else none
  |.cm::cs=>some ([],cs)
  |_=>none
 |.pair a b,cs=>match jC a cs with
  |some (x,cs)=>match jC b cs with
   |some (y,cs)=>some ((x,y),cs)
   |none=>none
  |none=>none
def vK(t:Ty):Nat->List SV->Option (List t.T)
 |0,cs=>match cs with
  |[] =>some []
  |_=>none
 |n+1,cs=>match jC t cs with
  |some (x,cs)=>match vK t n cs with
   |some l=>some (x::l)
   |none=>none
  |none=>none
inductive aR where
 |cells (cs:List SV)
 |rows (t:Ty) (l:List t.T)
 |iter (s:List UInt8) (pos:Nat)
 |obj (t:TypeId) (cs:List SV)
inductive Tb (β:Type) where
 |e
 |n (l:Tb β) (v:Option β) (r:Tb β)
def Tb.pick{O:Type}(j:Nat)(a b:Nat->O):O:=match Nat.beq (j % 2) 0 with
 |true=>a (j / 2)
 |false=>b (j / 2)
def Tb.get{β:Type}(t:Tb β):Nat->Option β:=
 Tb.rec (motive:=λ_=>Nat->Option β) (λ_=>none) (λ_ v _ gl gr i=>Nat.casesOn (motive:=λ_=>Option β) i v λj=>Tb.pick j gl gr) t
structure Mem where
 next:Nat
 tb:Tb aR
structure Fr where
 size:Nat
 tb:Tb SV
def Mem.get(m:Mem)(id:Nat):Option aR:=m.tb.get id
def Fr.get(fr:Fr)(t:Nat):SV:=match fr.tb.get t with
 |some v=>v
 |none=>.undef
inductive ax where
 |all
 |kK
 |ar (p:ax)
 |ah (t f:ax)
 |go (p:ax)
 |stop
/-- So many. -/
def ax.ln:Nat->ax->ax
 |0,p=>p
 |n+1,p=>.ar (ax.ln n p)
def sL:(type_of% @false_iff)/\(type_of% @true_iff)/\(type_of% @iff_false)/\(type_of% @iff_true)/\(type_of% @Bool.not_eq_true')/\(type_of% @Bool.not_eq_false')/\(type_of% @Bool.not_eq_eq_eq_not)/\(type_of% @decide_eq_true_eq)/\(type_of% @decide_eq_false_iff_not)/\(type_of% @Bool.and_eq_true)/\(type_of% @Bool.and_eq_false_iff)/\(type_of% @Bool.or_eq_true)/\(type_of% @Bool.or_eq_false_iff)/\(type_of% @Bool.not_true)/\(type_of% @Bool.not_false)/\(type_of% @Bool.true_eq_false)/\(type_of% @Bool.false_eq_true)/\(type_of% @Bool.and_true)/\(type_of% @Bool.true_and)/\(type_of% @or_false)/\(type_of% @false_or)/\(type_of% @and_false)/\(type_of% @false_and)/\(type_of% @false_implies)/\(type_of% @true_implies)/\(type_of% @and_true)/\(type_of% @true_and)/\(type_of% @not_true_eq_false)/\(type_of% @not_false_eq_true)/\(type_of% @and_self):=
 ⟨@false_iff,@true_iff,@iff_false,@iff_true,@Bool.not_eq_true',@Bool.not_eq_false',@Bool.not_eq_eq_eq_not,@decide_eq_true_eq,@decide_eq_false_iff_not,@Bool.and_eq_true,@Bool.and_eq_false_iff,@Bool.or_eq_true,@Bool.or_eq_false_iff,@Bool.not_true,@Bool.not_false,@Bool.true_eq_false,@Bool.false_eq_true,@Bool.and_true,@Bool.true_and,@or_false,@false_or,@and_false,@false_and,@false_implies,@true_implies,@and_true,@true_and,@not_true_eq_false,@not_false_eq_true,@and_self⟩
def sLb{α:Type _}[BEq α][LawfulBEq α]{a b:α}:(a==b)=true↔a=b:=cI
def sLc{α:Type _}[BEq α][LawfulBEq α]{a b:α}:(a != b)=true↔a≠b:=px
def sLd{α:Type _}[BEq α][LawfulBEq α]{a b:α}:(a==b)=false↔a≠b:=dM
def sLe{α:Type _}[BEq α][LawfulBEq α]{a b:α}:(a != b)=false↔a=b:=ot
def KB(α:Sort _):(α->True)=True:=ag8 α
def sM:(type_of% sL)/\(type_of% @ne_eq.{1})/\(type_of% @sLb.{0})/\(type_of% @sLc.{0})/\(type_of% @eq_self.{1})/\(type_of% @sLd.{0})/\(type_of% @sLe.{0})/\(type_of% @KB.{0})/\(type_of% @KB.{1}):=
 ⟨sL,@ne_eq.{1},@sLb.{0},@sLc.{0},@eq_self.{1},@sLd.{0},@sLe.{0},@KB.{0},@KB.{1}⟩
def pA:ax:=.ar .all
inductive ak (α:Type) where
 |ai (a:α)
 |ag (b:Bool) (t f:ak α)
 |aj (b:Bool) (t:ak α)
 |aA (code:Nat)
def sN:(type_of% @SV.tuple.injEq)/\(type_of% @SV.agg.injEq)/\(type_of% @List.cons.injEq.{0})/\(type_of% @SV.int.injEq)/\(type_of% @SV.bool.injEq)/\(type_of% @true_and)/\(type_of% @and_true)/\(type_of% @eq_self.{1}):=
 ⟨@SV.tuple.injEq,@SV.agg.injEq,@List.cons.injEq.{0},@SV.int.injEq,@SV.bool.injEq,@true_and,@and_true,@eq_self.{1}⟩
abbrev rT{α:Type}(t:ak α):ak α:=.aj true t
abbrev lT(l:List SV):ak SV:=.ai (.tuple l)
def ak.holds{α:Type}(L:α->Prop):ak α->Prop
 |.ai a=>L a
 |.ag b t f=>(b=true->t.holds L)/\(b=false->f.holds L)
 |.aj b t=>b=true/\t.holds L
 |.aA _=>False
section
variable {α:Type}
def dec(p:ax)(b:Bool)(k:Bool->ax->ak α):ak α:=
 match p with
 |.all=>.ag b (k true .all) (k false .all)
 |.kK=>match b with
  |true=>k true .kK
  |false=>k false .kK
 |.ar p=>match b with
  |true=>k true p
  |false=>k false p
 |.ah pt pf=>.ag b (k true pt) (k false pf)
 |.go _=>.aA 1
 |.stop=>.aA 2
def jZ(v:SV)(k:SV->ak α):ak α:=
 match v with
 |.undef=>k .undef
 |.di=>k .di
 |.int i n=>k (.int i n)
 |.bool b=>k (.bool b)
 |.str s=>k (.str s)
 |.cm=>k .cm
 |.list t l=>k (.list t l)
 |.row i=>k (.row i)
 |.arr i o n=>k (.arr i o n)
 |.ptr i o=>k (.ptr i o)
 |.pY=>k .pY
 |.jt t l i o=>k (.jt t l i o)
 |.iy a z i o=>k (.iy a z i o)
 |.agg cs=>k (.agg cs)
 |.tuple vs=>k (.tuple vs)
 |.fn f a c=>k (.fn f a c)
 |.dO v=>k (.dO v)
def qF6(n:Nat)(k:Nat->ak α):ak α:=
 match n with
 |0=>k 0
 |m+1=>k (m+1)
def DX(l:List SV):(List SV->ak α)->ak α:=
 List.rec (motive:=λ_=>(List SV->ak α)->ak α) (λk=>k []) (λx _ ih k=>jZ x λx=>ih λxs=>k (x::xs)) l
def nth{β:Type}(l:List β):Nat->Option β:=
 List.rec (motive:=λ_=>Nat->Option β) (λ_=>none) (λx _ ih n=>Nat.casesOn (motive:=λ_=>Option β) n (some x) ih) l
def e9{β:Type}(d:Nat):Tb β->Nat->Option β->(Tb β->ak α)->ak α:=
 Nat.rec (motive:=λ_=>Tb β->Nat->Option β->(Tb β->ak α)->ak α) (λ_ _ _ _=>.aA 3)
  (λ_ ih t i v k=>match t with
    |.e=>Nat.casesOn (motive:=λ_=>ak α) i (k (.n .e v .e)) λj=>Tb.pick j (λi=>ih .e i v λl=>k (.n l none .e)) (λi=>ih .e i v λr=>k (.n .e none r))
    |.n l u r=>Nat.casesOn (motive:=λ_=>ak α) i (k (.n l v r)) λj=>Tb.pick j (λi=>ih l i v λl=>k (.n l u r)) (λi=>ih r i v λr=>k (.n l u r))) d
def Mem.set(m:Mem)(id:Nat)(b:Option aR)(k:Mem->ak α):ak α:=e9 40 m.tb id b λtb=>k ⟨m.next,tb⟩
def Mem.push(m:Mem)(b:aR)(k:Mem->Nat->ak α):ak α:=qF6 m.next λn=>e9 40 m.tb n (some b) λtb=>k ⟨n+1,tb⟩ n
def Fr.set(fr:Fr)(t:Nat)(v:SV)(k:Fr->ak α):ak α:=match Nat.ble (t+1) fr.size with
 |true=>e9 40 fr.tb t (some v) λtb=>k ⟨fr.size,tb⟩
 |false=>.aA 5
def Fr.make(size:Nat)(args:List SV):(Fr->ak α)->ak α:=
 List.rec (motive:=λ_=>Nat->Fr->(Fr->ak α)->ak α) (λ_ fr k=>k fr) (λx _ ih i fr k=>jZ x λx=>fr.set i x λfr=>ih (i+1) fr k) args 0 ⟨size,.e⟩
def qD(cs:List SV):Nat->List SV->(List SV->ak α)->ak α:=
 List.rec (motive:=λ_=>Nat->List SV->(List SV->ak α)->ak α)
  (λ_ vs k=>match vs with|[] =>k [] |_::_=>.aA 6)
  (λc cs ih off vs k=>match vs with
    |[] =>k (c::cs)
    |v::vs=>Nat.casesOn (motive:=λ_=>ak α) off (jZ v λv=>ih 0 vs λys=>k (v::ys)) λoff=>ih off (v::vs) λys=>k (c::ys)) cs
def Mx(cs:List SV):Nat->Nat->(List SV->ak α)->ak α:=
 List.rec (motive:=λ_=>Nat->Nat->(List SV->ak α)->ak α)
  (λ_ n k=>Nat.casesOn (motive:=λ_=>ak α) n (k []) λ_=>.aA 4)
  (λc _ ih off n k=>Nat.casesOn (motive:=λ_=>ak α) n (k []) λn=>Nat.casesOn (motive:=λ_=>ak α) off (jZ c λc=>ih 0 n λys=>k (c::ys)) λoff=>ih off (n+1) k) cs
end
def SV.cells:SV->List SV
 |.agg cs=>cs
 |v=>[v]
def SV.one:SV->Bool
 |.undef=>false
 |.di=>false
 |.agg _=>false
 |.tuple _=>false
 |.dO v=>match v with
  |.agg _=>false
  |.tuple _=>false
  |_=>true
 |_=>true
def AN(l:List SV):Bool:=List.rec (motive:=λ_=>Bool) true (λx _ ih=>match x.one with
 |true=>ih
 |false=>false) l
def CT:Value->SV
 |.int k n=>.int k n
 |.bool b=>.bool b
 |.string s=>.str s.data.toList
 |.slice none 0 0=>.cm
 |.pointer none=>.pY
 |v=>.dO v
def FI:Value->SV
 |.agg cs=>.agg (cs.toList.map CT)
 |.func (.func f) a c=>match a.toList,c.toList with
  |[],[] =>.fn f [] []
  |_,_=>.dO (.func (.func f) a c)
 |v=>CT v
def SR:SV->Option Value
 |.int k n=>some (.int k n)
 |.bool b=>some (.bool b)
 |.str s=>some (.string ⟨⟨s⟩⟩)
 |_=>none
def MA:List SV->Option (List Value)
 |[] =>some []
 |x::xs=>match SR x,MA xs with
  |some v,some vs=>some (v::vs)
  |_,_=>none
def SQ:SV->Option Value
 |.agg cs=>match MA cs with
  |some vs=>some (.agg vs.toArray)
  |none=>none
 |v=>SR v
def Lu:TypeDesc->Bool
 |.interface _=>true
 |_=>false
structure Row where
 desc:TypeDesc
 size:Nat
 bytes:Nat
 zero:List SV
 ty:Option Ty
 B1:Bool
 held:Bool
inductive Ex where
 |ok (v:SV) (m:Mem)
 |cE (v:SV) (m:Mem)
structure Env where
 row:TypeId->Option Row
 fn:FuncId->Option Func
 sum:FuncId->Option (List SV->Option (ak SV))
 wr:FuncId->Option (List SV->Mem->Option (ak (SV×Mem)))
 rd:FuncId->Bool
 pn:FuncId->Option (List SV->Mem->Option (ak Ex))
 cut:Nat->Bool
 C7:TypeId->Bool:=λ_=>false
 fD:FuncId->Bool:=λ_=>false
 zv:TypeId->Option Value:=λ_=>none
 bx:FuncId->Option (List SV->aR->Option (ak (Bool×SV×aR))):=λ_=>none
 ow:FuncId->Option (List SV->Option (ak (SV×Mem))):=λ_=>none
def Row.isAgg(r:Row):Bool:=match r.desc with
 |.struct _=>true
 |.array _ _=>true
 |_=>false
section
variable {α:Type} (E:Env)
abbrev p9(α:Type):=SV->ax->Mem->ak α
def loadCells(r:Row)(cs:List SV)(off:Nat)(p:ax)(m:Mem)(V:p9 α):ak α:=
 match r.isAgg with
 |true=>Mx cs off r.size λys=>V (.agg ys) p m
 |false=>match nth cs off with
  |some v=>jZ v λv=>V v p m
  |none=>.aA 10
def FC(t:TypeId)(a:SV)(p:ax)(m:Mem)(V:p9 α):ak α:=
 match E.row t with
 |none=>.aA 11
 |some r=>match a with
  |.ptr id off=>match m.get id with
   |some (.cells cs)=>loadCells r cs off p m V
   |some (.obj _ cs)=>loadCells r cs off p m V
   |_=>.aA 12
  |.jt u l i off=>loadCells r (flat u (l.getD i u.iH)) off p m V
  |.iy id sz i off=>match m.get id with
   |some (.rows u l)=>match sz==u.sz with
    |true=>.aj (i<l.length) (loadCells r (flat u (l.getD i u.iH)) off p m V)
    |false=>.aA 13
   |_=>.aA 13
  |_=>.aA 14
def xc(t:TypeId)(a v:SV)(p:ax)(m:Mem)(V:p9 α):ak α:=
 match E.row t with
 |none=>.aA 15
 |some r=>match r.size==v.cells.length&&AN v.cells with
  |false=>.aA 16
  |true=>match a with
   |.ptr id off=>match m.get id with
    |some (.cells cs)=>qD cs off v.cells λcs=>m.set id (some (.cells cs)) λm=>V .undef p m
    |some (.obj u cs)=>qD cs off v.cells λcs=>m.set id (some (.obj u cs)) λm=>V .undef p m
    |_=>.aA 17
   |.iy id sz i off=>match m.get id with
    |some (.rows u l)=>match sz==u.sz with
     |true=>.aj (i<l.length) (qD (flat u (l.getD i u.iH)) off v.cells λcs=>match jC u cs with
      |some (x,[])=>m.set id (some (.rows u (l.set i x))) λm=>V .undef p m
      |_=>.aA 18)
     |false=>.aA 19
    |_=>.aA 19
   |_=>.aA 20
def IB(a:SV)(n:Nat):Option SV:=
 match a with
 |.ptr id off=>some (.ptr id (off+n))
 |.jt t l i off=>some (.jt t l i (off+n))
 |.iy id z i off=>some (.iy id z i (off+n))
 |_=>none
def Pv(s:TypeId)(a:SV)(f:Nat)(p:ax)(m:Mem)(V:p9 α):ak α:=
 match E.row s with
 |some {desc:=.struct fs, ..}=>match fs[f]? with
  |some fd=>match E.row fd.type with
   |some r=>match r.size with
    |0=>.aA 21
    |_+1=>match IB a fd.offset with
     |some v=>jZ v λv=>V v p m
     |none=>.aA 22
   |none=>.aA 23
  |none=>.aA 24
 |_=>.aA 25
def Y8(t:TypeId)(cs:List SV)(off:Nat)(p:ax)(m:Mem)(V:p9 α):ak α:=
 match E.row t with
 |some r=>loadCells r cs off p m V
 |none=>.aA 26
def Pw(s:TypeId)(x:SV)(f:Nat)(p:ax)(m:Mem)(V:p9 α):ak α:=
 match E.row s with
 |some {desc:=.struct fs, ..}=>match fs[f]?,x with
  |some fd,.agg cs=>Y8 E fd.type cs fd.offset p m V
  |_,_=>.aA 27
 |_=>.aA 28
def Pt(t:TypeId)(x ix:SV)(p:ax)(m:Mem)(V:p9 α):ak α:=
 match ix with
 |.int _ i=>match E.row t with
  |some {desc:=.slice e, ..}=>match x with
   |.list u l=>match E.row e with
    |some r=>match r.size==u.sz with
     |true=>.aj (0<=i&&i<l.length) (V (.jt u l i.toNat 0) p m)
     |false=>.aA 30
    |none=>.aA 31
   |.row id=>match m.get id with
    |some (.rows u l)=>match E.row e with
     |some r=>match r.size==u.sz with
      |true=>.aj (0<=i&&i<l.length) (V (.iy id u.sz i.toNat 0) p m)
      |false=>.aA 32
     |none=>.aA 33
    |_=>.aA 34
   |.arr id off n=>match E.row e with
    |some r=>.aj (0<=i&&i<n) (V (.ptr id (off+i.toNat*r.size)) p m)
    |none=>.aA 35
   |_=>.aA 36
  |some {desc:=.array n e, ..}=>match E.row e with
   |some r=>match IB x (i.toNat*r.size)with
    |some v=>.aj (0<=i&&i<n) (V v p m)
    |none=>.aA 37
   |none=>.aA 38
  |_=>.aA 39
 |_=>.aA 40
def Pu(t:TypeId)(x ix:SV)(p:ax)(m:Mem)(V:p9 α):ak α:=
 match ix with
 |.int _ i=>match E.row t with
  |some {desc:=.string, ..}=>match x with
   |.str s=>.aj (0<=i&&i<s.length) (V (.int .u8 (s.getD i.toNat 0).toNat) p m)
   |_=>.aA 41
  |some {desc:=.array n e, ..}=>match x with
   |.agg cs=>match E.row e with
    |some r=>.aj (0<=i&&i<n) (loadCells r cs (i.toNat*r.size) p m V)
    |none=>.aA 42
   |_=>.aA 43
  |_=>.aA 44
 |_=>.aA 45
def gT.part(t:TypeId)(cs:List SV)(off:Nat):Option SV:=match E.row t with
 |some r=>if r.isAgg then(if off+r.size<=cs.length then some (.agg ((cs.drop off).take r.size))else none)else nth cs off
 |none=>none
def gT.go(eq:TypeId->SV->SV->Option Bool)(xs ys:List SV):List Field->Option Bool
 |[] =>some true
 |f::fs=>match gT.part E f.type xs f.offset,gT.part E f.type ys f.offset with
  |some a,some b=>match eq f.type a b,gT.go eq xs ys fs with
   | some u, some v => if f.name = "_" then none else some (u && v)
   |_,_=>none
  |_,_=>none
def gT.HN(eq:TypeId->SV->SV->Option Bool)(e:TypeId)(r:Row)(xs ys:List SV):Nat->Nat->Option Bool
 |0,_=>some true
 |n+1,i=>match gT.part E e xs (i*r.size),gT.part E e ys (i*r.size)with
  |some a,some b=>match eq e a b,gT.HN eq e r xs ys n (i+1)with
   |some u,some v=>some (u&&v)
   |_,_=>none
  |_,_=>none
def Lx:Value->Value->Option Bool
 |.nilIface,.nilIface=>some true
 |.nilIface,.iface _ _=>some false
 |.iface _ _,.nilIface=>some false
 |_,_=>none
def gT:Nat->TypeId->SV->SV->Option Bool
 |0,_,_,_=>none
 |d+1,t,x,y=>match E.row t with
  |some {desc:=.bool, ..}=>match x,y with
   |.bool a,.bool b=>some (a==b)
   |_,_=>none
  |some {desc:=.int _, ..}=>match x,y with
   |.int k a,.int k' b=>if k=k' then some (a==b)else none
   |_,_=>none
  |some {desc:=.string, ..}=>match x,y with
   |.str a,.str b=>some (a==b)
   |_,_=>none
  |some {desc:=.struct fs,held:=false, ..}=>match x,y with
   |.agg xs,.agg ys=>gT.go E (gT d) xs ys fs.toList
   |_,_=>none
  |some {desc:=.array n e, ..}=>match x,y,E.row e with
   |.agg xs,.agg ys,some r=>gT.HN E (gT d) e r xs ys n 0
   |_,_,_=>none
  |some {desc:=.interface _, ..}=>match x,y with
   |.dO a,.dO b=>Lx a b
   |_,_=>none
  |_=>none
def RF(op:BinOp)(k:IntKind)(a b:Int):Option SV:=
 match op with
 |.add=>some (.int k (k.wrap (a+b)))
 |.sub=>some (.int k (k.wrap (a-b)))
 |.mul=>some (.int k (k.wrap (a*b)))
 |.and=>some (.int k (k.wrap (BitVec.ofInt k.bits a &&&BitVec.ofInt k.bits b).toNat))
 |.or=>some (.int k (k.wrap (BitVec.ofInt k.bits a |||BitVec.ofInt k.bits b).toNat))
 |.xor=>some (.int k (k.wrap (BitVec.ofInt k.bits a ^^^ BitVec.ofInt k.bits b).toNat))
 |.andNot=>some (.int k (k.wrap (BitVec.ofInt k.bits a &&& ~~~BitVec.ofInt k.bits b).toNat))
 |.eql=>some (.bool (a==b))
 |.neq=>some (.bool (a != b))
 |.lss=>some (.bool (a<b))
 |.leq=>some (.bool (a<=b))
 |.gtr=>some (.bool (a>b))
 |.geq=>some (.bool (a>=b))
 |_=>none
def SU(op:BinOp)(a b:List UInt8):Option SV:=
 match op with
 |.eql=>some (.bool (a==b))
 |.neq=>some (.bool (!(a==b)))
 |.lss=>some (.bool (Op.bytesLess a b))
 |.leq=>some (.bool (Op.bytesLess a b||a==b))
 |.gtr=>some (.bool (!(Op.bytesLess a b||a==b)))
 |.geq=>some (.bool (!(Op.bytesLess a b)))
 |_=>none
def XM:SV->SV->Option (Bool×Bool)
 |.cm,.cm=>some (true,true)
 |.list _ l,.cm=>some (!l.isEmpty,false)
 |.arr _ _ _,.cm=>some (true,false)
 |.dO v,.cm=>match v with
  |.slice none _ _=>some (true,true)
  |.slice (some _) _ _=>some (true,false)
  |_=>none
 |_,_=>none
def PB(op:BinOp)(t:TypeId)(x y:SV)(p:ax)(m:Mem)(V:p9 α):ak α:=
 match x,y with
 |.int k a,.int k' b=>match op with
  |.shl=>.aj (0<=b) (V (.int k (k.wrap (a*2 ^ (min b.toNat k.bits)))) p m)
  |.shr=>.aj (0<=b) (V (.int k (a.fdiv (2 ^ (min b.toNat k.bits)))) p m)
  |op=>if k=k' then match op with
   |.quo=>.aj (!(b==0)) (V (.int k (k.wrap (a.tdiv b))) p m)
   |.rem=>.aj (!(b==0)) (V (.int k (a.tmod b)) p m)
   |op=>match RF op k a b with
    |some v=>V v p m
    |none=>.aA 50
   else .aA 51
 |.str a,.str b=>match op with
  |.add=>.aj (((a.length+b.length:Nat):Int)<=9223372036854775807) (V (.str (a++b)) p m)
  |op=>match SU op a b with
   |some v=>V v p m
   |none=>.aA 52
 |x,y=>match XM x y with
  |some rb=>match E.row t with
   |some {desc:=.slice _, ..}=>match op with
    |.eql=>.aj rb.1 (V (.bool rb.2) p m)
    |.neq=>.aj rb.1 (V (.bool (!rb.2)) p m)
    |_=>.aA 57
   |_=>.aA 58
  |none=>match E.row t with
   |some {B1:=false, ..}=>match op with
    |.eql=>match gT E 100 t x y with
     |some b=>V (.bool b) p m
     |none=>.aA 53
    |.neq=>match gT E 100 t x y with
     |some b=>V (.bool (!b)) p m
     |none=>.aA 54
    |_=>.aA 55
   |_=>.aA 56
def Pn(op:UnOp)(x:SV)(p:ax)(m:Mem)(V:p9 α):ak α:=
 match op,x with
 |.neg,.int k n=>V (.int k (k.wrap (0-n))) p m
 |.xor,.int k n=>V (.int k (k.wrap (BitVec.ofInt k.bits (if k.signed then -1 else k.max) ^^^ BitVec.ofInt k.bits n).toNat)) p m
 |.not,.bool b=>V (.bool (!b)) p m
 |_,_=>.aA 60
def OI(m:Mem):SV->Option (List UInt8)
 |.cm=>some []
 |.list (.int .u8) l=>some ((l:List Int).map λn=>UInt8.ofNat n.toNat)
 |.row id=>match m.get id with
  |some (.rows (.int .u8) l)=>some ((l:List Int).map λn=>UInt8.ofNat n.toNat)
  |_=>none
 |.arr id off n=>match m.get id with
  |some (.cells cs)=>match vK (.int .u8) n ((cs.drop off).take (n*(Ty.int .u8).sz))with
   |some l=>some ((l:List Int).map λn=>UInt8.ofNat n.toNat)
   |none=>none
  |_=>none
 |_=>none
def Pz(src dst:TypeId)(x:SV)(p:ax)(m:Mem)(V:p9 α):ak α:=
 match E.row src,E.row dst with
 |some rs,some rd=>match rs.desc,rd.desc,x with
  |_,.int k,.int _ n=>V (.int k (k.wrap n)) p m
  |_,.string,.str s=>V (.str s) p m
  |.string,.slice e,.str s=>match E.row e with
   |some {desc:=.int .u8,size:=size, ..}=>match size==1 with
    |true=>m.push ((.rows (.int .u8) (s.map λb=>(b.toNat:Int)))) λm id=>V (.row id) p m
    |false=>.aA 61
   |_=>.aA 61
  |.slice e,.string,x=>match E.row e with
   |some {desc:=.int .u8, ..}=>match OI m x with
    |some s=>V (.str s) p m
    |none=>.aA 62
   |_=>.aA 63
  |_,_,_=>.aA 64
 |_,_=>.aA 65
def Px(x:SV)(i:Nat)(p:ax)(m:Mem)(V:p9 α):ak α:=
 match x with
 |.tuple vs=>match nth vs i with
  |some v=>jZ v λv=>V v p m
  |none=>.aA 66
 |_=>.aA 67
def cut{O:Type}(l:List O)(lo hi:Option SV):Option (Bool×List O):=
 match lo,hi with
 |none,none=>some (true,l)
 |some (.int _ a),none=>some (0<=a&&a<=l.length,l.drop a.toNat)
 |none,some (.int _ b)=>some (0<=b&&b<=l.length,l.take b.toNat)
 |some (.int _ a),some (.int _ b)=>some (0<=b&&b<=l.length&&0<=a&&a<=b,(l.take b.toNat).drop a.toNat)
 |_,_=>none
def V0:SV->Bool
 |.cm=>true
 |.list _ _=>true
 |.row _=>true
 |_=>false
def Po(t:TypeId)(x:SV)(lo hi mx:Option SV)(p:ax)(m:Mem)(V:p9 α):ak α:=
 match E.row t,mx with
 |some r,none=>match r.desc,x with
  |.string,.str s=>match cut s lo hi with
   |some bl=>.aj bl.1 (V (.str bl.2) p m)
   |none=>.aA 70
  |.slice e,.list u xs=>match E.row e with
   |some re=>match re.size==u.sz with
    |true=>match cut xs lo hi with
     |some bl=>.aj bl.1 (V (.list u bl.2) p m)
     |none=>.aA 71
    |false=>.aA 75
   |none=>.aA 76
  |.array n e,.ptr id off=>match E.row e,lo,hi with
   |some _,none,none=>V (.arr id off n) p m
   |_,_,_=>.aA 72
  |_,_=>.aA 73
 |some r,some mx=>match r.desc,lo,hi,mx with
  |.slice e,none,some (.int _ h),.int _ c=>match E.row e with
   |some {ty:=some u,size:=size, ..}=>match size==u.sz&&V0 x with
    |true=>.aj (h==0&&c==0) (m.push (.rows u []) λm id=>V (.row id) p m)
    |false=>.aA 77
   |_=>.aA 78
  |_,_,_,_=>.aA 79
 |_,_=>.aA 74
def oC(u:Ty)(m:Mem):SV->Option (List u.T)
 |.cm=>some []
 |.list t l=>if h:t=u then some (h▸l)else none
 |.row id=>match m.get id with
  |some (.rows t l)=>if h:t=u then some (h▸l)else none
  |_=>none
 |.arr id off n=>match m.get id with
  |some (.cells cs)=>vK u n ((cs.drop off).take (n*u.sz))
  |_=>none
 |.str s=>if h:u=.int .u8 then some (h▸(s.map λb=>(b.toNat:Int):List Int))else none
 |.dO v=>match v with
  |.slice _ 0 _=>some []
  |_=>none
 |_=>none
def lD(t:TypeId)(s x:SV)(p:ax)(m:Mem)(V:p9 α):ak α:=
 match E.row t with
 |some {desc:=.slice e, ..}=>match E.row e with
  |some {ty:=some u,bytes:=bytes,size:=size, ..}=>match size==u.sz&&Nat.ble 1 bytes with
   |true=>match oC u m x with
    |some xs=>match s with
     |.cm=>.aj (xs.length*bytes<=140737488355328) (m.push ((.rows u xs)) λm id=>V (.row id) p m)
     |.row id=>match m.get id with
      |some (.rows v l)=>if h:v=u then
        .aj ((l.length+xs.length)*bytes<=140737488355328) (m.set id none λm=>m.push ((.rows u ((h▸l:List u.T)++xs))) λm id=>V (.row id) p m)
       else .aA 80
      |_=>.aA 81
     |.arr id off n=>match oC u m (.arr id off n)with
      |some l=>dec p xs.isEmpty λb p=>match b with
       |true=>V (.arr id off n) p m
       |false=>.aj ((l.length+xs.length)*bytes<=140737488355328) (m.push (.rows u (l++xs)) λm id=>V (.row id) p m)
      |none=>.aA 87
     |_=>.aA 82
    |none=>.aA 83
   |false=>.aA 84
  |_=>.aA 85
 |_=>.aA 86
def lenOf(m:Mem):SV->Option Nat
 |.cm=>some 0
 |.list _ l=>some l.length
 |.row id=>match m.get id with
  |some (.rows _ l)=>some l.length
  |_=>none
 |.arr _ _ n=>some n
 |_=>none
def Ps(t:TypeId)(x:SV)(p:ax)(m:Mem)(V:p9 α):ak α:=
 match E.row t with
 |some r=>match r.desc with
  |.array n _=>V (.int .i64 n) p m
  |.string=>match x with
   |.str s=>V (.int .i64 s.length) p m
   |_=>.aA 87
  |.slice _=>match lenOf m x with
   |some n=>V (.int .i64 n) p m
   |none=>.aA 88
  |_=>.aA 89
 |none=>.aA 90
def FA:SV->List SV->Option SV
 |v,[] =>some v
 |.int k x,.int _ y::vs=>FA (.int k (if y>x then y else x)) vs
 |_,_=>none
def Fy:SV->List SV->Option SV
 |v,[] =>some v
 |.int k x,.int _ y::vs=>Fy (.int k (if y<x then y else x)) vs
 |_,_=>none
def Py(t:TypeId)(d x:SV)(p:ax)(m:Mem)(V:p9 α):ak α:=
 match E.row t with
 |some {desc:=.slice e, ..}=>match E.row e with
  |some {ty:=some u,size:=size, ..}=>match size==u.sz with
   |true=>match oC u m x with
    |some xs=>match d with
     |.row id=>match m.get id with
      |some (.rows v l)=>if h:v=u then match x with
        |.str _=>.aj (xs.length<=l.length&&!l.isEmpty) (m.set id (some (.rows u (xs++(h▸l:List u.T).drop xs.length))) λm=>V (.int .i64 xs.length) p m)
        |_=>.aj (xs.length==l.length&&!xs.isEmpty) (m.set id (some (.rows u xs)) λm=>V (.int .i64 xs.length) p m)
       else .aA 190
      |_=>.aA 191
     |_=>.aA 192
    |none=>.aA 193
   |false=>.aA 194
  |_=>.aA 195
 |_=>.aA 196
def FE(b:Builtin)(ts:List TypeId)(vs:List SV)(p:ax)(m:Mem)(V:p9 α):ak α:=
 match b,ts,vs with
 |.len,[t],[x] =>Ps E t x p m V
 |.append,[t,t1],[s,x] =>match E.row t1 with
  |some {desc:=.slice _, ..}=>lD E t s x p m V
  |some {desc:=.string, ..}=>lD E t s x p m V
  |_=>.aA 89
 |.copy,[t,_],[d,x] =>Py E t d x p m V
 |.max,_,v::vs=>match FA v vs with
  |some v=>V v p m
  |none=>.aA 91
 |.min,_,v::vs=>match Fy v vs with
  |some v=>V v p m
  |none=>.aA 92
 |_,_,_=>.aA 93
def GF(place:Nat->Option (Nat×Nat))(cs:List SV)(parts:List (Nat×SV)):(List SV->ak α)->ak α:=
 List.rec (motive:=λ_=>List SV->(List SV->ak α)->ak α) (λcs k=>k cs)
  (λx _ ih cs k=>match place x.1 with
    |some os=>match os.2==x.2.cells.length&&AN x.2.cells&&Nat.ble 1 os.2 with
     |true=>qD cs os.1 x.2.cells λcs=>ih cs k
     |false=>.aA 94
    |none=>.aA 95) parts cs
def QF(fs:List Field):Option (List (Nat×Nat)):=
 List.rec (motive:=λ_=>Option (List (Nat×Nat))) (some []) (λf _ ih=>match E.row f.type,ih with
  |some r,some l=>some ((f.offset,r.size)::l)
  |_,_=>none) fs
def PA(t:TypeId)(parts:List (Nat×SV))(p:ax)(m:Mem)(V:p9 α):ak α:=
 match E.row t with
 |some r=>match r.desc with
  |.struct fs=>match QF E fs.toList with
   |some pl=>GF (λi=>nth pl i) r.zero parts λcs=>V (.agg cs) p m
   |none=>.aA 95
  |.array _ e=>match E.row e with
   |some re=>GF (λi=>some (i*re.size,re.size)) r.zero parts λcs=>V (.agg cs) p m
   |none=>.aA 96
  |_=>.aA 97
 |none=>.aA 98
def C1(z:List SV):Nat->List SV
 |0=>[]
 |n+1=>z++C1 z n
def CR(t:TypeId)(n:Nat)(parts:List (Nat×SV))(p:ax)(m:Mem)(V:p9 α):ak α:=
 match E.row t with
 |some {desc:=.slice e, ..}=>match E.row e with
  |some re=>match n*re.size<=1000&&re.zero.length=re.size with
   |true=>GF (λi=>some (i*re.size,re.size)) (C1 re.zero n) parts λcs=>m.push ((.cells cs)) λm id=>V (.arr id 0 n) p m
   |false=>.aA 99
  |none=>.aA 100
 |_=>.aA 101
def Pr(t:TypeId)(len cap:SV)(p:ax)(m:Mem)(V:p9 α):ak α:=
 match len,cap with
 |.int .i64 n,.int .i64 c=>match E.row t with
  |some {desc:=.slice e, ..}=>match E.row e with
   |some {ty:=some u,bytes:=bytes,size:=size, ..}=>match size==u.sz with
    |true=>.aj (0<=n&&n==c&&bytes*n<=140737488355328&&n<=9223372036854775807) (m.push ((.rows u (List.replicate n.toNat u.iH))) λm id=>V (.row id) p m)
    |false=>.aA 102
   |_=>.aA 103
  |_=>.aA 104
 |_,_=>.aA 105
def Pp(x:SV)(p:ax)(m:Mem)(V:p9 α):ak α:=
 match x with
 |.str s=>m.push ((.iter s 0)) λm id=>V (.ptr id 0) p m
 |_=>.aA 106
def Pq(x:SV)(p:ax)(m:Mem)(V:p9 α):ak α:=
 match x with
 |.ptr id 0=>match m.get id with
  |some (.iter s pos)=>dec p (decide (pos<s.length)) λb p=>match b with
   |true=>m.set id (some (.iter s (pos+(Utf8.decode ⟨⟨s⟩⟩ pos).2))) λm=>V (.tuple [.bool true,.int .i64 pos,.int .i32 (Utf8.decode ⟨⟨s⟩⟩ pos).1]) p m
   |false=>V (.tuple [.bool false]) p m
  |_=>.aA 107
 |_=>.aA 108
def SV.data(v:SV):Bool:=
 SV.rec (motive_1:=λ_=>Bool) (motive_2:=λ_=>Bool) true false (λ_ _=>true) (λ_=>true) (λ_=>true) true (λ_ _=>true) (λ_=>false) (λ_ _ _=>false) (λ_ _=>false) true
  (λ_ _ _ _=>true) (λ_ _ _ _=>false) (λ_ ih=>ih) (λ_ ih=>ih) (λ_ _ _ a b=>match a with|true=>b|false=>false) (λ_=>true) true (λ_ _ a b=>match a with|true=>b|false=>false) v
def f7(l:List SV):Bool:=List.rec (motive:=λ_=>Bool) true (λx _ ih=>match x.data with
 |true=>ih
 |false=>false) l
def jb(v:SV)(mc m:Mem)(k:SV->Mem->Mem->ak α):ak α:=
 match v with
 |.row id=>match mc.get id with
  |some (.rows t l)=>mc.set id none λmc=>m.push (.rows t l) λm id=>k (.row id) mc m
  |_=>.aA 112
 |v=>match v.data with
  |true=>k v mc m
  |false=>.aA 113
def wI(vs:List SV):Mem->Mem->(List SV->Mem->Mem->ak α)->ak α:=
 List.rec (motive:=λ_=>Mem->Mem->(List SV->Mem->Mem->ak α)->ak α) (λmc m k=>k [] mc m)
  (λx _ ih mc m k=>jb x mc m λv mc m=>ih mc m λvs mc m=>k (v::vs) mc m) vs
def lU(v:SV)(mc m:Mem)(k:SV->Mem->ak α):ak α:=
 match v with
 |.tuple vs=>wI vs mc m λvs _ m=>k (.tuple vs) m
 |.agg vs=>wI vs mc m λvs _ m=>k (.agg vs) m
 |v=>jb v mc m λv _ m=>k v m
def yH(m:Mem)(V:p9 α):ak SV->ax->ak α
 |.ai v,p=>V v p m
 |.ag b t f,p=>dec p b λb p=>match b with
  |true=>yH m V t p
  |false=>yH m V f p
 |.aj b t,p=>.aj b (yH m V t p)
 |.aA n,_=>.aA n
def Ci(V:p9 α):ak (SV×Mem)->ax->ak α
 |.ai x,p=>V x.1 p x.2
 |.ag b t f,p=>dec p b λb p=>match b with
  |true=>Ci V t p
  |false=>Ci V f p
 |.aj b t,p=>.aj b (Ci V t p)
 |.aA n,_=>.aA n
def AJ(m:Mem)(V:p9 α):ak (SV×Mem)->ax->ak α
 |.ai x,p=>lU x.1 x.2 m λv m=>V v p m
 |.ag b t f,p=>dec p b λb p=>match b with
  |true=>AJ m V t p
  |false=>AJ m V f p
 |.aj b t,p=>.aj b (AJ m V t p)
 |.aA n,_=>.aA n
def AI(V:p9 α)(lQ:SV->Mem->ak α):ak Ex->ax->ak α
 |.ai x,p=>match x with
  |.ok v m=>V v p m
  |.cE v m=>lQ v m
 |.ag b t f,p=>dec p b λb p=>match b with
  |true=>AI V lQ t p
  |false=>AI V lQ f p
 |.aj b t,p=>.aj b (AI V lQ t p)
 |.aA n,_=>.aA n
def Cj(V:SV->ax->aR->ak α):ak (Bool×SV×aR)->ax->ak α
 |.ai x,p=>match x.1 with
  |false=>V x.2.1 p x.2.2
  |true=>.aA 177
 |.ag b t f,p=>dec p b λb p=>match b with
  |true=>Cj V t p
  |false=>Cj V f p
 |.aj b t,p=>.aj b (Cj V t p)
 |.aA n,_=>.aA n
abbrev eS(α:Type):=FuncId->List SV->ax->Mem->p9 α->ak α
def FD(call:eS α)(ev:Operand->SV)(c:Call)(p:ax)(m:Mem)(V:p9 α):ak α:=
 match c.callee with
 |.builtin b=>FE E b c.argTypes.toList (c.args.toList.map ev) p m V
 |.value f=>match ev f with
  |.fn k first cap=>call k (first++(c.args.toList.map ev++cap)) p m V
  |_=>.aA 110
 |.invoke _ _=>.aA 111
def execOp(call:eS α)(ev:Operand->SV)(o:Op)(p:ax)(m:Mem)(V:p9 α):ak α:=
 match o with
 |.move x=>jZ (ev x) λv=>V v p m
 |.assign x=>jZ (ev x) λv=>V v p m
 |.pick c a b=>match ev c with
  |.bool c=>dec p c λc p=>jZ (match c with|true=>ev a|false=>ev b) λv=>V v p m
  |_=>.aA 120
 |.alloc t=>match E.row t with
  |some r=>match E.C7 t with
   |true=>DX r.zero λz=>m.push ((.obj t z)) λm id=>V (.ptr id 0) p m
   |false=>DX r.zero λz=>m.push ((.cells z)) λm id=>V (.ptr id 0) p m
  |none=>.aA 121
 |.box _ x=>match AN (ev x).cells with
  |true=>DX (ev x).cells λcs=>m.push (.cells cs) λm id=>V (.ptr id 0) p m
  |false=>.aA 125
 |.build t parts=>PA E t (parts.toList.map λx=>(x.1,ev x.2)) p m V
 |.buildSlice t n parts=>CR E t n (parts.toList.map λx=>(x.1,ev x.2)) p m V
 |.load t a=>FC E t (ev a) p m V
 |.store t a x=>xc E t (ev a) (ev x) p m V
 |.nilCheck x=>match ev x with
  |.ptr i o=>V (.ptr i o) p m
  |.jt t l i o=>V (.jt t l i o) p m
  |.iy a z i o=>V (.iy a z i o) p m
  |.fn f a c=>V (.fn f a c) p m
  |_=>.aA 122
 |.binOp op t x y _=>PB E op t (ev x) (ev y) p m V
 |.unOp op _ x=>Pn op (ev x) p m V
 |.convert s d x=>Pz E s d (ev x) p m V
 |.makeFunc (.func f) first cap=>V (.fn f (first.toList.map ev) (cap.toList.map ev)) p m
 |.makeSlice t l c=>Pr E t (ev l) (ev c) p m V
 |.slice t x lo hi mx=>Po E t (ev x) (lo.map ev) (hi.map ev) (mx.map ev) p m V
 |.fieldAddr s x f=>Pv E s (ev x) f p m V
 |.field s x f=>Pw E s (ev x) f p m V
 |.indexAddr t x i=>Pt E t (ev x) (ev i) p m V
 |.index t x i=>Pu E t (ev x) (ev i) p m V
 |.range t x=>match E.row t with
  |some {desc:=.string, ..}=>Pp (ev x) p m V
  |_=>.aA 126
 |.next x true=>Pq (ev x) p m V
 |.extract x i=>Px (ev x) i p m V
 |.call c=>FD E call ev c p m V
 |.makeInterface t x=>match E.row t with
  |some r=>match Lu r.desc with
   |false=>match SQ (ev x)with
    |some v=>V (.dO (.iface t v)) p m
    |none=>.aA 127
   |true=>.aA 128
  |none=>.aA 129
 |.typeAssert x _ t true=>match E.row t with
  |some r=>match Lu r.desc with
   |false=>match ev x with
    |.dO u=>match u with
     |.nilIface=>match E.zv t with
      |some z=>V (.tuple [FI z,.bool false]) p m
      |none=>.aA 187
     |.iface t' v=>match Nat.beq t' t with
      |true=>V (.tuple [FI v,.bool true]) p m
      |false=>.aA 182
     |_=>.aA 183
    |_=>.aA 183
   |true=>.aA 184
  |none=>.aA 185
 |_=>.aA 123
def t4(fr:Fr):Operand->SV
 |.tmp t=>fr.get t
 |.const v=>FI v
 |.global g=>.dO (.pointer (some ⟨g,0,none⟩))
 |.func f=>.fn f [] []
def nW(fr:Fr)(d:Option Tmp)(v:SV)(k:Fr->ak α):ak α:=
 match d with
 |some d=>fr.set d v k
 |none=>k fr
def quiet:Op->Bool
 |.move _|.assign _|.pick .. |.load .. |.nilCheck _|.binOp .. |.unOp .. |.fieldAddr .. |.field .. |.indexAddr .. |.index .. |.extract .. |.makeFunc .. |.build .. =>true
 |.slice _ _ _ _ none=>true
 |.convert _ d _=>match E.row d with
  |some {desc:=.slice _, ..}=>false
  |some _=>true
  |none=>false
 |.call {callee:=.builtin .len, ..}=>true
 |.call {callee:=.builtin .max, ..}=>true
 |.call {callee:=.builtin .min, ..}=>true
 |.call {callee:=.value _, ..}=>true
 |_=>false
def nq:Op->Bool
 |.move _|.assign _|.pick .. |.nilCheck _|.binOp .. |.unOp .. |.fieldAddr .. |.field .. |.index .. |.extract .. |.makeFunc .. |.build .. =>true
 |_=>false
def oW:Op->Bool
 |.indexAddr .. =>true
 |.call {callee:=.builtin .len, ..}=>true
 |_=>false
def Ee:Op->Bool
 |.load .. =>true
 |.call {callee:=.value _, ..}=>true
 |_=>false
def mC:Op->Bool
 |.store .. =>true
 |_=>false
def od:Op->Bool
 |.alloc _=>true
 |_=>false
def ey(o:Op):Bool:=mC o||od o
def Ep(al:Bool)(o:Op):Bool:=quiet E o&& (!al||(nq o||(oW o||Ee o)))
def Ae(al:Bool)(o:Op):Bool:=nq o||(mC o||(oW o&&!al))
def MV(al:Bool)(l:List Oper):Bool:=
 List.rec (motive:=λ_=>Bool) true (λo os ih=>match ey o.op with
  |true=>(od o.op==al)&&os.all λo=>Ae al o.op
  |false=>Ep E al o.op&&ih) l
def pI(all:List Oper):Nat->Oper->Nat->Bool
 |0,o,i=>o.after.toList.any λe=>Region.binds .any e&&Nat.beq e.on i
 |n+1,o,i=>pI all n o i||o.after.toList.any λe=>Region.binds .any e&&match nth all e.on with
  |some o'=>pI all n o' i
  |none=>false
def jG2(all:List Oper):Bool:=
 all.zipIdx.all λoj=>!mC oj.1.op||all.zipIdx.all λoi=>!Nat.blt oi.2 oj.2||(nq oi.1.op||(oW oi.1.op||pI all 3 oj.1 oi.2))
def Ta(all:List Oper):Bool:=(MV E false all||MV E true all)&&jG2 all
abbrev gR(α:Type):=ax->Fr->Mem->ak α
def mh(ug:Op->Bool)(call:eS α)(all:List Oper)(o:Oper)(ih:gR α)(p:ax)(fr:Fr)(m:Mem):ak α:=
 match o.guard with
 |none=>match ug o.op with
  |true=>execOp E call (t4 fr) o.op p m λv p m=>nW fr o.dst v λfr=>ih p fr m
  |false=>.aA 133
 |some jw=>match nth all jw.1 with
  |some oj=>match oj.dst with
   |some d=>match fr.get d with
    |.bool b=>dec p b λb p=>fr.set d (.bool b) λfr=>match b==jw.2 with
     |true=>match ug o.op with
      |true=>execOp E call (t4 fr) o.op p m λv p m=>nW fr o.dst v λfr=>ih p fr m
      |false=>.aA 133
     |false=>nW fr o.dst .undef λfr=>ih p fr m
    |.undef=>nW fr o.dst .undef λfr=>ih p fr m
    |_=>.aA 130
   |none=>.aA 131
  |none=>.aA 132
def OW(ug:Op->Bool)(call:eS α)(all ops:List Oper)(k:gR α):gR α:=
 List.rec (motive:=λ_=>gR α) k (λo _ ih=>mh E ug call all o ih) ops
def J2(call:eS α)(lQ:SV->Fr->Mem->ak α)(all:List Oper)(o:Oper)(ih:gR α)(p:ax)(fr:Fr)(m:Mem):ak α:=
 match o.guard with
 |some _=>mh E (λ_=>true) call all o ih p fr m
 |none=>match o.op with
  |.panic x=>match t4 fr x with
   |.dO v=>match v with
    |.iface t v=>lQ (.dO (.iface t v)) fr m
    |_=>.aA 171
   |_=>.aA 171
  |.call c=>match c.callee with
   |.value g=>match t4 fr g with
    |.fn f first cap=>match E.pn f with
     |some s=>match s (first++(c.args.toList.map (t4 fr)++cap)) m with
      |some t=>AI (λv p m=>nW fr o.dst v λfr=>ih p fr m) (λv m=>lQ v fr m) t p
      |none=>.aA 172
     |none=>mh E (λ_=>true) call all o ih p fr m
    |_=>mh E (λ_=>true) call all o ih p fr m
   |_=>mh E (λ_=>true) call all o ih p fr m
  |_=>mh E (λ_=>true) call all o ih p fr m
def z21(call:eS α)(lQ:SV->Fr->Mem->ak α)(all ops:List Oper)(k:gR α):gR α:=
 List.rec (motive:=λ_=>gR α) k (λo _ ih=>J2 E call lQ all o ih) ops
def OC(hint:Ty)(cs:List SV):Ty:=match hint with
 |.unit=>match cs with
  |.int k _::_=>.int k
  |.str _::_=>.str
  |.bool _::_=>.bool
  |_=>.unit
 |u=>u
def DV(hint:Ty)(m:Mem)(v:SV):SV:=match v with
 |.cm=>match hint with
  |.unit=>.cm
  |t=>.list t []
 |.row id=>match m.get id with
  |some (.rows t l)=>.list t l
  |_=>.row id
 |.arr id off n=>match m.get id with
  |some (.cells cs)=>match vK (OC hint (cs.drop off)) n ((cs.drop off).take (n*(OC hint (cs.drop off)).sz))with
   |some l=>.list (OC hint (cs.drop off)) l
   |none=>.arr id off n
  |_=>.arr id off n
 |v=>v
def Gx(hint:Ty)(m:Mem):List SV->List SV
 |[] =>[]
 |x::xs=>DV hint m x::Gx hint m xs
def DU(hint:Ty)(m:Mem)(v:SV):SV:=match v with
 |.agg cs=>.agg (Gx hint m cs)
 |v=>DV hint m v
def Gw(hint:Ty)(m:Mem):List SV->List SV
 |[] =>[]
 |x::xs=>DU hint m x::Gw hint m xs
def ud(hint:Ty)(m:Mem)(v:SV):SV:=match v with
 |.tuple cs=>.tuple (Gw hint m cs)
 |v=>DU hint m v
def lM:Op->Bool
 |.store .. =>true
 |.alloc _=>true
 |.call {callee:=.builtin .append, ..}=>true
 |.call {callee:=.value f, ..}=>match f with
  |.func k=>(E.sum k).isNone
  |_=>true
 |_=>false
def uc:Op->Bool
 |.call {callee:=.value f, ..}=>match f with
  |.func k=>(E.wr k).isSome
  |_=>false
 |_=>false
def LA:Op->Ty
 |.buildSlice t _ _=>match E.row t with
  |some {desc:=.slice e, ..}=>match E.row e with
   |some r=>r.ty.getD .unit
   |none=>.unit
  |_=>.unit
 |_=>.unit
def Ja(all:List Oper):Bool:=
 all.zipIdx.all λoj=>!lM E oj.1.op||all.zipIdx.all λoi=>!Nat.blt oi.2 oj.2||(!lM E oi.1.op||pI all 3 oj.1 oi.2)
def J3(call:eS α)(o:Oper)(ih:gR α)(p:ax)(fr:Fr)(m:Mem):ak α:=
 match o.guard with
 |none=>match lM E o.op with
  |true=>execOp E call (t4 fr) o.op p m λv p m=>nW fr o.dst v λfr=>ih p fr m
  |false=>match nq o.op with
   |true=>execOp E call (t4 fr) o.op p m λv p _=>nW fr o.dst v λfr=>ih p fr m
   |false=>match f7 (o.op.operands.toList.map (t4 fr))with
    |true=>execOp E call (t4 fr) o.op p ⟨0,.e⟩ λv p mc=>match(ud (LA E o.op) mc v).data with
     |true=>jZ (ud (LA E o.op) mc v) λv=>nW fr o.dst v λfr=>ih p fr m
     |false=>.aA 135
    |false=>.aA 136
 |some _=>.aA 137
def z17(call:eS α)(ops:List Oper)(k:gR α):gR α:=
 List.rec (motive:=λ_=>gR α) k (λo _ ih=>J3 E call o ih) ops
def idx:List Nat->Nat->Option Nat
 |[],_=>none
 |x::l,k=>match Nat.beq x k with
  |true=>some 0
  |false=>match idx l k with
   |some j=>some (j+1)
   |none=>none
def oA(id:Nat)(l:List Nat):List Nat:=match idx l id with
 |some _=>l
 |none=>l++[id]
mutual
/-- The boxes that a value names, behind those of the list. -/
def oJ:SV->List Nat->List Nat
 |.row id,l=>oA id l
 |.arr id _ _,l=>oA id l
 |.ptr id _,l=>oA id l
 |.iy id _ _ _,l=>oA id l
 |.agg cs,l=>rz cs l
 |.tuple cs,l=>rz cs l
 |.fn _ a b,l=>rz b (rz a l)
 |_,l=>l
def rz:List SV->List Nat->List Nat
 |[],l=>l
 |x::xs,l=>rz xs (oJ x l)
end
mutual
/-- Is the box mentioned? -/
def gH(k:Nat):SV->Bool
 |.row id=>Nat.beq id k
 |.arr id _ _=>Nat.beq id k
 |.ptr id _=>Nat.beq id k
 |.iy id _ _ _=>Nat.beq id k
 |.agg cs=>iT k cs
 |.tuple cs=>iT k cs
 |.fn _ a b=>iT k a||iT k b
 |_=>false
def iT(k:Nat):List SV->Bool
 |[] =>false
 |x::xs=>gH k x||iT k xs
end
def vm(k:Nat):Option aR->Bool
 |some (.cells cs)=>iT k cs
 |some (.obj _ cs)=>iT k cs
 |_=>false
mutual
/-- Nothing is mentioned that lies elsewhere, but rows. -/
def uf:SV->Bool
 |.undef=>true
 |.di=>true
 |.int _ _=>true
 |.bool _=>true
 |.str _=>true
 |.cm=>true
 |.pY=>true
 |.row _=>true
 |.agg cs=>GN cs
 |.tuple cs=>GN cs
 |_=>false
def GN:List SV->Bool
 |[] =>true
 |x::xs=>uf x&&GN xs
end
def Ty.vV:Ty->Bool
 |.list _=>false
 |.pair a b=>a.vV&&b.vV
 |_=>true
def qD6:aR->Bool
 |.rows t _=>t.vV
 |_=>false
def Tb.EC{β:Type}(f:β->Bool):Tb β->Tb β
 |.e=>.e
 |.n l v r=>.n (l.EC f) (match v with
  |some x=>match f x with
   |true=>some x
   |false=>none
  |none=>none) (r.EC f)
def Mem.BX(m:Mem):Mem:=⟨m.next,m.tb.EC qD6⟩
def gd(m:Mem)(v:SV):SV:=match v with
 |.row id=>match m.get id with
  |some (.rows t l)=>.list t l
  |_=>.row id
 |v=>v
def Mem.only(m:Mem)(ids:List Nat):Mem->(Mem->ak α)->ak α:=
 List.rec (motive:=λ_=>Mem->(Mem->ak α)->ak α) (λmF k=>k mF) (λid _ ih mF k=>match m.get id with
  |some B=>mF.set id (some B) λmF=>ih mF k
  |none=>ih mF k) ids
def Mem.L6(mF:Mem)(ids:List Nat):Mem->(Mem->ak α)->ak α:=
 List.rec (motive:=λ_=>Mem->(Mem->ak α)->ak α) (λm k=>k m) (λid _ ih m k=>m.set id (mF.get id) λm=>ih m k) ids
structure Rec where
 i:Nat
 rd:List Nat
 wt:List Nat
 g:Bool
def gJ(l:List Nat)(k:Nat):Bool:=l.any λx=>Nat.beq x k
def A5(l k:List Nat):Bool:=l.any (gJ k)
def Rec.oq(r s:Rec):Bool:=A5 r.wt s.rd||(A5 r.wt s.wt||(A5 r.rd s.wt||(r.g&&s.g)))
def xe(all:List Oper)(o:Oper)(aN:List Rec)(s:Rec):Bool:=aN.all λr=>!r.oq s||pI all 3 o r.i
def C2(l:List Oper):Nat->Nat->List (Nat×Nat):=
 List.rec (motive:=λ_=>Nat->Nat->List (Nat×Nat)) (λ_ _=>[]) (λo _ ih i k=>match od o.op with
  |true=>(i,k)::ih (i+1) (k+1)
  |false=>ih (i+1) k) l
def DO(refs:List (Nat×Nat))(i:Nat):Option Nat:=match refs with
 |[] =>none
 |x::l=>match Nat.beq x.1 i with
  |true=>some x.2
  |false=>DO l i
def tN(all:List Oper)(refs:List (Nat×Nat))(o:Oper)(i:Nat)(v:SV)(wt:List Nat)(bs:List (Option aR)):Bool:=
 refs.all λck=>!(gH ck.2 v||(gJ wt ck.2||bs.any (vm ck.2)))||(Nat.beq ck.1 i||pI all 3 o ck.1)
abbrev yR(α:Type):=List Rec->ax->Fr->Mem->ak α
def kC(ev:Operand->SV)(o:Op):List Nat:=match o with
 |.store _ a _=>oJ (ev a) []
 |o=>rz (o.operands.toList.map ev) []
def Sa(ev:Operand->SV)(o:Op):List Nat:=match nq o with
 |true=>[]
 |false=>kC ev o
def qY0:Op->Bool
 |.load .. =>true
 |_=>false
def M0:Op->Bool
 |.buildSlice _ n parts=>match n,parts.toList with
  |0,[] =>true
  |_,_=>false
 |.call {callee:=.builtin .append, ..}=>true
 |.call {callee:=.value f, ..}=>match f with
  |.func k=>(E.sum k).isNone
  |_=>false
 |_=>false
def qN2:Op->Bool
 |.call {callee:=.value f, ..}=>match f with
  |.func k=>E.rd k
  |_=>false
 |_=>false
def Bq(refs:List (Nat×Nat))(all:List Oper)(o:Oper)(aN:List Rec)(ih:yR α)(v:SV)(p:ax)(fr:Fr)(mN:Mem)(s:Rec):ak α:=
 match tN all refs o s.i v s.wt (s.wt.map mN.get)&&xe all o aN s with
 |true=>nW fr o.dst v λfr=>ih (s::aN) p fr mN
 |false=>.aA 165
def FV(call dH kv:eS α)(refs:List (Nat×Nat))(all:List Oper)(i:Nat)(o:Oper)(ih:yR α)(aN:List Rec)(p:ax)(fr:Fr)(m:Mem):ak α:=
 match od o.op with
 |true=>match o.op with
  |.alloc t=>match DO refs i with
   |some k=>match(match o.guard with|none=>E.row t|some _=>none)with
    |some r=>DX r.zero λz=>m.set k (some (.cells z)) λmN=>Bq refs all o aN ih (.ptr k 0) p fr mN ⟨i,[],[k],false⟩
    |none=>.aA 166
   |none=>.aA 167
  |_=>.aA 168
 |false=>match nq o.op||(oW o.op||qY0 o.op)with
  |true=>m.only (Sa (t4 fr) o.op) ⟨m.next,.e⟩ λmF=>execOp E dH (t4 fr) o.op p mF λv p _=>Bq refs all o aN ih v p fr m ⟨i,Sa (t4 fr) o.op,[],false⟩
  |false=>match mC o.op with
   |true=>m.only (kC (t4 fr) o.op) ⟨m.next,.e⟩ λmF=>execOp E dH (t4 fr) o.op p mF λv p kE=>Mem.L6 kE (kC (t4 fr) o.op) m λmN=>Bq refs all o aN ih v p fr mN ⟨i,[],kC (t4 fr) o.op,false⟩
   |false=>match M0 E o.op with
    |true=>m.only (kC (t4 fr) o.op) ⟨m.next,.e⟩ λmF=>execOp E kv (t4 fr) o.op p mF λv p kE=>match kC (t4 fr) o.op++List.range' m.next (kE.next-m.next)with
     |W=>Mem.L6 kE W ⟨kE.next,m.tb⟩ λmN=>Bq refs all o aN ih v p fr mN ⟨i,[],W,true⟩
    |false=>match f7 (o.op.operands.toList.map (t4 fr))with
     |true=>execOp E call (t4 fr) o.op p ⟨0,.e⟩ λv p mc=>match(ud (LA E o.op) mc v).data with
      |true=>jZ (ud (LA E o.op) mc v) λv=>Bq refs all o aN ih v p fr m ⟨i,[],[],false⟩
      |false=>.aA 135
     |false=>.aA 136
def J1(call dH kv:eS α)(refs:List (Nat×Nat))(all:List Oper)(i:Nat)(o:Oper)(ih:yR α)(aN:List Rec)(p:ax)(fr:Fr)(m:Mem):ak α:=
 match o.guard with
 |none=>FV E call dH kv refs all i o ih aN p fr m
 |some jw=>match nth all jw.1 with
  |some oj=>match oj.dst with
   |some d=>match fr.get d with
    |.bool b=>dec p b λb p=>fr.set d (.bool b) λfr=>match b==jw.2 with
     |true=>FV E call dH kv refs all i o ih aN p fr m
     |false=>nW fr o.dst .undef λfr=>ih (⟨i,[],[],false⟩::aN) p fr m
    |.undef=>nW fr o.dst .undef λfr=>ih (⟨i,[],[],false⟩::aN) p fr m
    |_=>.aA 130
   |none=>.aA 131
  |none=>.aA 132
def z22(call dH kv:eS α)(refs:List (Nat×Nat))(all ops:List Oper)(k:gR α):Nat->yR α:=
 List.rec (motive:=λ_=>Nat->yR α) (λ_ _ p fr m=>k p fr m) (λo _ ih i=>J1 E call dH kv refs all i o (ih (i+1))) ops
def qY1:Op->Bool
 |.call {callee:=.value f, ..}=>match f with
  |.func k=>E.fD k
  |_=>false
 |_=>false
def L1(all:List Oper):Bool:=
 all.zipIdx.all λoi=>Nat.beq (oi.2+1) all.length||all.zipIdx.any λoj=>Nat.blt oi.2 oj.2&&oj.1.after.toList.any λe=>Region.binds .any e&&Nat.beq e.on oi.2
def OV(dH call:eS α)(all ops:List Oper)(k:gR α):gR α:=
 List.rec (motive:=λ_=>gR α) k (λo rest ih=>match rest with
  |[] =>mh E (λ_=>true) call all o k
  |_::_=>mh E (quiet E) dH all o ih) ops
def qY2:Op->Bool
 |.call {callee:=.value f, ..}=>match f with
  |.func k=>(E.pn k).isSome
  |_=>false
 |_=>false
def xa9(l:List Oper):Nat->Option Nat:=
 List.rec (motive:=λ_=>Nat->Option Nat) (λ_=>none) (λo _ ih i=>match qY2 E o.op with
  |true=>some i
  |false=>ih (i+1)) l
def qK(c:Nat)(l:List Oper):Nat->List Nat->List Nat:=
 List.rec (motive:=λ_=>Nat->List Nat->List Nat) (λ_ aN=>aN) (λo _ ih i aN=>match Nat.beq i c||o.after.toList.any (λe=>Region.binds .any e&&gJ aN e.on)with
  |true=>ih (i+1) (i::aN)
  |false=>ih (i+1) aN) l
def z25(dH:eS α)(W:List Nat)(all ops:List Oper)(k:gR α):Nat->gR α:=
 List.rec (motive:=λ_=>Nat->gR α) (λ_=>k) (λo _ ih i=>match gJ W i with
  |true=>ih (i+1)
  |false=>mh E (quiet E) dH all o (ih (i+1))) ops
def GV(ops:List Oper):Fr->(Fr->ak α)->ak α:=
 List.rec (motive:=λ_=>Fr->(Fr->ak α)->ak α) (λfr k=>k fr) (λo _ ih fr k=>match o.dst with
  |some d=>fr.set d .di λfr=>ih fr k
  |none=>ih fr k) ops
def QE(fr:Fr)(m:Mem):Op->Option (ak Ex)
 |.call c=>match c.callee with
  |.value g=>match g with
   |.func f=>match E.pn f with
    |some s=>s (c.args.toList.map (t4 fr)) m
    |none=>none
   |_=>none
  |_=>none
 |_=>none
inductive Out where
 |ret (p:ax) (fr:Fr) (m:Mem)
 |stop (items:List Item) (fr:Fr) (m:Mem)
 |cE (v:SV) (fr:Fr) (m:Mem)
def Ql(m:Mem)(fr:Fr)(r:ResultVar)(k:SV->ak α):ak α:=
 match r with
 |.tmp t=>jZ (fr.get t) k
 |.cell a t=>FC E t (fr.get a) .kK m λv _ _=>k v
def Qm(m:Mem)(fr:Fr)(rs:List ResultVar):(List SV->ak α)->ak α:=
 List.rec (motive:=λ_=>(List SV->ak α)->ak α) (λk=>k []) (λr _ ih k=>Ql E m fr r λv=>ih λvs=>k (v::vs)) rs
def results(fn:Func)(m:Mem)(fr:Fr)(k:SV->ak α):ak α:=
 Qm E m fr fn.results.toList λvs=>match vs with
  |[v] =>k v
  |vs=>k (.tuple vs)
abbrev mV(α:Type):=List Item->ax->Fr->Mem->(Out->ak α)->ak α
def Jd(ih:mV α):eS α:=λf args p m k=>match E.fn f with
 |some fn=>match fn.body with
  | some body => match fn.name == "runtime.NumGoroutine" with
    |false=>match f7 (args.map (gd m))with
     |true=>Fr.make fn.ntmps (args.map (gd m)) λfr=>ih [.code body] p fr ⟨0,.e⟩ λo=>match o with
      |.ret p fr mc=>results E fn mc fr λv=>match uf v with
       |true=>lU v mc.BX m λv m=>k v p m
       |false=>.aA 160
      |_=>.aA 142
     |false=>.aA 161
    |true=>.aA 143
  |none=>.aA 144
 |none=>.aA 145
def OG(ih:mV α):eS α:=λf args p m k=>match E.fn f with
 |some fn=>match fn.body with
  | some body => match fn.name == "runtime.NumGoroutine" with
    |false=>match f7 args with
     |true=>Fr.make fn.ntmps args λfr=>ih [.code body] p fr ⟨0,.e⟩ λo=>match o with
      |.ret p fr mc=>results E fn mc fr λv=>lU v mc m λv m=>k v p m
      |_=>.aA 142
     |false=>.aA 162
    |true=>.aA 143
  |none=>.aA 144
 |none=>.aA 145
def kv(ih:mV α):eS α:=λf args p m k=>match E.sum f with
 |some _=>.aA 163
 |none=>match E.wr f with
  |some _=>.aA 164
  |none=>match E.bx f with
   |some s=>match args with
    |.ptr id off::rest=>match Nat.beq off 0 with
     |true=>match m.get id with
      |some B=>match s rest B with
       |some t=>Cj (λv p B'=>m.set id (some B') λm=>k v p m) t p
       |none=>.aA 178
      |none=>.aA 179
     |false=>.aA 179
    |_=>.aA 179
   |none=>match E.ow f with
    |some s=>match s args with
     |some t=>AJ m k t p
     |none=>.aA 188
    |none=>match E.rd f with
     |true=>Jd E ih f args p m k
     |false=>OG E ih f args p m k
def AZ(ih:mV α):eS α:=λf args p m k=>match E.sum f with
 |some s=>match s args with
  |some t=>yH m k t p
  |none=>.aA 141
 |none=>match E.wr f with
  |some s=>match s args m with
   |some t=>Ci k t p
   |none=>.aA 155
  |none=>match E.ow f with
   |some s=>match s args with
    |some t=>AJ m k t p
    |none=>.aA 189
   |none=>match E.rd f with
    |true=>Jd E ih f args p m k
    |false=>match E.fn f with
     |some fn=>match fn.body with
      | some body => match fn.name == "runtime.NumGoroutine" with
        |false=>match f7 args&&!E.fD f with
         |true=>Fr.make fn.ntmps args λfr=>ih [.code body] p fr ⟨0,.e⟩ λo=>match o with
          |.ret p fr mc=>results E fn mc fr λv=>lU v mc m λv m=>k v p m
          |_=>.aA 142
         |false=>Fr.make fn.ntmps args λfr=>ih [.code body] p fr m λo=>match o with
          |.ret p fr m=>results E fn m fr λv=>k v p m
          |_=>.aA 142
        |true=>.aA 143
      |none=>.aA 144
     |none=>.aA 145
def dH(ih:mV α):eS α:=λf args p m k=>match E.sum f with
 |some s=>match s args with
  |some t=>yH m k t p
  |none=>.aA 141
 |none=>match E.fn f with
  |some fn=>match fn.body with
   | some body => match fn.name == "runtime.NumGoroutine" with
     |false=>match f7 args with
      |true=>Fr.make fn.ntmps args λfr=>ih [.code body] p fr ⟨0,.e⟩ λo=>match o with
       |.ret p fr mc=>results E fn mc fr λv=>match v.data with
        |true=>k v p m
        |false=>.aA 151
       |_=>.aA 142
      |false=>.aA 152
     |true=>.aA 143
   |none=>.aA 144
  |none=>.aA 145
def My(ih:mV α)(ops:List Oper)(k:gR α)(p:ax)(fr:Fr)(m:Mem):ak α:=
 match C2 ops 0 m.next with
 |refs=>z22 E (AZ E ih) (dH E ih) (kv E ih) refs ops ops k 0 [] p fr ⟨m.next+refs.length,m.tb⟩
def Cz(ih:mV α)(c:Code)(k:List Item)(p:ax)(fr:Fr)(m:Mem)(V:Out->ak α):ak α:=
 match c with
 |.skip=>ih k p fr m V
 |.label _=>ih k p fr m V
 |.region id ops draw=>match E.cut id with
  |true=>V (.stop (.code (.region id ops draw)::k) fr m)
  |false=>match draw with
   |false=>z21 E (AZ E ih) (λv fr m=>V (.cE v fr m)) ops.toList ops.toList (λp fr m=>ih k p fr m V) p fr m
   |true=>match Region.lexB .any ops with
    |true=>match ops.toList.any (λo=>qY1 E o.op)with
     |true=>match L1 ops.toList with
      |true=>OV E (dH E ih) (AZ E ih) ops.toList ops.toList (λp fr m=>ih k p fr m V) p fr m
      |false=>.aA 173
     |false=>match xa9 E ops.toList 0 with
      |some c=>match nth ops.toList c with
       |some o=>match o.guard with
        |none=>match qK c ops.toList 0 []with
         |W=>z25 E (dH E ih) W ops.toList ops.toList (λp aW _=>match QE E aW m o.op with
          |some t=>AI (λ_ p _=>My E ih ops.toList (λp fr m=>ih k p fr m V) p fr m) (λv m'=>GV ops.toList fr λcH=>V (.cE v cH m')) t p
          |none=>.aA 175) 0 p fr m
        |some _=>.aA 174
       |none=>.aA 174
      |none=>match ops.toList.any (λo=>uc E o.op)with
       |true=>match Ja E ops.toList with
        |true=>z17 E (AZ E ih) ops.toList (λp fr m=>ih k p fr m V) p fr m
        |false=>.aA 133
       |false=>match Ta E ops.toList&&!ops.toList.any (λo=>qN2 E o.op)with
        |true=>OW E (λo=>quiet E o||ey o) (dH E ih) ops.toList ops.toList (λp fr m=>ih k p fr m V) p fr m
        |false=>My E ih ops.toList (λp fr m=>ih k p fr m V) p fr m
    |false=>.aA 146
 |.seq a b=>ih (.code a::.code b::k) p fr m V
 |.cond c x y=>match t4 fr c with
  |.bool b=>dec p b λb p=>match b with
   |true=>ih (.code x::k) p fr m V
   |false=>ih (.code y::k) p fr m V
  |_=>.aA 147
 |.block id b=>ih (.code b::.inBlock id::k) p fr m V
 |.scope b=>ih (.code b::.inScope b::k) p fr m V
 |.loop b=>match p with
  |.go p=>ih (.code b::.inLoop b::k) p fr m V
  |.kK=>ih (.code b::.inLoop b::k) .kK fr m V
  |_=>V (.stop (.code (.loop b)::k) fr m)
 |.exit id=>match exitTo id k with
  |some k=>ih k p fr m V
  |none=>.aA 148
 |.ret=>V (.ret p fr m)
 |_=>.aA 149
def S0(ih:mV α):mV α:=λitems p fr m V=>
 match items with
 |[] =>V (.ret p fr m)
 |.inBlock _::k=>ih k p fr m V
 |.inScope _::k=>ih k p fr m V
 |.inLoop b::k=>match p with
  |.go p=>ih (.code b::.inLoop b::k) p fr m V
  |.kK=>ih (.code b::.inLoop b::k) .kK fr m V
  |_=>V (.stop (.inLoop b::k) fr m)
 |.code c::k=>Cz E ih c k p fr m V
 |.inRegion ops l::k=>match l with
  |[] =>ih k p fr m V
  |i::_=>match decide (l=List.range' i (ops.size-i))with
   |true=>z21 E (AZ E ih) (λv fr m=>V (.cE v fr m)) ops.toList (ops.toList.drop i) (λp fr m=>ih k p fr m V) p fr m
   |false=>.aA 186
 |_=>.aA 150
def exec(n:Nat):mV α:=
 Nat.rec (motive:=λ_=>mV α) (λ_ _ _ _ _=>.aA 140) (λ_ ih=>S0 E ih) n
def lY(n:Nat)(f:FuncId)(args:List SV)(p:ax):ak (SV×Mem):=
 match E.fn f with
 |some fn=>match fn.body with
  | some body => match fn.name == "runtime.NumGoroutine" with
    |false=>Fr.make fn.ntmps args λfr=>exec E n [.code body] p fr ⟨0,.e⟩ λo=>match o with
     |.ret _ fr m=>results E fn m fr λv=>.ai (v,m)
     |_=>.aA 142
    |true=>.aA 143
  |none=>.aA 144
 |none=>.aA 145
end
def nE.nY(u:Ty):Nat->Ty
 |0=>.unit
 |1=>u
 |n+1=>.pair u (nE.nY u n)
def nE.goF(ty:TypeId->Option Ty):List Field->Option Ty
 |[] =>some .unit
 |[f] =>ty f.type
 |f::fs=>match ty f.type,nE.goF ty fs with
  |some a,some b=>some (.pair a b)
  |_,_=>none
def nE.one:Option Ty->Option Ty
 |some (.int k)=>some (.pair (.int k) .unit)
 |u=>u
def nE(P:Program):Nat->TypeId->Option Ty
 |0,_=>none
 |d+1,t=>match P.underlying t with
  |some .bool=>some .bool
  |some (.int k)=>some (.int k)
  |some .string=>some .str
  |some (.slice e)=>match nE P d e with
   |some u=>some (.list u)
   |none=>none
  |some (.struct fs)=>nE.one (nE.goF (nE P d) fs.toList)
  |some (.array n e)=>match nE P d e with
   |some u=>nE.one (some (nE.nY u n))
   |none=>none
  |_=>none
def uZ:Ty->List Value->Option (List Value)
 |.unit,vs=>some vs
 |.int k,vs=>match vs with
  |.int k' 0::vs=>if k=k' then some vs else none
  |_=>none
 |.bool,vs=>match vs with
  |.bool false::vs=>some vs
  |_=>none
 |.str,vs=>match vs with
  |.string ⟨⟨[]⟩⟩::vs=>some vs
  |_=>none
 |.list _,vs=>match vs with
  |.slice none 0 0::vs=>some vs
  |_=>none
 |.pair a b,vs=>match uZ a vs with
  |some vs=>uZ b vs
  |none=>none
def Mk(u:Option Ty)(vs:List Value):Option Ty:=
 match u with
 |some u=>match uZ u vs with
  |some [] =>some u
  |_=>none
 |none=>none
def xk(P:Program)(t:TypeId):Option Row:=
 match P.underlying t,P.info? t with
 |some d,some i=>match i.zero with
  |some z=>some {desc:=d,size:=i.size,bytes:=i.bytes,zero:=z.cells.toList.map CT,ty:=Mk (nE P 20 t) z.cells.toList,B1:=P.eqGuardType P.depth t,held:=P.stoodInHeld t}
  |none=>none
 |_,_=>none
def Env.of(P:Program)(sum:FuncId->Option (List SV->Option (ak SV))):Env:=
 {row:=xk P,fn:=λf=>P.funcs[f]?,sum:=sum,wr:=λ_=>none,rd:=λ_=>false,pn:=λ_=>none,cut:=λ_=>false}
def Env.Sn(P:Program)(sum:FuncId->Option (List SV->Option (ak SV)))(wr:FuncId->Option (List SV->Mem->Option (ak (SV×Mem)))):Env:=
 {row:=xk P,fn:=λf=>P.funcs[f]?,sum:=sum,wr:=wr,rd:=λ_=>false,pn:=λ_=>none,cut:=λ_=>false}
def Env.cq(P:Program)(sum:FuncId->Option (List SV->Option (ak SV)))(wr:FuncId->Option (List SV->Mem->Option (ak (SV×Mem))))(pn:FuncId->Option (List SV->Mem->Option (ak Ex)))(bx:FuncId->Option (List SV->aR->Option (ak (Bool×SV×aR))))(C7:TypeId->Bool)(fD:FuncId->Bool)(rd:FuncId->Bool)(cut:Nat->Bool):Env:=
 {row:=xk P,fn:=λf=>P.funcs[f]?,sum:=sum,wr:=wr,rd:=rd,pn:=pn,cut:=cut,C7:=C7,fD:=fD,bx:=bx,zv:=λt=>(P.info? t).bind λi=>i.zero}
def Env.L7(E:Env)(ow:FuncId->Option (List SV->Option (ak (SV×Mem)))):Env:={E with ow:=ow}
open Go.RowKit
def ET(_:World):Prop:=True
def EU(_:TypeId):Prop:=True
class wC (P:Program):Prop where
 ok:∀e,P.underlying e=some (.int .u8)->P.cellsOf e=1->EU e
instance (P:Program):wC P:=⟨λ_ _ _=>trivial⟩
variable{w w':World}
def ET.mono(_:ET w)(_:Below w.heap.size w w'):ET w':=trivial
def jv7{u:Option Ty}{k:IntKind}(h:nE.one u=some (.int k)):False:=by
 unfold nE.one at h
 split at h;.cases h
 .rename_i h1
  exact h1 k h
variable{P:Program}
def jv8{k:IntKind}:∀{d:Nat} {t:TypeId},nE P d t=some (.int k)->P.underlying t=some (.int k)
 |0,t,h=>by cases h
 |d+1,t,h=>by
  unfold nE at h
  split at h
  all_goals first
   |(cases h;done)
   |(injection h with h;cases h;assumption)
   |exact(jv7 h).elim
   |(split at h<;>first|(cases h;done)|exact(jv7 h).elim)
def jv5{u:Option Ty}{vs:List Value}{t:Ty}(h:Mk u vs=some t):u=some t:=by
 unfold Mk at h
 split at h
 .split at h
  .exact h
  .cases h
 .cases h
def xv0{t:TypeId}{r:Row}(h:xk P t=some r)(h1:r.size=1):P.cellsOf t=1:=by
 unfold xk at h
 split at h
 .rename_i d i hd hi
  split at h
  .injection h with h
   subst h;unfold Program.cellsOf;rw[hi];exact h1
  .cases h
 .cases h
def xv2[wC P]{t:TypeId}{r:Row}(h:xk P t=some r)(hk:r.ty=some (.int .u8)\/r.desc=.int .u8)(h1:r.size=1):EU t:=by
 refine wC.ok (P:=P) t ?_ (xv0 h h1);unfold xk at h
 split at h
 .rename_i d i hd hi
  split at h
  .injection h with h
   subst h;rcases hk with hk|hk
   .exact jv8 (jv5 hk)
   .exact hd.trans (rQ some hk)
  .cases h
 .cases h
open Go.RowKit
abbrev bu:=Nat->Nat×Nat×Nat
def p7(R:Nat->Prop)(w:World):(t:Ty)->t.T->List Value->Prop
 |.unit,_,vs=>vs=[]
 |.int k,n,vs=>vs=[.int k n]
 |.bool,b,vs=>vs=[.bool b]
 |.str,s,vs=>vs=[.string ⟨⟨s⟩⟩]
 |.list t,l,vs=>∃ (a:Option Addr) (cap:Nat),vs=[.slice a (List.length l) cap] /\List.length l<=cap/\
   (0<List.length l->∃b o,a=some ⟨b,o,none⟩/\R b/\∀i (h:i<List.length l),∃cs:List Value,cs.length=t.sz/\
     (∀j,j<t.sz->w.cell? ⟨b,o+(i*t.sz+j),none⟩=cs[j]?)/\p7 R w t (List.get l ⟨i,h⟩) cs)
 |.pair a b,x,vs=>∃v1 v2,vs=v1++v2/\p7 R w a x.1 v1/\p7 R w b x.2 v2
def E6(R:Nat->Prop)(w:World)(t:Ty)(b o:Nat)(l:List t.T):Prop:=
 R b/\∀i (h:i<l.length),∃cs:List Value,cs.length=t.sz/\(∀j,j<t.sz->w.cell? ⟨b,o+(i*t.sz+j),none⟩=cs[j]?)/\p7 R w t l[i] cs
mutual
def aJ(R:Nat->Prop)(I:bu)(n:Nat)(w:World):SV->Value->Prop
 |.undef,v=>v=Go.undef
 |.di,_=>True
 |.int k i,v=>v=.int k i
 |.bool b,v=>v=.bool b
 |.str s,v=>v=.string ⟨⟨s⟩⟩
 |.cm,v=>v=.slice none 0 0
 |.list t l,v=>p7 R w (.list t) l [v]
 |.row id,v=>id<n/\∃a,v=.slice a (I id).2.1 (I id).2.2/\(0< (I id).2.2->a=some ⟨(I id).1,0,none⟩)
 |.arr id off k,v=>id<n/\v=.slice (some ⟨(I id).1,off,none⟩) k k
 |.ptr id off,v=>id<n/\v=.pointer (some ⟨(I id).1,off,none⟩)
 |.pY,v=>v=.pointer none
 |.jt t l i off,v=>∃b o,v=.pointer (some ⟨b,o+(i*t.sz+off),none⟩)/\i<l.length/\E6 R w t b o l
 |.iy id sz i off,v=>id<n/\v=.pointer (some ⟨(I id).1,i*sz+off,none⟩)
 |.agg cs,v=>∃vs:List Value,v=.agg ⟨vs⟩/\j8 R I n w cs vs
 |.tuple cs,v=>∃vs:List Value,v=.tuple ⟨vs⟩/\j8 R I n w cs vs
 |.fn f first cap,v=>∃vs us:List Value,v=.func (.func f) ⟨vs⟩ ⟨us⟩/\j8 R I n w first vs/\j8 R I n w cap us
 |.dO u,v=>v=u
def j8(R:Nat->Prop)(I:bu)(n:Nat)(w:World):List SV->List Value->Prop
 |[],vs=>vs=[]
 |c::cs,vs=>∃u us,vs=u::us/\aJ R I n w c u/\j8 R I n w cs us
end
structure Ext (R:Nat->Prop) (I:bu) (n:Nat) (w:World) (R':Nat->Prop) (I':bu) (n':Nat) (w':World):Prop where
 le:n<=n'
 same:∀id,id<n->I' id=I id
 keep:∀b,R b->R' b/\w'.heap[b]? =w.heap[b]?
def Ext.refl(R:Nat->Prop)(I:bu)(n:Nat)(w:World):Ext R I n w R I n w:=⟨bA _,λ_ _=>rfl,λ_ h=>⟨h,rfl⟩⟩
variable{R R':Nat->Prop}{I:bu}
theorem Ext.trans{R'':Nat->Prop}{I' I'':bu}{n n' n'':Nat}{C6:World}(h:Ext R I n w R' I' n' w')(k:Ext R' I' n' w' R'' I'' n'' C6):Ext R I n w R'' I'' n'' C6:=
 ⟨UM h.le k.le,λid aI=>(k.same id (qS aI h.le)).trans (h.same id aI),λb hb=>let ⟨h1,h2⟩:=h.keep b hb;let ⟨k1,k2⟩:=k.keep b h1;⟨k1,k2.trans h2⟩⟩
def WL{a:Addr}(h:w'.heap[a.block]? =w.heap[a.block]?):w'.cell? a=w.cell? a:=by
 simp only[World.cell?,h]
theorem p7.mono(hk:∀b,R b->R' b/\w'.heap[b]? =w.heap[b]?):∀ (t:Ty) (x:t.T) (vs:List Value),p7 R w t x vs->p7 R' w' t x vs
 |.unit,_,_,h=>h
 |.int _,_,_,h=>h
 |.bool,_,_,h=>h
 |.str,_,_,h=>h
 |.list t,l,vs,h=>by
  obtain⟨a,cap,bR,hc,hi⟩:=h;refine⟨a,cap,bR,hc,λhp=>?_⟩;obtain⟨b,o,ha,hR,he⟩:=hi hp;refine⟨b,o,ha,(hk b hR).1,λi h=>?_⟩;obtain⟨cs,h1,h2,h3⟩:=he i h;exact⟨cs,h1,λj hj=>(WL (a:=⟨b,_,none⟩) (hk b hR).2).trans (h2 j hj),p7.mono hk t _ _ h3⟩
 |.pair a b,x,vs,h=>by
  obtain⟨v1,v2,hv,h1,h2⟩:=h;exact⟨v1,v2,hv,p7.mono hk a _ _ h1,p7.mono hk b _ _ h2⟩
variable{b:Nat}
theorem E6.mono(hk:∀b,R b->R' b/\w'.heap[b]? =w.heap[b]?){t:Ty}{o:Nat}{l:List t.T}(h:E6 R w t b o l):E6 R' w' t b o l:=
 ⟨(hk b h.1).1,λi hi=>by
   obtain⟨cs,h1,h2,h3⟩:=h.2 i hi
   exact⟨cs,h1,λj hj=>(WL (a:=⟨b,_,none⟩) (hk b h.1).2).trans (h2 j hj),p7.mono hk t _ _ h3⟩⟩
mutual
theorem aJ.mono{R R':Nat->Prop}{I I':bu}{n n':Nat}{w w':World}(e:Ext R I n w R' I' n' w'):∀ (x:SV) (v:Value),aJ R I n w x v->aJ R' I' n' w' x v
 |.undef,_,h=>h
 |.di,_,_=>trivial
 |.int _ _,_,h=>h
 |.bool _,_,h=>h
 |.str _,_,h=>h
 |.cm,_,h=>h
 |.list t l,v,h=>p7.mono e.keep (.list t) l [v] h
 |.row id,_,h=>⟨qS h.1 e.le,by rw[e.same id h.1];exact h.2⟩
 |.arr id _ _,_,h=>⟨qS h.1 e.le,by rw[e.same id h.1];exact h.2⟩
 |.ptr id _,_,h=>⟨qS h.1 e.le,by rw[e.same id h.1];exact h.2⟩
 |.pY,_,h=>h
 |.jt t l i off,v,h=>by
  obtain⟨b,o,h1,h2,h3⟩:=h;exact⟨b,o,h1,h2,h3.mono e.keep⟩
 |.iy id _ _ _,_,h=>⟨qS h.1 e.le,by rw[e.same id h.1];exact h.2⟩
 |.agg cs,v,h=>by
  obtain⟨vs,h1,h2⟩:=h;exact⟨vs,h1,j8.mono e cs vs h2⟩
 |.tuple cs,v,h=>by
  obtain⟨vs,h1,h2⟩:=h;exact⟨vs,h1,j8.mono e cs vs h2⟩
 |.fn f first cap,v,h=>by
  obtain⟨vs,us,h1,h2,h3⟩:=h;exact⟨vs,us,h1,j8.mono e first vs h2,j8.mono e cap us h3⟩
 |.dO _,_,h=>h
theorem j8.mono{R R':Nat->Prop}{I I':bu}{n n':Nat}{w w':World}(e:Ext R I n w R' I' n' w'):∀ (xs:List SV) (vs:List Value),j8 R I n w xs vs->j8 R' I' n' w' xs vs
 |[],_,h=>h
 |x::xs,vs,h=>by
  obtain⟨u,us,h1,h2,h3⟩:=h;exact⟨u,us,h1,aJ.mono e x u h2,j8.mono e xs us h3⟩
end
def vJ(arr:Array Value)(fr:Nat×Nat):Prop:=∀i,i<arr.size->¬(fr.1<=i/\i<fr.2)
def Mh(t:Ty)(e:TypeId)(arr:Array Value)(fr:Nat×Nat):Prop:=vJ arr fr/\(t=.int .u8->EU e)
def fN(R:Nat->Prop)(I:bu)(n:Nat)(w:World)(r:Nat×Nat×Nat):aR->Prop
 |.cells cs=>∃arr e fr,w.heap[r.1]? =some (.cells arr e fr)/\vJ arr fr/\j8 R I n w cs arr.toList
 |.rows t l=>l.length=r.2.1/\l.length<=r.2.2/\(0<r.2.2->∃arr e fr,w.heap[r.1]? =some (.cells arr e fr)/\Mh t e arr fr/\arr.size=r.2.2*t.sz/\
   ∀i (h:i<l.length),∃cs:List Value,cs.length=t.sz/\(∀j,j<t.sz->arr[i*t.sz+j]? =cs[j]?)/\p7 R w t l[i] cs)
 |.iter s pos=>w.heap[r.1]? =some (.stringIter ⟨⟨s⟩⟩ pos)
 |.obj t cs=>∃arr,w.heap[r.1]? =some (.cells arr t (0,0))/\j8 R I n w cs arr.toList
def fJ(r:Nat×Nat×Nat):aR->Prop
 |.rows _ _=>0<r.2.2
 |_=>True
structure eo where
 p:Nat->Prop
 keep:Nat->Option Obj
instance:CoeFun eo (λ_=>Nat->Prop):=⟨eo.p⟩
abbrev eo.all(w:World):eo:=⟨λb=>b<w.heap.size,λb=>w.heap[b]?⟩
def RO(w0:World)(R0:eo)(I:bu)(w:World)(m:Mem)(b:Nat):Prop:=
 (R0 b/\b<w0.heap.size)\/(w0.heap.size<=b/\b<w.heap.size/\(∀id B,m.get id=some B->fJ (I id) B->(I id).1≠b)/\¬R0 b)
structure NM (B:Nat) (w w':World):Prop extends Below B w w' where
 gr:ET w
theorem NM.trans{B:Nat}{a b c:World}(h:NM B a b)(k:Below B b c):NM B a c:=⟨h.toBelow.trans k,h.gr⟩
abbrev RS(w0:World)(R0:eo)(I:bu)(w:World)(m:Mem):eo:=⟨RO w0 R0 I w m,λb=>w.heap[b]?⟩
structure aQ (w0:World) (R0:eo) (I:bu) (w:World) (m:Mem):Prop where
 below:NM w0.heap.size w0 w
 lt:∀id B,m.get id=some B->id<m.next
 lo:∀id B,m.get id=some B->fJ (I id) B->w0.heap.size<=(I id).1
 hi:∀id B,m.get id=some B->fJ (I id) B->(I id).1<w.heap.size
 inj:∀id bY B B',m.get id=some B->m.get bY=some B'->fJ (I id) B->fJ (I bY) B'->(I id).1=(I bY).1->id=bY
 box:∀id B,m.get id=some B->fN (RO w0 R0 I w m) I m.next w (I id) B
 aI:(∀b,R0 b->b<w.heap.size/\w.heap[b]? =R0.keep b)/\∀id B,m.get id=some B->fJ (I id) B->¬R0 (I id).1
variable{w0:World}{R0:eo}{m:Mem}
def aQ.Np(h:aQ w0 R0 I w m):ET w:=h.below.gr.mono h.below.toBelow
abbrev m8(w0:World)(R0:eo)(I:bu)(w:World)(m:Mem)(I':bu)(w':World)(m':Mem):Prop:=
 Ext (RO w0 R0 I w m) I m.next w (RO w0 R0 I' w' m') I' m'.next w'
theorem fN.mono{I':bu}{n n':Nat}(e:Ext R I n w R' I' n' w'){r:Nat×Nat×Nat}(B:aR)(hh:fJ r B->w'.heap[r.1]? =w.heap[r.1]?)(h:fN R I n w r B):fN R' I' n' w' r B:=by
 cases B with
 |cells cs=>
  obtain⟨arr,el,fr,h1,h2,h3⟩:=h;exact⟨arr,el,fr,(hh trivial).trans h1,h2,j8.mono e _ _ h3⟩
 |rows t l=>
  obtain⟨h0,T9,hp⟩:=h;refine⟨h0,T9,λhc=>?_⟩;obtain⟨arr,el,fr,h1,h2,h3,h4⟩:=hp hc;refine⟨arr,el,fr,(hh hc).trans h1,h2,h3,λi hi=>?_⟩;obtain⟨cs,k1,k2,k3⟩:=h4 i hi;exact⟨cs,k1,k2,p7.mono e.keep _ _ _ k3⟩
 |iter s pos=>exact(hh trivial).trans h
 |obj t cs=>
  obtain⟨arr,h1,h3⟩:=h;exact⟨arr,(hh trivial).trans h1,j8.mono e _ _ h3⟩
section
variable {β:Type}
def Tb.jH(i:Nat):(Tb.e:Tb β).get i=none:=rfl
def Tb.tg(l:Tb β)(v:Option β)(r:Tb β):(Tb.n l v r).get 0=v:=rfl
def Tb.iF(l:Tb β)(v:Option β)(r:Tb β)(j:Nat):(Tb.n l v r).get (j+1)=Tb.pick j l.get r.get:=rfl
def Tb.fG{O:Type}{j:Nat}(h:j % 2=0)(a b:Nat->O):Tb.pick j a b=a (j / 2):=by simp[Tb.pick,h]
def Tb.fF{O:Type}{j:Nat}(h:¬j % 2=0)(a b:Nat->O):Tb.pick j a b=b (j / 2):=by
 have:Nat.beq (j % 2) 0=false:=by
  rw[<-EW,Nat.beq_eq];exact h
 simp[Tb.pick,this]
def AQ(t:Tb β)(i:Nat)(v:Option β)(t':Tb β):Prop:=∀k,t'.get k=if k=i then v else t.get k
theorem xP{α:Type}{L:α->Prop}:∀ (d:Nat) (t:Tb β) (i:Nat) (v:Option β) (k:Tb β->ak α),(e9 d t i v k).holds L->∃t',AQ t i v t'/\(k t').holds L
 |0,_,_,_,_,h=>h.elim
 |d+1,.e,0,v,k,h=>⟨_,λj=>by cases j with
   |zero=>simp[Tb.tg]
   |succ j=>rw[Tb.iF];by_cases hj:j % 2=0<;>simp[Tb.fG,Tb.fF,hj,Tb.jH],h⟩
 |d+1,.n l u r,0,v,k,h=>⟨_,λj=>by cases j with
   |zero=>simp[Tb.tg]
   |succ j=>simp[Tb.iF],h⟩
 |d+1,.e,i+1,v,k,h=>by
  change (Tb.pick i (λi=>e9 d .e i v λl=>k (.n l none .e)) (λi=>e9 d .e i v λr=>k (.n .e none r))).holds L at h
  by_cases hi:i % 2=0
  .rw[Tb.fG hi]at h
   obtain⟨t',h1,h2⟩:=xP d _ _ _ _ h;refine⟨_,λj=>?_,h2⟩
   cases j with
   |zero=>simp[Tb.tg,Tb.jH]
   |succ j=>
    rw[Tb.iF]
    by_cases hj:j % 2=0
    .rw[Tb.fG hj,h1 (j / 2),Tb.jH,Tb.jH]
     have:j / 2=i / 2↔j+1=i+1:=by omega
     simp[this]
    .rw[Tb.fF hj,Tb.jH,Tb.jH,au (by omega)]
  .rw[Tb.fF hi]at h
   obtain⟨t',h1,h2⟩:=xP d _ _ _ _ h;refine⟨_,λj=>?_,h2⟩
   cases j with
   |zero=>simp[Tb.tg,Tb.jH]
   |succ j=>
    rw[Tb.iF]
    by_cases hj:j % 2=0
    .rw[Tb.fG hj,Tb.jH,Tb.jH,au (by omega)]
    .rw[Tb.fF hj,h1 (j / 2),Tb.jH,Tb.jH]
     have:j / 2=i / 2↔j+1=i+1:=by omega
     simp[this]
 |d+1,.n l u r,i+1,v,k,h=>by
  change (Tb.pick i (λi=>e9 d l i v λl=>k (.n l u r)) (λi=>e9 d r i v λr=>k (.n l u r))).holds L at h
  by_cases hi:i % 2=0
  .rw[Tb.fG hi]at h
   obtain⟨t',h1,h2⟩:=xP d _ _ _ _ h;refine⟨_,λj=>?_,h2⟩
   cases j with
   |zero=>simp[Tb.tg]
   |succ j=>
    rw[Tb.iF,Tb.iF]
    by_cases hj:j % 2=0
    .rw[Tb.fG hj,Tb.fG hj,h1 (j / 2)]
     have:j / 2=i / 2↔j+1=i+1:=by omega
     simp[this]
    .rw[Tb.fF hj,Tb.fF hj,au (by omega)]
  .rw[Tb.fF hi]at h
   obtain⟨t',h1,h2⟩:=xP d _ _ _ _ h;refine⟨_,λj=>?_,h2⟩
   cases j with
   |zero=>simp[Tb.tg]
   |succ j=>
    rw[Tb.iF,Tb.iF]
    by_cases hj:j % 2=0
    .rw[Tb.fG hj,Tb.fG hj,au (by omega)]
    .rw[Tb.fF hj,Tb.fF hj,h1 (j / 2)]
     have:j / 2=i / 2↔j+1=i+1:=by omega
     simp[this]
end
section
variable {α:Type} {L:α->Prop}
def pU(v:SV)(k:SV->ak α):jZ v k=k v:=by cases v<;>rfl
def R9(n:Nat)(k:Nat->ak α):qF6 n k=k n:=by cases n<;>rfl
theorem Gz:∀ (l:List SV) (k:List SV->ak α),DX l k=k l
 |[],_=>rfl
 |x::xs,k=>by
  change jZ x (λx=>DX xs λxs=>k (x::xs))=_
  rw[pU,Gz xs]
theorem tH{β:Type}:∀ (l:List β) (n:Nat),nth l n=l[n]?
 |[],n=>by simp[nth]
 |x::xs,0=>rfl
 |x::xs,n+1=>by
  change nth xs n=_
  rw[tH xs n];simp
def qy{p:ax}{b:Bool}{k:Bool->ax->ak α}(h:(dec p b k).holds L):∃p',(k b p').holds L:=by
 cases p with
 |all=>cases b with
  |false=>exact⟨_,h.2 rfl⟩
  |true=>exact⟨_,h.1 rfl⟩
 |ah pt pf=>cases b with
  |false=>exact⟨_,h.2 rfl⟩
  |true=>exact⟨_,h.1 rfl⟩
 |kK=>cases b<;>exact⟨_,h⟩
 |ar p=>cases b<;>exact⟨_,h⟩
 |go p=>cases h
 |stop=>cases h
def oH(cs:List SV)(off:Nat)(vs:List SV):List SV:=cs.take off++vs++cs.drop (off+vs.length)
theorem D5:∀ (cs:List SV) (off:Nat) (vs:List SV) (k:List SV->ak α),(qD cs off vs k).holds L->(vs=[] /\(k cs).holds L)\/(off+vs.length<=cs.length/\(k (oH cs off vs)).holds L)
 |[],off,[],k,h=>.inl ⟨rfl,h⟩
 |[],off,_::_,k,h=>h.elim
 |c::cs,off,[],k,h=>.inl ⟨rfl,h⟩
 |c::cs,0,v::vs,k,h=>by
  change (jZ v λv=>qD cs 0 vs λys=>k (v::ys)).holds L at h
  rw[pU]at h;rcases D5 cs 0 vs _ h with⟨rfl,h1⟩|⟨h1,h2⟩
  .exact .inr ⟨by simp,by simpa[oH]using h1⟩
  .exact .inr ⟨by simp at h1 ⊢;omega,by simpa[oH,yB]using h2⟩
 |c::cs,off+1,v::vs,k,h=>by
  change (qD cs off (v::vs) λys=>k (c::ys)).holds L at h
  rcases D5 cs off (v::vs) _ h with⟨h0,_⟩|⟨h1,h2⟩
  .cases h0
  .refine .inr ⟨by simp at h1 ⊢;omega,?_⟩
   have e:oH (c::cs) (off+1) (v::vs)=c::oH cs off (v::vs):=by
    unfold oH;rw[show off+1+(v::vs).length=(off+(v::vs).length)+1 from by omega];simp only[List.take_succ_cons,List.drop_succ_cons,List.cons_append]
   rw[e];exact h2
theorem Q2:∀ (cs:List SV) (off n:Nat) (k:List SV->ak α),(Mx cs off n k).holds L->(n=0/\(k []).holds L)\/(off+n<=cs.length/\(k ((cs.drop off).take n)).holds L)
 |[],off,0,k,h=>.inl ⟨rfl,h⟩
 |[],off,n+1,k,h=>h.elim
 |c::cs,off,0,k,h=>.inl ⟨rfl,h⟩
 |c::cs,0,n+1,k,h=>by
  change (jZ c λc=>Mx cs 0 n λys=>k (c::ys)).holds L at h
  rw[pU]at h;rcases Q2 cs 0 n _ h with⟨rfl,h1⟩|⟨h1,h2⟩
  .exact .inr ⟨by simp,by simpa using h1⟩
  .exact .inr ⟨by simp at h1 ⊢;omega,by simpa using h2⟩
 |c::cs,off+1,n+1,k,h=>by
  change (Mx cs off (n+1) k).holds L at h
  rcases Q2 cs off (n+1) _ h with⟨h0,_⟩|⟨h1,h2⟩
  .cases h0
  .exact .inr ⟨by simp at h1 ⊢;omega,by simpa using h2⟩
end
open Go.RowKit
def aQ.size_le(h:aQ w0 R0 I w m):w0.heap.size<=w.heap.size:=h.below.size
def aQ.mB(h:aQ w0 R0 I w m)(hb:RO w0 R0 I w m b):b<w.heap.size:=by
 rcases hb with⟨_,h1⟩|⟨_,h1,_⟩
 .have:=h.size_le;omega
 .exact h1
variable{id:Nat}{B:aR}
def aQ.Ge(h:aQ w0 R0 I w m)(hb:RO w0 R0 I w m b)(aI:m.get id=some B)(hs:fJ (I id) B):(I id).1≠b:=by
 rcases hb with⟨_,h1⟩|⟨_,_,h1,_⟩
 .have:=h.lo id B aI hs;omega
 .exact h1 id B aI hs
def aQ.aul(h:aQ w0 R0 I w m)(hh:w'.heap=w.heap)(ho:w'.os=w.os)(ht:w'.tape=w.tape)(hp:w'.output=w.output):
  aQ w0 R0 I w' m/\m8 w0 R0 I w m I w' m:=by
 have dZ:∀b,RO w0 R0 I w' m b↔RO w0 R0 I w m b:=λb=>by simp only[RO,hh]
 have e:m8 w0 R0 I w m I w' m:=⟨bA _,λ_ _=>rfl,λb hb=>⟨(dZ b).2 hb,by rw[hh]⟩⟩;refine⟨⟨⟨⟨by rw[ho,h.below.os],by rw[ht,h.below.tape],by rw[hp,h.below.output],by rw[hh];exact h.below.size,λk hk=>by rw[hh];exact h.below.block k hk⟩,h.below.gr⟩,h.lt,h.lo,by rw[hh];exact h.hi,h.inj,λid B hB=>?_,by rw[hh];exact h.aI⟩,e⟩;exact fN.mono e B (λ_=>by rw[hh]) (h.box id B hB)
theorem aQ.drew(h:aQ w0 R0 I w m):aQ w0 R0 I w.drew m/\m8 w0 R0 I w m I w.drew m:=h.aul rfl rfl rfl rfl
def cL(I:bu)(id:Nat)(r:Nat×Nat×Nat):bu:=λk=>if k=id then r else I k
def s9(I:bu)(id:Nat)(r:Nat×Nat×Nat):cL I id r id=r:=by simp[cL]
def r8(I:bu){k:Nat}(r:Nat×Nat×Nat)(h:k≠id):cL I id r k=I k:=by simp[cL,h]
def mT(m:Mem)(id:Nat)(b:Option aR)(m':Mem):Prop:=(∀k,m'.get k=if k=id then b else m.get k)/\m'.next=m.next
def mU(m:Mem)(B:aR)(m':Mem):Prop:=(∀k,m'.get k=if k=m.next then some B else m.get k)/\m'.next=m.next+1
def Up(m m2:Mem):Prop:=∀id B,m.get id=some B->m2.get id=some B
def Up.refl(m:Mem):Up m m:=λ_ _ h=>h
def aR.xX:aR->aR->Prop
 |.cells a,.cells b=>a.length=b.length
 |.rows u l,.rows u' l'=>u=u'/\l.length=l'.length
 |.iter _ _,.iter _ _=>True
 |.obj t a,.obj u b=>t=u/\a.length=b.length
 |_,_=>False
def aR.D8:∀B:aR,B.xX B
 |.cells _=>rfl
 |.rows _ _=>⟨rfl,rfl⟩
 |.iter _ _=>trivial
 |.obj _ _=>⟨rfl,rfl⟩
def aR.awz:∀{B C:aR},B.xX C->C.xX B
 |.cells _,.cells _,h=>Eq.symm h
 |.rows _ _,.rows _ _,h=>⟨h.1.symm,h.2.symm⟩
 |.iter _ _,.iter _ _,_=>trivial
 |.obj _ _,.obj _ _,h=>⟨h.1.symm,h.2.symm⟩
def aR.awy:∀{B C D:aR},B.xX C->C.xX D->B.xX D
 |.cells _,.cells _,.cells _,h,k=>Eq.trans h k
 |.rows _ _,.rows _ _,.rows _ _,h,k=>⟨h.1.trans k.1,h.2.trans k.2⟩
 |.iter _ _,.iter _ _,.iter _ _,_,_=>trivial
 |.obj _ _,.obj _ _,.obj _ _,h,k=>⟨h.1.trans k.1,h.2.trans k.2⟩
def fa(m m2:Mem):Prop:=∀id B,m.get id=some B->∃B',m2.get id=some B'/\B.xX B'
def fa.refl(m:Mem):fa m m:=λ_ B h=>⟨B,h,B.D8⟩
def fa.trans{m1 m2:Mem}(h:fa m m1)(k:fa m1 m2):fa m m2:=λid B hb=>by
 obtain⟨C,h1,h2⟩:=h id B hb;obtain⟨D,k1,k2⟩:=k id C h1;exact⟨D,k1,aR.awy h2 k2⟩
def Up.shape{m2:Mem}(h:Up m m2):fa m m2:=λid B hb=>⟨B,h id B hb,B.D8⟩
variable{m':Mem}
def mT.shape{C:aR}(hg:m.get id=some B)(h:mT m id (some C) m')(hl:B.xX C):fa m m'/\fa m' m:=by
 refine⟨λk D hk=>?_,λk D hk=>?_⟩
 .rw[h.1 k]
  by_cases dB:k=id
  .subst dB;rw[hg]at hk;cases hk;exact⟨C,by simp,hl⟩
  .exact⟨D,by rw[au dB];exact hk,D.D8⟩
 .rw[h.1 k]at hk
  by_cases dB:k=id
  .subst dB;simp at hk;subst hk;exact⟨B,hg,aR.awz hl⟩
  .rw[au dB]at hk;exact⟨D,hk,D.D8⟩
def mU.up(h:mU m B m')(hn:m.get m.next=none):Up m m':=λk D hk=>by
 rw[h.1 k]
 by_cases dB:k=m.next
 .subst dB;rw[hn]at hk;cases hk
 .rw[au dB];exact hk
def Mem.iN{α:Type}{L:α->Prop}{b:Option aR}{k:Mem->ak α}(h:(m.set id b k).holds L):∃m',mT m id b m'/\(k m').holds L:=by
 obtain⟨t',h1,h2⟩:=xP _ _ _ _ _ h;exact⟨⟨m.next,t'⟩,⟨h1,rfl⟩,h2⟩
def Mem.nB{α:Type}{L:α->Prop}{k:Mem->Nat->ak α}(h:(m.push B k).holds L):∃m',mU m B m'/\(k m' m.next).holds L:=by
 unfold Mem.push at h;rw[R9]at h;obtain⟨t',h1,h2⟩:=xP _ _ _ _ _ h;exact⟨⟨m.next+1,t'⟩,⟨h1,rfl⟩,h2⟩
def aQ.fresh(h:aQ w0 R0 I w m):m.get m.next=none:=by
 cases hg:m.get m.next with
 |none=>rfl
 |some B=>exact absurd (h.lt _ B hg) (gZ _)
def aQ.push{r:Nat×Nat×Nat}(h:aQ w0 R0 I w m)(hm:mU m B m')
  (yc:w'.os=w.os) (ht:w'.tape=w.tape) (hp:w'.output=w.output) (bS:w.heap.size<=w'.heap.size) (hold:∀k,k<w.heap.size->w'.heap[k]? =w.heap[k]?)
  (hs:fJ r B->w.heap.size<=r.1/\r.1<w'.heap.size)
  (hB:∀R n I',Ext (RO w0 R0 I w m) I m.next w R I' n w'->fN R I' n w' r B):
  aQ w0 R0 (cL I m.next r) w' m'/\m8 w0 R0 I w m (cL I m.next r) w' m':=by
 have mK:=h.size_le
 have hg:∀k C,m'.get k=some C->(k=m.next/\C=B)\/(k≠m.next/\m.get k=some C):=λk C hk=>by
  rw[hm.1 k]at hk
  by_cases e:k=m.next
  .rw[ay e]at hk;exact .inl ⟨e,by injection hk with hk;exact hk.symm⟩
  .rw[au e]at hk;exact .inr ⟨e,hk⟩
 have e:m8 w0 R0 I w m (cL I m.next r) w' m':=by
  refine⟨by rw[hm.2];omega,λid aI=>r8 _ _ (by omega),λb hb=>⟨?_,hold b (h.mB hb)⟩⟩;have cW:=h.mB hb;rcases hb with hb|⟨h1,h2,h3,h4⟩
  .exact .inl hb
  .refine .inr ⟨h1,by omega,λid C aI bC=>?_,h4⟩
   rcases hg id C aI with⟨rfl,rfl⟩|⟨cw,hk⟩
   .rw[s9]at bC ⊢;have:=(hs bC).1;omega
   .rw[r8 _ _ cw]at bC ⊢;exact h3 id C hk bC
 refine⟨⟨h.below.trans ⟨yc,ht,hp,bS,λk hk=>hold k (by omega)⟩,λid C aI=>?_,λid C aI bC=>?_,λid C aI bC=>?_,λid bY C C' aI uy fZ iP he=>?_,λid C aI=>?_,λb hb=>⟨qS (h.aI.1 b hb).1 bS,(hold b (h.aI.1 b hb).1).trans (h.aI.1 b hb).2⟩,λid C aI bC=>?_⟩,e⟩
 .rw[hm.2]
  rcases hg id C aI with⟨rfl,_⟩|⟨_,hk⟩
  .omega
  .have:=h.lt id C hk;omega
 .rcases hg id C aI with⟨rfl,rfl⟩|⟨cw,hk⟩
  .rw[s9]at bC ⊢;have:=(hs bC).1;omega
  .rw[r8 _ _ cw]at bC ⊢;exact h.lo id C hk bC
 .rcases hg id C aI with⟨rfl,rfl⟩|⟨cw,hk⟩
  .rw[s9]at bC ⊢;exact(hs bC).2
  .rw[r8 _ _ cw]at bC ⊢;have:=h.hi id C hk bC;omega
 .rcases hg id C aI with⟨rfl,rfl⟩|⟨cw,hk⟩<;>rcases hg bY C' uy with⟨rfl,rfl⟩|⟨Hu,gP⟩
  .rfl
  .rw[s9]at fZ he;rw[r8 _ _ Hu]at iP he
   have:=h.hi bY C' gP iP;have:=(hs fZ).1;omega
  .rw[s9]at iP he;rw[r8 _ _ cw]at fZ he
   have:=h.hi id C hk fZ;have:=(hs iP).1;omega
  .rw[r8 _ _ cw]at fZ he;rw[r8 _ _ Hu]at iP he
   exact h.inj id bY C C' hk gP fZ iP he
 .rcases hg id C aI with⟨rfl,rfl⟩|⟨cw,hk⟩
  .rw[s9]
   exact hB _ _ _ e
  .rw[r8 _ _ cw]
   exact fN.mono e C (λbC=>hold _ (h.hi id C hk bC)) (h.box id C hk)
 .rcases hg id C aI with⟨rfl,rfl⟩|⟨cw,hk⟩
  .rw[s9]at bC ⊢;exact λhr=>by have:=(h.aI.1 _ hr).1;have:=(hs bC).1;omega
  .rw[r8 _ _ cw]at bC ⊢;exact h.aI.2 id C hk bC
theorem aQ.alloc{o:Obj}(h:aQ w0 R0 I w m)(hm:mU m B m')(len cap:Nat)
  (hB:∀R n I',Ext (RO w0 R0 I w m) I m.next w R I' n (w.alloc o)->fN R I' n (w.alloc o) (w.heap.size,len,cap) B):
  aQ w0 R0 (cL I m.next (w.heap.size,len,cap)) (w.alloc o) m'/\m8 w0 R0 I w m (cL I m.next (w.heap.size,len,cap)) (w.alloc o) m':=
 h.push hm rfl rfl rfl (by simp) (λk hk=>Below.heap_alloc w o k hk) (λ_=>⟨bA _,by simp⟩) hB
def aQ.xD{B':aR}(h:aQ w0 R0 I w m)(aI:m.get id=some B)(bC:fJ (I id) B)(hm:mT m id (some B') m')
  (yc:w'.os=w.os) (ht:w'.tape=w.tape) (hp:w'.output=w.output) (bS:w'.heap.size=w.heap.size) (ya:∀k,k≠(I id).1->w'.heap[k]? =w.heap[k]?)
  (hB:∀R,Ext (RO w0 R0 I w m) I m.next w R I m.next w'->fN R I m.next w' (I id) B'):
  aQ w0 R0 I w' m'/\m8 w0 R0 I w m I w' m':=by
 have hg:∀k C,m'.get k=some C->(k=id/\C=B')\/(k≠id/\m.get k=some C):=λk C hk=>by
  rw[hm.1 k]at hk
  by_cases e:k=id
  .rw[ay e]at hk;exact .inl ⟨e,by injection hk with hk;exact hk.symm⟩
  .rw[au e]at hk;exact .inr ⟨e,hk⟩
 have dZ:∀b,RO w0 R0 I w m b->RO w0 R0 I w' m' b:=λb hb=>by
  rcases hb with hb|⟨h1,h2,h3,h4⟩
  .exact .inl hb
  .refine .inr ⟨h1,by omega,λk C hk hs=>?_,h4⟩
   rcases hg k C hk with⟨rfl,_⟩|⟨_,gP⟩
   .exact h3 k B aI bC
   .exact h3 k C gP hs
 have e:m8 w0 R0 I w m I w' m':=⟨by rw[hm.2];exact bA _,λ_ _=>rfl,λb hb=>⟨dZ b hb,ya b λhe=>h.Ge hb aI bC he.symm⟩⟩;have hlo:=h.lo id B aI bC;refine⟨⟨h.below.trans ⟨yc,ht,hp,by omega,λk hk=>ya k (by omega)⟩,λk C hk=>?_,λk C hk hs=>?_,λk C hk hs=>?_,λk k' C C' hk gP hs bj he=>?_,λk C hk=>?_,λb hb=>⟨by rw[bS];exact(h.aI.1 b hb).1,(ya b λhe=>h.aI.2 id B aI bC (he▸hb)).trans (h.aI.1 b hb).2⟩,λk C hk hs=>?_⟩,e⟩
 .rw[hm.2]
  rcases hg k C hk with⟨rfl,_⟩|⟨_,gP⟩
  .exact h.lt k B aI
  .exact h.lt k C gP
 .rcases hg k C hk with⟨rfl,_⟩|⟨_,gP⟩
  .exact hlo
  .exact h.lo k C gP hs
 .rw[bS]
  rcases hg k C hk with⟨rfl,_⟩|⟨_,gP⟩
  .exact h.hi k B aI bC
  .exact h.hi k C gP hs
 .have live:∀j D,m'.get j=some D->fJ (I j) D->∃D',m.get j=some D'/\fJ (I j) D':=λj D hj hsj=>by
   rcases hg j D hj with⟨rfl,_⟩|⟨_,rI⟩
   .exact⟨B,aI,bC⟩
   .exact⟨D,rI,hsj⟩
  obtain⟨D,hD,hDs⟩:=live k C hk hs;obtain⟨D',Nj,aAr⟩:=live k' C' gP bj;exact h.inj k k' D D' hD Nj hDs aAr he
 .rcases hg k C hk with⟨rfl,rfl⟩|⟨cw,gP⟩
  .have:=hB (RO w0 R0 I w' m') ⟨bA _,e.same,e.keep⟩
   rw[hm.2];exact this
  .exact fN.mono e C (λhs=>ya _ λhe=>cw (h.inj k id C B gP aI hs bC he)) (h.box k C gP)
 .rcases hg k C hk with⟨rfl,_⟩|⟨_,gP⟩
  .exact h.aI.2 k B aI bC
  .exact h.aI.2 k C gP hs
def aQ.drop(h:aQ w0 R0 I w m)(hm:mT m id none m'):
  aQ w0 R0 I w m'/\m8 w0 R0 I w m I w m':=by
 have hg:∀k C,m'.get k=some C->k≠id/\m.get k=some C:=λk C hk=>by
  rw[hm.1 k]at hk
  by_cases e:k=id
  .rw[ay e]at hk;cases hk
  .rw[au e]at hk;exact⟨e,hk⟩
 have dZ:∀b,RO w0 R0 I w m b->RO w0 R0 I w m' b:=λb hb=>by
  rcases hb with hb|⟨h1,h2,h3,h4⟩
  .exact .inl hb
  .exact .inr ⟨h1,h2,λk C hk=>h3 k C (hg k C hk).2,h4⟩
 have e:m8 w0 R0 I w m I w m':=⟨by rw[hm.2];exact bA _,λ_ _=>rfl,λb hb=>⟨dZ b hb,rfl⟩⟩
 exact⟨⟨h.below,λk C hk=>by rw[hm.2];exact h.lt k C (hg k C hk).2,λk C hk=>h.lo k C (hg k C hk).2,λk C hk=>h.hi k C (hg k C hk).2,
  λk k' C C' hk gP=>h.inj k k' C C' (hg k C hk).2 (hg k' C' gP).2,λk C hk=>fN.mono e C (λ_=>rfl) (h.box k C (hg k C hk).2),h.aI.1,λk C hk=>h.aI.2 k C (hg k C hk).2⟩,e⟩
section
variable {R:Nat->Prop} {I:bu} {n:Nat} {w:World}
theorem j8.length:∀{cs:List SV} {vs:List Value},j8 R I n w cs vs->vs.length=cs.length
 |[],_,h=>by rw[h];rfl
 |_::_,_,h=>by
  obtain⟨u,us,rfl,_,h2⟩:=h;simp[j8.length h2]
theorem j8.get:∀{cs:List SV} {vs:List Value},j8 R I n w cs vs->∀{i:Nat} {c:SV},cs[i]? =some c->∃v,vs[i]? =some v/\aJ R I n w c v
 |[],_,_,i,c,hi=>by simp at hi
 |x::xs,_,h,0,c,hi=>by
  obtain⟨u,us,rfl,h1,_⟩:=h;simp at hi;subst hi;exact⟨u,by simp,h1⟩
 |x::xs,_,h,i+1,c,hi=>by
  obtain⟨u,us,rfl,_,h2⟩:=h;simp at hi;obtain⟨v,h3,h4⟩:=j8.get h2 hi;exact⟨v,by simpa using h3,h4⟩
theorem j8.mk:∀{cs:List SV} {vs:List Value},vs.length=cs.length->(∀ (i:Nat) (c:SV) (v:Value),cs[i]? =some c->vs[i]? =some v->aJ R I n w c v)->j8 R I n w cs vs
 |[],vs,hl,_=>by simpa[j8]using hl
 |c::cs,[],hl,_=>by simp at hl
 |c::cs,v::vs,hl,h=>⟨v,vs,rfl,h 0 c v (by simp) (by simp),j8.mk (by simpa using hl) λi c' v' h1 h2=>h (i+1) c' v' (by simpa using h1) (by simpa using h2)⟩
variable{vs:List Value}
def j8.append{H6 bs:List SV}{us:List Value}(h:j8 R I n w H6 us)(k:j8 R I n w bs vs):j8 R I n w (H6++bs) (us++vs):=by
 induction H6 generalizing us with
 |nil=>rw[show us=[]from h];exact k
 |cons a H6 ih=>
  obtain⟨u,us,rfl,h1,h2⟩:=h;exact⟨u,us++vs,rfl,h1,ih h2⟩
theorem j8.drop{cs:List SV}(h:j8 R I n w cs vs)(k:Nat):j8 R I n w (cs.drop k) (vs.drop k):=
 j8.mk (by simp[h.length]) λi c v h1 h2=>by
  rw[yD]at h1 h2;obtain⟨v',h3,h4⟩:=h.get h1;rw[h3]at h2;injection h2 with h2;exact h2▸h4
theorem j8.take{cs:List SV}(h:j8 R I n w cs vs)(k:Nat):j8 R I n w (cs.take k) (vs.take k):=
 j8.mk (by simp[h.length]) λi c v h1 h2=>by
  rw[yC]at h1 h2
  by_cases hi:i<k
  .rw[ay hi]at h1 h2
   obtain⟨v',h3,h4⟩:=h.get h1;rw[h3]at h2;injection h2 with h2;exact h2▸h4
  .rw[au hi]at h1;cases h1
theorem j8.map(ev:Operand->SV)(eb:Operand->Value):∀xs:List Operand,(∀x∈xs,aJ R I n w (ev x) (eb x))->j8 R I n w (xs.map ev) (xs.map eb)
 |[],_=>rfl
 |x::xs,h=>⟨_,_,rfl,h x mO,j8.map ev eb xs λy hy=>h y (rX _ hy)⟩
theorem p7.flat:∀ (t:Ty) (x:t.T) (vs:List Value),p7 R w t x vs->vs.length=t.sz/\j8 R I n w (Go.Sx.flat t x) vs
 |.unit,_,vs,h=>by rw[show vs=[]from h];exact⟨rfl,rfl⟩
 |.int _,_,vs,h=>by rw[show vs=_ from h];exact⟨rfl,_,_,rfl,rfl,rfl⟩
 |.bool,_,vs,h=>by rw[show vs=_ from h];exact⟨rfl,_,_,rfl,rfl,rfl⟩
 |.str,_,vs,h=>by rw[show vs=_ from h];exact⟨rfl,_,_,rfl,rfl,rfl⟩
 |.list t,l,vs,h=>by
  have h':=h;obtain⟨a,cap,rfl,_⟩:=h;exact⟨rfl,_,_,rfl,h',rfl⟩
 |.pair a b,x,vs,h=>by
  obtain⟨v1,v2,rfl,h1,h2⟩:=h;obtain⟨l1,r1⟩:=p7.flat a x.1 v1 h1;obtain⟨l2,r2⟩:=p7.flat b x.2 v2 h2;exact⟨by simp[l1,l2,Ty.sz],r1.append r2⟩
theorem Sb:∀ (t:Ty) (x:t.T),(Go.Sx.flat t x).length=t.sz
 |.unit,_=>rfl
 |.int _,_=>rfl
 |.bool,_=>rfl
 |.str,_=>rfl
 |.list _,_=>rfl
 |.pair a b,x=>by simp[Go.Sx.flat,Ty.sz,Sb a,Sb b]
theorem p7.jC:∀ (t:Ty) (cs:List SV) (x:t.T) (rest:List SV) (vs:List Value),Go.Sx.jC t cs=some (x,rest)->j8 R I n w cs vs->
  ∃v1 v2,vs=v1++v2/\v1.length=t.sz/\p7 R w t x v1/\j8 R I n w rest v2
 |.unit,cs,x,rest,vs,he,h=>by
  simp only[Go.Sx.jC,uK,tt]at he;obtain⟨_,rfl⟩:=he;exact⟨[],vs,rfl,rfl,rfl,h⟩
 |.int k,cs,x,rest,vs,he,h=>by
  cases cs with
  |nil=>simp[Go.Sx.jC]at he
  |cons c cs=>
   cases c<;>simp only[Go.Sx.jC]at he<;>try(cases he;done)
   split at he
   .rename_i hk
    simp only[uK,tt]at he;obtain⟨rfl,rfl⟩:=he;subst hk;obtain⟨u,us,rfl,h1,h2⟩:=h;exact⟨[u],us,rfl,rfl,by rw[show u=_ from h1];rfl,h2⟩
   .cases he
 |.bool,cs,x,rest,vs,he,h=>by
  cases cs with
  |nil=>simp[Go.Sx.jC]at he
  |cons c cs=>
   cases c<;>simp only[Go.Sx.jC]at he<;>try(cases he;done)
   simp only[uK,tt]at he;obtain⟨rfl,rfl⟩:=he;obtain⟨u,us,rfl,h1,h2⟩:=h;exact⟨[u],us,rfl,rfl,by rw[show u=_ from h1];rfl,h2⟩
 |.str,cs,x,rest,vs,he,h=>by
  cases cs with
  |nil=>simp[Go.Sx.jC]at he
  |cons c cs=>
   cases c<;>simp only[Go.Sx.jC]at he<;>try(cases he;done)
   simp only[uK,tt]at he;obtain⟨rfl,rfl⟩:=he;obtain⟨u,us,rfl,h1,h2⟩:=h;exact⟨[u],us,rfl,rfl,by rw[show u=_ from h1];rfl,h2⟩
 |.list t,cs,x,rest,vs,he,h=>by
  cases cs with
  |nil=>simp[Go.Sx.jC]at he
  |cons c cs=>
   cases c<;>simp only[Go.Sx.jC]at he<;>try(cases he;done)
   .simp only[uK,tt]at he
    obtain⟨rfl,rfl⟩:=he;obtain⟨u,us,rfl,h1,h2⟩:=h;exact⟨[u],us,rfl,rfl,⟨none,0,by rw[show u=_ from h1];rfl,bA _,λh0=>absurd h0 (gZ _)⟩,h2⟩
   .split at he
    .rename_i ht
     simp only[uK,tt]at he;obtain⟨rfl,rfl⟩:=he;subst ht;obtain⟨u,us,rfl,h1,h2⟩:=h;exact⟨[u],us,rfl,rfl,h1,h2⟩
    .cases he
 |.pair a b,cs,x,rest,vs,he,h=>by
  simp only[Go.Sx.jC]at he
  cases h1:Go.Sx.jC a cs with
  |none=>rw[h1]at he;cases he
  |some q=>
   obtain⟨x1,qo⟩:=q;rw[h1]at he;dsimp only at he
   cases h2:Go.Sx.jC b qo with
   |none=>rw[h2]at he;cases he
   |some q=>
    obtain⟨x2,Uu⟩:=q;rw[h2]at he;simp only[uK,tt]at he;obtain⟨rfl,rfl⟩:=he;obtain⟨v1,v2,rfl,l1,r1,k1⟩:=p7.jC a cs x1 qo vs h1 h;obtain⟨v3,v4,rfl,l2,r2,k2⟩:=p7.jC b qo x2 _ v2 h2 k1;exact⟨v1++v3,v4,by simp,by simp[l1,l2,Ty.sz],⟨v1,v3,rfl,r1,r2⟩,k2⟩
end
open Go.RowKit
structure rV (P:Program) (t:TypeId) (r:Row):Prop where
 gh:P.underlying t=some r.desc
 info:∃i z,P.info? t=some i/\i.size=r.size/\i.bytes=r.bytes/\i.zero=some z/\(∀R I n w,j8 R I n w r.zero z.cells.toList)/\(∀u,r.ty=some u->∀R w,p7 R w u u.iH z.cells.toList)
 B1:r.B1=P.eqGuardType P.depth t
 held:r.held=P.stoodInHeld t
 el:(r.ty=some (.int .u8)\/r.desc=.int .u8)->r.size=1->EU t
structure dF (P:Program) (E:Env):Prop where
 row:∀t r,E.row t=some r->rV P t r
 fn:∀f fn,E.fn f=some fn->P.funcs[f]? =some fn
 zv:∀t z,E.zv t=some z->∃i,P.info? t=some i/\i.zero=some z
def n9(w0:World)(R0:eo)(I:bu)(w:World)(m:Mem)(v:SV)(m':Mem)(u:Value)(w':World):Prop:=
 ∃I',aQ w0 R0 I' w' m'/\m8 w0 R0 I w m I' w' m'/\aJ (RO w0 R0 I' w' m') I' m'.next w' v u
def n9.same{v:SV}{u:Value}(h:aQ w0 R0 I w m)(hv:aJ (RO w0 R0 I w m) I m.next w v u):n9 w0 R0 I w m v m u w:=
 ⟨I,h,Ext.refl _ _ _ _,hv⟩
section
variable {P:Program} {E:Env} {α:Type} {L:α->Prop}
variable{r:Row}
def ZD{t:TypeId}(h:rV P t r)(w:World):(isAgg t).run P w=.ok r.isAgg w:=by
 simp only[isAgg,bX,ef h.gh,bZ];unfold Row.isAgg
 cases r.desc<;>rfl
def jB{t:TypeId}(h:rV P t r)(w:World):(sizeOf t).run P w=.ok r.size w:=by
 obtain⟨i,z,h1,h2,_⟩:=h.info;simp only[sizeOf,typeInfo,bX,KC,bZ,h1,cU,h2]
def ZC{t:TypeId}(h:rV P t r):∃i,(∀w,(typeInfo t).run P w=.ok i w)/\i.bytes=r.bytes/\i.size=r.size:=by
 obtain⟨i,z,h1,h2,h3,_⟩:=h.info;exact⟨i,λw=>by simp only[typeInfo,bX,KC,bZ,h1,cU],h3,h2⟩
def Bc{t:TypeId}(h:rV P t r):∃z:Value,(∀w,(zeroValue t).run P w=.ok z w)/\(∀R I n w,j8 R I n w r.zero z.cells.toList)/\(∀u,r.ty=some u->∀R w,p7 R w u u.iH z.cells.toList):=by
 obtain⟨i,z,h1,_,_,h4,h5,h6⟩:=h.info;exact⟨z,λw=>by simp only[zeroValue,typeInfo,bX,KC,bZ,h1,cU,h4],h5,h6⟩
def Cs(R:Nat->Prop)(I:bu)(n:Nat)(w:World)(g o:Nat)(cs:List SV):Prop:=
 ∃vs:List Value,j8 R I n w cs vs/\∀j,j<vs.length->w.cell? ⟨g,o+j,none⟩=vs[j]?
def zR(r:Row)(cs:List SV)(off:Nat):Option SV:=
 match r.isAgg with
 |true=>if r.size=0\/off+r.size<=cs.length then some (.agg ((cs.drop off).take r.size))else none
 |false=>cs[off]?
variable{cs:List SV}{off:Nat}{p:ax}{m:Mem}
def DZ{V:p9 α}(h:(loadCells r cs off p m V).holds L):∃v,zR r cs off=some v/\(V v p m).holds L:=by
 unfold loadCells at h;unfold zR
 cases hr:r.isAgg with
 |true=>
  rw[hr]at h;rcases Q2 _ _ _ _ h with⟨h0,h1⟩|⟨h0,h1⟩
  .exact⟨_,by rw[ay (.inl h0),h0],by simpa using h1⟩
  .exact⟨_,by rw[ay (.inr h0)],h1⟩
 |false=>
  rw[hr]at h;dsimp only at h;rw[tH]at h
  cases hc:cs[off]? with
  |none=>rw[hc]at h;cases h
  |some v=>rw[hc]at h;dsimp only at h;rw[pU]at h;exact⟨v,rfl,h⟩
variable{R:Nat->Prop}{I:bu}{n g o:Nat}{w:World}
def xw4{k:Nat}(hc:Cs R I n w g o cs)(hk:k=0\/off+k<=cs.length):
  ∃us:List Value,(Go.loadCells ⟨g,o+off,none⟩ k).run P w=.ok ⟨us⟩ w/\j8 R I n w ((cs.drop off).take k) us:=by
 obtain⟨vs,h1,h2⟩:=hc;rcases hk with rfl|hk
 .exact⟨[],rfl,by simp[j8]⟩
 .have hl:=h1.length
  have bD:((vs.drop off).take k).length=k:=by simp;omega
  refine⟨(vs.drop off).take k,?_,(h1.drop off).take k⟩
  have:=ab7 (P:=P) w ⟨g,o+off,none⟩ ((vs.drop off).take k) (λj v hj=>by
   have Hx:j<k:=by
    have:=(iZ.1 hj).1;omega
   rw[yC,ay Hx,yD]at hj;rw[tB,AA,h2 (off+j) (by omega)]
   exact hj)
  rw[bD]at this;exact this
def Ki{t:TypeId}(hr:rV P t r){v:SV}(hc:Cs R I n w g o cs)(hv:zR r cs off=some v):
  ∃u,(loadVar t ⟨g,o+off,none⟩).run P w=.ok u w/\aJ R I n w v u:=by
 unfold zR at hv;simp only[loadVar,bX,ZD hr,bZ]
 cases ha:r.isAgg with
 |true=>
  rw[ha]at hv;dsimp only at hv
  split at hv
  .rename_i hk
   injection hv with hv;obtain⟨us,h1,h2⟩:=xw4 (P:=P) hc hk;refine⟨.agg ⟨us⟩,?_,by rw[<-hv];exact⟨us,rfl,h2⟩⟩;simp only[pc,bX,jB hr,bZ,h1,cU]
  .cases hv
 |false=>
  rw[ha]at hv;dsimp only at hv;obtain⟨vs,h1,h2⟩:=hc;obtain⟨u,h3,h4⟩:=h1.get hv;refine⟨u,?_,h4⟩;have cW:off<vs.length:=(iZ.1 h3).1;simp[h2 off cW,h3]
variable{w0:World}{R0:eo}{id:Nat}
def xd3(hm:aQ w0 R0 I w m)(h:m.get id=some (.cells cs)):Cs (RO w0 R0 I w m) I m.next w (I id).1 0 cs:=by
 obtain⟨arr,e,fr,h1,h2,h3⟩:=hm.box id _ h;exact⟨arr.toList,h3,λj hj=>by rw[gY,rR w _ j arr e fr h1];simp⟩
def xd4(hm:aQ w0 R0 I w m){t:TypeId}(h:m.get id=some (.obj t cs)):Cs (RO w0 R0 I w m) I m.next w (I id).1 0 cs:=by
 obtain⟨arr,h1,h3⟩:=hm.box id _ h;exact⟨arr.toList,h3,λj hj=>by rw[gY,rR w _ j arr t (0,0) h1];simp⟩
def zW8{u:Ty}{l:List u.T}{b i:Nat}(h:E6 R w u b o l)(hi:i<l.length):Cs R I n w b (o+i*u.sz) (flat u (l.getD i u.iH)):=by
 obtain⟨cs,h1,h2,h3⟩:=h.2 i hi;obtain⟨h4,h5⟩:=p7.flat (I:=I) (n:=n) u _ cs h3;refine⟨cs,?_,λj hj=>by rw[AA];exact h2 j (by omega)⟩
 have:l.getD i u.iH=l[i] :=by simp[hi]
 rw[this];exact h5
def xv3(hm:aQ w0 R0 I w m){u:Ty}{l:List u.T}(h:m.get id=some (.rows u l)){i:Nat}(hi:i<l.length):
  Cs (RO w0 R0 I w m) I m.next w (I id).1 (i*u.sz) (flat u (l.getD i u.iH)):=by
 obtain⟨_,hc,hp⟩:=hm.box id _ h;obtain⟨arr,e,fr,h1,h2,h3,h4⟩:=hp (by omega);obtain⟨cs,k1,k2,k3⟩:=h4 i hi;obtain⟨h5,h6⟩:=p7.flat (I:=I) (n:=m.next) u _ cs k3;refine⟨cs,?_,λj hj=>by rw[rR w _ _ arr e fr h1];exact k2 j (by omega)⟩
 have:l.getD i u.iH=l[i] :=by simp[hi]
 rw[this];exact h6
def Ye(hE:dF P E){t:TypeId}{a:SV}{V:p9 α}(h:(FC E t a p m V).holds L):
  ∃v,(V v p m).holds L/\∀m2,Up m m2->∀w0 R0 I w (av:Value),aQ w0 R0 I w m2->aJ (RO w0 R0 I w m2) I m2.next w a av->∃u,(Instr.loadAt t av).run P w=.ok u w/\aJ (RO w0 R0 I w m2) I m2.next w v u:=by
 unfold FC at h
 cases hr:E.row t with
 |none=>rw[hr]at h;cases h
 |some r=>
  rw[hr]at h;have br:=hE.row t r hr
  cases a<;>try exact h.elim
  case ptr id off=>
   dsimp only at h
   cases hg:m.get id with
   |none=>rw[hg]at h;cases h
   |some B=>
    rw[hg]at h
    cases B<;>try exact h.elim
    case cells cs=>
     obtain⟨v,h1,h2⟩:=DZ h;refine⟨v,h2,λm2 vQ w0 R0 I w av hm ha=>?_⟩;obtain⟨_,rfl⟩:=ha;obtain⟨u,h3,h4⟩:=Ki br (xd3 hm (vQ _ _ hg)) h1;refine⟨u,?_,h4⟩;rw[gY]at h3
     simpa[Instr.loadAt,Instr.sureAddr]using h3
    case obj _ cs=>
     obtain⟨v,h1,h2⟩:=DZ h;refine⟨v,h2,λm2 vQ w0 R0 I w av hm ha=>?_⟩;obtain⟨_,rfl⟩:=ha;obtain⟨u,h3,h4⟩:=Ki br (xd4 hm (vQ _ _ hg)) h1;refine⟨u,?_,h4⟩;rw[gY]at h3
     simpa[Instr.loadAt,Instr.sureAddr]using h3
  case jt u l i off=>
   obtain⟨v,h1,h2⟩:=DZ h;refine⟨v,h2,λm2 vQ w0 R0 I w av hm ha=>?_⟩;obtain⟨b,o,rfl,hi,he⟩:=ha;obtain⟨x,h3,h4⟩:=Ki br (zW8 (I:=I) (n:=m2.next) he hi) h1;refine⟨x,?_,h4⟩;rw[AA]at h3
   simpa[Instr.loadAt,Instr.sureAddr]using h3
  case iy id sz i off=>
   dsimp only at h
   cases hg:m.get id with
   |none=>rw[hg]at h;cases h
   |some B=>
    rw[hg]at h
    cases B<;>try exact h.elim
    case rows u l=>
     dsimp only at h
     split at h
     .rename_i ay1
      obtain⟨ayZ,h⟩:=h;have bS:sz=u.sz/\i<l.length:=⟨by simpa using ay1,by simpa using ayZ⟩;obtain⟨v,h1,h2⟩:=DZ h;refine⟨v,h2,λm2 vQ w0 R0 I w av hm ha=>?_⟩;obtain⟨_,rfl⟩:=ha;obtain⟨x,h3,h4⟩:=Ki br (xv3 hm (vQ _ _ hg) bS.2) h1;refine⟨x,?_,h4⟩;rw[<-bS.1]at h3
      simpa[Instr.loadAt,Instr.sureAddr]using h3
     .exact h.elim
theorem N0:∀ (l:List SV),AN l=true->∀x∈l,x.one=true
 |[],_,x,hx=>by cases hx
 |y::ys,h,x,hx=>by
  change (match y.one with|true=>AN ys|false=>false)=true at h
  cases hy:y.one with
  |false=>rw[hy]at h;cases h
  |true=>
   rw[hy]at h
   cases hx with
   |head=>exact hy
   |tail _ hx=>exact N0 ys h x hx
variable{v:Value}
def Yj{x:SV}(h:aJ R I n w x v)(h1:x.one=true):v.oneCell'=true:=by
 cases x<;>simp only[SV.one]at h1<;>try(cases h1;done)
 case int=>rw[show v=_ from h];rfl
 case bool=>rw[show v=_ from h];rfl
 case str=>rw[show v=_ from h];rfl
 case cm=>rw[show v=_ from h];rfl
 case list t l=>
  obtain⟨a,cap,hv,_⟩:=h;injection hv with hv;rw[hv];rfl
 case row=>obtain⟨a,h2,_⟩:=h.2;rw[h2];rfl
 case arr=>rw[show v=_ from h.2];rfl
 case ptr=>rw[show v=_ from h.2];rfl
 case pY=>rw[show v=_ from h];rfl
 case jt=>obtain⟨b,o,rfl,_⟩:=h;rfl
 case iy=>rw[show v=_ from h.2];rfl
 case fn=>obtain⟨a,b,rfl,_⟩:=h;rfl
 case dO u=>
  rw[show v=u from h]
  cases u<;>first|rfl|(cases h1;done)
theorem aJ.cells{x:SV}(h:aJ R I n w x v)(h1:AN x.cells=true):j8 R I n w x.cells v.cells.toList/\∀u∈v.cells.toList,u.oneCell'=true:=by
 have key:j8 R I n w x.cells v.cells.toList:=by
  cases x with
  |agg cs=>obtain⟨vs,rfl,h2⟩:=h;exact h2
  |_=>
   have hx:=N0 _ h1 _ (Ie.2 rfl);have ho:=Yj h hx
   have hv:v.cells=#[v] :=by cases v<;>first|rfl|(cases ho;done)
   rw[hv];exact⟨v,[],rfl,h,rfl⟩
 refine⟨key,λu hu=>?_⟩;obtain⟨i,hi⟩:=List.getElem?_of_mem hu;have hl:=key.length
 have cW:i<x.cells.length:=by have:=(iZ.1 hi).1;omega
 obtain⟨c,hc⟩:∃c,x.cells[i]? =some c:=⟨_,cc cW⟩;obtain⟨u',h2,h3⟩:=key.get hc;rw[hi]at h2;cases h2;exact Yj h3 (N0 _ h1 c (If hc))
def kS(arr:Array Value)(off:Nat)(vs:List Value):Array Value:=⟨arr.toList.take off++vs++arr.toList.drop (off+vs.length)⟩
def y06(arr:Array Value)(off:Nat):kS arr off [] =arr:=by
 apply oy;simp[kS]
variable{arr:Array Value}{vs:List Value}
def FR(h:off+vs.length<=arr.size):(kS arr off vs).size=arr.size:=by
 simp[kS];omega
def zq(h:off+vs.length<=arr.size)(k:Nat):(kS arr off vs)[k]? =if off<=k/\k<off+vs.length then vs[k-off]? else arr[k]? :=by
 have hl:arr.toList.length=arr.size:=by simp
 rw[<-Cg,<-Cg];simp only[kS]
 by_cases h1:k<off
 .rw[au (by omega),Cc,yE (by rw[ou];omega),yC,ay h1]
 .by_cases h2:k<off+vs.length
  .rw[ay ⟨by omega,h2⟩,Cc,uN (by rw[ou];omega),ou,Ib (by omega),yE (by omega)]
  .rw[au (by omega),uN (by rw[eX,ou];omega),eX,ou,Ib (by omega),yD,show off+vs.length+(k-(off+vs.length))=k by omega]
def y04(h:off+(v::vs).length<=arr.size):kS (arr.setIfInBounds off v) (off+1) vs=kS arr off (v::vs):=by
 simp only[tv]at h;apply Array.ext_getElem?;intro k;rw[zq (by simp;omega),zq (by simp;omega)];simp only[tv]
 by_cases h1:k=off
 .subst h1
  rw[au (by omega),ay ⟨by omega,by omega⟩];simp[uR,show k<arr.size by omega]
 .by_cases h2:off+1<=k/\k<off+1+vs.length
  .rw[ay h2,ay ⟨by omega,by omega⟩,show k-off=(k-(off+1))+1 by omega,List.getElem?_cons_succ]
  .rw[au h2,au (by omega),NN (Ne.symm h1)]
theorem FT(g:Nat)(o:Nat)(e:TypeId)(fr:Nat×Nat):∀ (vs:List Value) (i:Nat) (cz:Array Value) (w:World),w.heap[g]? =some (.cells cz e fr)->vJ cz fr->o+i+vs.length<=cz.size->(∀v∈vs,v.oneCell'=true)->
  ∃w',(storeCells ⟨g,o,none⟩ vs i).run P w=.ok () w'/\w'.heap[g]? =some (.cells (kS cz (o+i) vs) e fr)/\w'.os=w.os/\w'.tape=w.tape/\w'.output=w.output/\w'.heap.size=w.heap.size/\(∀k,k≠g->w'.heap[k]? =w.heap[k]?)
 |[],i,cz,w,hg,hu,hl,h1=>⟨w,rfl,by rw[y06];exact hg,rfl,rfl,rfl,rfl,λ_ _=>rfl⟩
 |v::vs,i,cz,w,hg,hu,hl,h1=>by
  simp only[tv]at hl
  have hc:w.cell? ⟨g,o+i,none⟩=some (cz[o+i]'(by omega)):=by rw[rR w g _ cz e fr hg];simp
  have hf:w.frozen? ⟨g,o+i,none⟩=false:=by
   have:=hu (o+i) (by omega);simp only[World.frozen?,hg]
   by_cases h2:fr.1<=o+i
   .have h3:¬o+i<fr.2:=λh3=>this ⟨h2,h3⟩
    simp[h3]
   .simp[h2]
  have cF:=setCell_eq_setRow w g (o+i) cz e fr v hg
  have lk:(w.setCell ⟨g,o+i,none⟩ v).heap[g]? =some (.cells (cz.setIfInBounds (o+i) v) e fr):=by rw[cF];exact setRow_heap w g cz _ e fr hg
  have hu':vJ (cz.setIfInBounds (o+i) v) fr:=λk hk=>hu k (by simpa using hk)
  obtain⟨w',r1,r2,r3,r4,r5,r6,r7⟩:=FT g o e fr vs (i+1) _ _ lk hu' (by simp;omega) (λu hu=>h1 u (rX _ hu));refine⟨w',?_,?_,r3,r4,r5,r6.trans (by simp),λk hk=>(r7 k hk).trans (heap_setCell_other w _ k v hk)⟩;.simp only[storeCells,bX,tB,run_store P w _ v _ (h1 v mO),hc,hf,eY,iD,bZ,r1]
  .rw[r2,<-AA,y04 (by simp;omega)]
def Qb{t:TypeId}(hr:rV P t r){cz:Array Value}{e:TypeId}{fr:Nat×Nat}(hg:w.heap[g]? =some (.cells cz e fr))(hu:vJ cz fr)
  (hl:o+v.cells.toList.length<=cz.size) (h1:∀u∈v.cells.toList,u.oneCell'=true) (hs:r.size=v.cells.toList.length):
  ∃w',(storeVar t ⟨g,o,none⟩ v).run P w=.ok () w'/\w'.heap[g]? =some (.cells (kS cz o v.cells.toList) e fr)/\w'.os=w.os/\w'.tape=w.tape/\w'.output=w.output/\w'.heap.size=w.heap.size/\(∀k,k≠g->w'.heap[k]? =w.heap[k]?):=by
 obtain⟨w',r1,r2,r3⟩:=FT (P:=P) g o e fr v.cells.toList 0 cz w hg hu (by simpa using hl) h1;refine⟨w',?_,by simpa using r2,r3⟩
 have bS:v.cells.size=r.size:=by rw[hs];simp
 simp only[storeVar,bX,jB hr,bZ,bS,dz,oQ,iD,cU,r1]
def P8{vs:List SV}{us:List Value}(h:j8 R I n w cs arr.toList)(k:j8 R I n w vs us):j8 R I n w (oH cs off vs) (kS arr off us).toList:=by
 unfold oH kS;rw[show off+us.length=off+vs.length by rw[k.length]];exact((h.take off).append k).append (h.drop _)
def GS{fr:Nat×Nat}{us:List Value}(h:vJ arr fr)(hl:off+us.length<=arr.size):vJ (kS arr off us) fr:=λi hi=>h i (by rw[FR hl]at hi;exact hi)
def yY7(hE:dF P E){t:TypeId}{a v:SV}{V:p9 α}(h:(xc E t a v p m V).holds L):
  ∃m',(V .undef p m').holds L/\(fa m m'/\fa m' m)/\∀w0 R0 I w (av vv:Value),aQ w0 R0 I w m->aJ (RO w0 R0 I w m) I m.next w a av->aJ (RO w0 R0 I w m) I m.next w v vv->
   ∃w',(Instr.storeAt t av vv).run P w=.ok () w'/\aQ w0 R0 I w' m'/\m8 w0 R0 I w m I w' m':=by
 unfold xc at h
 cases hr:E.row t with
 |none=>rw[hr]at h;cases h
 |some r=>
  rw[hr]at h;have br:=hE.row t r hr;dsimp only at h
  split at h;.exact h.elim
  .rename_i hs
   simp only[aH,cI]at hs
   cases a<;>try exact h.elim
   case ptr id off=>
    dsimp only at h
    cases hg:m.get id with
    |none=>rw[hg]at h;cases h
    |some B=>
     rw[hg]at h
     cases B<;>try exact h.elim
     case cells cs=>
      dsimp only at h
      have key:∃m',(V .undef p m').holds L/\((v.cells=[] /\mT m id (some (.cells cs)) m')\/(off+v.cells.length<=cs.length/\mT m id (some (.cells (oH cs off v.cells))) m')):=by
       rcases D5 _ _ _ _ h with⟨h0,h1⟩|⟨h0,h1⟩
       .obtain⟨m',h2,h3⟩:=Mem.iN h1
        exact⟨m',h3,.inl ⟨h0,h2⟩⟩
       .obtain⟨m',h2,h3⟩:=Mem.iN h1
        exact⟨m',h3,.inr ⟨h0,h2⟩⟩
      obtain⟨m',h1,h2⟩:=key
      have jF:fa m m'/\fa m' m:=by
       rcases h2 with⟨_,h2⟩|⟨h0,h2⟩
       .exact h2.shape hg (aR.D8 _)
       .exact h2.shape hg (by simp only[aR.xX,oH,eX,ou,wv];omega)
      refine⟨m',h1,jF,λw0 R0 I w av vv hm ha hv=>?_⟩;obtain⟨_,rfl⟩:=ha;obtain⟨Ar,uC⟩:=hv.cells hs.2;obtain⟨arr,e,fr,k1,k2,k3⟩:=hm.box id _ hg;have bD:=Ar.length;have rM:arr.toList.length=cs.length:=k3.length;rcases h2 with⟨h0,h2⟩|⟨h0,h2⟩
      .rw[h0]at bD hs
       have gO:vv.cells.toList=[] :=pz bD;refine⟨w,?_,hm.xD hg trivial h2 rfl rfl rfl rfl (λ_ _=>rfl) λR e'=>⟨arr,e,fr,k1,k2,j8.mono e' _ _ k3⟩⟩
       have bS:vv.cells.size=r.size:=by rw[hs.1];simp[<-Ip,gO]
       simp only[Instr.storeAt,Instr.sureAddr,storeVar,pure_bind,bX,jB br,bZ,bS,dz,oQ,iD,cU,gO,storeCells]
      .obtain⟨w',r1,r2,r3,r4,r5,r6,r7⟩:=Qb (P:=P) br (o:=off) (v:=vv) k1 k2 (by simp at rM;omega) uC (by rw[bD];exact hs.1)
       refine⟨w',by simpa[Instr.storeAt,Instr.sureAddr]using r1,hm.xD hg trivial h2 r3 r4 r5 r6 r7 λR e'=>⟨_,e,fr,r2,GS k2 (by simp at rM;omega),P8 (j8.mono e' _ _ k3) (j8.mono e' _ _ Ar)⟩⟩
     case obj u cs=>
      dsimp only at h
      have key:∃m',(V .undef p m').holds L/\((v.cells=[] /\mT m id (some (.obj u cs)) m')\/(off+v.cells.length<=cs.length/\mT m id (some (.obj u (oH cs off v.cells))) m')):=by
       rcases D5 _ _ _ _ h with⟨h0,h1⟩|⟨h0,h1⟩
       .obtain⟨m',h2,h3⟩:=Mem.iN h1
        exact⟨m',h3,.inl ⟨h0,h2⟩⟩
       .obtain⟨m',h2,h3⟩:=Mem.iN h1
        exact⟨m',h3,.inr ⟨h0,h2⟩⟩
      obtain⟨m',h1,h2⟩:=key
      have jF:fa m m'/\fa m' m:=by
       rcases h2 with⟨_,h2⟩|⟨h0,h2⟩
       .exact h2.shape hg (aR.D8 _)
       .exact h2.shape hg ⟨rfl,by simp only[oH,eX,ou,wv];omega⟩
      refine⟨m',h1,jF,λw0 R0 I w av vv hm ha hv=>?_⟩;obtain⟨_,rfl⟩:=ha;obtain⟨Ar,uC⟩:=hv.cells hs.2;obtain⟨arr,k1,k3⟩:=hm.box id _ hg
      have k2:vJ arr (0,0):=λi _ h=>absurd h.2 (tu _)
      have bD:=Ar.length;have rM:arr.toList.length=cs.length:=k3.length;rcases h2 with⟨h0,h2⟩|⟨h0,h2⟩
      .rw[h0]at bD hs
       have gO:vv.cells.toList=[] :=pz bD;refine⟨w,?_,hm.xD hg trivial h2 rfl rfl rfl rfl (λ_ _=>rfl) λR e'=>⟨arr,k1,j8.mono e' _ _ k3⟩⟩
       have bS:vv.cells.size=r.size:=by rw[hs.1];simp[<-Ip,gO]
       simp only[Instr.storeAt,Instr.sureAddr,storeVar,pure_bind,bX,jB br,bZ,bS,dz,oQ,iD,cU,gO,storeCells]
      .obtain⟨w',r1,r2,r3,r4,r5,r6,r7⟩:=Qb (P:=P) br (o:=off) (v:=vv) k1 k2 (by simp at rM;omega) uC (by rw[bD];exact hs.1)
       refine⟨w',by simpa[Instr.storeAt,Instr.sureAddr]using r1,hm.xD hg trivial h2 r3 r4 r5 r6 r7 λR e'=>⟨_,r2,P8 (j8.mono e' _ _ k3) (j8.mono e' _ _ Ar)⟩⟩
   case iy id sz i off=>
    dsimp only at h
    cases hg:m.get id with
    |none=>rw[hg]at h;cases h
    |some B=>
     rw[hg]at h
     cases B<;>try exact h.elim
     case rows u l=>
      dsimp only at h
      split at h
      .rename_i bS
       obtain⟨Ew,h⟩:=h
       have hi:i<l.length:=by simpa using Ew
       have ayY:sz=u.sz:=by simpa using bS
       have key:∃m' cs x,(V .undef p m').holds L/\jC u cs=some (x,[])/\mT m id (some (.rows u (l.set i x))) m'/\((v.cells=[] /\cs=flat u (l.getD i u.iH))\/(off+v.cells.length<=(flat u (l.getD i u.iH)).length/\cs=oH (flat u (l.getD i u.iH)) off v.cells)):=by
        rcases D5 _ _ _ _ h with⟨h0,h1⟩|⟨h0,h1⟩
        all_goals
         split at h1
         .rename_i x hx
          obtain⟨m',h2,h3⟩:=Mem.iN h1;exact⟨m',_,x,h3,hx,h2,by first|exact .inl ⟨h0,rfl⟩|exact .inr ⟨h0,rfl⟩⟩
         .exact h1.elim
       obtain⟨m',cs',x,h1,hx,h2,h3⟩:=key;refine⟨m',h1,h2.shape hg ⟨rfl,by simp⟩,λw0 R0 I w av vv hm ha hv=>?_⟩;obtain⟨_,rfl⟩:=ha;obtain⟨Ar,uC⟩:=hv.cells hs.2;have bD:=Ar.length;obtain⟨b1,b2,bp⟩:=hm.box id _ hg
       have mL:0< (I id).2.2:=by omega
       obtain⟨arr,e,fr,k1,k2,k3,k4⟩:=bp mL;obtain⟨cs,q1,q2,q3⟩:=k4 i hi
       have yg:l.getD i u.iH=l[i] :=by simp[hi]
       obtain⟨q4,q5⟩:=p7.flat (I:=I) (n:=m.next) u _ cs q3;rw[yg]at h3;have hfl:=Sb u l[i]
       -- the room
       have BH:i*u.sz+u.sz<=arr.size:=by
        rw[k3];have:(i+1)*u.sz<=(I id).2.2*u.sz:=nL _ (by omega)
        rwa [qR]at this
       have Ht:off+vv.cells.toList.length<=u.sz\/vv.cells.toList=[] :=by
        rcases h3 with⟨h0,_⟩|⟨h0,_⟩
        .right;exact pz (by rw[bD,h0];rfl)
        .left;rw[bD];omega
       have jW:∃w',(Instr.storeAt t (.pointer (some ⟨(I id).1,i*sz+off,none⟩)) vv).run P w=.ok () w'/\w'.heap[(I id).1]? =some (.cells (if vv.cells.toList=[]then arr else kS arr (i*u.sz+off) vv.cells.toList) e fr)/\w'.os=w.os/\w'.tape=w.tape/\w'.output=w.output/\w'.heap.size=w.heap.size/\(∀k,k≠(I id).1->w'.heap[k]? =w.heap[k]?):=by
        by_cases gO:vv.cells.toList=[]
        .refine⟨w,?_,by rw[ay gO];exact k1,rfl,rfl,rfl,rfl,λ_ _=>rfl⟩
         have T8:r.size=0:=by rw[hs.1,<-bD,gO];rfl
         have bS:vv.cells.size=r.size:=by rw[T8];simp[<-Ip,gO]
         simp only[Instr.storeAt,Instr.sureAddr,storeVar,pure_bind,bX,jB br,bZ,bS,dz,oQ,iD,cU,gO,storeCells]
        .rw[au gO]
         have ho:off+vv.cells.toList.length<=u.sz:=Ht.resolve_right gO;obtain⟨w',r1,r2⟩:=Qb (P:=P) br (o:=i*u.sz+off) (v:=vv) k1 k2.1 (by omega) uC (by rw[bD];exact hs.1);exact⟨w',by rw[ayY];simpa[Instr.storeAt,Instr.sureAddr]using r1,r2⟩
       obtain⟨w',r1,r2,r3,r4,r5,r6,r7⟩:=jW;refine⟨w',r1,hm.xD hg mL h2 r3 r4 r5 r6 r7 λR e'=>⟨by simpa using b1,by simpa using b2,λ_=>⟨_,e,fr,r2,?_,?_,?_⟩⟩⟩
       .split
        .exact k2
        .rename_i gO
         have ho:off+vv.cells.toList.length<=u.sz:=Ht.resolve_right gO;exact⟨GS k2.1 (by omega),k2.2⟩
       .split
        .exact k3
        .rename_i gO
         have ho:off+vv.cells.toList.length<=u.sz:=Ht.resolve_right gO;rw[FR (by omega)];exact k3
       .intro j hj
        rw[Ig]at hj
        by_cases iE:j=i
        .subst iE
         -- the element C9 was turned
         have az9:∃us:List Value,us.length=u.sz/\j8 R I m.next w' cs' us/\∀k,k<u.sz->(if vv.cells.toList=[]then arr else kS arr (j*u.sz+off) vv.cells.toList)[j*u.sz+k]? =us[k]? :=by
          rcases h3 with⟨h0,rfl⟩|⟨h0,rfl⟩
          .have gO:vv.cells.toList=[] :=pz (by rw[bD,h0];rfl)
           rw[ay gO];exact⟨cs,q1,j8.mono e' _ _ q5,q2⟩
          .by_cases gO:vv.cells.toList=[]
           .have hvn:v.cells=[] :=pz (by rw[<-bD,gO];rfl)
            rw[ay gO];refine⟨cs,q1,?_,q2⟩
            have:oH (flat u l[j]) off v.cells=flat u l[j] :=by rw[hvn];simp[oH]
            rw[this];exact j8.mono e' _ _ q5
           .rw[au gO]
            refine⟨cs.take off++vv.cells.toList++cs.drop (off+vv.cells.toList.length),?_,?_,λk hk=>?_⟩;.simp at bD ⊢;omega
            .unfold oH
             rw[show off+vv.cells.toList.length=off+v.cells.length by rw[bD]];exact(((j8.mono e' _ _ q5).take off).append (j8.mono e' _ _ Ar)).append ((j8.mono e' _ _ q5).drop _)
            .have ho:off+vv.cells.toList.length<=u.sz:=Ht.resolve_right gO
             rw[zq (by omega)]
             by_cases c1:off<=k/\k<off+vv.cells.toList.length
             .rw[ay ⟨by omega,by omega⟩,Cc,uN (by rw[ou];omega),ou,Ib (by omega),yE (by omega),show j*u.sz+k-(j*u.sz+off)=k-off by omega]
             .rw[au (by omega),q2 k hk]
              by_cases c2:k<off
              .rw[Cc,yE (by rw[ou];omega),yC,ay c2]
              .rw[uN (by rw[eX,ou];omega),eX,ou,Ib (by omega),yD,show off+vv.cells.toList.length+(k-(off+vv.cells.toList.length))=k by omega]
         obtain⟨us,lP,fQ,Ng⟩:=az9;obtain⟨v1,v2,ahc,M7,hd,BI⟩:=p7.jC u cs' x [] us hx fQ;rw[show v2=[]from BI,wA]at ahc;subst ahc;refine⟨us,lP,Ng,?_⟩
         simpa using hd
        .obtain⟨ds,d1,d2,d3⟩:=k4 j hj
         refine⟨ds,d1,λk hk=>?_,?_⟩
         .rw[<-d2 k hk]
          split;.rfl
          .rename_i gO
           have ho:off+vv.cells.toList.length<=u.sz:=Ht.resolve_right gO;rw[zq (by omega)];rcases jv j i with cW|hge
           .have hb:j*u.sz+u.sz<=i*u.sz:=by
             have:(j+1)*u.sz<=i*u.sz:=nL _ cW
             rwa [qR]at this
            rw[au (by omega)]
           .have hb:i*u.sz+u.sz<=j*u.sz:=by
             have:(i+1)*u.sz<=j*u.sz:=nL _ (by omega)
             rwa [qR]at this
            rw[au (by omega)]
         .have:(l.set i x)[j]'(by simpa using hj)=l[j] :=by simp[List.getElem_set,Ne.symm iE]
          rw[this];exact p7.mono e'.keep _ _ _ d3
      .exact h.elim
end
open Go.RowKit
section
variable {P:Program} {E:Env} {α:Type} {L:α->Prop}
abbrev lV(P:Program)(m:Mem)(v:SV)(s:Sem Value)(w0:World)(R0:eo)(I:bu)(w:World):Prop:=
 ∃u,s.run P w=.ok u w/\aJ (RO w0 R0 I w m) I m.next w v u
variable{v:SV}
def VC{R:Nat->Prop}{I:bu}{n:Nat}{w:World}{a:SV}{av:Value}{k:Nat}(h:IB a k=some v)(ha:aJ R I n w a av):
  ∃b o,av=.pointer (some ⟨b,o,none⟩)/\aJ R I n w v (.pointer (some ⟨b,o+k,none⟩)):=by
 cases a<;>simp only[IB,uK]at h<;>try(cases h;done)
 case ptr id off=>
  subst h;exact⟨_,_,ha.2,ha.1,rfl⟩
 case jt t l i off=>
  subst h;obtain⟨b,o,h1,h2,h3⟩:=ha;exact⟨_,_,h1,b,o,by rw[AA,AA],h2,h3⟩
 case iy id sz i off=>
  subst h;exact⟨_,_,ha.2,ha.1,by rw[AA]⟩
variable{p:ax}{m:Mem}
def yW7(hE:dF P E){s:TypeId}{a:SV}{f:Nat}{V:p9 α}(h:(Pv E s a f p m V).holds L):
  ∃v,(V v p m).holds L/\∀ (m:Mem) w0 R0 I w (av:Value),aJ (RO w0 R0 I w m) I m.next w a av->lV P m v (Instr.fieldAt s av f) w0 R0 I w:=by
 unfold Pv at h
 split at h
 .rename_i fs sz iI ze ty eg he cF
  have br:=hE.row _ _ cF
  split at h
  .rename_i fd TX
   split at h
   .rename_i r hr
    have pe:=hE.row _ _ hr
    split at h;.exact h.elim
    .rename_i k hk
     split at h
     .rename_i v hv
      rw[pU]at h;refine⟨v,h,λm w0 R0 I w av ha=>?_⟩;obtain⟨b,o,rfl,h2⟩:=VC hv ha;refine⟨_,?_,h2⟩;have hu:P.underlying s=some (.struct fs):=br.gh
      have bS:¬r.size=0:=by omega
      simp only[Instr.fieldAt,bX,ef hu,bZ,TX,Instr.sureAddr,cU,fieldPlace,jB pe,bS,iD,tB,H9]
     .exact h.elim
   .exact h.elim
  .exact h.elim
 .exact h.elim
def C0{t:TypeId}{r:Row}(hr:rV P t r){R:Nat->Prop}{I:bu}{n:Nat}{w:World}{cs:List SV}{vs:List Value}{off:Nat}(hc:j8 R I n w cs vs)(hv:zR r cs off=some v):
  ∃u,(Go.part t ⟨vs⟩ off).run P w=.ok u w/\aJ R I n w v u:=by
 unfold zR at hv;simp only[Go.part,bX,ZD hr,bZ]
 cases ha:r.isAgg with
 |true=>
  rw[ha]at hv;dsimp only at hv
  split at hv
  .rename_i hk
   injection hv with hv;refine⟨.agg ⟨(vs.drop off).take r.size⟩,?_,by rw[<-hv];exact⟨_,rfl,(hc.drop off).take _⟩⟩;simp only[pc,bX,jB hr,bZ,cU,EI,jI,Value.agg.injEq];apply oy;simp[Array.toList_extract,List.extract_eq_take_drop]
  .cases hv
 |false=>
  rw[ha]at hv;dsimp only at hv;obtain⟨u,h3,h4⟩:=hc.get hv;refine⟨u,?_,h4⟩;simp[h3]
variable{x:SV}
def yW8(hE:dF P E){s:TypeId}{f:Nat}{V:p9 α}(h:(Pw E s x f p m V).holds L):
  ∃v,(V v p m).holds L/\∀ (m:Mem) w0 R0 I w (xv:Value),aJ (RO w0 R0 I w m) I m.next w x xv->lV P m v (Instr.field s xv f) w0 R0 I w:=by
 unfold Pw at h
 split at h
 .rename_i fs sz iI ze ty eg he cF
  have br:=hE.row _ _ cF
  split at h
  .rename_i fd cs TX
   unfold Y8 at h
   split at h
   .rename_i r hr
    have pe:=hE.row _ _ hr;obtain⟨v,h1,h2⟩:=DZ h;refine⟨v,h2,λm w0 R0 I w xv hx=>?_⟩;obtain⟨vs,rfl,bR⟩:=hx;obtain⟨u,h3,h4⟩:=C0 pe bR h1;refine⟨u,?_,h4⟩;have hu:P.underlying s=some (.struct fs):=br.gh;simp only[Instr.field,bX,ef hu,bZ,TX,asAgg,cU,h3]
   .exact h.elim
  .exact h.elim
 .exact h.elim
def yX1(hE:dF P E){t:TypeId}{ix:SV}{V:p9 α}(h:(Pt E t x ix p m V).holds L):
  ∃v,(V v p m).holds L/\∀m2,fa m m2->∀w0 R0 I w (xv iv:Value),aQ w0 R0 I w m2->aJ (RO w0 R0 I w m2) I m2.next w x xv->aJ (RO w0 R0 I w m2) I m2.next w ix iv->lV P m2 v (Instr.indexAt t xv iv) w0 R0 I w:=by
 unfold Pt at h
 split at h
 .rename_i k i
  split at h
  . -- a slice
    rename_i e sz iI ze ty eg he cF;have br:=hE.row _ _ cF;have hu:P.underlying t=some (.slice e):=br.gh
    split at h
    .rename_i u l
     split at h
     .rename_i r hr
      have pe:=hE.row _ _ hr
      split at h
      .rename_i hs
       obtain⟨hb,h⟩:=h;simp only[aH,aV]at hb
       have bj:r.size=u.sz:=by simpa using hs
       refine⟨_,h,λm2 jF w0 R0 I w xv iv hm hx hi=>?_⟩;rw[show iv=_ from hi];obtain⟨a,cap,gq,hc,pq⟩:=hx;cases gq;obtain⟨b,o,rfl,hR,rL⟩:=pq (by omega);refine⟨.pointer (some ⟨b,o+i.toNat*u.sz,none⟩),?_,b,o,by simp,by omega,hR,rL⟩;simp only[Instr.indexAt,asIntOf,bX,ef hu,bZ,cU,hb.1,hb.2,Nz,pc,jB pe,bj,tB,H9]
      .exact h.elim
     .exact h.elim
    .rename_i id
     split at h
     .rename_i u l hg
      split at h
      .rename_i r hr
       have pe:=hE.row _ _ hr
       split at h
       .rename_i hs
        obtain⟨hb,h⟩:=h;simp only[aH,aV]at hb
        have bj:r.size=u.sz:=by simpa using hs
        refine⟨_,h,λm2 jF w0 R0 I w xv iv hm hx hi=>?_⟩;rw[show iv=_ from hi];obtain⟨aI,a,rfl,ha⟩:=hx;obtain⟨B',TW,hl⟩:=jF id _ hg
        cases B'<;>try exact hl.elim
        rename_i u2 l2;obtain⟨rfl,TK⟩:=hl;obtain⟨b1,b2,_⟩:=hm.box id _ TW;rw[<-TK]at b1;obtain rfl:=ha (by omega);refine⟨.pointer (some ⟨(I id).1,0+i.toNat*u.sz,none⟩),?_,aI,by simp⟩
        have lu:i< ((I id).2.1:Int):=by rw[<-b1];exact hb.2
        simp only[Instr.indexAt,asIntOf,bX,ef hu,bZ,cU,hb.1,lu,Nz,pc,jB pe,bj,tB,H9]
       .exact h.elim
      .exact h.elim
     .exact h.elim
    .rename_i id off n
     split at h
     .rename_i r hr
      have pe:=hE.row _ _ hr;obtain⟨hb,h⟩:=h;simp only[aH,aV]at hb;refine⟨_,h,λm2 jF w0 R0 I w xv iv hm hx hi=>?_⟩;rw[show iv=_ from hi];obtain⟨aI,rfl⟩:=hx;refine⟨.pointer (some ⟨(I id).1,off+i.toNat*r.size,none⟩),?_,aI,rfl⟩;simp only[Instr.indexAt,asIntOf,bX,ef hu,bZ,cU,hb.1,hb.2,Nz,pc,jB pe,tB,H9]
     .exact h.elim
    .exact h.elim
  . -- an array
    rename_i n e sz iI ze ty eg he cF;have br:=hE.row _ _ cF;have hu:P.underlying t=some (.array n e):=br.gh
    split at h
    .rename_i r hr
     have pe:=hE.row _ _ hr
     split at h
     .rename_i v hv
      obtain⟨hb,h⟩:=h;simp only[aH,aV]at hb;refine⟨_,h,λm2 jF w0 R0 I w xv iv hm hx hi=>?_⟩;rw[show iv=_ from hi];obtain⟨b,o,rfl,h2⟩:=VC hv hx;refine⟨_,?_,h2⟩;simp only[Instr.indexAt,asIntOf,bX,ef hu,bZ,cU,Instr.sureAddr,hb.1,hb.2,Nz,pc,jB pe,tB,H9]
     .exact h.elim
    .exact h.elim
  .exact h.elim
 .exact h.elim
def yX2(hE:dF P E){t:TypeId}{ix:SV}{V:p9 α}(h:(Pu E t x ix p m V).holds L):
  ∃v,(V v p m).holds L/\∀ (m:Mem) w0 R0 I w (xv iv:Value),aJ (RO w0 R0 I w m) I m.next w x xv->aJ (RO w0 R0 I w m) I m.next w ix iv->lV P m v (Instr.index t xv iv) w0 R0 I w:=by
 unfold Pu at h
 split at h
 .rename_i k i
  split at h
  .rename_i sz iI ze ty eg he cF
   have br:=hE.row _ _ cF;have hu:P.underlying t=some .string:=br.gh
   split at h
   .rename_i s
    obtain⟨hb,h⟩:=h;simp only[aH,aV]at hb;refine⟨_,h,λm w0 R0 I w xv iv hx hi=>?_⟩;rw[show iv=_ from hi,show xv=_ from hx];refine⟨_,?_,rfl⟩
    have cW:i.toNat<s.length:=by omega
    have hg:(⟨⟨s⟩⟩:ByteArray)[i.toNat]? =some (s[i.toNat]'cW):=by
     have:i.toNat< (⟨⟨s⟩⟩:ByteArray).size:=by simpa[ByteArray.size]using cW
     rw[getElem?_pos (⟨⟨s⟩⟩:ByteArray) i.toNat this];rfl
    simp only[Instr.index,asIntOf,bX,ef hu,bZ,cU,hb.1,pc,hg];simp[cW]
   .exact h.elim
  .rename_i n e sz iI ze ty eg he cF
   have br:=hE.row _ _ cF;have hu:P.underlying t=some (.array n e):=br.gh
   split at h
   .rename_i cs
    split at h
    .rename_i r hr
     have pe:=hE.row _ _ hr;obtain⟨hb,h⟩:=h;simp only[aH,aV]at hb;obtain⟨v,h1,h2⟩:=DZ h;refine⟨v,h2,λm w0 R0 I w xv iv hx hi=>?_⟩;rw[show iv=_ from hi];obtain⟨vs,rfl,bR⟩:=hx;obtain⟨u,h3,h4⟩:=C0 pe bR h1;refine⟨u,?_,h4⟩;simp only[Instr.index,asIntOf,bX,ef hu,bZ,cU,hb.1,hb.2,Nz,pc,jB pe,h3,H9]
    .exact h.elim
   .exact h.elim
  .exact h.elim
 .exact h.elim
def Ju{t:TypeId}{cs:List SV}{off:Nat}(h:gT.part E t cs off=some v):∃r,E.row t=some r/\zR r cs off=some v:=by
 unfold gT.part at h
 split at h
 .rename_i r hr
  refine⟨r,hr,?_⟩;unfold zR
  split at h
  .rename_i ha
   rw[ha];dsimp only
   split at h;.rename_i hk;rw[ay (.inr hk)];exact h
   .cases h
  .rename_i ha
   rw[show r.isAgg=false by simpa using ha];dsimp only;rw[tH]at h;exact h
 .cases h
def z00(hE:dF P E):∀ (d:Nat) (t:TypeId) (x y:SV) (b:Bool),gT E d t x y=some b->∀ (D:Nat),d<=D->∀{R:Nat->Prop} {I:bu} {n:Nat} {w:World} {xv yv:Value},aJ R I n w x xv->aJ R I n w y yv->
  (Op.equalIn D t xv yv).run P w=.ok b w:=by
 intro d
 induction d with
 |zero=>intro t x y b h;unfold gT at h;cases h
 |succ d ih=>
  intro t x y b h D hD;obtain⟨D,rfl⟩:∃D',D=D'+1:=⟨D-1,by omega⟩
  have hdD:d<=D:=by omega
  intro R I n w xv yv hx hy;unfold gT at h
  split at h
  .rename_i sz iI ze ty eg he cF
   have hu:=(hE.row _ _ cF).gh;dsimp only at hu
   split at h
   .rename_i a b'
    injection h with h;rw[show xv=_ from hx,show yv=_ from hy];simp only[Op.equalIn,bX,ef hu,bZ,cU,h]
   .cases h
  .rename_i k sz iI ze ty eg he cF
   have hu:=(hE.row _ _ cF).gh;dsimp only at hu
   split at h
   .rename_i k1 a k2 b'
    split at h
    .rename_i hk
     injection h with h;subst hk;rw[show xv=_ from hx,show yv=_ from hy];simp only[Op.equalIn,bX,ef hu,bZ,cU,h,pc]
    .cases h
   .cases h
  .rename_i sz iI ze ty eg he cF
   have hu:=(hE.row _ _ cF).gh;dsimp only at hu
   split at h
   .rename_i a b'
    injection h with h;rw[show xv=_ from hx,show yv=_ from hy];rw[run_equalIn_string w D t _ _ hu,<-h,ait,ait]
   .cases h
  .rename_i fs sz iI ze ty eg cF
   have br:=hE.row _ _ cF;have hu:P.underlying t=some (.struct fs):=br.gh;have azS:P.stoodInHeld t=false:=br.held.symm
   split at h
   .rename_i xs ys
    obtain⟨vx,rfl,Tr⟩:=hx;obtain⟨vy,rfl,Tq⟩:=hy
    have uB:P.fieldsOf t=fs:=by simp[Program.fieldsOf,hu]
    rw[run_equalIn_struct w D t ⟨vx⟩ ⟨vy⟩ (by rw[uB];exact hu) azS,uB];clear hu cF br uB;generalize fs.toList=l at h;clear fs
    induction l generalizing b with
    |nil=>simp only[gT.go]at h;injection h with h;rw[<-h];rfl
    |cons f l ihl=>
     simp only[gT.go]at h
     split at h
     .rename_i a b' ha hb
      split at h
      .rename_i u v hu hv
       split at h;.cases h
       .rename_i hn
        injection h with h;obtain⟨r1,TC,M7⟩:=Ju ha;obtain⟨r2,BI,TN⟩:=Ju hb;obtain⟨p1,Hr,BJ⟩:=C0 (P:=P) (hE.row _ _ TC) Tr M7;obtain⟨p2,Hq,TD⟩:=C0 (P:=P) (hE.row _ _ BI) Tq TN;have he:=ih _ _ _ _ hu D hdD BJ TD;simp only[Op.eqFields,hn,dz,mG,pc,bX,Hr,Hq,bZ,he]
        cases u with
        |false=>rw[<-h];rfl
        |true=>
         simp only[qt,eY,iD];rw[tA]at h;subst h;exact ihl _ hv
      .cases h
     .cases h
   .cases h
  .rename_i n0 e sz iI ze ty eg he cF
   have br:=hE.row _ _ cF;have hu:P.underlying t=some (.array n0 e):=br.gh
   split at h
   .rename_i xs ys r hr
    have pe:=hE.row _ _ hr;obtain⟨vx,rfl,Tr⟩:=hx;obtain⟨vy,rfl,Tq⟩:=hy;simp only[Op.equalIn,bX,ef hu,bZ,jB pe,Std.Legacy.Range.forIn_eq_forIn_range',Std.Legacy.Range.size,UK,UR,Nat.div_one];clear hu cF br
    have key:∀ (k i:Nat) (b:Bool),gT.HN E (gT E d) e r xs ys k i=some b->
      ((forIn (List.range' i k 1) ((none,()):Option Bool×Unit) λi _=>do
        if(!(<-Op.equalIn D e (<-Go.part e ⟨vx⟩ (i*r.size)) (<-Go.part e ⟨vy⟩ (i*r.size))))=true then pure (ForInStep.done (some false,()))else pure (ForInStep.yield (none,()))):Sem _).run P w
        =.ok (if b then(none,())else(some false,())) w:=by
     intro k
     induction k with
     |zero=>intro i b hb;unfold gT.HN at hb;cases hb;rfl
     |succ k ihk=>
      intro i b hb;unfold gT.HN at hb
      split at hb
      .rename_i a b' ha iQ
       split at hb
       .rename_i u v hu hv
        injection hb with hb;obtain⟨r1,TC,M7⟩:=Ju ha;obtain⟨r2,BI,TN⟩:=Ju iQ;obtain⟨p1,Hr,BJ⟩:=C0 (P:=P) (hE.row _ _ TC) Tr M7;obtain⟨p2,Hq,TD⟩:=C0 (P:=P) (hE.row _ _ BI) Tq TN;have he:=ih _ _ _ _ hu D hdD BJ TD;simp only[ND,List.forIn_cons,bX,Hr,Hq,bZ,he]
        cases u with
        |false=>rw[<-hb];rfl
        |true=>
         simp only[qt,eY,iD,cU,bZ];rw[tA]at hb;subst hb;exact ihk (i+1) _ hv
       .cases hb
      .cases hb
    have hk:=key n0 0 b h;rw[hk]
    cases b<;>rfl
   .cases h
  .rename_i ms sz iI ze ty eg he cF
   have hu:=(hE.row _ _ cF).gh;dsimp only at hu
   split at h
   .rename_i a b'
    rw[show xv=_ from hx,show yv=_ from hy];unfold Lx at h
    split at h
    .cases h
     simp only[Op.equalIn,bX,ef hu,bZ,cU]
    .cases h
     simp only[Op.equalIn,bX,ef hu,bZ,cU]
    .cases h
     simp only[Op.equalIn,bX,ef hu,bZ,cU]
    .cases h
   .cases h
  .cases h
end
open Go.RowKit
section
variable {P:Program} {E:Env} {α:Type} {L:α->Prop}
variable{op:BinOp}
def qW7{k:IntKind}{a b:Int}{v:SV}(h:RF op k a b=some v)(t:TypeId)(w:World):∃u,(Go.binOp op t (.int k a) (.int k b)).run P w=.ok u w/\∀R I n,aJ R I n w v u:=by
 cases op<;>simp only[RF,uK]at h<;>first
  |(cases h;done)
  |(subst h;exact⟨_,by simp[Go.binOp,Op.intArith,Op.intBits,Op.intCmp],λ_ _ _=>rfl⟩)
def jt6(l:List UInt8):(ByteArray.mk ⟨l⟩).toList=l:=ait _
def jj7{a b:List UInt8}{v:SV}(h:SU op a b=some v)(t:TypeId)(w:World):∃u,(Go.binOp op t (.string ⟨⟨a⟩⟩) (.string ⟨⟨b⟩⟩)).run P w=.ok u w/\∀R I n,aJ R I n w v u:=by
 cases op<;>simp only[SU,uK]at h<;>first
  |(cases h;done)
  |(subst h;exact⟨_,by simp[Go.binOp,Op.stringOp,jt6],λ_ _ _=>rfl⟩)
variable{x:SV}
def eqIn_shape{d:Nat}{t:TypeId}{y:SV}{b:Bool}(h:gT E d t x y=some b):(∃k a k' c,x=.int k a/\y=.int k' c)\/(∃a c,x=.str a/\y=.str c)\/(∃a c,x=.bool a/\y=.bool c)\/(∃a c,x=.agg a/\y=.agg c)\/(∃a c ms r,x=.dO a/\y=.dO c/\Lx a c=some b/\E.row t=some r/\r.desc=.interface ms):=by
 cases d with
 |zero=>unfold gT at h;cases h
 |succ d=>
  unfold gT at h
  split at h
  .split at h
   .exact .inr (.inr (.inl ⟨_,_,rfl,rfl⟩))
   .cases h
  .split at h
   .exact .inl ⟨_,_,_,_,rfl,rfl⟩
   .cases h
  .split at h
   .exact .inr (.inl ⟨_,_,rfl,rfl⟩)
   .cases h
  .split at h
   .exact .inr (.inr (.inr (.inl ⟨_,_,rfl,rfl⟩)))
   .cases h
  .split at h
   .exact .inr (.inr (.inr (.inl ⟨_,_,rfl,rfl⟩)))
   .cases h
  .rename_i cF
   split at h;.exact .inr (.inr (.inr (.inr ⟨_,_,_,_,rfl,rfl,h,cF,rfl⟩)))
   .cases h
  .cases h
def FU{t e:TypeId}(hu:P.underlying t=some (.slice e))(a:Option Addr)(l c l' c':Nat)(w:World):(Op.equal t (.slice a l c) (.slice none l' c')).run P w=.ok a.isNone w:=by
 have key:∀d,(Op.equalIn (d+1) t (.slice a l c) (.slice none l' c')).run P w=.ok a.isNone w:=λd=>by
  simp only[Op.equalIn,bX,ef hu,bZ]
  cases a<;>rfl
 exact key 9999
variable{m:Mem}
def yV1(hE:dF P E){t:TypeId}{y:SV}{p:ax}{V:p9 α}(h:(PB E op t x y p m V).holds L):
  ∃v,(V v p m).holds L/\∀ (m:Mem) w0 R0 I w (xv yv:Value) (xo yo:Operand),aJ (RO w0 R0 I w m) I m.next w x xv->aJ (RO w0 R0 I w m) I m.next w y yv->lV P m v (do eqGuard op t xo yo xv yv;Go.binOp op t xv yv) w0 R0 I w:=by
 unfold PB at h
 split at h
 .rename_i k a k' b
  split at h
  .obtain⟨hb,h⟩:=h
   refine⟨_,h,λm w0 R0 I w xv yv xo yo hx hy=>?_⟩;rw[show xv=_ from hx,show yv=_ from hy]
   have iQ:¬b<0:=by have:=bG hb;omega
   exact⟨_,by simp[Nt,Go.binOp,Op.shift,iQ],rfl⟩
  .obtain⟨hb,h⟩:=h
   refine⟨_,h,λm w0 R0 I w xv yv xo yo hx hy=>?_⟩;rw[show xv=_ from hx,show yv=_ from hy]
   have iQ:¬b<0:=by have:=bG hb;omega
   exact⟨_,by simp[Nt,Go.binOp,Op.shift,iQ],rfl⟩
  .split at h
   .rename_i hk
    subst hk
    split at h
    .obtain⟨hb,h⟩:=h
     refine⟨_,h,λm w0 R0 I w xv yv xo yo hx hy=>?_⟩;rw[show xv=_ from hx,show yv=_ from hy]
     have iQ:¬b=0:=by simpa using hb
     exact⟨_,by simp[Nt,Go.binOp,Op.intDiv,iQ],rfl⟩
    .obtain⟨hb,h⟩:=h
     refine⟨_,h,λm w0 R0 I w xv yv xo yo hx hy=>?_⟩;rw[show xv=_ from hx,show yv=_ from hy]
     have iQ:¬b=0:=by simpa using hb
     exact⟨_,by simp[Nt,Go.binOp,Op.intDiv,iQ],rfl⟩
    .split at h
     .rename_i v hv
      refine⟨v,h,λm w0 R0 I w xv yv xo yo hx hy=>?_⟩;rw[show xv=_ from hx,show yv=_ from hy];obtain⟨u,h1,h2⟩:=qW7 (P:=P) hv t w;exact⟨u,by simp only[Nt,pure_bind,h1],h2 _ _ _⟩
     .exact h.elim
   .exact h.elim
 .rename_i a b
  split at h
  .obtain⟨hb,h⟩:=h
   refine⟨_,h,λm w0 R0 I w xv yv xo yo hx hy=>?_⟩;rw[show xv=_ from hx,show yv=_ from hy]
   have iQ:¬(9223372036854775807:Int)< ((a.length+b.length:Nat):Int):=by have:=bG hb;omega
   refine⟨.string ⟨⟨a++b⟩⟩,?_,rfl⟩;simp only[eqGuard_at_string,pure_bind,Go.binOp,Op.stringOp]
   have hs:∀l:List UInt8,(ByteArray.mk ⟨l⟩).size=l.length:=λl=>rfl
   rw[hs,hs,au (by rw[IntKind.max_i64];exact iQ)];simp only[cU,EI,jI,Value.string.injEq];apply ByteArray.ext;simp
  .split at h
   .rename_i v hv
    refine⟨v,h,λm w0 R0 I w xv yv xo yo hx hy=>?_⟩;rw[show xv=_ from hx,show yv=_ from hy];obtain⟨u,h1,h2⟩:=jj7 (P:=P) hv t w;exact⟨u,by simp only[eqGuard_at_string,pure_bind,h1],h2 _ _ _⟩
   .exact h.elim
 .rename_i hni M5
  have key:∀ (b:Bool) (op:BinOp),(op=.eql\/op=.neq)->(∃r,E.row t=some r/\r.B1=false)->gT E 100 t x y=some b->∀ (m:Mem) w0 R0 I w (xv yv:Value) (xo yo:Operand),aJ (RO w0 R0 I w m) I m.next w x xv->aJ (RO w0 R0 I w m) I m.next w y yv->
    (do eqGuard op t xo yo xv yv;Go.binOp op t xv yv).run P w=.ok (.bool (if op=.eql then b else !b)) w:=by
   intro b op fR ⟨r,hr,hg⟩ he m w0 R0 I w xv yv xo yo hx hy;have br:=hE.row _ _ hr;have hq:=z00 (P:=P) hE 100 t x y b he 10000 (by omega) hx hy;rcases eqIn_shape he with⟨k,a,k',c,rfl,rfl⟩|⟨a,c,rfl,rfl⟩|⟨a,c,rfl,rfl⟩|⟨a,c,rfl,rfl⟩|⟨a,c,ms,r',rfl,rfl,hn,pd,hd⟩
   .exact(hni _ _ _ _ rfl rfl).elim
   .exact(M5 _ _ rfl rfl).elim
   .rw[show xv=_ from hx,show yv=_ from hy]at hq ⊢
    rcases fR with rfl|rfl
    .simp[eqGuard_at_bool,Go.binOp,Op.equal,Op.maxDepth,hq]
    .simp[eqGuard_at_bool,Go.binOp,Op.equal,Op.maxDepth,hq]
   .obtain⟨vx,rfl,_⟩:=hx
    obtain⟨vy,rfl,_⟩:=hy
    have hm:P.eqGuardType P.depth t=false:=by rw[<-br.B1];exact hg
    rcases fR with rfl|rfl
    .simp only[bX,run_eqGuard_agg w _ t xo yo _ _ hm,bZ,run_eql_struct,hq];rfl
    .simp only[bX,run_eqGuard_agg w _ t xo yo _ _ hm,bZ,run_neq_struct,hq];rfl
   .have hu:P.underlying t=some (.interface ms):=by rw[(hE.row _ _ pd).gh,hd]
    have hm:P.eqGuardType P.depth t=false:=by rw[<-br.B1];exact hg
    have hms:ms.isEmpty=true:=by
     cases hdp:P.depth with
     |zero=>rw[hdp]at hm;simp[Program.eqGuardType]at hm
     |succ d=>rw[hdp]at hm;simpa[Program.eqGuardType,hu]using hm
    rw[show xv=_ from hx,show yv=_ from hy]at hq ⊢;unfold Lx at hn
    split at hn
    .have hgi:∀d,(Op.eqGuardIn (d+1) t .nilIface .nilIface).run P w=.ok false w:=λd=>by
      simp only[Op.eqGuardIn,bX,ef hu,bZ,cU,hms];rfl
     have hgj : (do if ← Op.eqGuardIn Op.maxDepth t .nilIface .nilIface then unsupported (.noEntry "binop/eql: two nil values of an interface type with methods, neither of them the literal nil") : Sem Unit).run P w = .ok () w := by
      rw[bX,show Op.maxDepth=9999+1 from rfl,hgi 9999];rfl
     have rJ:∀op,(op=.eql\/op=.neq)->(eqGuard op t xo yo .nilIface .nilIface).run P w=.ok () w:=λop fR=>by
      rcases fR with rfl|rfl
      .cases xo<;>cases yo<;>first|exact hgj|rfl
      .cases xo<;>cases yo<;>first|exact hgj|rfl
     rcases fR with rfl|rfl
     .rw[bX,rJ _ (.inl rfl)];simp[Go.binOp,Op.equal,Op.maxDepth,hq]
     .rw[bX,rJ _ (.inr rfl)];simp[Go.binOp,Op.equal,Op.maxDepth,hq]
    .rcases fR with rfl|rfl<;>simp[eqGuard,Go.binOp,Op.equal,Op.maxDepth,hq]
    .rcases fR with rfl|rfl<;>simp[eqGuard,Go.binOp,Op.equal,Op.maxDepth,hq]
    .cases hn
  split at h
  .rename_i rb vS
   split at h<;>try exact h.elim
   rename_i e sz iI ze ty eg he cF;have br:=hE.row _ _ cF;have hu:P.underlying t=some (.slice e):=br.gh
   have kn:rb.1=true->∀ (m:Mem) w0 R0 I w (xv yv:Value) (xo yo:Operand),aJ (RO w0 R0 I w m) I m.next w x xv->aJ (RO w0 R0 I w m) I m.next w y yv->(∃a l c l' c',xv=.slice a l c/\yv=.slice none l' c')/\(Op.equal t xv yv).run P w=.ok rb.2 w:=by
    intro hr m w0 R0 I w xv yv xo yo hx hy;unfold XM at vS
    split at vS
    .cases vS
     rw[show xv=_ from hx,show yv=_ from hy];exact⟨⟨_,_,_,_,_,rfl,rfl⟩,FU hu _ _ _ _ _ w⟩
    .rename_i u l
     cases vS;obtain⟨a,cap,gq,_,pq⟩:=hx;injection gq with gq;rw[gq,show yv=_ from hy]
     have cw:0<List.length l:=by
      cases l with
      |nil=>cases hr
      |cons _ _=>simp
     obtain⟨b,o,rfl,_⟩:=pq cw;exact⟨⟨_,_,_,_,_,rfl,rfl⟩,FU hu _ _ _ _ _ w⟩
    .cases vS
     rw[show xv=_ from hx.2,show yv=_ from hy];exact⟨⟨_,_,_,_,_,rfl,rfl⟩,FU hu _ _ _ _ _ w⟩
    .split at vS
     .cases vS
      rw[show xv=_ from hx,show yv=_ from hy];exact⟨⟨_,_,_,_,_,rfl,rfl⟩,FU hu _ _ _ _ _ w⟩
     .cases vS
      rw[show xv=_ from hx,show yv=_ from hy];exact⟨⟨_,_,_,_,_,rfl,rfl⟩,FU hu _ _ _ _ _ w⟩
     .cases vS
    .cases vS
   split at h<;>try exact h.elim
   .obtain⟨hr,h⟩:=h
    refine⟨_,h,λm w0 R0 I w xv yv xo yo hx hy=>?_⟩;obtain⟨⟨a,l,c,l',c',rfl,rfl⟩,h2⟩:=kn hr m w0 R0 I w xv yv xo yo hx hy;exact⟨_,by simp only[eqGuard,Go.binOp,bX,cU,bZ,h2,pure_bind,qt,eY,iD],rfl⟩
   .obtain⟨hr,h⟩:=h
    refine⟨_,h,λm w0 R0 I w xv yv xo yo hx hy=>?_⟩;obtain⟨⟨a,l,c,l',c',rfl,rfl⟩,h2⟩:=kn hr m w0 R0 I w xv yv xo yo hx hy;exact⟨_,by simp only[eqGuard,Go.binOp,bX,cU,bZ,h2,pure_bind,qt,eY,iD],rfl⟩
  split at h
  .rename_i de sz iI ze ty he cF
   split at h
   .split at h
    .rename_i b hb
     exact⟨_,h,λm w0 R0 I w xv yv xo yo hx hy=>⟨_,key b .eql (.inl rfl) ⟨_,cF,rfl⟩ hb m w0 R0 I w xv yv xo yo hx hy,rfl⟩⟩
    .exact h.elim
   .split at h
    .rename_i b hb
     exact⟨_,h,λm w0 R0 I w xv yv xo yo hx hy=>⟨_,key b .neq (.inr rfl) ⟨_,cF,rfl⟩ hb m w0 R0 I w xv yv xo yo hx hy,rfl⟩⟩
    .exact h.elim
   .exact h.elim
  .exact h.elim
def yY9{op:UnOp}{p:ax}{V:p9 α}(h:(Pn op x p m V).holds L):
  ∃v,(V v p m).holds L/\∀ (m:Mem) w0 R0 I w (xv:Value),aJ (RO w0 R0 I w m) I m.next w x xv->lV P m v (Op.unary op xv) w0 R0 I w:=by
 unfold Pn at h
 split at h;.exact⟨_,h,λm w0 R0 I w xv hx=>by rw[show xv=_ from hx];exact⟨_,rfl,rfl⟩⟩
 .exact⟨_,h,λm w0 R0 I w xv hx=>by rw[show xv=_ from hx];exact⟨_,rfl,rfl⟩⟩
 .exact⟨_,h,λm w0 R0 I w xv hx=>by rw[show xv=_ from hx];exact⟨_,rfl,rfl⟩⟩
 .exact h.elim
def eR(R:Nat->Prop)(w:World)(t:Ty):List t.T->List Value->Prop
 |[],vs=>vs=[]
 |x::xs,vs=>∃v1 v2,vs=v1++v2/\p7 R w t x v1/\eR R w t xs v2
variable{R:Nat->Prop}{w:World}
theorem eR.append{t:Ty}:∀{xs ys:List t.T} {us vs:List Value},eR R w t xs us->eR R w t ys vs->eR R w t (xs++ys) (us++vs)
 |[],_,us,vs,h,k=>by rw[show us=[]from h];exact k
 |x::xs,ys,us,vs,h,k=>by
  obtain⟨v1,v2,rfl,h1,h2⟩:=h;exact⟨v1,v2++vs,by simp,h1,eR.append h2 k⟩
theorem eR.length{t:Ty}:∀{xs:List t.T} {us:List Value},eR R w t xs us->us.length=xs.length*t.sz
 |[],us,h=>by rw[show us=[]from h];simp
 |x::xs,us,h=>by
  obtain⟨v1,v2,rfl,h1,h2⟩:=h;rw[eX,(p7.flat (I:=λ_=>(0,0,0)) (n:=0) t x v1 h1).1,eR.length h2,tv,qR,yB]
theorem eR.mono{R':Nat->Prop}{w':World}(hk:∀b,R b->R' b/\w'.heap[b]? =w.heap[b]?){t:Ty}:∀{xs:List t.T} {us:List Value},eR R w t xs us->eR R' w' t xs us
 |[],_,h=>h
 |x::xs,us,h=>by
  obtain⟨v1,v2,rfl,h1,h2⟩:=h;exact⟨v1,v2,rfl,p7.mono hk t _ _ h1,eR.mono hk h2⟩
def yS(R:Nat->Prop)(w:World)(t:Ty)(l:List t.T)(g:Nat->Option Value):Prop:=
 ∀i (h:i<l.length),∃cs:List Value,cs.length=t.sz/\(∀j,j<t.sz->g (i*t.sz+j)=cs[j]?)/\p7 R w t l[i] cs
theorem eR.Nv{t:Ty}:∀{xs:List t.T} {us:List Value},eR R w t xs us->yS R w t xs λk=>us[k]?
 |[],_,_,i,hi=>absurd hi (tu _)
 |x::xs,us,h,0,hi=>by
  obtain⟨v1,v2,rfl,h1,h2⟩:=h;have hl:=(p7.flat (I:=λ_=>(0,0,0)) (n:=0) t x v1 h1).1;exact⟨v1,hl,λj hj=>by simp only[UH,gY];rw[yE (by omega)],h1⟩
 |x::xs,us,h,i+1,hi=>by
  obtain⟨v1,v2,rfl,h1,h2⟩:=h;have hl:=(p7.flat (I:=λ_=>(0,0,0)) (n:=0) t x v1 h1).1;obtain⟨cs,k1,k2,k3⟩:=eR.Nv h2 i (by simpa using hi);refine⟨cs,k1,λj hj=>?_,by simpa using k3⟩;rw[<-k2 j hj];dsimp only;rw[uN (by rw[qR];omega)]
  congr 1
  rw[qR];omega
theorem yS.KD{t:Ty}:∀{xs:List t.T} {us:List Value},us.length=xs.length*t.sz->yS R w t xs (λk=>us[k]?)->eR R w t xs us
 |[],us,hl,_=>pz (by simpa using hl)
 |x::xs,us,hl,h=>by
  rw[tv,qR]at hl;obtain⟨cs,k1,k2,k3⟩:=h 0 (by simp)
  have hcs:us.take t.sz=cs:=by
   apply NF;intro j
   by_cases hj:j<t.sz
   .rw[yC,ay hj]
    have:=k2 j hj
    simpa using this
   .rw[yC,au hj,qU (by omega)]
  refine⟨us.take t.sz,us.drop t.sz,(aBI _ _).symm,by rw[hcs];exact k3,yS.KD (by rw[wv];omega) λi hi=>?_⟩;obtain⟨ds,d1,d2,d3⟩:=h (i+1) (by simpa using hi);refine⟨ds,d1,λj hj=>?_,by simpa using d3⟩;rw[<-d2 j hj];dsimp only;rw[yD]
  congr 1
  rw[qR];omega
variable{I:bu}
theorem Mi{n:Nat}{t:Ty}:∀{k:Nat} {cs:List SV} {l:List t.T} {vs:List Value},vK t k cs=some l->j8 R I n w cs vs->eR R w t l vs/\l.length=k
 |0,cs,l,vs,h,hr=>by
  cases cs with
  |nil=>simp only[vK]at h;cases h;exact⟨hr,rfl⟩
  |cons c cs=>simp[vK]at h
 |k+1,cs,l,vs,h,hr=>by
  simp only[vK]at h
  cases h1:jC t cs with
  |none=>rw[h1]at h;cases h
  |some q=>
   obtain⟨x,qo⟩:=q;rw[h1]at h;dsimp only at h
   cases h2:vK t k qo with
   |none=>rw[h2]at h;cases h
   |some l'=>
    rw[h2]at h;cases h;obtain⟨v1,v2,rfl,_,r1,r2⟩:=p7.jC t cs x qo vs h1 hr;obtain⟨r3,r4⟩:=Mi h2 r2;exact⟨⟨v1,v2,rfl,r1,r3⟩,by simp[r4]⟩
theorem OH:∀ (s:List UInt8),eR R w (.int .u8) (s.map λb=>(b.toNat:Int):List Int) (s.map λb=>Value.int .u8 b.toNat)
 |[] =>rfl
 |b::s=>⟨[_],_,rfl,rfl,OH s⟩
def xv4{w0:World}{R0:eo}(hm:aQ w0 R0 I w m){id:Nat}{u:Ty}{l:List u.T}(h:m.get id=some (.rows u l))(hc:0< (I id).2.2):
  ∃arr e fr,w.heap[(I id).1]? =some (.cells arr e fr)/\Mh u e arr fr/\arr.size=(I id).2.2*u.sz/\eR (RO w0 R0 I w m) w u l (arr.toList.take (l.length*u.sz)):=by
 obtain⟨b1,b2,hp⟩:=hm.box id _ h;obtain⟨arr,e,fr,h1,h2,h3,h4⟩:=hp hc
 have mK:l.length*u.sz<=arr.size:=by rw[h3];exact nL _ b2
 refine⟨arr,e,fr,h1,h2,h3,yS.KD (by rw[ou];simp;omega) λi hi=>?_⟩;obtain⟨cs,k1,k2,k3⟩:=h4 i hi;refine⟨cs,k1,λj hj=>?_,k3⟩
 have:i*u.sz+j<l.length*u.sz:=by
  have:(i+1)*u.sz<=l.length*u.sz:=nL _ hi;rw[qR]at this;omega
 dsimp only;rw[yC,ay this,<-k2 j hj];simp
def OK{n:Nat}{r:Nat×Nat×Nat}{u:Ty}{l:List u.T}{arr:Array Value}{e:TypeId}{fr:Nat×Nat}{vs rest:List Value}(h0:l.length=r.2.1)(T9:l.length<=r.2.2)
  (h1:w.heap[r.1]? =some (.cells arr e fr)) (h2:Mh u e arr fr) (h3:arr.size=r.2.2*u.sz) (h4:arr.toList=vs++rest) (h5:eR R w u l vs):fN R I n w r (.rows u l):=by
 refine⟨h0,T9,λ_=>⟨arr,e,fr,h1,h2,h3,λi hi=>?_⟩⟩;obtain⟨cs,k1,k2,k3⟩:=h5.Nv i hi;refine⟨cs,k1,λj hj=>?_,k3⟩;rw[<-k2 j hj,<-Cg,h4]
 have:i*u.sz+j<vs.length:=by
  rw[h5.length];have:(i+1)*u.sz<=l.length*u.sz:=nL _ hi;rw[qR]at this;omega
 rw[yE this]
def Ef(arr:Array Value):vJ arr (0,0):=λi _ h=>absurd h.2 (tu _)
end
open Go.RowKit
section
variable {P:Program} {E:Env} {α:Type} {L:α->Prop}
abbrev yP(P:Program)(m:Mem)(v:SV)(m':Mem)(s:Sem Value)(w0:World)(R0:eo)(I:bu)(w:World):Prop:=
 ∃u w',s.run P w=.ok u w'/\n9 w0 R0 I w m v m' u w'
variable{m:Mem}{w0 w:World}{R0:eo}{I:bu}
def lV.zd{v:SV}{s:Sem Value}(h:lV P m v s w0 R0 I w)(hm:aQ w0 R0 I w m):yP P m v m s w0 R0 I w:=
 let ⟨u,h1,h2⟩:=h
 ⟨u,w,h1,n9.same hm h2⟩
variable{x:SV}
def tG{u:Ty}{xs:List u.T}(h:oC u m x=some xs){xv:Value}(hm:aQ w0 R0 I w m)(hx:aJ (RO w0 R0 I w m) I m.next w x xv):
  ∃vs,(Builtin.lenOf xv).run P w=.ok xs.length w/\(Builtin.firstCells u.sz xs.length xv).run P w=.ok ⟨vs⟩ w/\eR (RO w0 R0 I w m) w u xs vs:=by
 have bS:∀ (t:Ty) (l:List t.T) (b o:Nat),yS (RO w0 R0 I w m) w t l (λk=>w.cell? ⟨b,o+k,none⟩)->∃vs:List Value,(Go.loadCells ⟨b,o,none⟩ (l.length*t.sz)).run P w=.ok ⟨vs⟩ w/\eR (RO w0 R0 I w m) w t l vs:=by
  intro t l b o pq
  have Ng:∀k,k<l.length*t.sz->∃v,w.cell? ⟨b,o+k,none⟩=some v:=by
   intro k hk
   have Ho:0<t.sz:=by
    rcases wo t.sz with h0|h0
    .rw[h0]at hk;omega
    .exact h0
   have hdm:=aif k t.sz;have TH:=yz k Ho;have hi:k / t.sz<l.length:=Nat.div_lt_of_lt_mul (by rwa [yy]);obtain⟨cs,c1,c2,_⟩:=pq (k / t.sz) hi;have:=c2 (k % t.sz) TH;dsimp only at this;rw[show k / t.sz*t.sz+k % t.sz=k by rw[yy];exact hdm]at this;rw[this,cc (by omega)];exact⟨_,rfl⟩
  obtain⟨f,hf⟩:∃f:Nat->Value,∀k,k<l.length*t.sz->w.cell? ⟨b,o+k,none⟩=some (f k):=
   ⟨λk=>if hk:k<l.length*t.sz then(Ng k hk).choose else default,λk hk=>by simp only[hk,dite_true];exact(Ng k hk).choose_spec⟩
  refine⟨(List.range (l.length*t.sz)).map f,run_loadCells w ⟨b,o,none⟩ _ f (λj hj=>by rw[tB];exact hf j hj),yS.KD (by simp) λi hi=>?_⟩;obtain⟨cs,c1,c2,c3⟩:=pq i hi;refine⟨cs,c1,λj hj=>?_,c3⟩
  have:i*t.sz+j<l.length*t.sz:=by
   have:(i+1)*t.sz<=l.length*t.sz:=nL _ hi;rw[qR]at this;omega
  rw[<-c2 j hj];dsimp only;rw[hf _ this];simp[this]
 cases x<;>simp only[oC]at h<;>try(cases h;done)
 case cm=>
  cases h;rw[show xv=_ from hx];exact⟨[],rfl,by simp[Builtin.firstCells],rfl⟩
 case list t l=>
  split at h
  .rename_i ht
   injection h with h;subst ht;dsimp only at h;subst h;obtain⟨a,cap,gq,hc,pq⟩:=hx;cases gq;rcases wo (List.length l)with h0|h0
   .have:l=[] :=pz h0
    subst this;refine⟨[],rfl,?_,rfl⟩
    cases a<;>simp[Builtin.firstCells,Go.loadCells,loadCellsFrom]
   .obtain⟨b,o,rfl,hR,rL⟩:=pq h0
    obtain⟨vs,h1,h2⟩:=bS t l b o (λi hi=>rL i hi);exact⟨vs,rfl,h1,h2⟩
  .cases h
 case row id=>
  split at h
  .rename_i t l hg
   split at h
   .rename_i ht
    injection h with h;subst ht;dsimp only at h;subst h;obtain⟨aI,a,rfl,ha⟩:=hx;obtain⟨b1,b2,hp⟩:=hm.box id _ hg;rcases wo (I id).2.2 with h0|h0
    .have hl:l=[] :=pz (by omega)
     subst hl;refine⟨[],by rw[<-b1];rfl,?_,rfl⟩
     cases a<;>simp[Builtin.firstCells,Go.loadCells,loadCellsFrom]
    .obtain rfl:=ha h0
     obtain⟨arr,e,fr,h1,h2,h3,h4⟩:=hp h0
     obtain⟨vs,k1,k2⟩:=bS t l (I id).1 0 (λi hi=>by
      obtain⟨cs,c1,c2,c3⟩:=h4 i hi
      exact⟨cs,c1,λj hj=>by dsimp only;rw[gY,rR w _ _ arr e fr h1];exact c2 j hj,c3⟩)
     exact⟨vs,by rw[<-b1];rfl,k1,k2⟩
   .cases h
  .cases h
 case arr id off n=>
  split at h
  .rename_i cs hg
   obtain⟨aI,rfl⟩:=hx;obtain⟨arr,e,fr,h1,h2,h3⟩:=hm.box id _ hg;have hr:=(h3.drop off).take (n*u.sz);obtain⟨hd,hl⟩:=Mi h hr;have bD:=hd.length;rw[hl]at bD ⊢;refine⟨(arr.toList.drop off).take (n*u.sz),rfl,?_,hd⟩
   have:=ab7 (P:=P) w ⟨(I id).1,off,none⟩ ((arr.toList.drop off).take (n*u.sz)) (λj v hj=>by
    rw[tB,rR w _ _ arr e fr h1]
    have gu:j<n*u.sz:=by have:=(iZ.1 hj).1;omega
    rw[yC,ay gu,yD]at hj
    simpa using hj)
   rw[bD]at this;exact this
  .cases h
 case str s=>
  split at h
  .rename_i ht
   injection h with h;subst ht;dsimp only at h;subst h;rw[show xv=_ from hx];have hl:List.length (List.map (λb:UInt8=>(b.toNat:Int)) s)=s.length:=mP _;refine⟨_,?_,?_,OH s⟩
   .show Result.ok s.length w=Result.ok (List.length (List.map (λb:UInt8=>(b.toNat:Int)) s)) w
    rw[hl]
   .show(Builtin.firstCells 1 (List.length (List.map (λb:UInt8=>(b.toNat:Int)) s)) _).run P w=_
    rw[hl];simp only[Builtin.firstCells,cU,EI,jI];apply oy;simp[Lib.extract_data]
  .cases h
 case dO v=>
  split at h
  .rename_i a cap
   cases h;rw[show xv=_ from hx];refine⟨[],rfl,?_,rfl⟩
   cases a with
   |none=>simp[Builtin.firstCells,Go.loadCells]
   |some a=>
    simp[Builtin.firstCells,Go.loadCells];rfl
  .cases h
def zB9{s:List UInt8}(h:OI m x=some s){xv:Value}(hm:aQ w0 R0 I w m)(hx:aJ (RO w0 R0 I w m) I m.next w x xv):
  (∃a l c,xv=.slice a l c)/\(Conv.bytesToString xv).run P w=.ok (.string ⟨⟨s⟩⟩) w:=by
 have key:∀ (l:List Int) (vs:List Value),eR (RO w0 R0 I w m) w (.int .u8) l vs->vs=l.map (Value.int .u8):=by
  intro l
  induction l with
  |nil=>intro vs h;exact h
  |cons n l ih=>
   intro vs h;obtain⟨v1,v2,rfl,h1,h2⟩:=h;rw[show v1=_ from h1,ih v2 h2];rfl
 have fin:∀ (ns:List Int) (a:Addr) (len cap:Nat) (vs:List Value),(Go.loadCells a len).run P w=.ok ⟨vs⟩ w->vs=ns.map (Value.int .u8)->(Conv.bytesToString (.slice (some a) len cap)).run P w=.ok (.string ⟨⟨ns.map λn=>UInt8.ofNat n.toNat⟩⟩) w:=by
  intro ns a len cap vs h1 h2;subst h2;rw[run_bytesToString w a len cap ns h1,foldl_push_bytes];simp[ByteArray.empty,ByteArray.emptyWithCapacity];rfl
 cases x<;>simp only[OI]at h<;>try(cases h;done)
 case cm=>
  cases h;rw[show xv=_ from hx];exact⟨⟨_,_,_,rfl⟩,rfl⟩
 case list t l=>
  cases t<;>try(cases h;done)
  case int k=>
   cases k<;>try(cases h;done)
   case u8=>
    injection h with h
    have he:oC (.int .u8) m (.list (.int .u8) l)=some l:=by simp[oC]
    obtain⟨vs,h1,h2,h3⟩:=tG (P:=P) he hm hx;obtain⟨a,cap,gq,hc,pq⟩:=hx;cases gq;refine⟨⟨_,_,_,rfl⟩,?_⟩
    cases a with
    |none=>
     have:List.length (l:List Int)=0:=by
      rcases wo (List.length (l:List Int))with h0|h0
      .exact h0
      .obtain⟨b,o,hb,_⟩:=pq h0;cases hb
     have:(l:List Int)=[] :=pz this;rw[<-h,this];rfl
    |some a=>
     rw[<-h];exact fin _ _ _ _ _ (by simpa[Builtin.firstCells,Ty.sz]using h2) (key _ _ h3)
 case row id=>
  split at h
  .rename_i l hg
   injection h with h
   have he:oC (.int .u8) m (.row id)=some l:=by simp[oC,hg]
   obtain⟨vs,h1,h2,h3⟩:=tG (P:=P) he hm hx;obtain⟨aI,a,rfl,ha⟩:=hx;obtain⟨b1,b2,hp⟩:=hm.box id _ hg;refine⟨⟨_,_,_,rfl⟩,?_⟩
   cases a with
   |none=>
    have hc:¬0< (I id).2.2:=λhc=>by have:=ha hc;cases this
    have:(l:List Int)=[] :=pz (by omega);rw[<-h,this];rfl
   |some a=>
    rw[<-h];refine fin _ _ _ _ _ (by rw[<-b1];simpa[Builtin.firstCells,Ty.sz]using h2) (key _ _ h3)
  .cases h
 case arr id off n=>
  split at h
  .rename_i cs hg
   split at h
   .rename_i l hl
    injection h with h
    have he:oC (.int .u8) m (.arr id off n)=some l:=by simp only[oC,hg];exact hl
    have hln:List.length (l:List Int)=n:=by
     obtain⟨arr,e,fr,h1,h2,h3⟩:=hm.box id _ hg;exact(Mi hl ((h3.drop off).take (n*(Ty.int .u8).sz))).2
    obtain⟨vs,h1,h2,h3⟩:=tG (P:=P) he hm hx;obtain⟨aI,rfl⟩:=hx;refine⟨⟨_,_,_,rfl⟩,?_⟩;rw[<-h];refine fin _ _ _ _ _ (by rw[<-hln];simpa[Builtin.firstCells,Ty.sz]using h2) (key _ _ h3)
   .cases h
  .cases h
def QB{w1:World}{m':Mem}{u:Ty}{l:List u.T}{arr:Array Value}{e:TypeId}{fr:Nat×Nat}{vs rest:List Value}{cap:Nat}(hm:aQ w0 R0 I w m)(hp:mU m (.rows u l) m')
  (yc:w1.os=w.os) (ht:w1.tape=w.tape) (hpu:w1.output=w.output) (bS:w1.heap.size=w.heap.size+1) (hold:∀k,k<w.heap.size->w1.heap[k]? =w.heap[k]?) (sZ:w1.heap[w.heap.size]? =some (.cells arr e fr))
  (hu:Mh u e arr fr) (ha:arr.size=cap*u.sz) (hl:l.length<=cap) (hv:arr.toList=vs++rest) (hd:eR (RO w0 R0 I w m) w u l vs):
  n9 w0 R0 I w m (.row m.next) m' (.slice (some ⟨w.heap.size,0,none⟩) l.length cap) w1:=by
 obtain⟨h1,h2⟩:=hm.push (w':=w1) (r:=(w.heap.size,l.length,cap)) hp yc ht hpu (by omega) hold (λ_=>⟨bA _,by show w.heap.size<_;omega⟩)
  (λR n I' e'=>OK rfl hl sZ hu ha hv (eR.mono e'.keep hd))
 refine⟨_,h1,h2,by rw[hp.2];omega,_,by rw[s9],λ_=>by rw[s9]⟩
def yW0(hE:dF P E){src dst:TypeId}{p:ax}{V:p9 α}(h:(Pz E src dst x p m V).holds L):
  ∃v m',(V v p m').holds L/\((∀r e,E.row dst=some r->r.desc≠.slice e)->m'=m)/\∀w0 R0 I w (xv:Value),aQ w0 R0 I w m->aJ (RO w0 R0 I w m) I m.next w x xv->yP P m v m' (Go.convert src dst xv) w0 R0 I w:=by
 unfold Pz at h
 split at h
 .rename_i rs rd hs hd
  have lP:=(hE.row _ _ hs).gh;have Ak:=(hE.row _ _ hd).gh
  split at h
  .rename_i k k' n td
   rw[td]at Ak;refine⟨_,m,h,λ_=>rfl,λw0 R0 I w xv hm hx=>lV.zd ⟨_,?_,rfl⟩ hm⟩;rw[show xv=_ from hx];simp only[Go.convert,bX,ef lP,ef Ak,bZ,Conv.intToInt,cU]
  .rename_i s td
   rw[td]at Ak;refine⟨_,m,h,λ_=>rfl,λw0 R0 I w xv hm hx=>lV.zd ⟨_,?_,rfl⟩ hm⟩;rw[show xv=_ from hx];simp only[Go.convert,bX,ef lP,ef Ak,bZ,cU]
  .rename_i e s Tu td
   rw[Tu]at lP;rw[td]at Ak
   split at h
   .rename_i sz iI ze ty eg he cF
    have G9:=(hE.row _ _ cF).gh;dsimp only at G9
    split at h
    case h_2=>cases h
    rename_i ay0;obtain⟨m',h1,h2⟩:=Mem.nB h;refine⟨_,m',h2,λcw=>absurd td (cw _ _ hd),λw0 R0 I w xv hm hx=>?_⟩;rw[show xv=_ from hx];have hl:List.length (List.map (λb:UInt8=>(b.toNat:Int)) s)=s.length:=mP _;refine⟨_,_,aBN w src dst e ⟨⟨s⟩⟩ lP Ak G9,?_⟩;have mL:s.length<=grownCap w s.length 0 e:=aid _ _
    have key:=QB (w1:=Lib.bytesWorld w e ⟨⟨s⟩⟩) (u:=.int .u8) (l:=List.map (λb:UInt8=>(b.toNat:Int)) s) (cap:=grownCap w s.length 0 e) (arr:=Lib.bytesCells w e ⟨⟨s⟩⟩) (rest:=(Array.replicate (grownCap w s.length 0 e-s.length) (.int .u8 0)).toList) hm h1 rfl rfl rfl (Lib.bytesWorld_size w e _) (λk hk=>Lib.bytesWorld_at_old w e _ k hk) (Lib.bytesWorld_at_new w e _)
     ⟨λi hi hh=>by have:=hh.1;dsimp only at this;omega,λ_=>(hE.row _ _ cF).el (.inr rfl) (by simpa using ay0)⟩ (by simp[Lib.bytesCells,Ty.sz,ByteArray.size];omega) (by show List.length (List.map (λb:UInt8=>(b.toNat:Int)) s)<=_;rw[hl];exact mL) (vs:=s.map λb=>Value.int .u8 b.toNat)
     (by simp only[Lib.bytesCells,Array.toList_append,U3];rfl) (OH s)
    have e2:(Value.slice (some ⟨w.heap.size,0,none⟩) (List.length (List.map (λb:UInt8=>(b.toNat:Int)) s)) (grownCap w s.length 0 e))=.slice (some ⟨w.heap.size,0,none⟩) s.length (grownCap w s.length 0 e):=by rw[hl]
    exact e2▸key
   .exact h.elim
  .rename_i e Tu td _
   rw[Tu]at lP;rw[td]at Ak
   split at h
   .rename_i sz iI ze ty eg he cF
    have G9:=(hE.row _ _ cF).gh;dsimp only at G9
    split at h
    .rename_i s hb
     refine⟨_,m,h,λ_=>rfl,λw0 R0 I w xv hm hx=>lV.zd ⟨.string ⟨⟨s⟩⟩,?_,rfl⟩ hm⟩;obtain⟨⟨a,l,c,rfl⟩,jW⟩:=zB9 (P:=P) hb hm hx;rw[run_convert_bytes_string w src dst e a l c lP G9 Ak,jW]
    .exact h.elim
   .exact h.elim
  .exact h.elim
 .exact h.elim
end
open Go.RowKit
section
variable {P:Program} {E:Env} {α:Type} {L:α->Prop}
def yW4{x:SV}{i:Nat}{p:ax}{m:Mem}{V:p9 α}(h:(Px x i p m V).holds L):
  ∃v,(V v p m).holds L/\∀ (m:Mem) w0 R0 I w (xv:Value),aJ (RO w0 R0 I w m) I m.next w x xv->lV P m v (Instr.extract xv i) w0 R0 I w:=by
 unfold Px at h
 split at h
 .rename_i vs
  split at h
  .rename_i v hv
   rw[tH]at hv;rw[pU]at h;refine⟨v,h,λm w0 R0 I w xv hx=>?_⟩;obtain⟨us,rfl,lP⟩:=hx;obtain⟨u,h1,h2⟩:=lP.get hv;refine⟨u,?_,h2⟩
   have:(⟨us⟩:Array Value)[i]? =some u:=by simpa using h1
   simp only[Instr.extract,this,cU]
  .exact h.elim
 .exact h.elim
def Bw{k:IntKind}{i:Int}{y:Nat}{code:BoundsCode}(h:0<=i/\i<=y)(w:World):(Instr.sliceBound (.int k i) y code).run P w=.ok i.toNat w:=by
 simp only[Instr.sliceBound,asIntOf,bX,cU,bZ,ay h]
abbrev wK(R:Nat->Prop)(I:bu)(n:Nat)(w:World)(x:Option SV)(v:Option Value):Prop:=
 match x,v with
 |some x,some v=>aJ R I n w x v
 |none,none=>True
 |_,_=>False
def Ws{O:Type}{l:List O}{lo hi:Option SV}{bl:Bool×List O}(h:cut l lo hi=some bl)(hb:bl.1=true)(isSlice:Bool)(cap:Nat)(mL:l.length<=cap)(hs:isSlice=false->cap=l.length){R:Nat->Prop}{I:bu}{n:Nat}{w:World}{lv hv:Option Value}
  (hl:wK R I n w lo lv) (hh:wK R I n w hi hv):
  ∃a b,(Instr.sliceBounds isSlice l.length cap lv hv none).run P w=.ok (a,b,cap) w/\a<=b/\b<=l.length/\bl.2=(l.take b).drop a:=by
 unfold cut at h
 split at h
 .cases h
  cases lv<;>cases hv<;>simp[wK]at hl hh
  exact⟨0,l.length,by simp[Instr.sliceBounds],rW _,bA _,by simp⟩
 .rename_i k a
  cases h;simp only[aH,aV]at hb
  cases lv with
  |none=>cases hl
  |some v=>
   cases hv<;>simp[wK]at hh
   obtain rfl:v=_:=hl;refine⟨a.toNat,l.length,?_,by omega,bA _,by simp⟩;simp[Instr.sliceBounds,Bw (P:=P) (k:=k) (i:=a) (y:=l.length) (code:=.sliceB) hb w]
 .rename_i k b
  cases h;simp only[aH,aV]at hb
  cases hv with
  |none=>cases hh
  |some v=>
   cases lv<;>simp[wK]at hl
   obtain rfl:v=_:=hh;refine⟨0,b.toNat,?_,by omega,by omega,by simp⟩
   cases isSlice<;>simp[Instr.sliceBounds,Bw (P:=P) (k:=k) (i:=b) (y:=cap) (code:=.sliceAcap) (by omega) w,Bw (P:=P) (k:=k) (i:=b) (y:=cap) (code:=.sliceAlen) (by omega) w]
 .rename_i k a k' b
  cases h;simp only[aH,aV]at hb
  cases lv with
  |none=>cases hl
  |some v=>
   cases hv with
   |none=>cases hh
   |some u=>
    obtain rfl:v=_:=hl;obtain rfl:u=_:=hh;obtain⟨⟨⟨h1,h2⟩,h3⟩,h4⟩:=hb
    have lu:a<=((b.toNat:Nat):Int):=by omega
    refine⟨a.toNat,b.toNat,?_,by omega,by omega,by simp⟩
    cases isSlice<;>simp[Instr.sliceBounds,Bw (P:=P) (k:=k') (i:=b) (y:=cap) (code:=.sliceAcap) (by omega) w,Bw (P:=P) (k:=k') (i:=b) (y:=cap) (code:=.sliceAlen) (by omega) w,
     Bw (P:=P) (k:=k) (i:=a) (y:=b.toNat) (code:=.sliceB) ⟨h3,lu⟩ w]
 .cases h
def zX2{R:Nat->Prop}{w:World}{u:Ty}{l:List u.T}{b o a e:Nat}(h:∀i (h:i<List.length l),∃cs:List Value,cs.length=u.sz/\(∀j,j<u.sz->w.cell? ⟨b,o+(i*u.sz+j),none⟩=cs[j]?)/\p7 R w u (List.get l ⟨i,h⟩) cs):
  ∀i (h:i<List.length ((l.take e).drop a)),∃cs:List Value,cs.length=u.sz/\(∀j,j<u.sz->w.cell? ⟨b,(o+a*u.sz)+(i*u.sz+j),none⟩=cs[j]?)/\p7 R w u (List.get ((l.take e).drop a) ⟨i,h⟩) cs:=by
 intro i hi
 have uz:a+i<l.length:=by rw[wv,ou]at hi;omega
 obtain⟨cs,h1,h2,h3⟩:=h (a+i) uz;refine⟨cs,h1,λj hj=>?_,?_⟩
 .rw[<-h2 j hj]
  congr 2
  rw[uM];omega
 .have:List.get ((l.take e).drop a) ⟨i,hi⟩=List.get l ⟨a+i,uz⟩:=by simp
  rw[this];exact h3
def yY4(hE:dF P E){t:TypeId}{x:SV}{lo hi mx:Option SV}{p:ax}{m:Mem}{V:p9 α}(h:(Po E t x lo hi mx p m V).holds L):
  ∃v m',(V v p m').holds L/\(mx=none->m'=m)/\∀w0 R0 I w (xv:Value) (lv hv mv:Option Value),aQ w0 R0 I w m->aJ (RO w0 R0 I w m) I m.next w x xv->wK (RO w0 R0 I w m) I m.next w lo lv->wK (RO w0 R0 I w m) I m.next w hi hv->wK (RO w0 R0 I w m) I m.next w mx mv->
   yP P m v m' (Instr.sliceAt t xv lv hv mv) w0 R0 I w:=by
 unfold Po at h
 split at h
 .rename_i r hr
  have hu:=(hE.row _ _ hr).gh
  split at h
  . -- a string
    rename_i s hd;rw[hd]at hu
    split at h
    .rename_i bl T1
     obtain⟨hb,h⟩:=h;refine⟨_,m,h,λ_=>rfl,λw0 R0 I w xv lv hv mv hm hx hl hh Ao=>lV.zd ⟨.string ⟨⟨bl.2⟩⟩,?_,rfl⟩ hm⟩;rw[show xv=_ from hx]
     cases mv with
     |some _=>cases Ao
     |none=>
      obtain⟨a,b,h1,h2,h3,h4⟩:=Ws (P:=P) T1 hb false s.length (bA _) (λ_=>rfl) hl hh;have bS:(ByteArray.mk ⟨s⟩).size=s.length:=rfl;simp only[Instr.sliceAt,Instr.slice,bX,ef hu,bZ,Option.isSome_none,eY,iD,bS,cU,h1,EI,jI,Value.string.injEq];rw[Lib.extract_eq,h4,UU]
    .exact h.elim
  . -- a slice
    rename_i e u xs hd;rw[hd]at hu
    split at h
    .rename_i re kG
     have br:=hE.row _ _ kG
     split at h
     .rename_i hs
      have bj:re.size=u.sz:=by simpa using hs
      split at h
      .rename_i bl T1
       obtain⟨hb,h⟩:=h;refine⟨_,m,h,λ_=>rfl,λw0 R0 I w xv lv hv mv hm hx hl hh Ao=>?_⟩
       cases mv with
       |some _=>cases Ao
       |none=>
        obtain⟨A,cap,gq,hc,pq⟩:=hx;cases gq;obtain⟨a,b,h1,h2,h3,h4⟩:=Ws (P:=P) T1 hb true cap hc (λh=>by cases h) hl hh;refine lV.zd ⟨.slice (if cap=a then A else A.map (·.add (a*u.sz))) (b-a) (cap-a),?_,?_⟩ hm;.simp only[Instr.sliceAt,Instr.slice,bX,ef hu,bZ,h1,jB br,bj,cU]
        .have bD:List.length bl.2=b-a:=by rw[h4,wv,ou,Ib h3]
         refine⟨_,cap-a,by rw[bD],by rw[bD];omega,λhp=>?_⟩;obtain⟨B,o,rfl,hR,rL⟩:=pq (by omega);rw[au (by omega)];refine⟨B,o+a*u.sz,by simp[tB],hR,?_⟩;have:=zX2 (a:=a) (e:=b) rL;rw[<-h4]at this;exact this
      .exact h.elim
     .exact h.elim
    .exact h.elim
  . -- a whole array behind a pointer
    rename_i n e id off hd;rw[hd]at hu
    split at h
    .rename_i re kG
     have br:=hE.row _ _ kG;refine⟨_,m,h,λ_=>rfl,λw0 R0 I w xv lv hv mv hm hx hl hh Ao=>?_⟩
     cases lv<;>cases hv<;>cases mv<;>first|exact hl.elim|exact hh.elim|exact Ao.elim|skip
     obtain⟨aI,rfl⟩:=hx;refine lV.zd ⟨.slice (some ⟨(I id).1,off,none⟩) n n,?_,aI,rfl⟩ hm;simp[Instr.sliceAt,ef hu,Instr.sureAddr,Instr.sliceBounds,jB br,Addr.add]
    .exact h.elim
  .exact h.elim
 .rename_i r mx' hr
  have hu:=(hE.row _ _ hr).gh
  split at h
  .rename_i e k h' k' c hd
   rw[hd]at hu
   split at h
   .rename_i de sz iI ze u eg he kG
    have br:=hE.row _ _ kG
    split at h
    .rename_i hs
     simp only[aH,cI]at hs;obtain⟨hb,h⟩:=h;simp only[aH,cI]at hb;obtain⟨m',h1,h2⟩:=Mem.nB h;refine⟨_,m',h2,λhn=>(by cases hn),λw0 R0 I w xv lv hv mv hm hx hl hh Ao=>?_⟩
     cases lv with
     |some _=>cases hl
     |none=>
      cases hv with
      |none=>cases hh
      |some hv=>
       cases mv with
       |none=>cases Ao
       |some mv=>
        have azY:∃A len cap,xv=.slice A len cap:=by
         cases x<;>simp only[V0]at hs<;>try(cases hs.2;done)
         .exact⟨_,_,_,hx⟩
         .obtain⟨A,cap,gq,_⟩:=hx
          injection gq with gq;exact⟨_,_,_,gq⟩
         .obtain⟨_,A,gq,_⟩:=hx
          exact⟨_,_,_,gq⟩
        obtain⟨A,len,cap,rfl⟩:=azY;obtain rfl:hv=_:=hh;obtain rfl:mv=_:=Ao;rw[hb.1,hb.2];refine⟨.slice A 0 0,w,?_,?_⟩
        .have hz:∀ (k:IntKind) (y:Nat) (code:BoundsCode),(Instr.sliceBound (.int k 0) y code).run P w=.ok 0 w:=λk y code=>Bw (P:=P) (k:=k) (i:=0) (by omega) w
         simp[Instr.sliceAt,Instr.slice,ef hu,Instr.sliceBounds,hz,jB br]
        .obtain⟨g1,g2⟩:=hm.push (w':=w) (r:=(0,0,0)) h1 rfl rfl rfl (bA _) (λ_ _=>rfl) (λbC=>absurd bC (gZ _)) (λR n I' e'=>⟨rfl,bA _,λh0=>absurd h0 (gZ _)⟩)
         exact⟨_,g1,g2,by rw[h1.2];omega,A,by rw[s9],λh0=>by rw[s9]at h0;exact absurd h0 (gZ _)⟩
    .exact h.elim
   .exact h.elim
  .exact h.elim
 .exact h.elim
end
open Go.RowKit
section
variable {P:Program} {E:Env} {α:Type} {L:α->Prop}
variable{w:World}
theorem FZ{R:Nat->Prop}:∀ (t:Ty) (x:t.T) (vs:List Value),p7 R w t x vs->∀y∈vs,y.oneCell'=true
 |.unit,_,vs,h,y,hy=>by rw[show vs=[]from h]at hy;cases hy
 |.int _,_,vs,h,y,hy=>by rw[show vs=_ from h]at hy;rw[Ie.1 hy];rfl
 |.bool,_,vs,h,y,hy=>by rw[show vs=_ from h]at hy;rw[Ie.1 hy];rfl
 |.str,_,vs,h,y,hy=>by rw[show vs=_ from h]at hy;rw[Ie.1 hy];rfl
 |.list t,l,vs,h,y,hy=>by
  obtain⟨a,cap,rfl,_⟩:=h;rw[Ie.1 hy];rfl
 |.pair a b,x,vs,h,y,hy=>by
  obtain⟨v1,v2,rfl,h1,h2⟩:=h;rcases wu.1 hy with hy|hy
  .exact FZ a x.1 v1 h1 y hy
  .exact FZ b x.2 v2 h2 y hy
structure U4 (P:Program) (ts:Array TypeId) (t e:TypeId):Prop where
 t0:ts[0]? =some t
 t1:∃t1,ts[1]? =some t1/\((∃e',P.underlying t1=some (.slice e'))\/P.underlying t1=some .string)
variable{e:TypeId}{cap n:Nat}
def NX{ts:Array TypeId}{t ty:TypeId}{re:Row}(ha:U4 P ts t e)(hu:P.underlying t=some (.slice e))(br:rV P e re){base:Option Addr}{len:Nat}{xv:Value}(hn:(Builtin.lenOf xv).run P w=.ok n w)(mK:len+n<=cap):
  (Builtin.append_ ts ty #[.slice base len cap,xv]).run P w=((Builtin.firstCells re.size n xv).run P w).andThen λnew w=>match base with
    |some a=>((storeCells (a.add (len*re.size)) new.toList).run P w).andThen λ_ w=>.ok (.slice base (len+n) cap) w
    |none=>.ok (.slice base (len+n) cap) w:=by
 obtain⟨t1,Hf,hd⟩:=ha.t1
 rcases hd with⟨e',hd⟩|hd<;>cases base<;>simp[Builtin.append_,ha.t0,Hf,ef hu,ef hd,jB br,hn,mK]
def NY{ts:Array TypeId}{t ty:TypeId}{re:Row}(ha:U4 P ts t e)(hu:P.underlying t=some (.slice e))(br:rV P e re){base:Option Addr}{len:Nat}{xv z:Value}{old new:List Value}(hn:(Builtin.lenOf xv).run P w=.ok n w)(TV:cap<len+n)
  (hb:1<=re.bytes) (M9:(len+n)*re.bytes<=140737488355328) (ho:(Builtin.firstCells re.size len (.slice base len cap)).run P w.drew=.ok ⟨old⟩ w.drew) (sZ:(Builtin.firstCells re.size n xv).run P w.drew=.ok ⟨new⟩ w.drew) (hz:∀w,(zeroValue e).run P w=.ok z w):
  (Builtin.append_ ts ty #[.slice base len cap,xv]).run P w =
    .ok (.slice (some ⟨w.heap.size,0,none⟩) (len+n) (grownCap w (len+n) cap e)) (w.drew.alloc (.cells (⟨old⟩++⟨new⟩++Builtin.zeroCells z.cells (grownCap w (len+n) cap e-(len+n))) e)):=by
 obtain⟨t1,Hf,hd⟩:=ha.t1;obtain⟨i,hi,TT,his⟩:=ZC br
 have h1:¬len+n<=cap:=by omega
 have h2:¬i.bytes=0:=by omega
 have h3:¬(281474976710656<Builtin.nextslicecap (len+n) cap*i.bytes):=by
  have:=growslice_fits TV M9;rw[TT];omega
 rcases hd with⟨e',hd⟩|hd<;>simp[Builtin.append_,ha.t0,Hf,ef hu,ef hd,jB br,hn,h1,hi,h2,h3,Question.forced,ho,sZ,hz,newRow,grownCap]<;>exact rQ (λc=>w.drew.alloc (Obj.cells c e)) (oy (by simp))
variable{m:Mem}
def yS9{w0:World}{R0:eo}{I:bu}(hm:aQ w0 R0 I w m){u:Ty}{id:Nat}{l:List u.T}(hg:m.get id=some (.rows u l)){sv:Value}(hs:aJ (RO w0 R0 I w m) I m.next w (.row id) sv):
  ∃base vs,sv=.slice base l.length (I id).2.2/\(0< (I id).2.2->base=some ⟨(I id).1,0,none⟩)/\(Builtin.firstCells u.sz l.length sv).run P w=.ok ⟨vs⟩ w/\eR (RO w0 R0 I w m) w u l vs:=by
 obtain⟨vs,h1,h2,h3⟩:=tG (P:=P) (u:=u) (xs:=l) (by simp[oC,hg]) hm hs;obtain⟨aI,a,rfl,ha⟩:=hs;obtain⟨b1,_⟩:=hm.box id _ hg;exact⟨a,vs,by rw[b1],ha,h2,h3⟩
def GC{size:Nat}{v:Value}{cs:Array Value}(h:(Builtin.firstCells size n v).run P w=.ok cs w):(Builtin.firstCells size n v).run P w.drew=.ok cs w.drew:=by
 cases v with
 |slice a l c=>
  cases a with
  |none=>simp only[Builtin.firstCells,cU,EI]at h ⊢;exact⟨h.1,trivial⟩
  |some a=>
   simp only[Builtin.firstCells,Go.loadCells]at h ⊢
   have key:∀ (k i:Nat) (aN cs:Array Value),(loadCellsFrom a i k aN).run P w=.ok cs w->(loadCellsFrom a i k aN).run P w.drew=.ok cs w.drew:=by
    intro k
    induction k with
    |zero=>intro i aN cs h;simp only[loadCellsFrom,cU,EI]at h ⊢;exact⟨h.1,trivial⟩
    |succ k ih=>
     intro i aN cs h;simp only[loadCellsFrom,bX,run_load,World.cell?_drew]at h ⊢
     cases hc:w.cell? (a.add i)with
     |some v=>rw[hc]at h;exact ih _ _ _ h
     |none=>
      rw[hc]at h;dsimp only at h ⊢;have hf:w.drew.farLoad P (a.add i) (Mode.plain==.atomic)=w.farLoad P (a.add i) (Mode.plain==.atomic):=rfl;rw[hf]
      cases hq:w.farLoad P (a.add i) (Mode.plain==.atomic)with
      |ok q=>rw[hq]at h;exact ih _ _ _ h
      |error e=>rw[hq]at h;cases h
   exact key _ _ _ _ h
 |string s=>simp only[Builtin.firstCells,cU,EI]at h ⊢;exact⟨h.1,trivial⟩
 |_=>simp[Builtin.firstCells]at h
def RX{w0:World}{R0:eo}{I:bu}{m':Mem}{u:Ty}{l xs:List u.T}{old new:List Value}{z:Value}(hm:aQ w0 R0 I w m)(hp:mU m (.rows u (l++xs)) m')(ho:eR (RO w0 R0 I w m) w u l old)(hn:eR (RO w0 R0 I w m) w u xs new)
  (hz:∀R w,p7 R w u u.iH z.cells.toList) (pq:u=.int .u8->EU e):
  n9 w0 R0 I w m (.row m.next) m' (.slice (some ⟨w.heap.size,0,none⟩) (l.length+xs.length) (grownCap w (l.length+xs.length) cap e)) (w.drew.alloc (.cells (⟨old⟩++⟨new⟩++Builtin.zeroCells z.cells (grownCap w (l.length+xs.length) cap e-(l.length+xs.length))) e)):=by
 have M1:z.cells.size=u.sz:=by
  have:=(p7.flat (I:=I) (n:=0) u u.iH _ (hz (λ_=>True) w)).1
  simpa using this
 have mL:l.length+xs.length<=grownCap w (l.length+xs.length) cap e:=aid _ _
 have:=QB (u:=u) (l:=l++xs) (cap:=grownCap w (l.length+xs.length) cap e) (vs:=old++new) (rest:=(Builtin.zeroCells z.cells (grownCap w (l.length+xs.length) cap e-(l.length+xs.length))).toList)
  (w1:=w.drew.alloc (.cells (⟨old⟩++⟨new⟩++Builtin.zeroCells z.cells (grownCap w (l.length+xs.length) cap e-(l.length+xs.length))) e)) hm hp rfl rfl rfl (by simp) (λk hk=>Below.heap_alloc w.drew _ k hk) (BR w.drew _) ⟨Ef _,pq⟩
  (by
    have h1:=ho.length;have h2:=hn.length;simp only[Array.size_append,Builtin.zeroCells,Array.size_map,Array.size_range,M1];have e1:(⟨old⟩:Array Value).size=old.length:=rfl;have e2:(⟨new⟩:Array Value).size=new.length:=rfl;rw[e1,e2,h1,h2,<-uM,<-uM]
    congr 1;omega)
  (by simpa using mL) (by simp) (ho.append hn)
 simpa using this
def yU9(hE:dF P E){t:TypeId}{s x:SV}{p:ax}{V:p9 α}(h:(lD E t s x p m V).holds L):
  ∃v p' m',(V v p' m').holds L/\∀ (ts:Array TypeId) ty w0 R0 I w (sv xv:Value),(∀e,P.underlying t=some (.slice e)->U4 P ts t e)->aQ w0 R0 I w m->aJ (RO w0 R0 I w m) I m.next w s sv->aJ (RO w0 R0 I w m) I m.next w x xv->
   yP P m v m' (Builtin.append_ ts ty #[sv,xv]) w0 R0 I w:=by
 unfold lD at h
 split at h
 .rename_i e sz iI ze F8 eg he cF
  have hu:=(hE.row _ _ cF).gh;dsimp only at hu
  split at h
  .rename_i de size bytes Od u Ur HB kG
   have br:=hE.row _ _ kG
   split at h
   .rename_i hs
    simp only[aH,cI,UQ]at hs;obtain⟨z,nG,_,M2⟩:=Bc br;have Ti:=M2 u rfl
    split at h
    .rename_i xs sX
     split at h
     . -- nil
       obtain⟨hb,h⟩:=h;have iQ:=bG hb;obtain⟨m',h1,h2⟩:=Mem.nB h;refine⟨_,p,m',h2,λts ty w0 R0 I w sv xv ha hm Al gq=>?_⟩;rw[show sv=_ from Al];obtain⟨vs,k1,k2,k3⟩:=tG (P:=P) sX hm gq;rw[<-hs.1]at k2
       by_cases h0:xs.length=0
       .refine⟨_,_,(NX (ha e hu) hu br k1 (by omega)).trans (by rw[k2];rfl),?_⟩
        have gO:xs=[] :=pz h0;subst gO;obtain⟨g1,g2⟩:=hm.push (w':=w) (r:=(0,0,0)) h1 rfl rfl rfl (bA _) (λ_ _=>rfl) (λbC=>absurd bC (gZ _)) (λR n I' e'=>⟨rfl,bA _,λh0=>absurd h0 (gZ _)⟩);exact⟨_,g1,g2,by rw[h1.2];omega,none,by rw[s9];rfl,λh0=>by rw[s9]at h0;exact absurd h0 (gZ _)⟩
       .have jW:=NY (ts:=ts) (ty:=ty) (len:=0) (cap:=0) (base:=none) (old:=[]) (new:=vs) (z:=z) (ha e hu) hu br k1 (by omega) hs.2 (by simpa using iQ) (by simp[Builtin.firstCells]) (GC k2) nG
        refine⟨_,_,jW,?_⟩
        have:=RX (l:=[]) (xs:=xs) (old:=[]) (new:=vs) (e:=e) (z:=z) (cap:=0) hm (by simpa using h1) rfl k3 Ti λh=>br.el (.inl (rQ some h)) (by subst h;simpa[Ty.sz]using hs.1)
        simpa using this
     . -- a row of the call's own
       rename_i id
       split at h
       .rename_i v l hg
        split at h
        .rename_i hv
         subst hv;obtain⟨hb,h⟩:=h;have iQ:=bG hb;obtain⟨m1,h1,h2⟩:=Mem.iN h;obtain⟨m',h3,h4⟩:=Mem.nB h2;refine⟨_,p,m',h4,λts ty w0 R0 I w sv xv ha hm Al gq=>?_⟩;obtain⟨vs,k1,k2,k3⟩:=tG (P:=P) sX hm gq;obtain⟨base,Sm,rfl,aAf,o2,o3⟩:=yS9 (P:=P) hm hg Al;rw[<-hs.1]at k2 o2;obtain⟨d1,d2⟩:=hm.drop h1;have TM:m1.next=m.next:=h1.2
         by_cases mK:l.length+xs.length<=(I id).2.2
         . -- in place
           have jW:=NX (ty:=ty) (base:=base) (len:=l.length) (cap:=(I id).2.2) (ha e hu) hu br k1 mK;rw[k2]at jW;rcases wo (I id).2.2 with qM|qM
           . -- no room at all: nothing is appended
             have hl0:l=[] :=pz (by omega);have hx0:xs=[] :=pz (by omega);subst hl0 hx0;have bR:vs=[] :=k3;subst bR
             have Tx:(Builtin.append_ ts ty #[.slice base ([] :List v.T).length (I id).2.2,xv]).run P w=.ok (.slice base 0 (I id).2.2) w:=by
              rw[jW]
              cases base<;>rfl
             refine⟨_,_,Tx,?_⟩;obtain⟨g1,g2⟩:=d1.push (w':=w) (r:=(0,0,0)) h3 rfl rfl rfl (bA _) (λ_ _=>rfl) (λbC=>absurd bC (gZ _)) (λR n I' e'=>⟨rfl,bA _,λh0=>absurd h0 (gZ _)⟩);exact⟨_,g1,d2.trans g2,by rw[h3.2];omega,base,by rw[s9,qM],λh0=>by rw[s9]at h0;exact absurd h0 (gZ _)⟩
           .obtain rfl:=aAf qM
            obtain⟨arr,el,fr,q1,q2,q3,q4⟩:=xv4 hm hg qM;have Aj:=k3.length
            have BH:l.length*v.sz+vs.length<=arr.size:=by
             rw[q3,Aj,<-uM];exact nL _ mK
            have BK:∀y∈vs,y.oneCell'=true:=by
             have:∀ (ls:List v.T) (us:List Value),eR (RO w0 R0 I w m) w v ls us->∀y∈us,y.oneCell'=true:=by
              intro ls
              induction ls with
              |nil=>intro us h y hy;rw[show us=[]from h]at hy;cases hy
              |cons a ls ih=>
               intro us h y hy;obtain⟨v1,v2,rfl,r1,r2⟩:=h;rcases wu.1 hy with hy|hy
               .obtain⟨f1,f2⟩:=p7.flat (I:=I) (n:=m.next) v a v1 r1
                exact FZ v a v1 r1 y hy
               .exact ih v2 r2 y hy
             exact this xs vs k3
            obtain⟨w',r1,r2,r3,r4,r5,r6,r7⟩:=FT (P:=P) (I id).1 (l.length*v.sz) el fr vs 0 arr w q1 q2.1 (by omega) BK
            have Tx:(Builtin.append_ ts ty #[.slice (some ⟨(I id).1,0,none⟩) l.length (I id).2.2,xv]).run P w=.ok (.slice (some ⟨(I id).1,0,none⟩) (l.length+xs.length) (I id).2.2) w':=by
             rw[jW];simp only[bZ,tB,hs.1,gY,r1]
            refine⟨_,_,Tx,?_⟩;rw[wq]at r2
            -- the old box let go, a new one in its block
            have az1:∀k C,m1.get k=some C->k≠id/\m.get k=some C:=λk C hk=>by
             rw[h1.1 k]at hk
             by_cases e0:k=id
             .rw[ay e0]at hk;cases hk
             .rw[au e0]at hk;exact⟨e0,hk⟩
            have sZ:∀k C,m'.get k=some C->(k=m.next/\C=.rows v (l++xs))\/(k≠m.next/\k≠id/\m.get k=some C):=λk C hk=>by
             rw[h3.1 k,TM]at hk
             by_cases e0:k=m.next
             .rw[ay e0]at hk;injection hk with hk;exact .inl ⟨e0,hk.symm⟩
             .rw[au e0]at hk;exact .inr ⟨e0,az1 k C hk⟩
            have hidlt:id<m.next:=hm.lt id _ hg;have bC:fJ (I id) (.rows v l):=qM;have hblk:=hm.hi id _ hg bC;have aAc:=hm.lo id _ hg bC
            have dZ:∀b,RO w0 R0 I w m b->RO w0 R0 (cL I m.next ((I id).1,l.length+xs.length,(I id).2.2)) w' m' b:=λb hb=>by
             have cw:=hm.Ge hb hg bC;rcases hb with hb|⟨g1,g2,g3,g4⟩
             .exact .inl hb
             .refine .inr ⟨g1,by omega,λk C hk bj=>?_,g4⟩
              rcases sZ k C hk with⟨rfl,rfl⟩|⟨n1,n2,n3⟩
              .rw[s9];exact cw
              .rw[r8 _ _ n1]at bj ⊢;exact g3 k C n3 bj
            have BQ:m8 w0 R0 I w m (cL I m.next ((I id).1,l.length+xs.length,(I id).2.2)) w' m':=
             ⟨by rw[h3.2];omega,λk hk=>r8 _ _ (by omega),λb hb=>⟨dZ b hb,r7 b (Ne.symm (hm.Ge hb hg bC))⟩⟩
            have rK:(kS arr (l.length*v.sz) vs).toList=(arr.toList.take (l.length*v.sz)++vs)++arr.toList.drop (l.length*v.sz+vs.length):=by simp[kS]
            refine⟨_,⟨hm.below.trans ⟨r3,r4,r5,by omega,λk hk=>r7 k (by omega)⟩,λk C hk=>?_,λk C hk bj=>?_,λk C hk bj=>?_,λk k' C C' hk gP fZ iP pu=>?_,λk C hk=>?_,λb hb=>⟨by rw[r6];exact(hm.aI.1 b hb).1,(r7 b λhe=>hm.aI.2 id _ hg bC (he▸hb)).trans (hm.aI.1 b hb).2⟩,λk C hk bj=>?_⟩,BQ,by rw[h3.2];omega,_,by rw[TM,s9],λ_=>by rw[TM,s9]⟩
            .rw[h3.2]
             rcases sZ k C hk with⟨rfl,_⟩|⟨_,_,n3⟩
             .omega
             .have:=hm.lt k C n3;omega
            .rcases sZ k C hk with⟨rfl,rfl⟩|⟨n1,_,n3⟩
             .rw[s9];exact aAc
             .rw[r8 _ _ n1]at bj ⊢;exact hm.lo k C n3 bj
            .rw[r6]
             rcases sZ k C hk with⟨rfl,rfl⟩|⟨n1,_,n3⟩
             .rw[s9];exact hblk
             .rw[r8 _ _ n1]at bj ⊢;exact hm.hi k C n3 bj
            .rcases sZ k C hk with⟨rfl,rfl⟩|⟨n1,n2,n3⟩<;>rcases sZ k' C' gP with⟨rfl,rfl⟩|⟨vI,xV,L9⟩
             .rfl
             .rw[s9]at pu;rw[r8 _ _ vI]at pu iP
              exact absurd (hm.inj id k' _ C' hg L9 bC iP pu).symm xV
             .rw[s9]at pu;rw[r8 _ _ n1]at pu fZ
              exact absurd (hm.inj k id C _ n3 hg fZ bC pu) n2
             .rw[r8 _ _ n1]at pu fZ;rw[r8 _ _ vI]at pu iP
              exact hm.inj k k' C C' n3 L9 fZ iP pu
            .rcases sZ k C hk with⟨rfl,rfl⟩|⟨n1,n2,n3⟩
             .rw[s9]
              exact OK (by simp) (by simpa using mK) r2 ⟨GS q2.1 BH,q2.2⟩ (by rw[FR BH];exact q3) rK ((eR.mono BQ.keep q4).append (eR.mono BQ.keep k3))
             .rw[r8 _ _ n1]
              exact fN.mono BQ C (λbj=>r7 _ λpu=>n2 (hm.inj k id C _ n3 hg bj bC pu)) (hm.box k C n3)
            .rcases sZ k C hk with⟨rfl,rfl⟩|⟨n1,_,n3⟩
             .rw[s9];exact hm.aI.2 id _ hg bC
             .rw[r8 _ _ n1]at bj ⊢;exact hm.aI.2 k C n3 bj
         . -- a new row
           have jW:=NY (ts:=ts) (ty:=ty) (len:=l.length) (cap:=(I id).2.2) (base:=base) (old:=Sm) (new:=vs) (z:=z) (ha e hu) hu br k1 (by omega) hs.2 iQ (GC o2) (GC k2) nG;refine⟨_,_,jW,?_⟩
           obtain⟨I',g1,g2,g3⟩:=RX (e:=e) (z:=z) (cap:=(I id).2.2) d1 h3 (eR.mono d2.keep o3) (eR.mono d2.keep k3) Ti λh=>br.el (.inl (rQ some h)) (by subst h;simpa[Ty.sz]using hs.1)
           exact⟨I',g1,d2.trans g2,g3⟩
        .exact h.elim
       .exact h.elim
     . -- an aBp slice
       rename_i id off n
       split at h
       .rename_i l hl
        obtain⟨p',h⟩:=qy h
        cases xY:xs.isEmpty with
        |true=>
        rw[xY]at h;refine⟨_,p',m,h,λts ty w0 R0 I w sv xv ha hm Al gq=>?_⟩
        have gO:xs=[] :=by simpa using xY
        subst gO;obtain⟨vs,k1,k2,k3⟩:=tG (P:=P) sX hm gq;rw[<-hs.1]at k2;have bR:vs=[] :=k3;subst bR;obtain⟨aI,rfl⟩:=Al;refine lV.zd (m:=m) ⟨.slice (some ⟨(I id).1,off,none⟩) n n,?_,aI,rfl⟩ hm;have jW:=NX (ts:=ts) (ty:=ty) (base:=some ⟨(I id).1,off,none⟩) (len:=n) (cap:=n) (ha e hu) hu br k1 (bA _);rw[jW,k2];rfl
        |false=>
        rw[xY]at h;obtain⟨lu,h⟩:=h;have hb:0<xs.length/\(l.length+xs.length)*bytes<=140737488355328:=⟨by cases xs with|nil=>cases xY|cons _ _=>simp,by simpa using lu⟩;obtain⟨m',h1,h2⟩:=Mem.nB h;refine⟨_,p',m',h2,λts ty w0 R0 I w sv xv ha hm Al gq=>?_⟩;obtain⟨vs,k1,k2,k3⟩:=tG (P:=P) sX hm gq;obtain⟨Sm,o1,o2,o3⟩:=tG (P:=P) hl hm Al;obtain⟨_,rfl⟩:=Al;rw[<-hs.1]at k2 o2
        have hn:n=l.length:=by simpa[Builtin.lenOf]using o1
        subst hn;have jW:=NY (ts:=ts) (ty:=ty) (len:=l.length) (cap:=l.length) (old:=Sm) (new:=vs) (z:=z) (ha e hu) hu br k1 (by omega) hs.2 hb.2 (GC o2) (GC k2) nG;exact⟨_,_,jW,RX (e:=e) (z:=z) (cap:=l.length) hm h1 o3 k3 Ti λh=>br.el (.inl (rQ some h)) (by subst h;simpa[Ty.sz]using hs.1)⟩
       .exact h.elim
     .exact h.elim
    .exact h.elim
   .exact h.elim
  .exact h.elim
 .exact h.elim
end
open Go.RowKit
section
variable {P:Program} {E:Env} {α:Type} {L:α->Prop}
variable{m:Mem}{x:SV}{n:Nat}{I:bu}{w:World}
def q65(h:lenOf m x=some n){m2:Mem}(jF:fa m m2){w0:World}{R0:eo}{xv:Value}(hm:aQ w0 R0 I w m2)(hx:aJ (RO w0 R0 I w m2) I m2.next w x xv):
  ∃a c,xv=.slice a n c:=by
 cases x<;>simp only[lenOf]at h<;>try(cases h;done)
 case cm=>cases h;exact⟨_,_,hx⟩
 case list t l=>
  cases h;obtain⟨A,cap,gq,_⟩:=hx;injection gq with gq;exact⟨_,_,gq⟩
 case row id=>
  split at h
  .rename_i t l hg
   cases h;obtain⟨aI,a,rfl,_⟩:=hx;obtain⟨B',TW,hl⟩:=jF id _ hg
   cases B'<;>try exact hl.elim
   obtain⟨rfl,TK⟩:=hl;obtain⟨b1,_⟩:=hm.box id _ TW;rw[<-TK]at b1;exact⟨a,(I id).2.2,by rw[b1]⟩
  .cases h
 case arr id off k=>cases h;exact⟨_,_,hx.2⟩
variable{p:ax}
def yX4(hE:dF P E){t:TypeId}{V:p9 α}(h:(Ps E t x p m V).holds L):
  ∃v,(V v p m).holds L/\∀m2,fa m m2->∀ (ts:Array TypeId) ty w0 R0 I w (xv:Value),ts[0]? =some t->aQ w0 R0 I w m2->aJ (RO w0 R0 I w m2) I m2.next w x xv->lV P m2 v (Builtin.len_ ts ty #[xv]) w0 R0 I w:=by
 unfold Ps at h
 split at h
 .rename_i r hr
  have hu:=(hE.row _ _ hr).gh
  split at h
  .rename_i n e hd
   rw[hd]at hu;refine⟨_,h,λm2 jF ts ty w0 R0 I w xv ht hm hx=>⟨_,?_,rfl⟩⟩
   cases xv<;>simp[Builtin.len_,ht,ef hu,goInt]
  .rename_i hd
   rw[hd]at hu
   split at h
   .rename_i s
    refine⟨_,h,λm2 jF ts ty w0 R0 I w xv ht hm hx=>⟨_,?_,rfl⟩⟩;rw[show xv=_ from hx];simp only[Builtin.len_,ht,qX (show 0< (#[Value.string ⟨⟨s⟩⟩]).size by simp),bX,ef hu,bZ];rfl
   .exact h.elim
  .rename_i e hd
   rw[hd]at hu
   split at h
   .rename_i n hn
    refine⟨_,h,λm2 jF ts ty w0 R0 I w xv ht hm hx=>⟨_,?_,rfl⟩⟩;obtain⟨a,c,rfl⟩:=q65 hn jF hm hx;simp[Builtin.len_,ht,ef hu,goInt]
   .exact h.elim
  .exact h.elim
 .exact h.elim
variable{R:Nat->Prop}
theorem X7:∀ (vs:List SV) (x v:SV) (us:List Value) (u:Value),FA x vs=some v->aJ R I n w x u->j8 R I n w vs us->∃y,(us.foldlM Builtin.max2 u).run P w=.ok y w/\aJ R I n w v y
 |[],x,v,us,u,h,hx,hv=>by
  rw[show us=[]from hv];simp only[FA]at h;cases h;exact⟨u,rfl,hx⟩
 |y::vs,x,v,us,u,h,hx,hv=>by
  obtain⟨b,bs,rfl,h1,h2⟩:=hv;unfold FA at h
  split at h;.rename_i dD;cases dD
  .rename_i dD
   injection dD with e1 e2;subst e1 e2;rw[show u=_ from hx,show b=_ from h1];obtain⟨z,h3,h4⟩:=X7 vs _ v bs _ h rfl h2;exact⟨z,by simp only[List.foldlM_cons,Builtin.max2,pure_bind];exact h3,h4⟩
  .cases h
theorem X3:∀ (vs:List SV) (x v:SV) (us:List Value) (u:Value),Fy x vs=some v->aJ R I n w x u->j8 R I n w vs us->∃y,(us.foldlM Builtin.min2 u).run P w=.ok y w/\aJ R I n w v y
 |[],x,v,us,u,h,hx,hv=>by
  rw[show us=[]from hv];simp only[Fy]at h;cases h;exact⟨u,rfl,hx⟩
 |y::vs,x,v,us,u,h,hx,hv=>by
  obtain⟨b,bs,rfl,h1,h2⟩:=hv;unfold Fy at h
  split at h;.rename_i dD;cases dD
  .rename_i dD
   injection dD with e1 e2;subst e1 e2;rw[show u=_ from hx,show b=_ from h1];obtain⟨z,h3,h4⟩:=X3 vs _ v bs _ h rfl h2;exact⟨z,by simp only[List.foldlM_cons,Builtin.min2,pure_bind];exact h3,h4⟩
  .cases h
def yW2(hE:dF P E){t:TypeId}{d:SV}{V:p9 α}(h:(Py E t d x p m V).holds L):
  ∃v p' m',(V v p' m').holds L/\∀ (ts:Array TypeId) ty w0 R0 I w (dv xv:Value),ts[0]? =some t->aQ w0 R0 I w m->aJ (RO w0 R0 I w m) I m.next w d dv->aJ (RO w0 R0 I w m) I m.next w x xv->
   ∃u w',(Builtin.copy_ ts ty #[dv,xv]).run P w=.ok u w'/\n9 w0 R0 I w m v m' u w':=by
 unfold Py at h
 split at h
 .rename_i e sz iI ze F8 eg he cF
  have hu:=(hE.row _ _ cF).gh;dsimp only at hu
  split at h
  .rename_i de size bytes Od u Ur HB kG
   have br:=hE.row _ _ kG
   split at h
   .rename_i hs
    have hs:size=u.sz:=by simpa using hs
    split at h
    .rename_i xs sX
     split at h
     .rename_i id
      split at h
      .rename_i v l hg
       split at h
       .rename_i hv
        subst hv
        split at h
        .obtain⟨hb,h⟩:=h
         simp only[aH,aV,iJ,ain]at hb;obtain⟨hl,cw⟩:=hb;obtain⟨m',h1,h2⟩:=Mem.iN h;refine⟨_,p,m',h2,λts ty w0 R0 I w dv xv ht hm hd hx=>?_⟩;obtain⟨vs,k1,k2,k3⟩:=tG (P:=P) sX hm hx;obtain⟨_,a,rfl,ha⟩:=hd;obtain⟨b1,b2,bp⟩:=hm.box id _ hg;have Ho:0<l.length:=UT.2 cw
         have mL:0< (I id).2.2:=by omega
         obtain⟨arr,el,fr,c1,c2,c3,c4⟩:=bp mL;have Aj:=k3.length
         have BH:0+0+vs.length<=arr.size:=by
          rw[c3,Aj];have:=nL v.sz (show xs.length<=(I id).2.2 by omega);omega
         have BK:∀y∈vs,y.oneCell'=true:=by
          have:∀ (zs:List v.T) (us:List Value),eR (RO w0 R0 I w m) w v zs us->∀y∈us,y.oneCell'=true:=by
           intro zs
           induction zs with
           |nil=>intro us hr y hy;rw[show us=[]from hr]at hy;cases hy
           |cons z zs ih=>
            intro us hr y hy;obtain⟨v1,v2,rfl,r1,r2⟩:=hr;rcases wu.1 hy with hy|hy
            .exact FZ _ _ _ r1 y hy
            .exact ih _ r2 y hy
          exact this _ _ k3
         obtain⟨w',r1,r2,r3,r4,r5,r6,r7⟩:=FT (P:=P) (I id).1 0 el fr vs 0 arr w c1 c2.1 BH BK;rw[ha mL];rw[<-hs]at k2;have TI:Nat.min xs.length (I id).2.1=xs.length:=Ib (by omega)
         have jW:(Builtin.copy_ ts ty #[.slice (some ⟨(I id).1,0,none⟩) (I id).2.1 (I id).2.2,xv]).run P w=.ok (goInt xs.length) w':=by
          simp[Builtin.copy_,ht,ef hu,k1,TI,jB br,k2,r1]
         refine⟨_,_,jW,?_⟩
         obtain⟨g1,g2⟩:=hm.xD (B':=.rows v (xs++l.drop xs.length)) hg mL h1 r3 r4 r5 r6 r7 λR e'=>by
          refine⟨by rw[eX,wv];omega,by rw[eX,wv];omega,λ_=>⟨_,_,_,r2,⟨GS c2.1 (by omega),c2.2⟩,by rw[FR (by omega)];exact c3,λi hi=>?_⟩⟩;rw[eX,wv]at hi
          by_cases uz:i<xs.length
          .obtain⟨cs,q1,q2,q3⟩:=(eR.mono e'.keep k3).Nv i uz
           refine⟨cs,q1,λj hj=>?_,by rw[aBL uz];exact q3⟩;have:(i+1)*v.sz<=xs.length*v.sz:=nL _ uz;rw[qR]at this;rw[<-q2 j hj,zq (by omega),ay (by omega),UK]
          .obtain⟨cs,q1,q2,q3⟩:=c4 i (by omega)
           refine⟨cs,q1,λj hj=>?_,?_⟩
           .have:xs.length*v.sz<=i*v.sz:=nL _ (by omega)
            rw[<-q2 j hj,zq (by omega),au (by omega)]
           .rw[aBK (by omega),List.getElem_drop]
            have q4:=p7.mono e'.keep v _ _ q3
            have:xs.length+(i-xs.length)=i:=by omega
            simpa only[this]using q4
         exact⟨I,g1,g2,rfl⟩
        .obtain⟨hb,h⟩:=h
         simp only[aH,cI,iJ,ain]at hb;obtain⟨hl,cw⟩:=hb;obtain⟨m',h1,h2⟩:=Mem.iN h;refine⟨_,p,m',h2,λts ty w0 R0 I w dv xv ht hm hd hx=>?_⟩;obtain⟨vs,k1,k2,k3⟩:=tG (P:=P) sX hm hx;obtain⟨_,a,rfl,ha⟩:=hd;obtain⟨b1,b2,bp⟩:=hm.box id _ hg;have Ho:0<xs.length:=UT.2 cw
         have mL:0< (I id).2.2:=by omega
         obtain⟨arr,el,fr,c1,c2,c3,c4⟩:=bp mL;have Aj:=k3.length
         have BH:0+0+vs.length<=arr.size:=by
          rw[c3,Aj];have:=nL v.sz (show xs.length<=(I id).2.2 by omega);omega
         have BK:∀y∈vs,y.oneCell'=true:=by
          have:∀ (zs:List v.T) (us:List Value),eR (RO w0 R0 I w m) w v zs us->∀y∈us,y.oneCell'=true:=by
           intro zs
           induction zs with
           |nil=>intro us hr y hy;rw[show us=[]from hr]at hy;cases hy
           |cons z zs ih=>
            intro us hr y hy;obtain⟨v1,v2,rfl,r1,r2⟩:=hr;rcases wu.1 hy with hy|hy
            .exact FZ _ _ _ r1 y hy
            .exact ih _ r2 y hy
          exact this _ _ k3
         obtain⟨w',r1,r2,r3,r4,r5,r6,r7⟩:=FT (P:=P) (I id).1 0 el fr vs 0 arr w c1 c2.1 BH BK;rw[ha mL];rw[<-hs]at k2
         have TI:Nat.min xs.length (I id).2.1=xs.length:=by rw[hl,b1];exact Nat.min_self _
         have jW:(Builtin.copy_ ts ty #[.slice (some ⟨(I id).1,0,none⟩) (I id).2.1 (I id).2.2,xv]).run P w=.ok (goInt xs.length) w':=by
          simp[Builtin.copy_,ht,ef hu,k1,TI,jB br,k2,r1]
         refine⟨_,_,jW,?_⟩
         obtain⟨g1,g2⟩:=hm.xD (B':=.rows v xs) hg mL h1 r3 r4 r5 r6 r7 λR e'=>by
          refine OK (rest:=(kS arr 0 vs).toList.drop vs.length) (vs:=vs) (by rw[hl,b1]) (by omega) r2 ⟨GS c2.1 (by omega),c2.2⟩ (by rw[FR (by omega)];exact c3) ?_ (eR.mono e'.keep k3)
          have:(kS arr 0 vs).toList.take vs.length=vs:=by
           apply NF;intro k;rw[yC]
           by_cases hk:k<vs.length
           .rw[ay hk,Cg,zq (by omega),ay (by omega),UK]
           .rw[au hk,qU (by omega)]
          conv=>lhs;rw[<-aBI vs.length (kS arr 0 vs).toList,this]
         exact⟨I,g1,g2,rfl⟩
       .exact h.elim
      .exact h.elim
     .exact h.elim
    .exact h.elim
   .exact h.elim
  .exact h.elim
 .exact h.elim
def yV7(hE:dF P E){b:Builtin}{ts:List TypeId}{vs:List SV}{V:p9 α}(h:(FE E b ts vs p m V).holds L):
  ∃v p' m',(V v p' m').holds L/\(b≠.append->b≠.copy->m'=m)/\(b=.len->∀m2,fa m m2->∀ty cs w0 R0 I w (us:List Value),aQ w0 R0 I w m2->j8 (RO w0 R0 I w m2) I m2.next w vs us->
   ∃u w',(Go.builtin b ts.toArray ty cs us.toArray).run P w=.ok (.value u) w'/\n9 w0 R0 I w m2 v m2 u w')/\∀ty cs w0 R0 I w (us:List Value),aQ w0 R0 I w m->j8 (RO w0 R0 I w m) I m.next w vs us->
   ∃u w',(Go.builtin b ts.toArray ty cs us.toArray).run P w=.ok (.value u) w'/\n9 w0 R0 I w m v m' u w':=by
 unfold FE at h
 split at h
 .rename_i t x
  obtain⟨v,h1,h2⟩:=yX4 hE h
  have key:∀m2,fa m m2->∀ty (cs:Array Bool) w0 R0 I w (us:List Value),aQ w0 R0 I w m2->j8 (RO w0 R0 I w m2) I m2.next w [x] us->
   ∃u w',(Go.builtin .len [t].toArray ty cs us.toArray).run P w=.ok (.value u) w'/\n9 w0 R0 I w m2 v m2 u w':=?key
  exact⟨v,p,m,h1,λ_ _=>rfl,λ_ m2 jF ty cs=>key m2 jF ty cs,λty cs=>key m (fa.refl m) ty cs⟩;intro m2 jF ty cs w0 R0 I w us hm lP;obtain⟨u,iM,rfl,h3,h4⟩:=lP;rw[show iM=[]from h4];obtain⟨y,h5,h6⟩:=h2 m2 jF [t].toArray ty w0 R0 I w u (by simp) hm h3;have h5':(Builtin.len_ #[t] ty #[u]).run P w=.ok y w:=h5;exact⟨y,w,by simp[Go.builtin,h5'],n9.same hm h6⟩
 .rename_i t t1 s x
  have key:∀ (uF:(∃e',P.underlying t1=some (.slice e'))\/P.underlying t1=some .string),(lD E t s x p m V).holds L->∃v p' m',(V v p' m').holds L/\(Builtin.append≠.append->Builtin.append≠.copy->m'=m)/\(Builtin.append=.len->∀m2,fa m m2->∀ty cs w0 R0 I w (us:List Value),aQ w0 R0 I w m2->j8 (RO w0 R0 I w m2) I m2.next w [s,x] us->
   ∃u w',(Go.builtin .append [t,t1].toArray ty cs us.toArray).run P w=.ok (.value u) w'/\n9 w0 R0 I w m2 v m2 u w')/\∀ty cs w0 R0 I w (us:List Value),aQ w0 R0 I w m->j8 (RO w0 R0 I w m) I m.next w [s,x] us->
   ∃u w',(Go.builtin .append [t,t1].toArray ty cs us.toArray).run P w=.ok (.value u) w'/\n9 w0 R0 I w m v m' u w':=by
   intro uF h;obtain⟨v,p',m',h1,h2⟩:=yU9 hE h;refine⟨v,p',m',h1,λhn _=>absurd rfl hn,(λhn=>by cases hn),λty cs w0 R0 I w us hm lP=>?_⟩;obtain⟨u,iM,rfl,h3,y,xz,rfl,h4,h5⟩:=lP;rw[show xz=[]from h5];obtain⟨z,w',h6,h7⟩:=h2 [t,t1].toArray ty w0 R0 I w u y (λe he=>⟨by simp,t1,by simp,uF⟩) hm h3 h4;have T6:(Builtin.append_ #[t,t1] ty #[u,y]).run P w=.ok z w':=h6;exact⟨z,w',by simp[Go.builtin,T6],h7⟩
  split at h
  .rename_i e sz iI ze ty eg he hr
   exact key (.inl ⟨e,(hE.row _ _ hr).gh⟩) h
  .rename_i sz iI ze ty eg he hr
   exact key (.inr (hE.row _ _ hr).gh) h
  .exact h.elim
 .rename_i t t1 d x
  obtain⟨v,p',m',h1,h2⟩:=yW2 hE h;refine⟨v,p',m',h1,λ_ hn=>absurd rfl hn,(λhn=>by cases hn),λty cs w0 R0 I w us hm lP=>?_⟩;obtain⟨u,iM,rfl,h3,y,xz,rfl,h4,h5⟩:=lP;rw[show xz=[]from h5];obtain⟨z,w',h6,h7⟩:=h2 [t,t1].toArray ty w0 R0 I w u y (by simp) hm h3 h4;have T6:(Builtin.copy_ #[t,t1] ty #[u,y]).run P w=.ok z w':=h6;exact⟨z,w',by simp[Go.builtin,T6],h7⟩
 .rename_i v vs
  split at h
  .rename_i y hy
   refine⟨y,p,m,h,λ_ _=>rfl,(λhn=>by cases hn),λty cs w0 R0 I w us hm lP=>?_⟩;obtain⟨u,iM,rfl,h3,h4⟩:=lP;obtain⟨z,h5,h6⟩:=X7 (P:=P) vs v y iM u hy h3 h4;exact⟨z,w,by simp[Go.builtin,Builtin.max_,h5],n9.same hm h6⟩
  .exact h.elim
 .rename_i v vs
  split at h
  .rename_i y hy
   refine⟨y,p,m,h,λ_ _=>rfl,(λhn=>by cases hn),λty cs w0 R0 I w us hm lP=>?_⟩;obtain⟨u,iM,rfl,h3,h4⟩:=lP;obtain⟨z,h5,h6⟩:=X3 (P:=P) vs v y iM u hy h3 h4;exact⟨z,w,by simp[Go.builtin,Builtin.min_,h5],n9.same hm h6⟩
  .exact h.elim
 .exact h.elim
def qB9(cells:Array Value)(off:Nat)(vs:Array Value)(h:off+vs.toList.length<=cells.size):vs.zipIdx.foldl (λcs (c,j)=>cs.setIfInBounds (off+j) c) cells=kS cells off vs.toList:=by
 rw[<-Array.foldl_toList,Array.toList_zipIdx];obtain⟨h1,h2⟩:=Great.foldl_set off vs.toList 0 cells;apply Array.ext_getElem?;intro k;rw[zq h];have:=h2 k;simp only[wq]at this;rw[this]
 by_cases hk:off<=k/\k<off+vs.toList.length
 .rw[ay ⟨hk.1,hk.2,by omega⟩,ay hk]
 .rw[au (λh=>hk ⟨h.1,h.2.1⟩),au hk]
def PR(R:Nat->Prop)(I:bu)(n:Nat)(w:World):List (Nat×SV)->List (Nat×Value)->Prop
 |[],vs=>vs=[]
 |x::xs,vs=>∃u us,vs=(x.1,u)::us/\aJ R I n w x.2 u/\PR R I n w xs us
theorem PR.map(ev:Operand->SV)(eb:Operand->Value):∀xs:List (Nat×Operand),(∀x∈xs,aJ R I n w (ev x.2) (eb x.2))->PR R I n w (xs.map λx=>(x.1,ev x.2)) (xs.map λx=>(x.1,eb x.2))
 |[],_=>rfl
 |x::xs,h=>⟨_,_,rfl,h x mO,PR.map ev eb xs λy hy=>h y (rX _ hy)⟩
theorem LQ(place:Nat->Option (Nat×Nat)):∀ (parts:List (Nat×SV)) (cs:List SV) (k:List SV->ak α),(GF place cs parts k).holds L->
  ∃cs',(k cs').holds L/\∀ (R:Nat->Prop) (I:bu) (n:Nat) (w:World) (vs:List (Nat×Value)) (arr:Array Value),PR R I n w parts vs->j8 R I n w cs arr.toList->∃wh,Instr.fill place arr vs=some wh/\j8 R I n w cs' wh.toList
 |[],cs,k,h=>⟨cs,h,λR I n w vs arr hv hc=>by rw[show vs=[]from hv];exact⟨arr,rfl,hc⟩⟩
 |x::parts,cs,k,h=>by
  change (match place x.1 with
   |some os=>match os.2==x.2.cells.length&&AN x.2.cells&&Nat.ble 1 os.2 with
    |true=>qD cs os.1 x.2.cells λcs=>GF place cs parts k
    |false=>.aA 94
   |none=>.aA 95:ak α).holds L at h
  split at h
  .rename_i os yc
   split at h
   .rename_i bS
    simp only[aH,cI,UQ]at bS;obtain⟨⟨fZ,iP⟩,hs3⟩:=bS;rcases D5 _ _ _ _ h with⟨h0,_⟩|⟨h0,h1⟩
    .rw[h0]at fZ;simp at fZ;omega
    obtain⟨cs',h3,h4⟩:=LQ place parts _ k h1;refine⟨cs',h3,λR I n w vs arr hv hc=>?_⟩;obtain⟨u,us,rfl,h5,h6⟩:=hv;obtain⟨h7,h8⟩:=h5.cells iP;have hl:=h7.length;have rM:=hc.length
    have M9:os.1+u.cells.toList.length<=arr.size:=by
     rw[hl];rw[Ip]at rM;omega
    have e1:u.cells.size=os.2:=by rw[fZ,<-hl];simp
    have e2:¬os.1+u.cells.size>arr.size:=by rw[Ip]at M9;omega
    have e3:¬os.1+os.2>arr.size:=by rw[<-e1];exact e2
    simp only[Instr.fill,yc,e1,dz,oQ,decide_false,yG,e3,eY,iD];rw[qB9 _ _ _ M9];exact h4 R I n w us _ h6 (P8 hc h7)
   .exact h.elim
  .exact h.elim
theorem xa8(hE:dF P E)(w:World):∀ (fs:List Field) (pl:List (Nat×Nat)),QF E fs=some pl->(fs.mapM (λf=>do pure (f.offset,<-sizeOf f.type)):Sem (List (Nat×Nat))).run P w=.ok pl w
 |[],pl,h=>by
  have:some [] =some pl:=h;cases this;rfl
 |f::fs,pl,h=>by
  change (match E.row f.type,QF E fs with
   |some r,some l=>some ((f.offset,r.size)::l)
   |_,_=>none)=some pl at h
  split at h
  .rename_i r l hr hl
   cases h;simp only[List.mapM_cons,bX,jB (hE.row _ _ hr),bZ,cU,xa8 hE w fs l hl]
  .cases h
def yV5(hE:dF P E){t:TypeId}{parts:List (Nat×SV)}{V:p9 α}(h:(PA E t parts p m V).holds L):
  ∃v,(V v p m).holds L/\∀ (m:Mem) w0 R0 I w (vs:List (Nat×Value)),PR (RO w0 R0 I w m) I m.next w parts vs->lV P m v (Instr.build t vs.toArray) w0 R0 I w:=by
 unfold PA at h
 split at h
 .rename_i r hr
  have br:=hE.row _ _ hr;have hu:=br.gh;obtain⟨z,nG,rG,_⟩:=Bc br
  split at h
  .rename_i fs hd
   rw[hd]at hu
   split at h
   .rename_i pl hpl
    obtain⟨cs',h1,h2⟩:=LQ _ _ _ _ h;refine⟨_,h1,λm w0 R0 I w vs hv=>?_⟩;obtain⟨wh,h3,h4⟩:=h2 _ _ _ _ _ z.cells hv (rG _ _ _ _);have hp:=xa8 hE w fs.toList pl hpl
    have azi:∀i,(pl.toArray[i]? :Option (Nat×Nat))=nth pl i:=λi=>by rw[tH];simp
    refine⟨.agg wh,?_,_,rfl,h4⟩;simp only[Instr.build,bX,nG,bZ,ef hu];rw[aBQ,Sem.run_map,hp];simp only[bZ,azi];rw[h3];rfl
   .exact h.elim
  .rename_i n e hd
   rw[hd]at hu
   split at h
   .rename_i re kG
    obtain⟨cs',h1,h2⟩:=LQ _ _ _ _ h;refine⟨_,h1,λm w0 R0 I w vs hv=>?_⟩;obtain⟨wh,h3,h4⟩:=h2 _ _ _ _ _ z.cells hv (rG _ _ _ _);refine⟨.agg wh,?_,_,rfl,h4⟩;simp only[Instr.build,bX,nG,bZ,ef hu,jB (hE.row _ _ kG)];rw[h3];rfl
   .exact h.elim
  .exact h.elim
 .exact h.elim
theorem Z2{z:List SV}{zs:List Value}(h:j8 R I n w z zs):∀k,j8 R I n w (C1 z k) ((List.range (k*zs.length)).map λi=>zs.getD (i % zs.length) default)
 |0=>by simp[C1,j8]
 |k+1=>by
  have ih:=Z2 h k;rcases wo zs.length with h0|h0
  .have hz:z=[] :=pz (by rw[<-h.length];exact h0)
   have:∀j,C1 z j=[] :=by
    intro j;induction j with
    |zero=>rfl
    |succ j ih=>simp[C1,hz]at ih ⊢;exact ih
   rw[this,h0];simp[j8]
  .have e:(List.range ((k+1)*zs.length)).map (λi=>zs.getD (i % zs.length) default)=zs++(List.range (k*zs.length)).map λi=>zs.getD (i % zs.length) default:=by
    rw[qR,yB,List.range_add,EO,US]
    congr 1
    .apply NF
     intro j
     by_cases hj:j<zs.length
     .simp[hj,yA hj]
     .simp[hj]
    .apply EN
     intro j _;simp
   rw[e];exact h.append ih
def yV4(hE:dF P E){t:TypeId}{parts:List (Nat×SV)}{V:p9 α}(h:(CR E t n parts p m V).holds L):
  ∃v m',(V v p m').holds L/\∀w0 R0 I w (vs:List (Nat×Value)),aQ w0 R0 I w m->PR (RO w0 R0 I w m) I m.next w parts vs->yP P m v m' (Instr.buildSlice t n vs.toArray) w0 R0 I w:=by
 unfold CR at h
 split at h
 .rename_i e sz iI ze ty eg he hr
  have hu:=(hE.row _ _ hr).gh;dsimp only at hu
  split at h
  .rename_i re kG
   have br:=hE.row _ _ kG;obtain⟨z,nG,rG,_⟩:=Bc br
   split at h
   .rename_i hs
    simp only[aH,aV]at hs;obtain⟨cs',h1,h2⟩:=LQ _ _ _ _ h;obtain⟨m',h3,h4⟩:=Mem.nB h1;refine⟨_,m',h4,λw0 R0 I w vs hm hv=>?_⟩
    have Es:z.cells.toList.length=re.size:=by
     rw[(rG (RO w0 R0 I w m) I m.next w).length];exact hs.2
    have fQ:=Z2 (rG (RO w0 R0 I w m) I m.next w) n
    -- the zero cells
    have Th:∃zs:Array Value,((n*re.size=0/\zs=#[])\/(¬n*re.size=0/\zs=z.cells))/\((Array.range (n*re.size)).map (zs[· % zs.size]!)).toList=(List.range (n*z.cells.toList.length)).map λi=>z.cells.toList.getD (i % z.cells.toList.length) default:=by
     by_cases h0:n*re.size=0
     .refine⟨#[],.inl ⟨h0,rfl⟩,?_⟩
      rw[Es,h0];simp
     .refine⟨z.cells,.inr ⟨h0,rfl⟩,?_⟩
      rw[Es]
      have bS:z.cells.size=re.size:=by rw[<-Es];simp
      simp only[U3,Array.toList_range];apply EN;intro i _;rw[bS]
      have:re.size≠0:=λhc=>h0 (by rw[hc];simp)
      have hi:i % re.size<z.cells.size:=by rw[bS];exact yz _ (by omega)
      simp[List.getD,BW,hi]
    obtain⟨zs,q1,q2⟩:=Th;obtain⟨wh,h5,h6⟩:=h2 _ _ _ _ _ ((Array.range (n*re.size)).map (zs[· % zs.size]!)) hv (by rw[q2];exact fQ);obtain⟨g1,g2⟩:=hm.alloc (o:=.cells wh e) h3 n n (λR n' I' e'=>⟨wh,e,(0,0),BR w _,Ef _,j8.mono e' _ _ h6⟩);refine⟨.slice (some ⟨w.heap.size,0,none⟩) n n,w.alloc (.cells wh e),?_,_,g1,g2,by rw[h3.2];omega,by rw[s9]⟩
    have aAe:¬n*re.size>2 ^ 24:=by have:=hs.1;omega
    simp only[Instr.buildSlice,bX,ef hu,bZ,jB br,aAe,iD,pure_bind];rcases q1 with⟨h0,rfl⟩|⟨h0,rfl⟩
    .rw[ay h0,h5]
     simp[newRow]
    .rw[au h0]
     simp only[bX,nG,bZ];rw[h5];simp[newRow]
   .exact h.elim
  .exact h.elim
 .exact h.elim
def yX8(hE:dF P E){t:TypeId}{len cap:SV}{V:p9 α}(h:(Pr E t len cap p m V).holds L):
  ∃v m',(V v p m').holds L/\∀w0 R0 I w (lv cv:Value),aQ w0 R0 I w m->aJ (RO w0 R0 I w m) I m.next w len lv->aJ (RO w0 R0 I w m) I m.next w cap cv->yP P m v m' (Instr.makeSlice t lv cv) w0 R0 I w:=by
 unfold Pr at h
 split at h
 .rename_i n c
  split at h
  .rename_i e sz iI ze ty eg he hr
   have hu:=(hE.row _ _ hr).gh;dsimp only at hu
   split at h
   .rename_i de size bytes Od u Ur HB kG
    have br:=hE.row _ _ kG;obtain⟨z,nG,rG,M2⟩:=Bc br;obtain⟨i,hi,TT,his⟩:=ZC br
    split at h
    .rename_i hs
     have bj:size=u.sz:=by simpa using hs
     obtain⟨hb,h⟩:=h;simp only[aH,aV,cI]at hb;obtain⟨⟨⟨HG,lu⟩,hb3⟩,hb4⟩:=hb;obtain⟨m',h1,h2⟩:=Mem.nB h;refine⟨_,m',h2,λw0 R0 I w lv cv hm hl hc=>?_⟩;rw[show lv=_ from hl,show cv=_ from hc,<-lu]
     have hw:i64.wrap n=n:=by
      unfold IntKind.wrap;simp only[IntKind.signed,IntKind.bits];have:n % (2 ^ 64:Int)=n:=aiq HG (by omega);simp only[this];rw[au (by simp;omega)]
     have Es:=(p7.flat (I:=I) (n:=0) u u.iH _ (M2 u rfl (λ_=>True) w)).1
     have M1:z.cells.size=size:=by rw[bj];simpa using Es
     have hdl:∀k,eR (RO w0 R0 I w m) w u (List.replicate k u.iH) ((List.range (k*size)).map λi=>z.cells.toList.getD (i % size) default):=by
      intro k
      refine yS.KD (by simp[bj]) λi uz=>?_
      rw[qs]at uz;refine⟨z.cells.toList,Es,λj hj=>?_,by simpa using M2 u rfl _ _⟩
      have cW:i*u.sz+j<k*size:=by
       have:(i+1)*u.sz<=k*size:=by rw[bj];exact nL _ uz
       rw[qR]at this;omega
      have TH:(i*u.sz+j) % size=j:=by
       rw[bj,yy,Nat.mul_add_mod];exact yA hj
      dsimp only;rw[AB,EP cW,ah5,TH]
      have gu:j<z.cells.toList.length:=by omega
      rw[cK,cc gu];rfl
     have Th:∃zs:Array Value,((n.toNat*size=0/\zs=#[])\/(¬n.toNat*size=0/\zs=z.cells))/\((Array.range (n.toNat*size)).map (zs[· % zs.size]!)).toList=(List.range (n.toNat*size)).map λi=>z.cells.toList.getD (i % size) default:=by
      by_cases h0:n.toNat*size=0
      .refine⟨#[],.inl ⟨h0,rfl⟩,?_⟩
       rw[h0];simp
      .refine⟨z.cells,.inr ⟨h0,rfl⟩,?_⟩
       simp only[U3,Array.toList_range];apply EN;intro k _;rw[M1]
       have:size≠0:=λhc=>h0 (by rw[hc];simp)
       have hk:k % size<z.cells.size:=by rw[M1];exact yz _ (by omega)
       simp[List.getD,BW,hk]
     obtain⟨zs,q1,q2⟩:=Th
     have azI:=QB (u:=u) (l:=List.replicate n.toNat u.iH) (cap:=n.toNat) (vs:=(List.range (n.toNat*size)).map λi=>z.cells.toList.getD (i % size) default) (rest:=[])
      (w1:=w.alloc (.cells ((Array.range (n.toNat*size)).map (zs[· % zs.size]!)) e)) hm h1 rfl rfl rfl (by simp) (λk hk=>Below.heap_alloc w _ k hk) (BR w _) ⟨Ef _,λh=>br.el (.inl (rQ some h)) (by subst h;exact bj)⟩ (by simp[bj]) (by simp) (by rw[q2];simp) (hdl _)
     refine⟨_,_,?_,by simpa using azI⟩
     have t1:¬n<0:=by omega
     have t2:¬(281474976710656< (i.bytes:Int)*n):=by
      have e1:(i.bytes:Int)=(bytes:Int):=by rw[TT]
      rw[e1];omega
     have hsr:=jB br;dsimp only at hsr;simp only[Instr.makeSlice,bX,ef hu,bZ,asInt,asIntOf,cU,hi,hw];rw[au (by simp;omega)];simp only[bX,run_askRoom,bZ,hsr,pure_bind];rcases q1 with⟨h0,rfl⟩|⟨h0,rfl⟩
     .rw[ay h0]
      simp[newRow]
     .rw[au h0]
      simp only[bX,nG,bZ];simp[newRow]
    .exact h.elim
   .exact h.elim
  .exact h.elim
 .exact h.elim
def yY2{V:p9 α}(h:(Pp x p m V).holds L):
  ∃v m',(V v p m').holds L/\∀t w0 R0 I w (xv:Value),P.underlying t=some .string->aQ w0 R0 I w m->aJ (RO w0 R0 I w m) I m.next w x xv->yP P m v m' (Instr.range t xv) w0 R0 I w:=by
 unfold Pp at h
 split at h
 .rename_i s
  obtain⟨m',h1,h2⟩:=Mem.nB h;refine⟨_,m',h2,λt w0 R0 I w xv hu hm hx=>?_⟩;rw[show xv=_ from hx];obtain⟨g1,g2⟩:=hm.alloc (o:=.stringIter ⟨⟨s⟩⟩ 0) h1 0 0 (λR n' I' e'=>BR w _);refine⟨.pointer (some ⟨w.heap.size,0,none⟩),_,?_,_,g1,g2,by rw[h1.2];omega,by rw[s9]⟩;simp[Instr.range,ef hu]
 .exact h.elim
def yY0{V:p9 α}(h:(Pq x p m V).holds L):
  ∃v p' m',(V v p' m').holds L/\∀t w0 R0 I w (xv:Value),aQ w0 R0 I w m->aJ (RO w0 R0 I w m) I m.next w x xv->yP P m v m' (Instr.next xv true t) w0 R0 I w:=by
 unfold Pq at h
 split at h
 .rename_i id
  split at h
  .rename_i s pos hg
   obtain⟨p',h⟩:=qy h
   have hb:∀w0 R0 I w,aQ w0 R0 I w m->w.heap[(I id).1]? =some (.stringIter ⟨⟨s⟩⟩ pos):=λw0 R0 I w hm=>hm.box id _ hg
   by_cases cW:pos<s.length
   .rw[bn cW]at h
    dsimp only at h;obtain⟨m',h1,h2⟩:=Mem.iN h;refine⟨_,p',m',h2,λt w0 R0 I w xv hm hx=>?_⟩;obtain⟨aI,rfl⟩:=hx;have hh:=hb w0 R0 I w hm;have bS:(ByteArray.mk ⟨s⟩).size=s.length:=rfl;have Hv:(I id).1<w.heap.size:=hm.hi id _ hg trivial;refine⟨.tuple #[.bool true,.int .i64 pos,.int .i32 (Utf8.decode ⟨⟨s⟩⟩ pos).1],{w with heap:=w.heap.setIfInBounds (I id).1 (.stringIter ⟨⟨s⟩⟩ (pos+(Utf8.decode ⟨⟨s⟩⟩ pos).2))},?_,I,?_⟩
    .simp only[Instr.next,bX,getObj,Sem.run,hh,bZ,bS,cW,pc,setObj,goInt]
     rfl
    .obtain⟨g1,g2⟩:=hm.xD (w':={w with heap:=w.heap.setIfInBounds (I id).1 (.stringIter ⟨⟨s⟩⟩ (pos+(Utf8.decode ⟨⟨s⟩⟩ pos).2))}) hg trivial h1 rfl rfl rfl (by simp) (λk hk=>by simp[uR,Ne.symm hk]) (λR e'=>by simp[fN,uR,Hv])
     exact⟨g1,g2,_,rfl,_,_,rfl,rfl,_,_,rfl,rfl,_,_,rfl,rfl,rfl⟩
   .rw[iX cW]at h
    dsimp only at h;refine⟨_,p',m,h,λt w0 R0 I w xv hm hx=>?_⟩;obtain⟨aI,rfl⟩:=hx;have hh:=hb w0 R0 I w hm;have bS:(ByteArray.mk ⟨s⟩).size=s.length:=rfl;refine lV.zd ⟨.tuple #[.bool false],?_,_,rfl,_,_,rfl,rfl,rfl⟩ hm;simp only[Instr.next,bX,getObj,Sem.run,hh,bZ,bS,cW,iD];rfl
  .exact h.elim
 .exact h.elim
end
end
end Go.Sx
