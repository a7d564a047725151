/-
  Sx1: a small evaluator of the model's code over values that may hold unknowns: definitions alone. Types of data, values, memory, plans, trees, operations, code.
-/
import Derived.Still
import Derived.Below
import Derived.KernelRfl
namespace Go.Sx

/-! ### Data -/

inductive Ty where
  | unit
  | int (k : IntKind)
  | bool
  | str
  | list (t : Ty)
  | pair (a b : Ty)
  deriving DecidableEq

def Ty.T : Ty → Type
  | .unit => Unit
  | .int _ => Int
  | .bool => Bool
  | .str => List UInt8
  | .list t => List t.T
  | .pair a b => a.T × b.T

def Ty.sz : Ty → Nat
  | .unit => 0
  | .pair a b => a.sz + b.sz
  | _ => 1

def Ty.dflt : (t : Ty) → t.T
  | .unit => ()
  | .int _ => (0 : Int)
  | .bool => false
  | .str => ([] : List UInt8)
  | .list _ => []
  | .pair a b => (a.dflt, b.dflt)

inductive SV where
  | undef
  | top
  | int (k : IntKind) (n : Int)
  | bool (b : Bool)
  | str (s : List UInt8)
  | nilS
  | list (t : Ty) (l : List t.T)
  | row (id : Nat)
  | arr (id off n : Nat)
  | ptr (id off : Nat)
  | nilP
  | eptr (t : Ty) (l : List t.T) (i off : Nat)
  | rptr (id sz i off : Nat)
  | agg (cs : List SV)
  | tuple (vs : List SV)
  | fn (f : Nat) (first cap : List SV)
  | raw (v : Value)

def flat : (t : Ty) → t.T → List SV
  | .unit, _ => []
  | .int k, n => [.int k n]
  | .bool, b => [.bool b]
  | .str, s => [.str s]
  | .list t, l => [.list t l]
  | .pair a b, x => flat a x.1 ++ flat b x.2

def unflat : (t : Ty) → List SV → Option (t.T × List SV)
  | .unit, cs => some ((), cs)
  | .int k, cs => match cs with
    | .int k' n :: cs => if k = k' then some (n, cs) else none
    | _ => none
  | .bool, cs => match cs with
    | .bool b :: cs => some (b, cs)
    | _ => none
  | .str, cs => match cs with
    | .str s :: cs => some (s, cs)
    | _ => none
  | .list t, cs => match cs with
    | .list t' l :: cs => if h : t' = t then some (h ▸ l, cs) else none
    | .nilS :: cs => some ([], cs)
    | _ => none
  | .pair a b, cs => match unflat a cs with
    | some (x, cs) => match unflat b cs with
      | some (y, cs) => some ((x, y), cs)
      | none => none
    | none => none

/-- So many elements, one behind the other. -/
def unflatN (t : Ty) : Nat → List SV → Option (List t.T)
  | 0, cs => match cs with
    | [] => some []
    | _ => none
  | n + 1, cs => match unflat t cs with
    | some (x, cs) => match unflatN t n cs with
      | some l => some (x :: l)
      | none => none
    | none => none

inductive Box where
  | cells (cs : List SV)
  | rows (t : Ty) (l : List t.T)
  | iter (s : List UInt8) (pos : Nat)

/-- A table by number: the kernel looks a number up in few steps. -/
inductive Tb (β : Type) where
  | e
  | n (l : Tb β) (v : Option β) (r : Tb β)

/-- Which half. -/
def Tb.pick {γ : Type} (j : Nat) (a b : Nat → γ) : γ := match Nat.beq (j % 2) 0 with
  | true => a (j / 2)
  | false => b (j / 2)

noncomputable def Tb.get {β : Type} (t : Tb β) : Nat → Option β :=
  Tb.rec (motive := fun _ => Nat → Option β) (fun _ => none) (fun _ v _ gl gr i => Nat.casesOn (motive := fun _ => Option β) i v fun j => Tb.pick j gl gr) t

structure Mem where
  next : Nat
  tb : Tb Box

structure Fr where
  size : Nat
  tb : Tb SV

noncomputable def Mem.get (m : Mem) (id : Nat) : Option Box := m.tb.get id
noncomputable def Fr.get (fr : Fr) (t : Nat) : SV := match fr.tb.get t with
  | some v => v
  | none => .undef

/-! ### Plans and trees -/

inductive Plan where
  | all
  | auto
  | lit (p : Plan)
  | fork (t f : Plan)
  | go (p : Plan)
  | stop

inductive Tree (α : Type) where
  | leaf (a : α)
  | node (b : Bool) (t f : Tree α)
  | req (b : Bool) (t : Tree α)
  | fail (code : Nat)

def Tree.holds {α : Type} (L : α → Prop) : Tree α → Prop
  | .leaf a => L a
  | .node b t f => (b = true → t.holds L) ∧ (b = false → f.holds L)
  | .req b t => b = true ∧ t.holds L
  | .fail _ => False

section
variable {α : Type}

def dec (p : Plan) (b : Bool) (k : Bool → Plan → Tree α) : Tree α :=
  match p with
  | .all => .node b (k true .all) (k false .all)
  | .auto => match b with
    | true => k true .auto
    | false => k false .auto
  | .lit p => match b with
    | true => k true p
    | false => k false p
  | .fork pt pf => .node b (k true pt) (k false pf)
  | .go _ => .fail 1
  | .stop => .fail 2

/-! ### Strict helpers -/

def frc (v : SV) (k : SV → Tree α) : Tree α :=
  match v with
  | .undef => k .undef
  | .top => k .top
  | .int i n => k (.int i n)
  | .bool b => k (.bool b)
  | .str s => k (.str s)
  | .nilS => k .nilS
  | .list t l => k (.list t l)
  | .row i => k (.row i)
  | .arr i o n => k (.arr i o n)
  | .ptr i o => k (.ptr i o)
  | .nilP => k .nilP
  | .eptr t l i o => k (.eptr t l i o)
  | .rptr a z i o => k (.rptr a z i o)
  | .agg cs => k (.agg cs)
  | .tuple vs => k (.tuple vs)
  | .fn f a c => k (.fn f a c)
  | .raw v => k (.raw v)

def frcN (n : Nat) (k : Nat → Tree α) : Tree α :=
  match n with
  | 0 => k 0
  | m + 1 => k (m + 1)

/-- All cells forced, one after the other. -/
noncomputable def frcL (l : List SV) : (List SV → Tree α) → Tree α :=
  List.rec (motive := fun _ => (List SV → Tree α) → Tree α) (fun k => k []) (fun x _ ih k => frc x fun x => ih fun xs => k (x :: xs)) l

noncomputable def nth {β : Type} (l : List β) : Nat → Option β :=
  List.rec (motive := fun _ => Nat → Option β) (fun _ => none) (fun x _ ih n => Nat.casesOn (motive := fun _ => Option β) n (some x) ih) l

/-- Entry i of the table is now v (the first number bounds the depth). -/
noncomputable def setT {β : Type} (d : Nat) : Tb β → Nat → Option β → (Tb β → Tree α) → Tree α :=
  Nat.rec (motive := fun _ => Tb β → Nat → Option β → (Tb β → Tree α) → Tree α) (fun _ _ _ _ => .fail 3)
    (fun _ ih t i v k => match t with
      | .e => Nat.casesOn (motive := fun _ => Tree α) i (k (.n .e v .e)) fun j => Tb.pick j (fun i => ih .e i v fun l => k (.n l none .e)) (fun i => ih .e i v fun r => k (.n .e none r))
      | .n l u r => Nat.casesOn (motive := fun _ => Tree α) i (k (.n l v r)) fun j => Tb.pick j (fun i => ih l i v fun l => k (.n l u r)) (fun i => ih r i v fun r => k (.n l u r))) d

noncomputable def Mem.set (m : Mem) (id : Nat) (b : Option Box) (k : Mem → Tree α) : Tree α := setT 40 m.tb id b fun tb => k ⟨m.next, tb⟩

noncomputable def Mem.push (m : Mem) (b : Box) (k : Mem → Nat → Tree α) : Tree α := frcN m.next fun n => setT 40 m.tb n (some b) fun tb => k ⟨n + 1, tb⟩ n

noncomputable def Fr.set (fr : Fr) (t : Nat) (v : SV) (k : Fr → Tree α) : Tree α := match Nat.ble (t + 1) fr.size with
  | true => setT 40 fr.tb t (some v) fun tb => k ⟨fr.size, tb⟩
  | false => .fail 5

/-- The frame of a call. -/
noncomputable def Fr.make (size : Nat) (args : List SV) : (Fr → Tree α) → Tree α :=
  List.rec (motive := fun _ => Nat → Fr → (Fr → Tree α) → Tree α) (fun _ fr k => k fr) (fun x _ ih i fr k => frc x fun x => fr.set i x fun fr => ih (i + 1) fr k) args 0 ⟨size, .e⟩

/-- The cells from 'off' on are these. -/
noncomputable def overK (cs : List SV) : Nat → List SV → (List SV → Tree α) → Tree α :=
  List.rec (motive := fun _ => Nat → List SV → (List SV → Tree α) → Tree α)
    (fun _ vs k => match vs with | [] => k [] | _ :: _ => .fail 6)
    (fun c cs ih off vs k => match vs with
      | [] => k (c :: cs)
      | v :: vs => Nat.casesOn (motive := fun _ => Tree α) off (frc v fun v => ih 0 vs fun ys => k (v :: ys)) fun off => ih off (v :: vs) fun ys => k (c :: ys)) cs

/-- So many cells from 'off' on. -/
noncomputable def takeK (cs : List SV) : Nat → Nat → (List SV → Tree α) → Tree α :=
  List.rec (motive := fun _ => Nat → Nat → (List SV → Tree α) → Tree α)
    (fun _ n k => Nat.casesOn (motive := fun _ => Tree α) n (k []) fun _ => .fail 4)
    (fun c _ ih off n k => Nat.casesOn (motive := fun _ => Tree α) n (k []) fun n => Nat.casesOn (motive := fun _ => Tree α) off (frc c fun c => ih 0 n fun ys => k (c :: ys)) fun off => ih off (n + 1) k) cs

end

def SV.cells : SV → List SV
  | .agg cs => cs
  | v => [v]

/-- Surely a value of one cell. -/
def SV.one : SV → Bool
  | .undef => false
  | .top => false
  | .agg _ => false
  | .tuple _ => false
  | .raw v => match v with
    | .agg _ => false
    | .tuple _ => false
    | _ => true
  | _ => true

noncomputable def all1 (l : List SV) : Bool := List.rec (motive := fun _ => Bool) true (fun x _ ih => match x.one with
  | true => ih
  | false => false) l

def ofLeaf : Value → SV
  | .int k n => .int k n
  | .bool b => .bool b
  | .string s => .str s.data.toList
  | .slice none 0 0 => .nilS
  | .pointer none => .nilP
  | v => .raw v

def ofVal : Value → SV
  | .agg cs => .agg (cs.toList.map ofLeaf)
  | .func (.func f) a c => match a.toList, c.toList with
    | [], [] => .fn f [] []
    | _, _ => .raw (.func (.func f) a c)
  | v => ofLeaf v

/-! ### What is known of types and functions -/

structure Row where
  desc : TypeDesc
  size : Nat
  bytes : Nat
  zero : List SV
  ty : Option Ty
  eqg : Bool
  held : Bool

structure Env where
  row : TypeId → Option Row
  fn : FuncId → Option Func
  sum : FuncId → Option (List SV → Option (Tree SV))

def Row.isAgg (r : Row) : Bool := match r.desc with
  | .struct _ => true
  | .array _ _ => true
  | _ => false

section
variable {α : Type} (E : Env)

abbrev Kont (α : Type) := SV → Plan → Mem → Tree α

/-! ### Operations -/

noncomputable def loadCells (r : Row) (cs : List SV) (off : Nat) (p : Plan) (m : Mem) (κ : Kont α) : Tree α :=
  match r.isAgg with
  | true => takeK cs off r.size fun ys => κ (.agg ys) p m
  | false => match nth cs off with
    | some v => frc v fun v => κ v p m
    | none => .fail 10

noncomputable def opLoad (t : TypeId) (a : SV) (p : Plan) (m : Mem) (κ : Kont α) : Tree α :=
  match E.row t with
  | none => .fail 11
  | some r => match a with
    | .ptr id off => match m.get id with
      | some (.cells cs) => loadCells r cs off p m κ
      | _ => .fail 12
    | .eptr u l i off => loadCells r (flat u (l.getD i u.dflt)) off p m κ
    | .rptr id sz i off => match m.get id with
      | some (.rows u l) => match sz == u.sz with
        | true => .req (decide (i < l.length)) (loadCells r (flat u (l.getD i u.dflt)) off p m κ)
        | false => .fail 13
      | _ => .fail 13
    | _ => .fail 14

noncomputable def opStore (t : TypeId) (a v : SV) (p : Plan) (m : Mem) (κ : Kont α) : Tree α :=
  match E.row t with
  | none => .fail 15
  | some r => match r.size == v.cells.length && all1 v.cells with
    | false => .fail 16
    | true => match a with
      | .ptr id off => match m.get id with
        | some (.cells cs) => overK cs off v.cells fun cs => m.set id (some (.cells cs)) fun m => κ .undef p m
        | _ => .fail 17
      | .rptr id sz i off => match m.get id with
        | some (.rows u l) => match sz == u.sz with
          | true => .req (decide (i < l.length)) (overK (flat u (l.getD i u.dflt)) off v.cells fun cs => match unflat u cs with
            | some (x, []) => m.set id (some (.rows u (l.set i x))) fun m => κ .undef p m
            | _ => .fail 18)
          | false => .fail 19
        | _ => .fail 19
      | _ => .fail 20

noncomputable def addOff (a : SV) (n : Nat) : Option SV :=
  match a with
  | .ptr id off => some (.ptr id (off + n))
  | .eptr t l i off => some (.eptr t l i (off + n))
  | .rptr id z i off => some (.rptr id z i (off + n))
  | _ => none

noncomputable def opFieldAddr (s : TypeId) (a : SV) (f : Nat) (p : Plan) (m : Mem) (κ : Kont α) : Tree α :=
  match E.row s with
  | some { desc := .struct fs, .. } => match fs[f]? with
    | some fd => match E.row fd.type with
      | some r => match r.size with
        | 0 => .fail 21
        | _ + 1 => match addOff a fd.offset with
          | some v => frc v fun v => κ v p m
          | none => .fail 22
      | none => .fail 23
    | none => .fail 24
  | _ => .fail 25

noncomputable def partOf (t : TypeId) (cs : List SV) (off : Nat) (p : Plan) (m : Mem) (κ : Kont α) : Tree α :=
  match E.row t with
  | some r => loadCells r cs off p m κ
  | none => .fail 26

noncomputable def opField (s : TypeId) (x : SV) (f : Nat) (p : Plan) (m : Mem) (κ : Kont α) : Tree α :=
  match E.row s with
  | some { desc := .struct fs, .. } => match fs[f]?, x with
    | some fd, .agg cs => partOf E fd.type cs fd.offset p m κ
    | _, _ => .fail 27
  | _ => .fail 28

noncomputable def opIndexAddr (t : TypeId) (x ix : SV) (p : Plan) (m : Mem) (κ : Kont α) : Tree α :=
  match ix with
  | .int _ i => match E.row t with
    | some { desc := .slice e, .. } => match x with
      | .list u l => match E.row e with
        | some r => match r.size == u.sz with
          | true => .req (decide (0 ≤ i) && decide (i < l.length)) (κ (.eptr u l i.toNat 0) p m)
          | false => .fail 30
        | none => .fail 31
      | .row id => match m.get id with
        | some (.rows u l) => match E.row e with
          | some r => match r.size == u.sz with
            | true => .req (decide (0 ≤ i) && decide (i < l.length)) (κ (.rptr id u.sz i.toNat 0) p m)
            | false => .fail 32
          | none => .fail 33
        | _ => .fail 34
      | .arr id off n => match E.row e with
        | some r => .req (decide (0 ≤ i) && decide (i < n)) (κ (.ptr id (off + i.toNat * r.size)) p m)
        | none => .fail 35
      | _ => .fail 36
    | some { desc := .array n e, .. } => match E.row e with
      | some r => match addOff x (i.toNat * r.size) with
        | some v => .req (decide (0 ≤ i) && decide (i < n)) (κ v p m)
        | none => .fail 37
      | none => .fail 38
    | _ => .fail 39
  | _ => .fail 40

noncomputable def opIndex (t : TypeId) (x ix : SV) (p : Plan) (m : Mem) (κ : Kont α) : Tree α :=
  match ix with
  | .int _ i => match E.row t with
    | some { desc := .string, .. } => match x with
      | .str s => .req (decide (0 ≤ i) && decide (i < s.length)) (κ (.int .u8 (s.getD i.toNat 0).toNat) p m)
      | _ => .fail 41
    | some { desc := .array n e, .. } => match x with
      | .agg cs => match E.row e with
        | some r => .req (decide (0 ≤ i) && decide (i < n)) (loadCells r cs (i.toNat * r.size) p m κ)
        | none => .fail 42
      | _ => .fail 43
    | _ => .fail 44
  | _ => .fail 45

noncomputable def eqIn.part (t : TypeId) (cs : List SV) (off : Nat) : Option SV := match E.row t with
  | some r => if r.isAgg then (if off + r.size ≤ cs.length then some (.agg ((cs.drop off).take r.size)) else none) else nth cs off
  | none => none

noncomputable def eqIn.go (eq : TypeId → SV → SV → Option Bool) (xs ys : List SV) : List Field → Option Bool
  | [] => some true
  | f :: fs => match eqIn.part E f.type xs f.offset, eqIn.part E f.type ys f.offset with
    | some a, some b => match eq f.type a b, eqIn.go eq xs ys fs with
      | some u, some v => if f.name = "_" then none else some (u && v)
      | _, _ => none
    | _, _ => none

noncomputable def eqIn.goN (eq : TypeId → SV → SV → Option Bool) (e : TypeId) (r : Row) (xs ys : List SV) : Nat → Nat → Option Bool
  | 0, _ => some true
  | n + 1, i => match eqIn.part E e xs (i * r.size), eqIn.part E e ys (i * r.size) with
    | some a, some b => match eq e a b, eqIn.goN eq e r xs ys n (i + 1) with
      | some u, some v => some (u && v)
      | _, _ => none
    | _, _ => none

noncomputable def eqIn : Nat → TypeId → SV → SV → Option Bool
  | 0, _, _, _ => none
  | d + 1, t, x, y => match E.row t with
    | some { desc := .bool, .. } => match x, y with
      | .bool a, .bool b => some (a == b)
      | _, _ => none
    | some { desc := .int _, .. } => match x, y with
      | .int k a, .int k' b => if k = k' then some (a == b) else none
      | _, _ => none
    | some { desc := .string, .. } => match x, y with
      | .str a, .str b => some (a == b)
      | _, _ => none
    | some { desc := .struct fs, held := false, .. } => match x, y with
      | .agg xs, .agg ys => eqIn.go E (eqIn d) xs ys fs.toList
      | _, _ => none
    | some { desc := .array n e, .. } => match x, y, E.row e with
      | .agg xs, .agg ys, some r => eqIn.goN E (eqIn d) e r xs ys n 0
      | _, _, _ => none
    | _ => none

noncomputable def intOp (op : BinOp) (k : IntKind) (a b : Int) : Option SV :=
  match op with
  | .add => some (.int k (k.wrap (a + b)))
  | .sub => some (.int k (k.wrap (a - b)))
  | .mul => some (.int k (k.wrap (a * b)))
  | .and => some (.int k (k.wrap (BitVec.ofInt k.bits a &&& BitVec.ofInt k.bits b).toNat))
  | .or => some (.int k (k.wrap (BitVec.ofInt k.bits a ||| BitVec.ofInt k.bits b).toNat))
  | .xor => some (.int k (k.wrap (BitVec.ofInt k.bits a ^^^ BitVec.ofInt k.bits b).toNat))
  | .andNot => some (.int k (k.wrap (BitVec.ofInt k.bits a &&& ~~~BitVec.ofInt k.bits b).toNat))
  | .eql => some (.bool (a == b))
  | .neq => some (.bool (a != b))
  | .lss => some (.bool (decide (a < b)))
  | .leq => some (.bool (decide (a ≤ b)))
  | .gtr => some (.bool (decide (a > b)))
  | .geq => some (.bool (decide (a ≥ b)))
  | _ => none

noncomputable def strOp (op : BinOp) (a b : List UInt8) : Option SV :=
  match op with
  | .eql => some (.bool (a == b))
  | .neq => some (.bool (!(a == b)))
  | .lss => some (.bool (Op.bytesLess a b))
  | .leq => some (.bool (Op.bytesLess a b || a == b))
  | .gtr => some (.bool (!(Op.bytesLess a b || a == b)))
  | .geq => some (.bool (!(Op.bytesLess a b)))
  | _ => none

/-- A slice against nil: what must hold for it to be known, and the answer. -/
def nilTest : SV → SV → Option (Bool × Bool)
  | .nilS, .nilS => some (true, true)
  | .list _ l, .nilS => some (!l.isEmpty, false)
  | .arr _ _ _, .nilS => some (true, false)
  | .raw v, .nilS => match v with
    | .slice none _ _ => some (true, true)
    | .slice (some _) _ _ => some (true, false)
    | _ => none
  | _, _ => none

noncomputable def opBin (op : BinOp) (t : TypeId) (x y : SV) (p : Plan) (m : Mem) (κ : Kont α) : Tree α :=
  match x, y with
  | .int k a, .int k' b => match op with
    | .shl => .req (decide (0 ≤ b)) (κ (.int k (k.wrap (a * 2 ^ (min b.toNat k.bits)))) p m)
    | .shr => .req (decide (0 ≤ b)) (κ (.int k (a.fdiv (2 ^ (min b.toNat k.bits)))) p m)
    | op => if k = k' then match op with
      | .quo => .req (!(b == 0)) (κ (.int k (k.wrap (a.tdiv b))) p m)
      | .rem => .req (!(b == 0)) (κ (.int k (a.tmod b)) p m)
      | op => match intOp op k a b with
        | some v => κ v p m
        | none => .fail 50
      else .fail 51
  | .str a, .str b => match op with
    | .add => .req (decide (((a.length + b.length : Nat) : Int) ≤ 9223372036854775807)) (κ (.str (a ++ b)) p m)
    | op => match strOp op a b with
      | some v => κ v p m
      | none => .fail 52
  | x, y => match nilTest x y with
    | some rb => match E.row t with
      | some { desc := .slice _, .. } => match op with
        | .eql => .req rb.1 (κ (.bool rb.2) p m)
        | .neq => .req rb.1 (κ (.bool (!rb.2)) p m)
        | _ => .fail 57
      | _ => .fail 58
    | none => match E.row t with
      | some { eqg := false, .. } => match op with
        | .eql => match eqIn E 100 t x y with
          | some b => κ (.bool b) p m
          | none => .fail 53
        | .neq => match eqIn E 100 t x y with
          | some b => κ (.bool (!b)) p m
          | none => .fail 54
        | _ => .fail 55
      | _ => .fail 56

noncomputable def opUn (op : UnOp) (x : SV) (p : Plan) (m : Mem) (κ : Kont α) : Tree α :=
  match op, x with
  | .neg, .int k n => κ (.int k (k.wrap (0 - n))) p m
  | .xor, .int k n => κ (.int k (k.wrap (BitVec.ofInt k.bits (if k.signed then -1 else k.max) ^^^ BitVec.ofInt k.bits n).toNat)) p m
  | .not, .bool b => κ (.bool (!b)) p m
  | _, _ => .fail 60

noncomputable def bytesOf (m : Mem) : SV → Option (List UInt8)
  | .nilS => some []
  | .list (.int .u8) l => some ((l : List Int).map fun n => UInt8.ofNat n.toNat)
  | .row id => match m.get id with
    | some (.rows (.int .u8) l) => some ((l : List Int).map fun n => UInt8.ofNat n.toNat)
    | _ => none
  | .arr id off n => match m.get id with
    | some (.cells cs) => match unflatN (.int .u8) n ((cs.drop off).take (n * (Ty.int .u8).sz)) with
      | some l => some ((l : List Int).map fun n => UInt8.ofNat n.toNat)
      | none => none
    | _ => none
  | _ => none

noncomputable def opConv (src dst : TypeId) (x : SV) (p : Plan) (m : Mem) (κ : Kont α) : Tree α :=
  match E.row src, E.row dst with
  | some rs, some rd => match rs.desc, rd.desc, x with
    | _, .int k, .int _ n => κ (.int k (k.wrap n)) p m
    | _, .string, .str s => κ (.str s) p m
    | .string, .slice e, .str s => match E.row e with
      | some { desc := .int .u8, .. } => m.push ((.rows (.int .u8) (s.map fun b => (b.toNat : Int)))) fun m id => κ (.row id) p m
      | _ => .fail 61
    | .slice e, .string, x => match E.row e with
      | some { desc := .int .u8, .. } => match bytesOf m x with
        | some s => κ (.str s) p m
        | none => .fail 62
      | _ => .fail 63
    | _, _, _ => .fail 64
  | _, _ => .fail 65

noncomputable def opExtract (x : SV) (i : Nat) (p : Plan) (m : Mem) (κ : Kont α) : Tree α :=
  match x with
  | .tuple vs => match nth vs i with
    | some v => frc v fun v => κ v p m
    | none => .fail 66
  | _ => .fail 67

/-- A slice expression on a list: the conditions and what is left. -/
def cut {γ : Type} (l : List γ) (lo hi : Option SV) : Option (Bool × List γ) :=
  match lo, hi with
  | none, none => some (true, l)
  | some (.int _ a), none => some (decide (0 ≤ a) && decide (a ≤ l.length), l.drop a.toNat)
  | none, some (.int _ b) => some (decide (0 ≤ b) && decide (b ≤ l.length), l.take b.toNat)
  | some (.int _ a), some (.int _ b) => some (decide (0 ≤ b) && decide (b ≤ l.length) && decide (0 ≤ a) && decide (a ≤ b), (l.take b.toNat).drop a.toNat)
  | _, _ => none

/-- Slices of which an empty one without capacity may be taken. -/
def emptyOk : SV → Bool
  | .nilS => true
  | .list _ _ => true
  | .row _ => true
  | _ => false

noncomputable def opSlice (t : TypeId) (x : SV) (lo hi mx : Option SV) (p : Plan) (m : Mem) (κ : Kont α) : Tree α :=
  match E.row t, mx with
  | some r, none => match r.desc, x with
    | .string, .str s => match cut s lo hi with
      | some bl => .req bl.1 (κ (.str bl.2) p m)
      | none => .fail 70
    | .slice e, .list u xs => match E.row e with
      | some re => match re.size == u.sz with
        | true => match cut xs lo hi with
          | some bl => .req bl.1 (κ (.list u bl.2) p m)
          | none => .fail 71
        | false => .fail 75
      | none => .fail 76
    | .array n e, .ptr id off => match E.row e, lo, hi with
      | some _, none, none => κ (.arr id off n) p m
      | _, _, _ => .fail 72
    | _, _ => .fail 73
  | some r, some mx => match r.desc, lo, hi, mx with
    | .slice e, none, some (.int _ h), .int _ c => match E.row e with
      | some { ty := some u, size := size, .. } => match size == u.sz && emptyOk x with
        | true => .req (h == 0 && c == 0) (m.push (.rows u []) fun m id => κ (.row id) p m)
        | false => .fail 77
      | _ => .fail 78
    | _, _, _, _ => .fail 79
  | _, _ => .fail 74

/-- The elements of a source of append, as data of a type. -/
noncomputable def elemsOf (u : Ty) (m : Mem) : SV → Option (List u.T)
  | .nilS => some []
  | .list t l => if h : t = u then some (h ▸ l) else none
  | .row id => match m.get id with
    | some (.rows t l) => if h : t = u then some (h ▸ l) else none
    | _ => none
  | .arr id off n => match m.get id with
    | some (.cells cs) => unflatN u n ((cs.drop off).take (n * u.sz))
    | _ => none
  | .str s => if h : u = .int .u8 then some (h ▸ (s.map fun b => (b.toNat : Int) : List Int)) else none
  | .raw v => match v with
    | .slice _ 0 _ => some []
    | _ => none
  | _ => none

noncomputable def opAppend (t : TypeId) (s x : SV) (p : Plan) (m : Mem) (κ : Kont α) : Tree α :=
  match E.row t with
  | some { desc := .slice e, .. } => match E.row e with
    | some { ty := some u, bytes := bytes, size := size, .. } => match size == u.sz && Nat.ble 1 bytes with
      | true => match elemsOf u m x with
        | some xs => match s with
          | .nilS => .req (decide (xs.length * bytes ≤ 140737488355328)) (m.push ((.rows u xs)) fun m id => κ (.row id) p m)
          | .row id => match m.get id with
            | some (.rows v l) => if h : v = u then
                .req (decide ((l.length + xs.length) * bytes ≤ 140737488355328)) (m.set id none fun m => m.push ((.rows u ((h ▸ l : List u.T) ++ xs))) fun m id => κ (.row id) p m)
              else .fail 80
            | _ => .fail 81
          | .arr id off n => match elemsOf u m (.arr id off n) with
            | some l => dec p xs.isEmpty fun b p => match b with
              | true => κ (.arr id off n) p m
              | false => .req (decide ((l.length + xs.length) * bytes ≤ 140737488355328)) (m.push (.rows u (l ++ xs)) fun m id => κ (.row id) p m)
            | none => .fail 87
          | _ => .fail 82
        | none => .fail 83
      | false => .fail 84
    | _ => .fail 85
  | _ => .fail 86

noncomputable def lenOf (m : Mem) : SV → Option Nat
  | .nilS => some 0
  | .list _ l => some l.length
  | .row id => match m.get id with
    | some (.rows _ l) => some l.length
    | _ => none
  | .arr _ _ n => some n
  | _ => none

noncomputable def opLen (t : TypeId) (x : SV) (p : Plan) (m : Mem) (κ : Kont α) : Tree α :=
  match E.row t with
  | some r => match r.desc with
    | .array n _ => κ (.int .i64 n) p m
    | .string => match x with
      | .str s => κ (.int .i64 s.length) p m
      | _ => .fail 87
    | .slice _ => match lenOf m x with
      | some n => κ (.int .i64 n) p m
      | none => .fail 88
    | _ => .fail 89
  | none => .fail 90

def maxAll : SV → List SV → Option SV
  | v, [] => some v
  | .int k x, .int _ y :: vs => maxAll (.int k (if y > x then y else x)) vs
  | _, _ => none

def minAll : SV → List SV → Option SV
  | v, [] => some v
  | .int k x, .int _ y :: vs => minAll (.int k (if y < x then y else x)) vs
  | _, _ => none

noncomputable def opBuiltin (b : Builtin) (ts : List TypeId) (vs : List SV) (p : Plan) (m : Mem) (κ : Kont α) : Tree α :=
  match b, ts, vs with
  | .len, [t], [x] => opLen E t x p m κ
  | .append, [t, t1], [s, x] => match E.row t1 with
    | some { desc := .slice _, .. } => opAppend E t s x p m κ
    | some { desc := .string, .. } => opAppend E t s x p m κ
    | _ => .fail 89
  | .max, _, v :: vs => match maxAll v vs with
    | some v => κ v p m
    | none => .fail 91
  | .min, _, v :: vs => match minAll v vs with
    | some v => κ v p m
    | none => .fail 92
  | _, _, _ => .fail 93

noncomputable def fillK (place : Nat → Option (Nat × Nat)) (cs : List SV) (parts : List (Nat × SV)) : (List SV → Tree α) → Tree α :=
  List.rec (motive := fun _ => List SV → (List SV → Tree α) → Tree α) (fun cs k => k cs)
    (fun x _ ih cs k => match place x.1 with
      | some os => match os.2 == x.2.cells.length && all1 x.2.cells && Nat.ble 1 os.2 with
        | true => overK cs os.1 x.2.cells fun cs => ih cs k
        | false => .fail 94
      | none => .fail 95) parts cs

/-- Where the fields of a struct lie. -/
noncomputable def placesOf (fs : List Field) : Option (List (Nat × Nat)) :=
  List.rec (motive := fun _ => Option (List (Nat × Nat))) (some []) (fun f _ ih => match E.row f.type, ih with
    | some r, some l => some ((f.offset, r.size) :: l)
    | _, _ => none) fs

noncomputable def opBuild (t : TypeId) (parts : List (Nat × SV)) (p : Plan) (m : Mem) (κ : Kont α) : Tree α :=
  match E.row t with
  | some r => match r.desc with
    | .struct fs => match placesOf E fs.toList with
      | some pl => fillK (fun i => nth pl i) r.zero parts fun cs => κ (.agg cs) p m
      | none => .fail 95
    | .array _ e => match E.row e with
      | some re => fillK (fun i => some (i * re.size, re.size)) r.zero parts fun cs => κ (.agg cs) p m
      | none => .fail 96
    | _ => .fail 97
  | none => .fail 98

noncomputable def repeatL (z : List SV) : Nat → List SV
  | 0 => []
  | n + 1 => z ++ repeatL z n

noncomputable def opBuildSlice (t : TypeId) (n : Nat) (parts : List (Nat × SV)) (p : Plan) (m : Mem) (κ : Kont α) : Tree α :=
  match E.row t with
  | some { desc := .slice e, .. } => match E.row e with
    | some re => match decide (n * re.size ≤ 1000) && decide (re.zero.length = re.size) with
      | true => fillK (fun i => some (i * re.size, re.size)) (repeatL re.zero n) parts fun cs => m.push ((.cells cs)) fun m id => κ (.arr id 0 n) p m
      | false => .fail 99
    | none => .fail 100
  | _ => .fail 101

noncomputable def opMakeSlice (t : TypeId) (len cap : SV) (p : Plan) (m : Mem) (κ : Kont α) : Tree α :=
  match len, cap with
  | .int .i64 n, .int .i64 c => match E.row t with
    | some { desc := .slice e, .. } => match E.row e with
      | some { ty := some u, bytes := bytes, size := size, .. } => match size == u.sz with
        | true => .req (decide (0 ≤ n) && n == c && decide (bytes * n ≤ 140737488355328) && decide (n ≤ 9223372036854775807)) (m.push ((.rows u (List.replicate n.toNat u.dflt))) fun m id => κ (.row id) p m)
        | false => .fail 102
      | _ => .fail 103
    | _ => .fail 104
  | _, _ => .fail 105

noncomputable def opRange (x : SV) (p : Plan) (m : Mem) (κ : Kont α) : Tree α :=
  match x with
  | .str s => m.push ((.iter s 0)) fun m id => κ (.ptr id 0) p m
  | _ => .fail 106

noncomputable def opNext (x : SV) (p : Plan) (m : Mem) (κ : Kont α) : Tree α :=
  match x with
  | .ptr id 0 => match m.get id with
    | some (.iter s pos) => dec p (decide (pos < s.length)) fun b p => match b with
      | true => m.set id (some (.iter s (pos + (Utf8.decode ⟨⟨s⟩⟩ pos).2))) fun m => κ (.tuple [.bool true, .int .i64 pos, .int .i32 (Utf8.decode ⟨⟨s⟩⟩ pos).1]) p m
      | false => κ (.tuple [.bool false]) p m
    | _ => .fail 107
  | _ => .fail 108

/-- No name of a box is mentioned. -/
noncomputable def SV.data (v : SV) : Bool :=
  SV.rec (motive_1 := fun _ => Bool) (motive_2 := fun _ => Bool) true false (fun _ _ => true) (fun _ => true) (fun _ => true) true (fun _ _ => true) (fun _ => false) (fun _ _ _ => false) (fun _ _ => false) true
    (fun _ _ _ _ => true) (fun _ _ _ _ => false) (fun _ ih => ih) (fun _ ih => ih) (fun _ _ _ a b => match a with | true => b | false => false) (fun _ => true) true (fun _ _ a b => match a with | true => b | false => false) v

noncomputable def dataL (l : List SV) : Bool := List.rec (motive := fun _ => Bool) true (fun x _ ih => match x.data with
  | true => ih
  | false => false) l

/-- The values that a call in a memory of its own hands back: rows become rows of the caller's. -/
noncomputable def adopt1 (v : SV) (mc m : Mem) (k : SV → Mem → Mem → Tree α) : Tree α :=
  match v with
  | .row id => match mc.get id with
    | some (.rows t l) => mc.set id none fun mc => m.push (.rows t l) fun m id => k (.row id) mc m
    | _ => .fail 112
  | v => match v.data with
    | true => k v mc m
    | false => .fail 113

noncomputable def adoptL (vs : List SV) : Mem → Mem → (List SV → Mem → Mem → Tree α) → Tree α :=
  List.rec (motive := fun _ => Mem → Mem → (List SV → Mem → Mem → Tree α) → Tree α) (fun mc m k => k [] mc m)
    (fun x _ ih mc m k => adopt1 x mc m fun v mc m => ih mc m fun vs mc m => k (v :: vs) mc m) vs

noncomputable def adopt (v : SV) (mc m : Mem) (k : SV → Mem → Tree α) : Tree α :=
  match v with
  | .tuple vs => adoptL vs mc m fun vs _ m => k (.tuple vs) m
  | .agg vs => adoptL vs mc m fun vs _ m => k (.agg vs) m
  | v => adopt1 v mc m fun v _ m => k v m

/-- A tree of values, with what follows at each leaf. -/
noncomputable def bindT (m : Mem) (κ : Kont α) : Tree SV → Plan → Tree α
  | .leaf v, p => κ v p m
  | .node b t f, p => dec p b fun b p => match b with
    | true => bindT m κ t p
    | false => bindT m κ f p
  | .req b t, p => .req b (bindT m κ t p)
  | .fail n, _ => .fail n

abbrev CallK (α : Type) := FuncId → List SV → Plan → Mem → Kont α → Tree α

noncomputable def opCall (call : CallK α) (ev : Operand → SV) (c : Call) (p : Plan) (m : Mem) (κ : Kont α) : Tree α :=
  match c.callee with
  | .builtin b => opBuiltin E b c.argTypes.toList (c.args.toList.map ev) p m κ
  | .value f => match ev f with
    | .fn k first cap => call k (first ++ (c.args.toList.map ev ++ cap)) p m κ
    | _ => .fail 110
  | .invoke _ _ => .fail 111

noncomputable def execOp (call : CallK α) (ev : Operand → SV) (o : Op) (p : Plan) (m : Mem) (κ : Kont α) : Tree α :=
  match o with
  | .move x => frc (ev x) fun v => κ v p m
  | .assign x => frc (ev x) fun v => κ v p m
  | .pick c a b => match ev c with
    | .bool c => dec p c fun c p => frc (match c with | true => ev a | false => ev b) fun v => κ v p m
    | _ => .fail 120
  | .alloc t => match E.row t with
    | some r => frcL r.zero fun z => m.push ((.cells z)) fun m id => κ (.ptr id 0) p m
    | none => .fail 121
  | .box _ x => match all1 (ev x).cells with
    | true => frcL (ev x).cells fun cs => m.push (.cells cs) fun m id => κ (.ptr id 0) p m
    | false => .fail 125
  | .build t parts => opBuild E t (parts.toList.map fun x => (x.1, ev x.2)) p m κ
  | .buildSlice t n parts => opBuildSlice E t n (parts.toList.map fun x => (x.1, ev x.2)) p m κ
  | .load t a => opLoad E t (ev a) p m κ
  | .store t a x => opStore E t (ev a) (ev x) p m κ
  | .nilCheck x => match ev x with
    | .ptr i o => κ (.ptr i o) p m
    | .eptr t l i o => κ (.eptr t l i o) p m
    | .rptr a z i o => κ (.rptr a z i o) p m
    | .fn f a c => κ (.fn f a c) p m
    | _ => .fail 122
  | .binOp op t x y _ => opBin E op t (ev x) (ev y) p m κ
  | .unOp op _ x => opUn op (ev x) p m κ
  | .convert s d x => opConv E s d (ev x) p m κ
  | .makeFunc (.func f) first cap => κ (.fn f (first.toList.map ev) (cap.toList.map ev)) p m
  | .makeSlice t l c => opMakeSlice E t (ev l) (ev c) p m κ
  | .slice t x lo hi mx => opSlice E t (ev x) (lo.map ev) (hi.map ev) (mx.map ev) p m κ
  | .fieldAddr s x f => opFieldAddr E s (ev x) f p m κ
  | .field s x f => opField E s (ev x) f p m κ
  | .indexAddr t x i => opIndexAddr E t (ev x) (ev i) p m κ
  | .index t x i => opIndex E t (ev x) (ev i) p m κ
  | .range t x => match E.row t with
    | some { desc := .string, .. } => opRange (ev x) p m κ
    | _ => .fail 126
  | .next x true => opNext (ev x) p m κ
  | .extract x i => opExtract (ev x) i p m κ
  | .call c => opCall E call ev c p m κ
  | _ => .fail 123

/-! ### Regions -/

noncomputable def evalIn (fr : Fr) : Operand → SV
  | .tmp t => fr.get t
  | .const v => ofVal v
  | .global g => .raw (.pointer (some ⟨g, 0, none⟩))
  | .func f => .fn f [] []

noncomputable def putK (fr : Fr) (d : Option Tmp) (v : SV) (k : Fr → Tree α) : Tree α :=
  match d with
  | some d => fr.set d v k
  | none => k fr

/-- Operations that leave the memory alone. -/
noncomputable def quiet : Op → Bool
  | .move _ | .assign _ | .pick .. | .load .. | .nilCheck _ | .binOp .. | .unOp .. | .fieldAddr .. | .field .. | .indexAddr .. | .index .. | .extract .. | .makeFunc .. | .build .. => true
  | .slice _ _ _ _ none => true
  | .convert _ d _ => match E.row d with
    | some { desc := .slice _, .. } => false
    | some _ => true
    | none => false
  | .call { callee := .builtin .len, .. } => true
  | .call { callee := .builtin .max, .. } => true
  | .call { callee := .builtin .min, .. } => true
  | .call { callee := .value _, .. } => true
  | _ => false

/-- Operations whose meaning has nothing to do with the memory. -/
noncomputable def pureOp : Op → Bool
  | .move _ | .assign _ | .pick .. | .nilCheck _ | .binOp .. | .unOp .. | .fieldAddr .. | .field .. | .index .. | .extract .. | .makeFunc .. | .build .. => true
  | _ => false
/-- Operations that look at the shape of the memory alone. -/
noncomputable def shapeOp : Op → Bool
  | .indexAddr .. => true
  | .call { callee := .builtin .len, .. } => true
  | _ => false
/-- Operations that read, and do the same where there is more to read. -/
noncomputable def upOp : Op → Bool
  | .load .. => true
  | .call { callee := .value _, .. } => true
  | _ => false
noncomputable def isStore : Op → Bool
  | .store .. => true
  | _ => false
noncomputable def isAlloc : Op → Bool
  | .alloc _ => true
  | _ => false
noncomputable def writer (o : Op) : Bool := isStore o || isAlloc o

noncomputable def wetPre (al : Bool) (o : Op) : Bool := quiet E o && (!al || (pureOp o || (shapeOp o || upOp o)))
noncomputable def wetPost (al : Bool) (o : Op) : Bool := pureOp o || (isStore o || (shapeOp o && !al))
/-- A region that may write: first what is quiet, then its first writer (is it an allocation?), then stores and what reads nothing. -/
noncomputable def wetGo (al : Bool) (l : List Oper) : Bool :=
  List.rec (motive := fun _ => Bool) true (fun o os ih => match writer o.op with
    | true => (isAlloc o.op == al) && os.all fun o => wetPost al o.op
    | false => wetPre E al o.op && ih) l
/-- Does an operation wait for operation i, straight or through others? -/
noncomputable def boundTo (all : List Oper) : Nat → Oper → Nat → Bool
  | 0, o, i => o.after.toList.any fun e => Region.binds .any e && Nat.beq e.on i
  | n + 1, o, i => boundTo all n o i || o.after.toList.any fun e => Region.binds .any e && match nth all e.on with
    | some o' => boundTo all n o' i
    | none => false
/-- Each store waits for all ahead of it but what reads nothing. -/
noncomputable def wetPairs (all : List Oper) : Bool :=
  all.zipIdx.all fun oj => !isStore oj.1.op || all.zipIdx.all fun oi => !Nat.blt oi.2 oj.2 || (pureOp oi.1.op || (shapeOp oi.1.op || boundTo all 3 oj.1 oi.2))
noncomputable def wetB (all : List Oper) : Bool := (wetGo E false all || wetGo E true all) && wetPairs all

abbrev OpsK (α : Type) := Plan → Fr → Mem → Tree α

/-- One operation, its guard asked first. -/
noncomputable def oneOp (let_ : Op → Bool) (call : CallK α) (all : List Oper) (o : Oper) (ih : OpsK α) (p : Plan) (fr : Fr) (m : Mem) : Tree α :=
  match o.guard with
  | none => match let_ o.op with
    | true => execOp E call (evalIn fr) o.op p m fun v p m => putK fr o.dst v fun fr => ih p fr m
    | false => .fail 133
  | some jw => match nth all jw.1 with
    | some oj => match oj.dst with
      | some d => match fr.get d with
        | .bool b => dec p b fun b p => fr.set d (.bool b) fun fr => match b == jw.2 with
          | true => match let_ o.op with
            | true => execOp E call (evalIn fr) o.op p m fun v p m => putK fr o.dst v fun fr => ih p fr m
            | false => .fail 133
          | false => putK fr o.dst .undef fun fr => ih p fr m
        | .undef => putK fr o.dst .undef fun fr => ih p fr m
        | _ => .fail 130
      | none => .fail 131
    | none => .fail 132

noncomputable def execOps (let_ : Op → Bool) (call : CallK α) (all ops : List Oper) (k : OpsK α) : OpsK α :=
  List.rec (motive := fun _ => OpsK α) k (fun o _ ih => oneOp E let_ call all o ih) ops

/-! ### Code -/

inductive Out where
  | ret (p : Plan) (fr : Fr) (m : Mem)
  | stop (items : List Item) (fr : Fr) (m : Mem)

noncomputable def resOf (m : Mem) (fr : Fr) (r : ResultVar) (k : SV → Tree α) : Tree α :=
  match r with
  | .tmp t => frc (fr.get t) k
  | .cell a t => opLoad E t (fr.get a) .auto m fun v _ _ => k v

noncomputable def resList (m : Mem) (fr : Fr) (rs : List ResultVar) : (List SV → Tree α) → Tree α :=
  List.rec (motive := fun _ => (List SV → Tree α) → Tree α) (fun k => k []) (fun r _ ih k => resOf E m fr r fun v => ih fun vs => k (v :: vs)) rs

noncomputable def results (fn : Func) (m : Mem) (fr : Fr) (k : SV → Tree α) : Tree α :=
  resList E m fr fn.results.toList fun vs => match vs with
    | [v] => k v
    | vs => k (.tuple vs)

abbrev ExecK (α : Type) := List Item → Plan → Fr → Mem → (Out → Tree α) → Tree α

/-- A call in place of an operation: where no name of a box goes in, in a memory of its own. -/
noncomputable def callIn (ih : ExecK α) : CallK α := fun f args p m k => match E.sum f with
  | some s => match s args with
    | some t => bindT m k t p
    | none => .fail 141
  | none => match E.fn f with
    | some fn => match fn.body with
      | some body => match fn.name == "runtime.NumGoroutine" with
        | false => match dataL args with
          | true => Fr.make fn.ntmps args fun fr => ih [.code body] p fr ⟨0, .e⟩ fun o => match o with
            | .ret p fr mc => results E fn mc fr fun v => adopt v mc m fun v m => k v p m
            | .stop .. => .fail 142
          | false => Fr.make fn.ntmps args fun fr => ih [.code body] p fr m fun o => match o with
            | .ret p fr m => results E fn m fr fun v => k v p m
            | .stop .. => .fail 142
        | true => .fail 143
      | none => .fail 144
    | none => .fail 145

/-- The same where nothing of the caller's memory may turn. -/
noncomputable def callQ (ih : ExecK α) : CallK α := fun f args p m k => match E.sum f with
  | some s => match s args with
    | some t => bindT m k t p
    | none => .fail 141
  | none => match E.fn f with
    | some fn => match fn.body with
      | some body => match fn.name == "runtime.NumGoroutine" with
        | false => match dataL args with
          | true => Fr.make fn.ntmps args fun fr => ih [.code body] p fr ⟨0, .e⟩ fun o => match o with
            | .ret p fr mc => results E fn mc fr fun v => match v.data with
              | true => k v p m
              | false => .fail 151
            | .stop .. => .fail 142
          | false => .fail 152
        | true => .fail 143
      | none => .fail 144
    | none => .fail 145

noncomputable def codeStep (ih : ExecK α) (c : Code) (k : List Item) (p : Plan) (fr : Fr) (m : Mem) (κ : Out → Tree α) : Tree α :=
  match c with
  | .skip => ih k p fr m κ
  | .label _ => ih k p fr m κ
  | .region _ ops draw => match draw with
    | false => execOps E (fun _ => true) (callIn E ih) ops.toList ops.toList (fun p fr m => ih k p fr m κ) p fr m
    | true => match Region.lexB .any ops with
      | true => match wetB E ops.toList with
        | true => execOps E (fun o => quiet E o || writer o) (callQ E ih) ops.toList ops.toList (fun p fr m => ih k p fr m κ) p fr m
        | false => .fail 133
      | false => .fail 146
  | .seq a b => ih (.code a :: .code b :: k) p fr m κ
  | .cond c x y => match evalIn fr c with
    | .bool b => dec p b fun b p => match b with
      | true => ih (.code x :: k) p fr m κ
      | false => ih (.code y :: k) p fr m κ
    | _ => .fail 147
  | .block id b => ih (.code b :: .inBlock id :: k) p fr m κ
  | .loop b => match p with
    | .go p => ih (.code b :: .inLoop b :: k) p fr m κ
    | .auto => ih (.code b :: .inLoop b :: k) .auto fr m κ
    | _ => κ (.stop (.code (.loop b) :: k) fr m)
  | .exit id => match exitTo id k with
    | some k => ih k p fr m κ
    | none => .fail 148
  | .ret => κ (.ret p fr m)
  | _ => .fail 149

noncomputable def stepIn (ih : ExecK α) : ExecK α := fun items p fr m κ =>
  match items with
  | [] => κ (.ret p fr m)
  | .inBlock _ :: k => ih k p fr m κ
  | .inLoop b :: k => match p with
    | .go p => ih (.code b :: .inLoop b :: k) p fr m κ
    | .auto => ih (.code b :: .inLoop b :: k) .auto fr m κ
    | _ => κ (.stop (.inLoop b :: k) fr m)
  | .code c :: k => codeStep E ih c k p fr m κ
  | _ => .fail 150

noncomputable def exec (n : Nat) : ExecK α :=
  Nat.rec (motive := fun _ => ExecK α) (fun _ _ _ _ _ => .fail 140) (fun _ ih => stepIn E ih) n

/-- A call from its arguments to its value. -/
noncomputable def execFn (n : Nat) (f : FuncId) (args : List SV) (p : Plan) : Tree (SV × Mem) :=
  match E.fn f with
  | some fn => match fn.body with
    | some body => match fn.name == "runtime.NumGoroutine" with
      | false => Fr.make fn.ntmps args fun fr => exec E n [.code body] p fr ⟨0, .e⟩ fun o => match o with
        | .ret _ fr m => results E fn m fr fun v => .leaf (v, m)
        | .stop .. => .fail 142
      | true => .fail 143
    | none => .fail 144
  | none => .fail 145

end

/-! ### The program's own rows -/

def tyOf.rep (u : Ty) : Nat → Ty
  | 0 => .unit
  | 1 => u
  | n + 1 => .pair u (tyOf.rep u n)

def tyOf.goF (ty : TypeId → Option Ty) : List Field → Option Ty
  | [] => some .unit
  | [f] => ty f.type
  | f :: fs => match ty f.type, tyOf.goF ty fs with
    | some a, some b => some (.pair a b)
    | _, _ => none

def tyOf (P : Program) : Nat → TypeId → Option Ty
  | 0, _ => none
  | d + 1, t => match P.underlying t with
    | some .bool => some .bool
    | some (.int k) => some (.int k)
    | some .string => some .str
    | some (.slice e) => match tyOf P d e with
      | some u => some (.list u)
      | none => none
    | some (.struct fs) => tyOf.goF (tyOf P d) fs.toList
    | some (.array n e) => match tyOf P d e with
      | some u => some (tyOf.rep u n)
      | none => none
    | _ => none

/-- Do these cells begin with the type's plain datum? What is left behind it. -/
def dfltChk : Ty → List Value → Option (List Value)
  | .unit, vs => some vs
  | .int k, vs => match vs with
    | .int k' 0 :: vs => if k = k' then some vs else none
    | _ => none
  | .bool, vs => match vs with
    | .bool false :: vs => some vs
    | _ => none
  | .str, vs => match vs with
    | .string ⟨⟨[]⟩⟩ :: vs => some vs
    | _ => none
  | .list _, vs => match vs with
    | .slice none 0 0 :: vs => some vs
    | _ => none
  | .pair a b, vs => match dfltChk a vs with
    | some vs => dfltChk b vs
    | none => none

def tyIf (u : Option Ty) (vs : List Value) : Option Ty :=
  match u with
  | some u => match dfltChk u vs with
    | some [] => some u
    | _ => none
  | none => none

def rowOf (P : Program) (t : TypeId) : Option Row :=
  match P.underlying t, P.info? t with
  | some d, some i => match i.zero with
    | some z => some { desc := d, size := i.size, bytes := i.bytes, zero := z.cells.toList.map ofLeaf, ty := tyIf (tyOf P 20 t) z.cells.toList, eqg := P.eqGuardType P.depth t, held := P.stoodInHeld t }
    | none => none
  | _, _ => none

/-- What is known of a program by itself, with these summaries. -/
noncomputable def Env.of (P : Program) (sum : FuncId → Option (List SV → Option (Tree SV))) : Env :=
  { row := rowOf P, fn := fun f => P.funcs[f]?, sum := sum }

end Go.Sx
