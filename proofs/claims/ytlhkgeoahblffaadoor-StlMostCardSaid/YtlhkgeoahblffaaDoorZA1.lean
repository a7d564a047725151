/-
  Sx31: a row with laid variables: the contract is handed the world's shape and the condition.
  Sx1: a small evaluator of the model's code over values that may hold unknowns: definitions alone. Types of data, values, memory, plans, trees, operations, code.
  The ground of this seat: the world has the program's shape (the library's variables hold values of their types).
  El: what is known of the element types of rows of bytes.
  Sx2: what a value with unknowns says of a value of the model, in a world; what the memory of the evaluator says of a world; what is kept when a world grows.
  Sx3: how the memory relation moves: a world with the same heap, a new box, a box stored into, a box let go; loads and stores of cells.
-/
import Derived.SizedLaws
import Derived.ProofKit
import Derived.LaidMore
import Derived.Stop.Joined
import Derived.Still
import Derived.Below
import Derived.KernelRfl
import Derived.ChangeAgain
import Derived.Test.YtlhkgeoahblffaaDoorProg
import Derived.WalkKit
import Derived.Laws.CopyRow
namespace Go.Sx
variable {H : Type} {enc : TypeId × Value → H}
theorem returnsIn_both {a : Assume} {C : Checked} {os : Os} {f : FuncId} {fn : Func} {s : ChangeSpec} {conds : List PathCond} {apart fresh handsOn again : Bool} {X : World → Array Value → Prop}
    (hX : ∀ (w w' : World) (args : Array Value), w.heap = w'.heap → X w args → X w' args)
    (own : ownKnob C.prog.godebug = none) (started : os.Started) (noInit : C.prog.inits.idxOf? f = none) (hfn : C.prog.funcs[f]? = some fn)
    (witness : ∃ (w : World) (tape : Tape) (i : Input), w.os = os ∧ (w.forCall tape i).Shaped C.prog ∧ i.vars = [] ∧ Input.okWide C.prog (w.forCall tape i) .any w.heap.size f i ∧
      ((s.pre enc C.prog fn conds apart (w.forCall tape i).memory i.args ∧ X (w.forCall tape i).memory i.args) ∧ sizedMet enc C.prog fn (OpenSpec.ofChange s) apart (w.forCall tape i).memory i.args) ∧ a.holds C.prog (lone (Frame.enter C.prog f i.args .normal) [] (w.forCall tape i)))
    (contract : ∀ (W : World) (base : Nat) (args : Array Value) (ds gs : List (DataW H)) (before : List MemPlace),
      (∀ (j : Nat) t v, fn.params[j]? = some t → args[j]? = some v → Value.okWide C.prog W .any base t v) →
      DataW.Whole enc C.prog fn.params.toList s.vars apart W args.toList ds gs before →
      W.ShapedOpen C.prog → X W args →
      Calls C.prog f args W fun e W' => ∃ v, e = .returned v ∧ s.post enc C.prog fn apart fresh handsOn again W args v W') :
    ReturnsInHanded a C os f .any (fun w args => (s.pre enc C.prog fn conds apart w args ∧ X w args) ∧ sizedMet enc C.prog fn (OpenSpec.ofChange s) apart w args) (s.post enc C.prog fn apart fresh handsOn again) := by
  refine returnsInHanded_of_calls own started noInit witness ?_
  intro w tape i _ hsh _ hok hpre _
  obtain ⟨_, _, _, fn', hfn', _, _, _, _, hval⟩ := hok
  have e : fn' = fn := Option.some.inj (hfn'.symm.trans hfn)
  subst e
  obtain ⟨⟨⟨ds, gs, before, hw, hc⟩, hx⟩, hz⟩ := hpre
  have hw' := DataW.Whole.of_heap (w' := w.forCall tape i) (by rfl) hw
  refine (contract (w.forCall tape i) w.heap.size i.args ds gs before hval hw' hsh (hX _ _ _ (by rfl) hx)).mono fun e W' ⟨v, he, hp⟩ => ?_
  subst he
  exact ChangeSpec.post_blind hp
end Go.Sx
namespace Go.Sx

/-! ### Data -/

inductive Ty where
  | unit
  | int (k : IntKind)
  | bool
  | str
  | list (t : Ty)
  | pair (a b : Ty)
  deriving DecidableEq

def Ty.T : Ty → Type
  | .unit => Unit
  | .int _ => Int
  | .bool => Bool
  | .str => List UInt8
  | .list t => List t.T
  | .pair a b => a.T × b.T

def Ty.sz : Ty → Nat
  | .unit => 0
  | .pair a b => a.sz + b.sz
  | _ => 1

def Ty.dflt : (t : Ty) → t.T
  | .unit => ()
  | .int _ => (0 : Int)
  | .bool => false
  | .str => ([] : List UInt8)
  | .list _ => []
  | .pair a b => (a.dflt, b.dflt)

inductive SV where
  | undef
  | top
  | int (k : IntKind) (n : Int)
  | bool (b : Bool)
  | str (s : List UInt8)
  | nilS
  | list (t : Ty) (l : List t.T)
  | row (id : Nat)
  | arr (id off n : Nat)
  | ptr (id off : Nat)
  | nilP
  | eptr (t : Ty) (l : List t.T) (i off : Nat)
  | rptr (id sz i off : Nat)
  | agg (cs : List SV)
  | tuple (vs : List SV)
  | fn (f : Nat) (first cap : List SV)
  | raw (v : Value)

def flat : (t : Ty) → t.T → List SV
  | .unit, _ => []
  | .int k, n => [.int k n]
  | .bool, b => [.bool b]
  | .str, s => [.str s]
  | .list t, l => [.list t l]
  | .pair a b, x => flat a x.1 ++ flat b x.2

def unflat : (t : Ty) → List SV → Option (t.T × List SV)
  | .unit, cs => some ((), cs)
  | .int k, cs => match cs with
    | .int k' n :: cs => if k = k' then some (n, cs) else none
    | _ => none
  | .bool, cs => match cs with
    | .bool b :: cs => some (b, cs)
    | _ => none
  | .str, cs => match cs with
    | .str s :: cs => some (s, cs)
    | _ => none
  | .list t, cs => match cs with
    | .list t' l :: cs => if h : t' = t then some (h ▸ l, cs) else none
    | .nilS :: cs => some ([], cs)
    | _ => none
  | .pair a b, cs => match unflat a cs with
    | some (x, cs) => match unflat b cs with
      | some (y, cs) => some ((x, y), cs)
      | none => none
    | none => none

/-- So many elements, one behind the other. -/
def unflatN (t : Ty) : Nat → List SV → Option (List t.T)
  | 0, cs => match cs with
    | [] => some []
    | _ => none
  | n + 1, cs => match unflat t cs with
    | some (x, cs) => match unflatN t n cs with
      | some l => some (x :: l)
      | none => none
    | none => none

inductive Box where
  | cells (cs : List SV)
  | rows (t : Ty) (l : List t.T)
  | iter (s : List UInt8) (pos : Nat)
  | obj (t : TypeId) (cs : List SV)

/-- A table by number: the kernel looks a number up in few steps. -/
inductive Tb (β : Type) where
  | e
  | n (l : Tb β) (v : Option β) (r : Tb β)

/-- Which half. -/
def Tb.pick {γ : Type} (j : Nat) (a b : Nat → γ) : γ := match Nat.beq (j % 2) 0 with
  | true => a (j / 2)
  | false => b (j / 2)

noncomputable def Tb.get {β : Type} (t : Tb β) : Nat → Option β :=
  Tb.rec (motive := fun _ => Nat → Option β) (fun _ => none) (fun _ v _ gl gr i => Nat.casesOn (motive := fun _ => Option β) i v fun j => Tb.pick j gl gr) t

structure Mem where
  next : Nat
  tb : Tb Box

structure Fr where
  size : Nat
  tb : Tb SV

noncomputable def Mem.get (m : Mem) (id : Nat) : Option Box := m.tb.get id
noncomputable def Fr.get (fr : Fr) (t : Nat) : SV := match fr.tb.get t with
  | some v => v
  | none => .undef

/-! ### Plans and trees -/

inductive Plan where
  | all
  | auto
  | lit (p : Plan)
  | fork (t f : Plan)
  | go (p : Plan)
  | stop

inductive Tree (α : Type) where
  | leaf (a : α)
  | node (b : Bool) (t f : Tree α)
  | req (b : Bool) (t : Tree α)
  | fail (code : Nat)

def Tree.holds {α : Type} (L : α → Prop) : Tree α → Prop
  | .leaf a => L a
  | .node b t f => (b = true → t.holds L) ∧ (b = false → f.holds L)
  | .req b t => b = true ∧ t.holds L
  | .fail _ => False

section
variable {α : Type}

def dec (p : Plan) (b : Bool) (k : Bool → Plan → Tree α) : Tree α :=
  match p with
  | .all => .node b (k true .all) (k false .all)
  | .auto => match b with
    | true => k true .auto
    | false => k false .auto
  | .lit p => match b with
    | true => k true p
    | false => k false p
  | .fork pt pf => .node b (k true pt) (k false pf)
  | .go _ => .fail 1
  | .stop => .fail 2

/-! ### Strict helpers -/

def frc (v : SV) (k : SV → Tree α) : Tree α :=
  match v with
  | .undef => k .undef
  | .top => k .top
  | .int i n => k (.int i n)
  | .bool b => k (.bool b)
  | .str s => k (.str s)
  | .nilS => k .nilS
  | .list t l => k (.list t l)
  | .row i => k (.row i)
  | .arr i o n => k (.arr i o n)
  | .ptr i o => k (.ptr i o)
  | .nilP => k .nilP
  | .eptr t l i o => k (.eptr t l i o)
  | .rptr a z i o => k (.rptr a z i o)
  | .agg cs => k (.agg cs)
  | .tuple vs => k (.tuple vs)
  | .fn f a c => k (.fn f a c)
  | .raw v => k (.raw v)

def frcN (n : Nat) (k : Nat → Tree α) : Tree α :=
  match n with
  | 0 => k 0
  | m + 1 => k (m + 1)

/-- All cells forced, one after the other. -/
noncomputable def frcL (l : List SV) : (List SV → Tree α) → Tree α :=
  List.rec (motive := fun _ => (List SV → Tree α) → Tree α) (fun k => k []) (fun x _ ih k => frc x fun x => ih fun xs => k (x :: xs)) l

noncomputable def nth {β : Type} (l : List β) : Nat → Option β :=
  List.rec (motive := fun _ => Nat → Option β) (fun _ => none) (fun x _ ih n => Nat.casesOn (motive := fun _ => Option β) n (some x) ih) l

/-- Entry i of the table is now v (the first number bounds the depth). -/
noncomputable def setT {β : Type} (d : Nat) : Tb β → Nat → Option β → (Tb β → Tree α) → Tree α :=
  Nat.rec (motive := fun _ => Tb β → Nat → Option β → (Tb β → Tree α) → Tree α) (fun _ _ _ _ => .fail 3)
    (fun _ ih t i v k => match t with
      | .e => Nat.casesOn (motive := fun _ => Tree α) i (k (.n .e v .e)) fun j => Tb.pick j (fun i => ih .e i v fun l => k (.n l none .e)) (fun i => ih .e i v fun r => k (.n .e none r))
      | .n l u r => Nat.casesOn (motive := fun _ => Tree α) i (k (.n l v r)) fun j => Tb.pick j (fun i => ih l i v fun l => k (.n l u r)) (fun i => ih r i v fun r => k (.n l u r))) d

noncomputable def Mem.set (m : Mem) (id : Nat) (b : Option Box) (k : Mem → Tree α) : Tree α := setT 40 m.tb id b fun tb => k ⟨m.next, tb⟩

noncomputable def Mem.push (m : Mem) (b : Box) (k : Mem → Nat → Tree α) : Tree α := frcN m.next fun n => setT 40 m.tb n (some b) fun tb => k ⟨n + 1, tb⟩ n

noncomputable def Fr.set (fr : Fr) (t : Nat) (v : SV) (k : Fr → Tree α) : Tree α := match Nat.ble (t + 1) fr.size with
  | true => setT 40 fr.tb t (some v) fun tb => k ⟨fr.size, tb⟩
  | false => .fail 5

/-- The frame of a call. -/
noncomputable def Fr.make (size : Nat) (args : List SV) : (Fr → Tree α) → Tree α :=
  List.rec (motive := fun _ => Nat → Fr → (Fr → Tree α) → Tree α) (fun _ fr k => k fr) (fun x _ ih i fr k => frc x fun x => fr.set i x fun fr => ih (i + 1) fr k) args 0 ⟨size, .e⟩

/-- The cells from 'off' on are these. -/
noncomputable def overK (cs : List SV) : Nat → List SV → (List SV → Tree α) → Tree α :=
  List.rec (motive := fun _ => Nat → List SV → (List SV → Tree α) → Tree α)
    (fun _ vs k => match vs with | [] => k [] | _ :: _ => .fail 6)
    (fun c cs ih off vs k => match vs with
      | [] => k (c :: cs)
      | v :: vs => Nat.casesOn (motive := fun _ => Tree α) off (frc v fun v => ih 0 vs fun ys => k (v :: ys)) fun off => ih off (v :: vs) fun ys => k (c :: ys)) cs

/-- So many cells from 'off' on. -/
noncomputable def takeK (cs : List SV) : Nat → Nat → (List SV → Tree α) → Tree α :=
  List.rec (motive := fun _ => Nat → Nat → (List SV → Tree α) → Tree α)
    (fun _ n k => Nat.casesOn (motive := fun _ => Tree α) n (k []) fun _ => .fail 4)
    (fun c _ ih off n k => Nat.casesOn (motive := fun _ => Tree α) n (k []) fun n => Nat.casesOn (motive := fun _ => Tree α) off (frc c fun c => ih 0 n fun ys => k (c :: ys)) fun off => ih off (n + 1) k) cs

end

def SV.cells : SV → List SV
  | .agg cs => cs
  | v => [v]

/-- Surely a value of one cell. -/
def SV.one : SV → Bool
  | .undef => false
  | .top => false
  | .agg _ => false
  | .tuple _ => false
  | .raw v => match v with
    | .agg _ => false
    | .tuple _ => false
    | _ => true
  | _ => true

noncomputable def all1 (l : List SV) : Bool := List.rec (motive := fun _ => Bool) true (fun x _ ih => match x.one with
  | true => ih
  | false => false) l

def ofLeaf : Value → SV
  | .int k n => .int k n
  | .bool b => .bool b
  | .string s => .str s.data.toList
  | .slice none 0 0 => .nilS
  | .pointer none => .nilP
  | v => .raw v

def ofVal : Value → SV
  | .agg cs => .agg (cs.toList.map ofLeaf)
  | .func (.func f) a c => match a.toList, c.toList with
    | [], [] => .fn f [] []
    | _, _ => .raw (.func (.func f) a c)
  | v => ofLeaf v

/-- Plain leaves as the model has them. -/
def svLeaf : SV → Option Value
  | .int k n => some (.int k n)
  | .bool b => some (.bool b)
  | .str s => some (.string ⟨⟨s⟩⟩)
  | _ => none
def svLeaves : List SV → Option (List Value)
  | [] => some []
  | x :: xs => match svLeaf x, svLeaves xs with
    | some v, some vs => some (v :: vs)
    | _, _ => none
def svVal : SV → Option Value
  | .agg cs => match svLeaves cs with
    | some vs => some (.agg vs.toArray)
    | none => none
  | v => svLeaf v
def isIface : TypeDesc → Bool
  | .interface _ => true
  | _ => false

/-! ### What is known of types and functions -/

structure Row where
  desc : TypeDesc
  size : Nat
  bytes : Nat
  zero : List SV
  ty : Option Ty
  eqg : Bool
  held : Bool

/-- How a call ends: with a value, or with a panic; and the memory that it leaves. -/
inductive Ex where
  | ok (v : SV) (m : Mem)
  | pan (v : SV) (m : Mem)

structure Env where
  row : TypeId → Option Row
  fn : FuncId → Option Func
  sum : FuncId → Option (List SV → Option (Tree SV))
  wr : FuncId → Option (List SV → Mem → Option (Tree (SV × Mem)))
  rd : FuncId → Bool
  pn : FuncId → Option (List SV → Mem → Option (Tree Ex))
  cut : Nat → Bool
  typed : TypeId → Bool := fun _ => false
  lst : FuncId → Bool := fun _ => false
  zv : TypeId → Option Value := fun _ => none
  bx : FuncId → Option (List SV → Box → Option (Tree (Bool × SV × Box))) := fun _ => none

def Row.isAgg (r : Row) : Bool := match r.desc with
  | .struct _ => true
  | .array _ _ => true
  | _ => false

section
variable {α : Type} (E : Env)

abbrev Kont (α : Type) := SV → Plan → Mem → Tree α

/-! ### Operations -/

noncomputable def loadCells (r : Row) (cs : List SV) (off : Nat) (p : Plan) (m : Mem) (κ : Kont α) : Tree α :=
  match r.isAgg with
  | true => takeK cs off r.size fun ys => κ (.agg ys) p m
  | false => match nth cs off with
    | some v => frc v fun v => κ v p m
    | none => .fail 10

noncomputable def opLoad (t : TypeId) (a : SV) (p : Plan) (m : Mem) (κ : Kont α) : Tree α :=
  match E.row t with
  | none => .fail 11
  | some r => match a with
    | .ptr id off => match m.get id with
      | some (.cells cs) => loadCells r cs off p m κ
      | some (.obj _ cs) => loadCells r cs off p m κ
      | _ => .fail 12
    | .eptr u l i off => loadCells r (flat u (l.getD i u.dflt)) off p m κ
    | .rptr id sz i off => match m.get id with
      | some (.rows u l) => match sz == u.sz with
        | true => .req (decide (i < l.length)) (loadCells r (flat u (l.getD i u.dflt)) off p m κ)
        | false => .fail 13
      | _ => .fail 13
    | _ => .fail 14

noncomputable def opStore (t : TypeId) (a v : SV) (p : Plan) (m : Mem) (κ : Kont α) : Tree α :=
  match E.row t with
  | none => .fail 15
  | some r => match r.size == v.cells.length && all1 v.cells with
    | false => .fail 16
    | true => match a with
      | .ptr id off => match m.get id with
        | some (.cells cs) => overK cs off v.cells fun cs => m.set id (some (.cells cs)) fun m => κ .undef p m
        | some (.obj u cs) => overK cs off v.cells fun cs => m.set id (some (.obj u cs)) fun m => κ .undef p m
        | _ => .fail 17
      | .rptr id sz i off => match m.get id with
        | some (.rows u l) => match sz == u.sz with
          | true => .req (decide (i < l.length)) (overK (flat u (l.getD i u.dflt)) off v.cells fun cs => match unflat u cs with
            | some (x, []) => m.set id (some (.rows u (l.set i x))) fun m => κ .undef p m
            | _ => .fail 18)
          | false => .fail 19
        | _ => .fail 19
      | _ => .fail 20

noncomputable def addOff (a : SV) (n : Nat) : Option SV :=
  match a with
  | .ptr id off => some (.ptr id (off + n))
  | .eptr t l i off => some (.eptr t l i (off + n))
  | .rptr id z i off => some (.rptr id z i (off + n))
  | _ => none

noncomputable def opFieldAddr (s : TypeId) (a : SV) (f : Nat) (p : Plan) (m : Mem) (κ : Kont α) : Tree α :=
  match E.row s with
  | some { desc := .struct fs, .. } => match fs[f]? with
    | some fd => match E.row fd.type with
      | some r => match r.size with
        | 0 => .fail 21
        | _ + 1 => match addOff a fd.offset with
          | some v => frc v fun v => κ v p m
          | none => .fail 22
      | none => .fail 23
    | none => .fail 24
  | _ => .fail 25

noncomputable def partOf (t : TypeId) (cs : List SV) (off : Nat) (p : Plan) (m : Mem) (κ : Kont α) : Tree α :=
  match E.row t with
  | some r => loadCells r cs off p m κ
  | none => .fail 26

noncomputable def opField (s : TypeId) (x : SV) (f : Nat) (p : Plan) (m : Mem) (κ : Kont α) : Tree α :=
  match E.row s with
  | some { desc := .struct fs, .. } => match fs[f]?, x with
    | some fd, .agg cs => partOf E fd.type cs fd.offset p m κ
    | _, _ => .fail 27
  | _ => .fail 28

noncomputable def opIndexAddr (t : TypeId) (x ix : SV) (p : Plan) (m : Mem) (κ : Kont α) : Tree α :=
  match ix with
  | .int _ i => match E.row t with
    | some { desc := .slice e, .. } => match x with
      | .list u l => match E.row e with
        | some r => match r.size == u.sz with
          | true => .req (decide (0 ≤ i) && decide (i < l.length)) (κ (.eptr u l i.toNat 0) p m)
          | false => .fail 30
        | none => .fail 31
      | .row id => match m.get id with
        | some (.rows u l) => match E.row e with
          | some r => match r.size == u.sz with
            | true => .req (decide (0 ≤ i) && decide (i < l.length)) (κ (.rptr id u.sz i.toNat 0) p m)
            | false => .fail 32
          | none => .fail 33
        | _ => .fail 34
      | .arr id off n => match E.row e with
        | some r => .req (decide (0 ≤ i) && decide (i < n)) (κ (.ptr id (off + i.toNat * r.size)) p m)
        | none => .fail 35
      | _ => .fail 36
    | some { desc := .array n e, .. } => match E.row e with
      | some r => match addOff x (i.toNat * r.size) with
        | some v => .req (decide (0 ≤ i) && decide (i < n)) (κ v p m)
        | none => .fail 37
      | none => .fail 38
    | _ => .fail 39
  | _ => .fail 40

noncomputable def opIndex (t : TypeId) (x ix : SV) (p : Plan) (m : Mem) (κ : Kont α) : Tree α :=
  match ix with
  | .int _ i => match E.row t with
    | some { desc := .string, .. } => match x with
      | .str s => .req (decide (0 ≤ i) && decide (i < s.length)) (κ (.int .u8 (s.getD i.toNat 0).toNat) p m)
      | _ => .fail 41
    | some { desc := .array n e, .. } => match x with
      | .agg cs => match E.row e with
        | some r => .req (decide (0 ≤ i) && decide (i < n)) (loadCells r cs (i.toNat * r.size) p m κ)
        | none => .fail 42
      | _ => .fail 43
    | _ => .fail 44
  | _ => .fail 45

noncomputable def eqIn.part (t : TypeId) (cs : List SV) (off : Nat) : Option SV := match E.row t with
  | some r => if r.isAgg then (if off + r.size ≤ cs.length then some (.agg ((cs.drop off).take r.size)) else none) else nth cs off
  | none => none

noncomputable def eqIn.go (eq : TypeId → SV → SV → Option Bool) (xs ys : List SV) : List Field → Option Bool
  | [] => some true
  | f :: fs => match eqIn.part E f.type xs f.offset, eqIn.part E f.type ys f.offset with
    | some a, some b => match eq f.type a b, eqIn.go eq xs ys fs with
      | some u, some v => if f.name = "_" then none else some (u && v)
      | _, _ => none
    | _, _ => none

noncomputable def eqIn.goN (eq : TypeId → SV → SV → Option Bool) (e : TypeId) (r : Row) (xs ys : List SV) : Nat → Nat → Option Bool
  | 0, _ => some true
  | n + 1, i => match eqIn.part E e xs (i * r.size), eqIn.part E e ys (i * r.size) with
    | some a, some b => match eq e a b, eqIn.goN eq e r xs ys n (i + 1) with
      | some u, some v => some (u && v)
      | _, _ => none
    | _, _ => none

noncomputable def eqIn : Nat → TypeId → SV → SV → Option Bool
  | 0, _, _, _ => none
  | d + 1, t, x, y => match E.row t with
    | some { desc := .bool, .. } => match x, y with
      | .bool a, .bool b => some (a == b)
      | _, _ => none
    | some { desc := .int _, .. } => match x, y with
      | .int k a, .int k' b => if k = k' then some (a == b) else none
      | _, _ => none
    | some { desc := .string, .. } => match x, y with
      | .str a, .str b => some (a == b)
      | _, _ => none
    | some { desc := .struct fs, held := false, .. } => match x, y with
      | .agg xs, .agg ys => eqIn.go E (eqIn d) xs ys fs.toList
      | _, _ => none
    | some { desc := .array n e, .. } => match x, y, E.row e with
      | .agg xs, .agg ys, some r => eqIn.goN E (eqIn d) e r xs ys n 0
      | _, _, _ => none
    | _ => none

noncomputable def intOp (op : BinOp) (k : IntKind) (a b : Int) : Option SV :=
  match op with
  | .add => some (.int k (k.wrap (a + b)))
  | .sub => some (.int k (k.wrap (a - b)))
  | .mul => some (.int k (k.wrap (a * b)))
  | .and => some (.int k (k.wrap (BitVec.ofInt k.bits a &&& BitVec.ofInt k.bits b).toNat))
  | .or => some (.int k (k.wrap (BitVec.ofInt k.bits a ||| BitVec.ofInt k.bits b).toNat))
  | .xor => some (.int k (k.wrap (BitVec.ofInt k.bits a ^^^ BitVec.ofInt k.bits b).toNat))
  | .andNot => some (.int k (k.wrap (BitVec.ofInt k.bits a &&& ~~~BitVec.ofInt k.bits b).toNat))
  | .eql => some (.bool (a == b))
  | .neq => some (.bool (a != b))
  | .lss => some (.bool (decide (a < b)))
  | .leq => some (.bool (decide (a ≤ b)))
  | .gtr => some (.bool (decide (a > b)))
  | .geq => some (.bool (decide (a ≥ b)))
  | _ => none

noncomputable def strOp (op : BinOp) (a b : List UInt8) : Option SV :=
  match op with
  | .eql => some (.bool (a == b))
  | .neq => some (.bool (!(a == b)))
  | .lss => some (.bool (Op.bytesLess a b))
  | .leq => some (.bool (Op.bytesLess a b || a == b))
  | .gtr => some (.bool (!(Op.bytesLess a b || a == b)))
  | .geq => some (.bool (!(Op.bytesLess a b)))
  | _ => none

/-- A slice against nil: what must hold for it to be known, and the answer. -/
def nilTest : SV → SV → Option (Bool × Bool)
  | .nilS, .nilS => some (true, true)
  | .list _ l, .nilS => some (!l.isEmpty, false)
  | .arr _ _ _, .nilS => some (true, false)
  | .raw v, .nilS => match v with
    | .slice none _ _ => some (true, true)
    | .slice (some _) _ _ => some (true, false)
    | _ => none
  | _, _ => none

noncomputable def opBin (op : BinOp) (t : TypeId) (x y : SV) (p : Plan) (m : Mem) (κ : Kont α) : Tree α :=
  match x, y with
  | .int k a, .int k' b => match op with
    | .shl => .req (decide (0 ≤ b)) (κ (.int k (k.wrap (a * 2 ^ (min b.toNat k.bits)))) p m)
    | .shr => .req (decide (0 ≤ b)) (κ (.int k (a.fdiv (2 ^ (min b.toNat k.bits)))) p m)
    | op => if k = k' then match op with
      | .quo => .req (!(b == 0)) (κ (.int k (k.wrap (a.tdiv b))) p m)
      | .rem => .req (!(b == 0)) (κ (.int k (a.tmod b)) p m)
      | op => match intOp op k a b with
        | some v => κ v p m
        | none => .fail 50
      else .fail 51
  | .str a, .str b => match op with
    | .add => .req (decide (((a.length + b.length : Nat) : Int) ≤ 9223372036854775807)) (κ (.str (a ++ b)) p m)
    | op => match strOp op a b with
      | some v => κ v p m
      | none => .fail 52
  | x, y => match nilTest x y with
    | some rb => match E.row t with
      | some { desc := .slice _, .. } => match op with
        | .eql => .req rb.1 (κ (.bool rb.2) p m)
        | .neq => .req rb.1 (κ (.bool (!rb.2)) p m)
        | _ => .fail 57
      | _ => .fail 58
    | none => match E.row t with
      | some { eqg := false, .. } => match op with
        | .eql => match eqIn E 100 t x y with
          | some b => κ (.bool b) p m
          | none => .fail 53
        | .neq => match eqIn E 100 t x y with
          | some b => κ (.bool (!b)) p m
          | none => .fail 54
        | _ => .fail 55
      | _ => .fail 56

noncomputable def opUn (op : UnOp) (x : SV) (p : Plan) (m : Mem) (κ : Kont α) : Tree α :=
  match op, x with
  | .neg, .int k n => κ (.int k (k.wrap (0 - n))) p m
  | .xor, .int k n => κ (.int k (k.wrap (BitVec.ofInt k.bits (if k.signed then -1 else k.max) ^^^ BitVec.ofInt k.bits n).toNat)) p m
  | .not, .bool b => κ (.bool (!b)) p m
  | _, _ => .fail 60

noncomputable def bytesOf (m : Mem) : SV → Option (List UInt8)
  | .nilS => some []
  | .list (.int .u8) l => some ((l : List Int).map fun n => UInt8.ofNat n.toNat)
  | .row id => match m.get id with
    | some (.rows (.int .u8) l) => some ((l : List Int).map fun n => UInt8.ofNat n.toNat)
    | _ => none
  | .arr id off n => match m.get id with
    | some (.cells cs) => match unflatN (.int .u8) n ((cs.drop off).take (n * (Ty.int .u8).sz)) with
      | some l => some ((l : List Int).map fun n => UInt8.ofNat n.toNat)
      | none => none
    | _ => none
  | _ => none

noncomputable def opConv (src dst : TypeId) (x : SV) (p : Plan) (m : Mem) (κ : Kont α) : Tree α :=
  match E.row src, E.row dst with
  | some rs, some rd => match rs.desc, rd.desc, x with
    | _, .int k, .int _ n => κ (.int k (k.wrap n)) p m
    | _, .string, .str s => κ (.str s) p m
    | .string, .slice e, .str s => match E.row e with
      | some { desc := .int .u8, size := size, .. } => match size == 1 with
        | true => m.push ((.rows (.int .u8) (s.map fun b => (b.toNat : Int)))) fun m id => κ (.row id) p m
        | false => .fail 61
      | _ => .fail 61
    | .slice e, .string, x => match E.row e with
      | some { desc := .int .u8, .. } => match bytesOf m x with
        | some s => κ (.str s) p m
        | none => .fail 62
      | _ => .fail 63
    | _, _, _ => .fail 64
  | _, _ => .fail 65

noncomputable def opExtract (x : SV) (i : Nat) (p : Plan) (m : Mem) (κ : Kont α) : Tree α :=
  match x with
  | .tuple vs => match nth vs i with
    | some v => frc v fun v => κ v p m
    | none => .fail 66
  | _ => .fail 67

/-- A slice expression on a list: the conditions and what is left. -/
def cut {γ : Type} (l : List γ) (lo hi : Option SV) : Option (Bool × List γ) :=
  match lo, hi with
  | none, none => some (true, l)
  | some (.int _ a), none => some (decide (0 ≤ a) && decide (a ≤ l.length), l.drop a.toNat)
  | none, some (.int _ b) => some (decide (0 ≤ b) && decide (b ≤ l.length), l.take b.toNat)
  | some (.int _ a), some (.int _ b) => some (decide (0 ≤ b) && decide (b ≤ l.length) && decide (0 ≤ a) && decide (a ≤ b), (l.take b.toNat).drop a.toNat)
  | _, _ => none

/-- Slices of which an empty one without capacity may be taken. -/
def emptyOk : SV → Bool
  | .nilS => true
  | .list _ _ => true
  | .row _ => true
  | _ => false

noncomputable def opSlice (t : TypeId) (x : SV) (lo hi mx : Option SV) (p : Plan) (m : Mem) (κ : Kont α) : Tree α :=
  match E.row t, mx with
  | some r, none => match r.desc, x with
    | .string, .str s => match cut s lo hi with
      | some bl => .req bl.1 (κ (.str bl.2) p m)
      | none => .fail 70
    | .slice e, .list u xs => match E.row e with
      | some re => match re.size == u.sz with
        | true => match cut xs lo hi with
          | some bl => .req bl.1 (κ (.list u bl.2) p m)
          | none => .fail 71
        | false => .fail 75
      | none => .fail 76
    | .array n e, .ptr id off => match E.row e, lo, hi with
      | some _, none, none => κ (.arr id off n) p m
      | _, _, _ => .fail 72
    | _, _ => .fail 73
  | some r, some mx => match r.desc, lo, hi, mx with
    | .slice e, none, some (.int _ h), .int _ c => match E.row e with
      | some { ty := some u, size := size, .. } => match size == u.sz && emptyOk x with
        | true => .req (h == 0 && c == 0) (m.push (.rows u []) fun m id => κ (.row id) p m)
        | false => .fail 77
      | _ => .fail 78
    | _, _, _, _ => .fail 79
  | _, _ => .fail 74

/-- The elements of a source of append, as data of a type. -/
noncomputable def elemsOf (u : Ty) (m : Mem) : SV → Option (List u.T)
  | .nilS => some []
  | .list t l => if h : t = u then some (h ▸ l) else none
  | .row id => match m.get id with
    | some (.rows t l) => if h : t = u then some (h ▸ l) else none
    | _ => none
  | .arr id off n => match m.get id with
    | some (.cells cs) => unflatN u n ((cs.drop off).take (n * u.sz))
    | _ => none
  | .str s => if h : u = .int .u8 then some (h ▸ (s.map fun b => (b.toNat : Int) : List Int)) else none
  | .raw v => match v with
    | .slice _ 0 _ => some []
    | _ => none
  | _ => none

noncomputable def opAppend (t : TypeId) (s x : SV) (p : Plan) (m : Mem) (κ : Kont α) : Tree α :=
  match E.row t with
  | some { desc := .slice e, .. } => match E.row e with
    | some { ty := some u, bytes := bytes, size := size, .. } => match size == u.sz && Nat.ble 1 bytes with
      | true => match elemsOf u m x with
        | some xs => match s with
          | .nilS => .req (decide (xs.length * bytes ≤ 140737488355328)) (m.push ((.rows u xs)) fun m id => κ (.row id) p m)
          | .row id => match m.get id with
            | some (.rows v l) => if h : v = u then
                .req (decide ((l.length + xs.length) * bytes ≤ 140737488355328)) (m.set id none fun m => m.push ((.rows u ((h ▸ l : List u.T) ++ xs))) fun m id => κ (.row id) p m)
              else .fail 80
            | _ => .fail 81
          | .arr id off n => match elemsOf u m (.arr id off n) with
            | some l => dec p xs.isEmpty fun b p => match b with
              | true => κ (.arr id off n) p m
              | false => .req (decide ((l.length + xs.length) * bytes ≤ 140737488355328)) (m.push (.rows u (l ++ xs)) fun m id => κ (.row id) p m)
            | none => .fail 87
          | _ => .fail 82
        | none => .fail 83
      | false => .fail 84
    | _ => .fail 85
  | _ => .fail 86

noncomputable def lenOf (m : Mem) : SV → Option Nat
  | .nilS => some 0
  | .list _ l => some l.length
  | .row id => match m.get id with
    | some (.rows _ l) => some l.length
    | _ => none
  | .arr _ _ n => some n
  | _ => none

noncomputable def opLen (t : TypeId) (x : SV) (p : Plan) (m : Mem) (κ : Kont α) : Tree α :=
  match E.row t with
  | some r => match r.desc with
    | .array n _ => κ (.int .i64 n) p m
    | .string => match x with
      | .str s => κ (.int .i64 s.length) p m
      | _ => .fail 87
    | .slice _ => match lenOf m x with
      | some n => κ (.int .i64 n) p m
      | none => .fail 88
    | _ => .fail 89
  | none => .fail 90

def maxAll : SV → List SV → Option SV
  | v, [] => some v
  | .int k x, .int _ y :: vs => maxAll (.int k (if y > x then y else x)) vs
  | _, _ => none

def minAll : SV → List SV → Option SV
  | v, [] => some v
  | .int k x, .int _ y :: vs => minAll (.int k (if y < x then y else x)) vs
  | _, _ => none

noncomputable def opBuiltin (b : Builtin) (ts : List TypeId) (vs : List SV) (p : Plan) (m : Mem) (κ : Kont α) : Tree α :=
  match b, ts, vs with
  | .len, [t], [x] => opLen E t x p m κ
  | .append, [t, t1], [s, x] => match E.row t1 with
    | some { desc := .slice _, .. } => opAppend E t s x p m κ
    | some { desc := .string, .. } => opAppend E t s x p m κ
    | _ => .fail 89
  | .max, _, v :: vs => match maxAll v vs with
    | some v => κ v p m
    | none => .fail 91
  | .min, _, v :: vs => match minAll v vs with
    | some v => κ v p m
    | none => .fail 92
  | _, _, _ => .fail 93

noncomputable def fillK (place : Nat → Option (Nat × Nat)) (cs : List SV) (parts : List (Nat × SV)) : (List SV → Tree α) → Tree α :=
  List.rec (motive := fun _ => List SV → (List SV → Tree α) → Tree α) (fun cs k => k cs)
    (fun x _ ih cs k => match place x.1 with
      | some os => match os.2 == x.2.cells.length && all1 x.2.cells && Nat.ble 1 os.2 with
        | true => overK cs os.1 x.2.cells fun cs => ih cs k
        | false => .fail 94
      | none => .fail 95) parts cs

/-- Where the fields of a struct lie. -/
noncomputable def placesOf (fs : List Field) : Option (List (Nat × Nat)) :=
  List.rec (motive := fun _ => Option (List (Nat × Nat))) (some []) (fun f _ ih => match E.row f.type, ih with
    | some r, some l => some ((f.offset, r.size) :: l)
    | _, _ => none) fs

noncomputable def opBuild (t : TypeId) (parts : List (Nat × SV)) (p : Plan) (m : Mem) (κ : Kont α) : Tree α :=
  match E.row t with
  | some r => match r.desc with
    | .struct fs => match placesOf E fs.toList with
      | some pl => fillK (fun i => nth pl i) r.zero parts fun cs => κ (.agg cs) p m
      | none => .fail 95
    | .array _ e => match E.row e with
      | some re => fillK (fun i => some (i * re.size, re.size)) r.zero parts fun cs => κ (.agg cs) p m
      | none => .fail 96
    | _ => .fail 97
  | none => .fail 98

noncomputable def repeatL (z : List SV) : Nat → List SV
  | 0 => []
  | n + 1 => z ++ repeatL z n

noncomputable def opBuildSlice (t : TypeId) (n : Nat) (parts : List (Nat × SV)) (p : Plan) (m : Mem) (κ : Kont α) : Tree α :=
  match E.row t with
  | some { desc := .slice e, .. } => match E.row e with
    | some re => match decide (n * re.size ≤ 1000) && decide (re.zero.length = re.size) with
      | true => fillK (fun i => some (i * re.size, re.size)) (repeatL re.zero n) parts fun cs => m.push ((.cells cs)) fun m id => κ (.arr id 0 n) p m
      | false => .fail 99
    | none => .fail 100
  | _ => .fail 101

noncomputable def opMakeSlice (t : TypeId) (len cap : SV) (p : Plan) (m : Mem) (κ : Kont α) : Tree α :=
  match len, cap with
  | .int .i64 n, .int .i64 c => match E.row t with
    | some { desc := .slice e, .. } => match E.row e with
      | some { ty := some u, bytes := bytes, size := size, .. } => match size == u.sz with
        | true => .req (decide (0 ≤ n) && n == c && decide (bytes * n ≤ 140737488355328) && decide (n ≤ 9223372036854775807)) (m.push ((.rows u (List.replicate n.toNat u.dflt))) fun m id => κ (.row id) p m)
        | false => .fail 102
      | _ => .fail 103
    | _ => .fail 104
  | _, _ => .fail 105

noncomputable def opRange (x : SV) (p : Plan) (m : Mem) (κ : Kont α) : Tree α :=
  match x with
  | .str s => m.push ((.iter s 0)) fun m id => κ (.ptr id 0) p m
  | _ => .fail 106

noncomputable def opNext (x : SV) (p : Plan) (m : Mem) (κ : Kont α) : Tree α :=
  match x with
  | .ptr id 0 => match m.get id with
    | some (.iter s pos) => dec p (decide (pos < s.length)) fun b p => match b with
      | true => m.set id (some (.iter s (pos + (Utf8.decode ⟨⟨s⟩⟩ pos).2))) fun m => κ (.tuple [.bool true, .int .i64 pos, .int .i32 (Utf8.decode ⟨⟨s⟩⟩ pos).1]) p m
      | false => κ (.tuple [.bool false]) p m
    | _ => .fail 107
  | _ => .fail 108

/-- No name of a box is mentioned. -/
noncomputable def SV.data (v : SV) : Bool :=
  SV.rec (motive_1 := fun _ => Bool) (motive_2 := fun _ => Bool) true false (fun _ _ => true) (fun _ => true) (fun _ => true) true (fun _ _ => true) (fun _ => false) (fun _ _ _ => false) (fun _ _ => false) true
    (fun _ _ _ _ => true) (fun _ _ _ _ => false) (fun _ ih => ih) (fun _ ih => ih) (fun _ _ _ a b => match a with | true => b | false => false) (fun _ => true) true (fun _ _ a b => match a with | true => b | false => false) v

noncomputable def dataL (l : List SV) : Bool := List.rec (motive := fun _ => Bool) true (fun x _ ih => match x.data with
  | true => ih
  | false => false) l

/-- The values that a call in a memory of its own hands back: rows become rows of the caller's. -/
noncomputable def adopt1 (v : SV) (mc m : Mem) (k : SV → Mem → Mem → Tree α) : Tree α :=
  match v with
  | .row id => match mc.get id with
    | some (.rows t l) => mc.set id none fun mc => m.push (.rows t l) fun m id => k (.row id) mc m
    | _ => .fail 112
  | v => match v.data with
    | true => k v mc m
    | false => .fail 113

noncomputable def adoptL (vs : List SV) : Mem → Mem → (List SV → Mem → Mem → Tree α) → Tree α :=
  List.rec (motive := fun _ => Mem → Mem → (List SV → Mem → Mem → Tree α) → Tree α) (fun mc m k => k [] mc m)
    (fun x _ ih mc m k => adopt1 x mc m fun v mc m => ih mc m fun vs mc m => k (v :: vs) mc m) vs

noncomputable def adopt (v : SV) (mc m : Mem) (k : SV → Mem → Tree α) : Tree α :=
  match v with
  | .tuple vs => adoptL vs mc m fun vs _ m => k (.tuple vs) m
  | .agg vs => adoptL vs mc m fun vs _ m => k (.agg vs) m
  | v => adopt1 v mc m fun v _ m => k v m

/-- A tree of values, with what follows at each leaf. -/
noncomputable def bindT (m : Mem) (κ : Kont α) : Tree SV → Plan → Tree α
  | .leaf v, p => κ v p m
  | .node b t f, p => dec p b fun b p => match b with
    | true => bindT m κ t p
    | false => bindT m κ f p
  | .req b t, p => .req b (bindT m κ t p)
  | .fail n, _ => .fail n

/-- The same, with the memory that each leaves. -/
noncomputable def bindM (κ : Kont α) : Tree (SV × Mem) → Plan → Tree α
  | .leaf x, p => κ x.1 p x.2
  | .node b t f, p => dec p b fun b p => match b with
    | true => bindM κ t p
    | false => bindM κ f p
  | .req b t, p => .req b (bindM κ t p)
  | .fail n, _ => .fail n

/-- The same, where a panic goes its own way. -/
noncomputable def bindX (κ : Kont α) (esc : SV → Mem → Tree α) : Tree Ex → Plan → Tree α
  | .leaf x, p => match x with
    | .ok v m => κ v p m
    | .pan v m => esc v m
  | .node b t f, p => dec p b fun b p => match b with
    | true => bindX κ esc t p
    | false => bindX κ esc f p
  | .req b t, p => .req b (bindX κ esc t p)
  | .fail n, _ => .fail n

/-- The same, of a function that turns one box of its caller's: nothing but values are let through. -/
noncomputable def bindB (κ : SV → Plan → Box → Tree α) : Tree (Bool × SV × Box) → Plan → Tree α
  | .leaf x, p => match x.1 with
    | false => κ x.2.1 p x.2.2
    | true => .fail 177
  | .node b t f, p => dec p b fun b p => match b with
    | true => bindB κ t p
    | false => bindB κ f p
  | .req b t, p => .req b (bindB κ t p)
  | .fail n, _ => .fail n

abbrev CallK (α : Type) := FuncId → List SV → Plan → Mem → Kont α → Tree α

noncomputable def opCall (call : CallK α) (ev : Operand → SV) (c : Call) (p : Plan) (m : Mem) (κ : Kont α) : Tree α :=
  match c.callee with
  | .builtin b => opBuiltin E b c.argTypes.toList (c.args.toList.map ev) p m κ
  | .value f => match ev f with
    | .fn k first cap => call k (first ++ (c.args.toList.map ev ++ cap)) p m κ
    | _ => .fail 110
  | .invoke _ _ => .fail 111

noncomputable def execOp (call : CallK α) (ev : Operand → SV) (o : Op) (p : Plan) (m : Mem) (κ : Kont α) : Tree α :=
  match o with
  | .move x => frc (ev x) fun v => κ v p m
  | .assign x => frc (ev x) fun v => κ v p m
  | .pick c a b => match ev c with
    | .bool c => dec p c fun c p => frc (match c with | true => ev a | false => ev b) fun v => κ v p m
    | _ => .fail 120
  | .alloc t => match E.row t with
    | some r => match E.typed t with
      | true => frcL r.zero fun z => m.push ((.obj t z)) fun m id => κ (.ptr id 0) p m
      | false => frcL r.zero fun z => m.push ((.cells z)) fun m id => κ (.ptr id 0) p m
    | none => .fail 121
  | .box _ x => match all1 (ev x).cells with
    | true => frcL (ev x).cells fun cs => m.push (.cells cs) fun m id => κ (.ptr id 0) p m
    | false => .fail 125
  | .build t parts => opBuild E t (parts.toList.map fun x => (x.1, ev x.2)) p m κ
  | .buildSlice t n parts => opBuildSlice E t n (parts.toList.map fun x => (x.1, ev x.2)) p m κ
  | .load t a => opLoad E t (ev a) p m κ
  | .store t a x => opStore E t (ev a) (ev x) p m κ
  | .nilCheck x => match ev x with
    | .ptr i o => κ (.ptr i o) p m
    | .eptr t l i o => κ (.eptr t l i o) p m
    | .rptr a z i o => κ (.rptr a z i o) p m
    | .fn f a c => κ (.fn f a c) p m
    | _ => .fail 122
  | .binOp op t x y _ => opBin E op t (ev x) (ev y) p m κ
  | .unOp op _ x => opUn op (ev x) p m κ
  | .convert s d x => opConv E s d (ev x) p m κ
  | .makeFunc (.func f) first cap => κ (.fn f (first.toList.map ev) (cap.toList.map ev)) p m
  | .makeSlice t l c => opMakeSlice E t (ev l) (ev c) p m κ
  | .slice t x lo hi mx => opSlice E t (ev x) (lo.map ev) (hi.map ev) (mx.map ev) p m κ
  | .fieldAddr s x f => opFieldAddr E s (ev x) f p m κ
  | .field s x f => opField E s (ev x) f p m κ
  | .indexAddr t x i => opIndexAddr E t (ev x) (ev i) p m κ
  | .index t x i => opIndex E t (ev x) (ev i) p m κ
  | .range t x => match E.row t with
    | some { desc := .string, .. } => opRange (ev x) p m κ
    | _ => .fail 126
  | .next x true => opNext (ev x) p m κ
  | .extract x i => opExtract (ev x) i p m κ
  | .call c => opCall E call ev c p m κ
  | .makeInterface t x => match E.row t with
    | some r => match isIface r.desc with
      | false => match svVal (ev x) with
        | some v => κ (.raw (.iface t v)) p m
        | none => .fail 127
      | true => .fail 128
    | none => .fail 129
  | .typeAssert x _ t true => match E.row t with
    | some r => match isIface r.desc with
      | false => match ev x with
        | .raw u => match u with
          | .nilIface => match E.zv t with
            | some z => κ (.tuple [ofVal z, .bool false]) p m
            | none => .fail 187
          | .iface t' v => match Nat.beq t' t with
            | true => κ (.tuple [ofVal v, .bool true]) p m
            | false => .fail 182
          | _ => .fail 183
        | _ => .fail 183
      | true => .fail 184
    | none => .fail 185
  | _ => .fail 123

/-! ### Regions -/

noncomputable def evalIn (fr : Fr) : Operand → SV
  | .tmp t => fr.get t
  | .const v => ofVal v
  | .global g => .raw (.pointer (some ⟨g, 0, none⟩))
  | .func f => .fn f [] []

noncomputable def putK (fr : Fr) (d : Option Tmp) (v : SV) (k : Fr → Tree α) : Tree α :=
  match d with
  | some d => fr.set d v k
  | none => k fr

/-- Operations that leave the memory alone. -/
noncomputable def quiet : Op → Bool
  | .move _ | .assign _ | .pick .. | .load .. | .nilCheck _ | .binOp .. | .unOp .. | .fieldAddr .. | .field .. | .indexAddr .. | .index .. | .extract .. | .makeFunc .. | .build .. => true
  | .slice _ _ _ _ none => true
  | .convert _ d _ => match E.row d with
    | some { desc := .slice _, .. } => false
    | some _ => true
    | none => false
  | .call { callee := .builtin .len, .. } => true
  | .call { callee := .builtin .max, .. } => true
  | .call { callee := .builtin .min, .. } => true
  | .call { callee := .value _, .. } => true
  | _ => false

/-- Operations whose meaning has nothing to do with the memory. -/
noncomputable def pureOp : Op → Bool
  | .move _ | .assign _ | .pick .. | .nilCheck _ | .binOp .. | .unOp .. | .fieldAddr .. | .field .. | .index .. | .extract .. | .makeFunc .. | .build .. => true
  | _ => false
/-- Operations that look at the shape of the memory alone. -/
noncomputable def shapeOp : Op → Bool
  | .indexAddr .. => true
  | .call { callee := .builtin .len, .. } => true
  | _ => false
/-- Operations that read, and do the same where there is more to read. -/
noncomputable def upOp : Op → Bool
  | .load .. => true
  | .call { callee := .value _, .. } => true
  | _ => false
noncomputable def isStore : Op → Bool
  | .store .. => true
  | _ => false
noncomputable def isAlloc : Op → Bool
  | .alloc _ => true
  | _ => false
noncomputable def writer (o : Op) : Bool := isStore o || isAlloc o

noncomputable def wetPre (al : Bool) (o : Op) : Bool := quiet E o && (!al || (pureOp o || (shapeOp o || upOp o)))
noncomputable def wetPost (al : Bool) (o : Op) : Bool := pureOp o || (isStore o || (shapeOp o && !al))
/-- A region that may write: first what is quiet, then its first writer (is it an allocation?), then stores and what reads nothing. -/
noncomputable def wetGo (al : Bool) (l : List Oper) : Bool :=
  List.rec (motive := fun _ => Bool) true (fun o os ih => match writer o.op with
    | true => (isAlloc o.op == al) && os.all fun o => wetPost al o.op
    | false => wetPre E al o.op && ih) l
/-- Does an operation wait for operation i, straight or through others? -/
noncomputable def boundTo (all : List Oper) : Nat → Oper → Nat → Bool
  | 0, o, i => o.after.toList.any fun e => Region.binds .any e && Nat.beq e.on i
  | n + 1, o, i => boundTo all n o i || o.after.toList.any fun e => Region.binds .any e && match nth all e.on with
    | some o' => boundTo all n o' i
    | none => false
/-- Each store waits for all ahead of it but what reads nothing. -/
noncomputable def wetPairs (all : List Oper) : Bool :=
  all.zipIdx.all fun oj => !isStore oj.1.op || all.zipIdx.all fun oi => !Nat.blt oi.2 oj.2 || (pureOp oi.1.op || (shapeOp oi.1.op || boundTo all 3 oj.1 oi.2))
noncomputable def wetB (all : List Oper) : Bool := (wetGo E false all || wetGo E true all) && wetPairs all

abbrev OpsK (α : Type) := Plan → Fr → Mem → Tree α

/-- One operation, its guard asked first. -/
noncomputable def oneOp (let_ : Op → Bool) (call : CallK α) (all : List Oper) (o : Oper) (ih : OpsK α) (p : Plan) (fr : Fr) (m : Mem) : Tree α :=
  match o.guard with
  | none => match let_ o.op with
    | true => execOp E call (evalIn fr) o.op p m fun v p m => putK fr o.dst v fun fr => ih p fr m
    | false => .fail 133
  | some jw => match nth all jw.1 with
    | some oj => match oj.dst with
      | some d => match fr.get d with
        | .bool b => dec p b fun b p => fr.set d (.bool b) fun fr => match b == jw.2 with
          | true => match let_ o.op with
            | true => execOp E call (evalIn fr) o.op p m fun v p m => putK fr o.dst v fun fr => ih p fr m
            | false => .fail 133
          | false => putK fr o.dst .undef fun fr => ih p fr m
        | .undef => putK fr o.dst .undef fun fr => ih p fr m
        | _ => .fail 130
      | none => .fail 131
    | none => .fail 132

noncomputable def execOps (let_ : Op → Bool) (call : CallK α) (all ops : List Oper) (k : OpsK α) : OpsK α :=
  List.rec (motive := fun _ => OpsK α) k (fun o _ ih => oneOp E let_ call all o ih) ops

/-- One operation that may panic. -/
noncomputable def oneOpP (call : CallK α) (esc : SV → Fr → Mem → Tree α) (all : List Oper) (o : Oper) (ih : OpsK α) (p : Plan) (fr : Fr) (m : Mem) : Tree α :=
  match o.guard with
  | some _ => oneOp E (fun _ => true) call all o ih p fr m
  | none => match o.op with
    | .panic x => match evalIn fr x with
      | .raw v => match v with
        | .iface t v => esc (.raw (.iface t v)) fr m
        | _ => .fail 171
      | _ => .fail 171
    | .call c => match c.callee with
      | .value g => match g with
        | .func f => match E.pn f with
          | some s => match s (c.args.toList.map (evalIn fr)) m with
            | some t => bindX (fun v p m => putK fr o.dst v fun fr => ih p fr m) (fun v m => esc v fr m) t p
            | none => .fail 172
          | none => oneOp E (fun _ => true) call all o ih p fr m
        | _ => oneOp E (fun _ => true) call all o ih p fr m
      | _ => oneOp E (fun _ => true) call all o ih p fr m
    | _ => oneOp E (fun _ => true) call all o ih p fr m

noncomputable def execOpsP (call : CallK α) (esc : SV → Fr → Mem → Tree α) (all ops : List Oper) (k : OpsK α) : OpsK α :=
  List.rec (motive := fun _ => OpsK α) k (fun o _ ih => oneOpP E call esc all o ih) ops

/-! ### Regions in any order, whose writers wait for one another -/

/-- Rows become data. -/
noncomputable def cellTy (hint : Ty) (cs : List SV) : Ty := match hint with
  | .unit => match cs with
    | .int k _ :: _ => .int k
    | .str _ :: _ => .str
    | .bool _ :: _ => .bool
    | _ => .unit
  | u => u
noncomputable def give1 (hint : Ty) (m : Mem) (v : SV) : SV := match v with
  | .nilS => match hint with
    | .unit => .nilS
    | t => .list t []
  | .row id => match m.get id with
    | some (.rows t l) => .list t l
    | _ => .row id
  | .arr id off n => match m.get id with
    | some (.cells cs) => match unflatN (cellTy hint (cs.drop off)) n ((cs.drop off).take (n * (cellTy hint (cs.drop off)).sz)) with
      | some l => .list (cellTy hint (cs.drop off)) l
      | none => .arr id off n
    | _ => .arr id off n
  | v => v
noncomputable def giveL (hint : Ty) (m : Mem) : List SV → List SV
  | [] => []
  | x :: xs => give1 hint m x :: giveL hint m xs
noncomputable def giveA (hint : Ty) (m : Mem) (v : SV) : SV := match v with
  | .agg cs => .agg (giveL hint m cs)
  | v => give1 hint m v
noncomputable def giveM (hint : Ty) (m : Mem) : List SV → List SV
  | [] => []
  | x :: xs => giveA hint m x :: giveM hint m xs
noncomputable def give (hint : Ty) (m : Mem) (v : SV) : SV := match v with
  | .tuple cs => .tuple (giveM hint m cs)
  | v => giveA hint m v

/-- Operations that may turn the memory. -/
noncomputable def isW : Op → Bool
  | .store .. => true
  | .alloc _ => true
  | .call { callee := .builtin .append, .. } => true
  | .call { callee := .value f, .. } => match f with
    | .func k => (E.sum k).isNone
    | _ => true
  | _ => false
noncomputable def hasW : Op → Bool
  | .call { callee := .value f, .. } => match f with
    | .func k => (E.wr k).isSome
    | _ => false
  | _ => false
noncomputable def hintOf : Op → Ty
  | .buildSlice t _ _ => match E.row t with
    | some { desc := .slice e, .. } => match E.row e with
      | some r => r.ty.getD .unit
      | none => .unit
    | _ => .unit
  | _ => .unit
/-- Each of them waits for those ahead of it. -/
noncomputable def chainB (all : List Oper) : Bool :=
  all.zipIdx.all fun oj => !isW E oj.1.op || all.zipIdx.all fun oi => !Nat.blt oi.2 oj.2 || (!isW E oi.1.op || boundTo all 3 oj.1 oi.2)

noncomputable def oneOpF (call : CallK α) (o : Oper) (ih : OpsK α) (p : Plan) (fr : Fr) (m : Mem) : Tree α :=
  match o.guard with
  | none => match isW E o.op with
    | true => execOp E call (evalIn fr) o.op p m fun v p m => putK fr o.dst v fun fr => ih p fr m
    | false => match pureOp o.op with
      | true => execOp E call (evalIn fr) o.op p m fun v p _ => putK fr o.dst v fun fr => ih p fr m
      | false => match dataL (o.op.operands.toList.map (evalIn fr)) with
        | true => execOp E call (evalIn fr) o.op p ⟨0, .e⟩ fun v p mc => match (give (hintOf E o.op) mc v).data with
          | true => frc (give (hintOf E o.op) mc v) fun v => putK fr o.dst v fun fr => ih p fr m
          | false => .fail 135
        | false => .fail 136
  | some _ => .fail 137
noncomputable def execOpsF (call : CallK α) (ops : List Oper) (k : OpsK α) : OpsK α :=
  List.rec (motive := fun _ => OpsK α) k (fun o _ ih => oneOpF E call o ih) ops

/-! ### Regions in any order, by what each operation reads and writes -/

def idx : List Nat → Nat → Option Nat
  | [], _ => none
  | x :: l, k => match Nat.beq x k with
    | true => some 0
    | false => match idx l k with
      | some j => some (j + 1)
      | none => none

def addId (id : Nat) (l : List Nat) : List Nat := match idx l id with
  | some _ => l
  | none => l ++ [id]
mutual
/-- The boxes that a value names, behind those of the list. -/
def idsV : SV → List Nat → List Nat
  | .row id, l => addId id l
  | .arr id _ _, l => addId id l
  | .ptr id _, l => addId id l
  | .rptr id _ _ _, l => addId id l
  | .agg cs, l => idsL cs l
  | .tuple cs, l => idsL cs l
  | .fn _ a b, l => idsL b (idsL a l)
  | _, l => l
def idsL : List SV → List Nat → List Nat
  | [], l => l
  | x :: xs, l => idsL xs (idsV x l)
end

mutual
/-- Is the box mentioned? -/
def ment (k : Nat) : SV → Bool
  | .row id => Nat.beq id k
  | .arr id _ _ => Nat.beq id k
  | .ptr id _ => Nat.beq id k
  | .rptr id _ _ _ => Nat.beq id k
  | .agg cs => mentL k cs
  | .tuple cs => mentL k cs
  | .fn _ a b => mentL k a || mentL k b
  | _ => false
def mentL (k : Nat) : List SV → Bool
  | [] => false
  | x :: xs => ment k x || mentL k xs
end
def mentB (k : Nat) : Option Box → Bool
  | some (.cells cs) => mentL k cs
  | some (.obj _ cs) => mentL k cs
  | _ => false

mutual
/-- Nothing is mentioned that lies elsewhere, but rows. -/
def noRef : SV → Bool
  | .undef => true
  | .top => true
  | .int _ _ => true
  | .bool _ => true
  | .str _ => true
  | .nilS => true
  | .nilP => true
  | .row _ => true
  | .agg cs => noRefL cs
  | .tuple cs => noRefL cs
  | _ => false
def noRefL : List SV → Bool
  | [] => true
  | x :: xs => noRef x && noRefL xs
end

/-- A type without slices. -/
def Ty.flatT : Ty → Bool
  | .list _ => false
  | .pair a b => a.flatT && b.flatT
  | _ => true
def flatB : Box → Bool
  | .rows t _ => t.flatT
  | _ => false
def Tb.filt {β : Type} (f : β → Bool) : Tb β → Tb β
  | .e => .e
  | .n l v r => .n (l.filt f) (match v with
    | some x => match f x with
      | true => some x
      | false => none
    | none => none) (r.filt f)
/-- The flat rows of a memory. -/
def Mem.flats (m : Mem) : Mem := ⟨m.next, m.tb.filt flatB⟩

/-- A row of the caller's, as data. -/
noncomputable def argR (m : Mem) (v : SV) : SV := match v with
  | .row id => match m.get id with
    | some (.rows t l) => .list t l
    | _ => .row id
  | v => v

/-- These boxes alone. -/
noncomputable def Mem.only (m : Mem) (ids : List Nat) : Mem → (Mem → Tree α) → Tree α :=
  List.rec (motive := fun _ => Mem → (Mem → Tree α) → Tree α) (fun mF k => k mF) (fun id _ ih mF k => match m.get id with
    | some B => mF.set id (some B) fun mF => ih mF k
    | none => ih mF k) ids
/-- These boxes as they are in the other memory. -/
noncomputable def Mem.patch (mF : Mem) (ids : List Nat) : Mem → (Mem → Tree α) → Tree α :=
  List.rec (motive := fun _ => Mem → (Mem → Tree α) → Tree α) (fun m k => k m) (fun id _ ih m k => m.set id (mF.get id) fun m => ih m k) ids

/-- What an operation of a region reads and writes. -/
structure Rec where
  i : Nat
  rd : List Nat
  wt : List Nat
  g : Bool

def hasN (l : List Nat) (k : Nat) : Bool := l.any fun x => Nat.beq x k
def meet (l k : List Nat) : Bool := l.any (hasN k)
def Rec.conf (r s : Rec) : Bool := meet r.wt s.rd || (meet r.wt s.wt || (meet r.rd s.wt || (r.g && s.g)))
noncomputable def okAcc (all : List Oper) (o : Oper) (acc : List Rec) (s : Rec) : Bool := acc.all fun r => !r.conf s || boundTo all 3 o r.i
/-- The new variables of a region: the operation, its box. -/
noncomputable def refsOf (l : List Oper) : Nat → Nat → List (Nat × Nat) :=
  List.rec (motive := fun _ => Nat → Nat → List (Nat × Nat)) (fun _ _ => []) (fun o _ ih i k => match isAlloc o.op with
    | true => (i, k) :: ih (i + 1) (k + 1)
    | false => ih (i + 1) k) l
def idOf (refs : List (Nat × Nat)) (i : Nat) : Option Nat := match refs with
  | [] => none
  | x :: l => match Nat.beq x.1 i with
    | true => some x.2
    | false => idOf l i
noncomputable def okRefs (all : List Oper) (refs : List (Nat × Nat)) (o : Oper) (i : Nat) (v : SV) (wt : List Nat) (bs : List (Option Box)) : Bool :=
  refs.all fun ck => !(ment ck.2 v || (hasN wt ck.2 || bs.any (mentB ck.2))) || (Nat.beq ck.1 i || boundTo all 3 o ck.1)

abbrev OpsT (α : Type) := List Rec → Plan → Fr → Mem → Tree α

noncomputable def footOf (ev : Operand → SV) (o : Op) : List Nat := match o with
  | .store _ a _ => idsV (ev a) []
  | o => idsL (o.operands.toList.map ev) []
noncomputable def isLoad : Op → Bool
  | .load .. => true
  | _ => false
/-- Operations that make rows, or hand rows on. -/
noncomputable def isG : Op → Bool
  | .call { callee := .builtin .append, .. } => true
  | .call { callee := .value f, .. } => match f with
    | .func k => (E.sum k).isNone
    | _ => false
  | _ => false
noncomputable def hasR : Op → Bool
  | .call { callee := .value f, .. } => match f with
    | .func k => E.rd k
    | _ => false
  | _ => false

noncomputable def finT (refs : List (Nat × Nat)) (all : List Oper) (o : Oper) (acc : List Rec) (ih : OpsT α) (v : SV) (p : Plan) (fr : Fr) (mN : Mem) (s : Rec) : Tree α :=
  match okRefs all refs o s.i v s.wt (s.wt.map mN.get) && okAcc all o acc s with
  | true => putK fr o.dst v fun fr => ih (s :: acc) p fr mN
  | false => .fail 165

noncomputable def runT (call callQ callG : CallK α) (refs : List (Nat × Nat)) (all : List Oper) (i : Nat) (o : Oper) (ih : OpsT α) (acc : List Rec) (p : Plan) (fr : Fr) (m : Mem) : Tree α :=
  match isAlloc o.op with
  | true => match o.op with
    | .alloc t => match idOf refs i with
      | some k => match (match o.guard with | none => E.row t | some _ => none) with
        | some r => frcL r.zero fun z => m.set k (some (.cells z)) fun mN => finT refs all o acc ih (.ptr k 0) p fr mN ⟨i, [], [k], false⟩
        | none => .fail 166
      | none => .fail 167
    | _ => .fail 168
  | false => match pureOp o.op || (shapeOp o.op || isLoad o.op) with
    | true => m.only (footOf (evalIn fr) o.op) ⟨m.next, .e⟩ fun mF => execOp E callQ (evalIn fr) o.op p mF fun v p _ => finT refs all o acc ih v p fr m ⟨i, footOf (evalIn fr) o.op, [], false⟩
    | false => match isStore o.op with
      | true => m.only (footOf (evalIn fr) o.op) ⟨m.next, .e⟩ fun mF => execOp E callQ (evalIn fr) o.op p mF fun v p mF' => Mem.patch mF' (footOf (evalIn fr) o.op) m fun mN => finT refs all o acc ih v p fr mN ⟨i, [], footOf (evalIn fr) o.op, false⟩
      | false => match isG E o.op with
        | true => m.only (footOf (evalIn fr) o.op) ⟨m.next, .e⟩ fun mF => execOp E callG (evalIn fr) o.op p mF fun v p mF' => match footOf (evalIn fr) o.op ++ List.range' m.next (mF'.next - m.next) with
          | W => Mem.patch mF' W ⟨mF'.next, m.tb⟩ fun mN => finT refs all o acc ih v p fr mN ⟨i, [], W, true⟩
        | false => match dataL (o.op.operands.toList.map (evalIn fr)) with
          | true => execOp E call (evalIn fr) o.op p ⟨0, .e⟩ fun v p mc => match (give (hintOf E o.op) mc v).data with
            | true => frc (give (hintOf E o.op) mc v) fun v => finT refs all o acc ih v p fr m ⟨i, [], [], false⟩
            | false => .fail 135
          | false => .fail 136

noncomputable def oneOpT (call callQ callG : CallK α) (refs : List (Nat × Nat)) (all : List Oper) (i : Nat) (o : Oper) (ih : OpsT α) (acc : List Rec) (p : Plan) (fr : Fr) (m : Mem) : Tree α :=
  match o.guard with
  | none => runT E call callQ callG refs all i o ih acc p fr m
  | some jw => match nth all jw.1 with
    | some oj => match oj.dst with
      | some d => match fr.get d with
        | .bool b => dec p b fun b p => fr.set d (.bool b) fun fr => match b == jw.2 with
          | true => runT E call callQ callG refs all i o ih acc p fr m
          | false => putK fr o.dst .undef fun fr => ih (⟨i, [], [], false⟩ :: acc) p fr m
        | .undef => putK fr o.dst .undef fun fr => ih (⟨i, [], [], false⟩ :: acc) p fr m
        | _ => .fail 130
      | none => .fail 131
    | none => .fail 132

noncomputable def execOpsT (call callQ callG : CallK α) (refs : List (Nat × Nat)) (all ops : List Oper) (k : OpsK α) : Nat → OpsT α :=
  List.rec (motive := fun _ => Nat → OpsT α) (fun _ _ p fr m => k p fr m) (fun o _ ih i => oneOpT E call callQ callG refs all i o (ih (i + 1))) ops

/-! ### Regions in any order, with a call at their end, or a call that may panic -/

/-- What is called last. -/
noncomputable def isLst : Op → Bool
  | .call { callee := .value f, .. } => match f with
    | .func k => E.lst k
    | _ => false
  | _ => false
/-- Each but the last has one behind it that waits for it. -/
noncomputable def lastB (all : List Oper) : Bool :=
  all.zipIdx.all fun oi => Nat.beq (oi.2 + 1) all.length || all.zipIdx.any fun oj => Nat.blt oi.2 oj.2 && oj.1.after.toList.any fun e => Region.binds .any e && Nat.beq e.on oi.2
noncomputable def execOpsL (callQ call : CallK α) (all ops : List Oper) (k : OpsK α) : OpsK α :=
  List.rec (motive := fun _ => OpsK α) k (fun o rest ih => match rest with
    | [] => oneOp E (fun _ => true) call all o k
    | _ :: _ => oneOp E (quiet E) callQ all o ih) ops

noncomputable def isPn : Op → Bool
  | .call { callee := .value f, .. } => match f with
    | .func k => (E.pn k).isSome
    | _ => false
  | _ => false
/-- The first call that may panic. -/
noncomputable def pnAt (l : List Oper) : Nat → Option Nat :=
  List.rec (motive := fun _ => Nat → Option Nat) (fun _ => none) (fun o _ ih i => match isPn E o.op with
    | true => some i
    | false => ih (i + 1)) l
/-- The operation itself and those that wait for it. -/
noncomputable def waitsOf (c : Nat) (l : List Oper) : Nat → List Nat → List Nat :=
  List.rec (motive := fun _ => Nat → List Nat → List Nat) (fun _ acc => acc) (fun o _ ih i acc => match Nat.beq i c || o.after.toList.any (fun e => Region.binds .any e && hasN acc e.on) with
    | true => ih (i + 1) (i :: acc)
    | false => ih (i + 1) acc) l
/-- The others. -/
noncomputable def execPre (callQ : CallK α) (W : List Nat) (all ops : List Oper) (k : OpsK α) : Nat → OpsK α :=
  List.rec (motive := fun _ => Nat → OpsK α) (fun _ => k) (fun o _ ih i => match hasN W i with
    | true => ih (i + 1)
    | false => oneOp E (quiet E) callQ all o (ih (i + 1))) ops
/-- Nothing is known of these slots. -/
noncomputable def topK (ops : List Oper) : Fr → (Fr → Tree α) → Tree α :=
  List.rec (motive := fun _ => Fr → (Fr → Tree α) → Tree α) (fun fr k => k fr) (fun o _ ih fr k => match o.dst with
    | some d => fr.set d .top fun fr => ih fr k
    | none => ih fr k) ops
noncomputable def pnTree (fr : Fr) (m : Mem) : Op → Option (Tree Ex)
  | .call c => match c.callee with
    | .value g => match g with
      | .func f => match E.pn f with
        | some s => s (c.args.toList.map (evalIn fr)) m
        | none => none
      | _ => none
    | _ => none
  | _ => none

/-! ### Code -/

inductive Out where
  | ret (p : Plan) (fr : Fr) (m : Mem)
  | stop (items : List Item) (fr : Fr) (m : Mem)
  | pan (v : SV) (fr : Fr) (m : Mem)

noncomputable def resOf (m : Mem) (fr : Fr) (r : ResultVar) (k : SV → Tree α) : Tree α :=
  match r with
  | .tmp t => frc (fr.get t) k
  | .cell a t => opLoad E t (fr.get a) .auto m fun v _ _ => k v

noncomputable def resList (m : Mem) (fr : Fr) (rs : List ResultVar) : (List SV → Tree α) → Tree α :=
  List.rec (motive := fun _ => (List SV → Tree α) → Tree α) (fun k => k []) (fun r _ ih k => resOf E m fr r fun v => ih fun vs => k (v :: vs)) rs

noncomputable def results (fn : Func) (m : Mem) (fr : Fr) (k : SV → Tree α) : Tree α :=
  resList E m fr fn.results.toList fun vs => match vs with
    | [v] => k v
    | vs => k (.tuple vs)

abbrev ExecK (α : Type) := List Item → Plan → Fr → Mem → (Out → Tree α) → Tree α

/-- A call whose rows are data of its own memory's, and whose results are made of rows that nothing else mentions. -/
noncomputable def callR (ih : ExecK α) : CallK α := fun f args p m k => match E.fn f with
  | some fn => match fn.body with
    | some body => match fn.name == "runtime.NumGoroutine" with
      | false => match dataL (args.map (argR m)) with
        | true => Fr.make fn.ntmps (args.map (argR m)) fun fr => ih [.code body] p fr ⟨0, .e⟩ fun o => match o with
          | .ret p fr mc => results E fn mc fr fun v => match noRef v with
            | true => adopt v mc.flats m fun v m => k v p m
            | false => .fail 160
          | _ => .fail 142
        | false => .fail 161
      | true => .fail 143
    | none => .fail 144
  | none => .fail 145

/-- A call with data, in a memory of its own. -/
noncomputable def callD (ih : ExecK α) : CallK α := fun f args p m k => match E.fn f with
  | some fn => match fn.body with
    | some body => match fn.name == "runtime.NumGoroutine" with
      | false => match dataL args with
        | true => Fr.make fn.ntmps args fun fr => ih [.code body] p fr ⟨0, .e⟩ fun o => match o with
          | .ret p fr mc => results E fn mc fr fun v => adopt v mc m fun v m => k v p m
          | _ => .fail 142
        | false => .fail 162
      | true => .fail 143
    | none => .fail 144
  | none => .fail 145

/-- Calls that make rows, in regions that draw their order. -/
noncomputable def callG (ih : ExecK α) : CallK α := fun f args p m k => match E.sum f with
  | some _ => .fail 163
  | none => match E.wr f with
    | some _ => .fail 164
    | none => match E.bx f with
      | some s => match args with
        | .ptr id off :: rest => match Nat.beq off 0 with
          | true => match m.get id with
            | some B => match s rest B with
              | some t => bindB (fun v p B' => m.set id (some B') fun m => k v p m) t p
              | none => .fail 178
            | none => .fail 179
          | false => .fail 179
        | _ => .fail 179
      | none => match E.rd f with
        | true => callR E ih f args p m k
        | false => callD E ih f args p m k

/-- A call in place of an operation: where no name of a box goes in, in a memory of its own. -/
noncomputable def callIn (ih : ExecK α) : CallK α := fun f args p m k => match E.sum f with
  | some s => match s args with
    | some t => bindT m k t p
    | none => .fail 141
  | none => match E.wr f with
    | some s => match s args m with
      | some t => bindM k t p
      | none => .fail 155
    | none => match E.rd f with
      | true => callR E ih f args p m k
      | false => match E.fn f with
        | some fn => match fn.body with
          | some body => match fn.name == "runtime.NumGoroutine" with
            | false => match dataL args with
              | true => Fr.make fn.ntmps args fun fr => ih [.code body] p fr ⟨0, .e⟩ fun o => match o with
                | .ret p fr mc => results E fn mc fr fun v => adopt v mc m fun v m => k v p m
                | _ => .fail 142
              | false => Fr.make fn.ntmps args fun fr => ih [.code body] p fr m fun o => match o with
                | .ret p fr m => results E fn m fr fun v => k v p m
                | _ => .fail 142
            | true => .fail 143
          | none => .fail 144
        | none => .fail 145

/-- The same where nothing of the caller's memory may turn. -/
noncomputable def callQ (ih : ExecK α) : CallK α := fun f args p m k => match E.sum f with
  | some s => match s args with
    | some t => bindT m k t p
    | none => .fail 141
  | none => match E.fn f with
    | some fn => match fn.body with
      | some body => match fn.name == "runtime.NumGoroutine" with
        | false => match dataL args with
          | true => Fr.make fn.ntmps args fun fr => ih [.code body] p fr ⟨0, .e⟩ fun o => match o with
            | .ret p fr mc => results E fn mc fr fun v => match v.data with
              | true => k v p m
              | false => .fail 151
            | _ => .fail 142
          | false => .fail 152
        | true => .fail 143
      | none => .fail 144
    | none => .fail 145

noncomputable def tRun (ih : ExecK α) (ops : List Oper) (k : OpsK α) (p : Plan) (fr : Fr) (m : Mem) : Tree α :=
  match refsOf ops 0 m.next with
  | refs => execOpsT E (callIn E ih) (callQ E ih) (callG E ih) refs ops ops k 0 [] p fr ⟨m.next + refs.length, m.tb⟩

noncomputable def codeStep (ih : ExecK α) (c : Code) (k : List Item) (p : Plan) (fr : Fr) (m : Mem) (κ : Out → Tree α) : Tree α :=
  match c with
  | .skip => ih k p fr m κ
  | .label _ => ih k p fr m κ
  | .region id ops draw => match E.cut id with
    | true => κ (.stop (.code (.region id ops draw) :: k) fr m)
    | false => match draw with
      | false => execOpsP E (callIn E ih) (fun v fr m => κ (.pan v fr m)) ops.toList ops.toList (fun p fr m => ih k p fr m κ) p fr m
      | true => match Region.lexB .any ops with
        | true => match ops.toList.any (fun o => isLst E o.op) with
          | true => match lastB ops.toList with
            | true => execOpsL E (callQ E ih) (callIn E ih) ops.toList ops.toList (fun p fr m => ih k p fr m κ) p fr m
            | false => .fail 173
          | false => match pnAt E ops.toList 0 with
            | some c => match nth ops.toList c with
              | some o => match o.guard with
                | none => match waitsOf c ops.toList 0 [] with
                  | W => execPre E (callQ E ih) W ops.toList ops.toList (fun p fr1 _ => match pnTree E fr1 m o.op with
                    | some t => bindX (fun _ p _ => tRun E ih ops.toList (fun p fr m => ih k p fr m κ) p fr m) (fun v m' => topK ops.toList fr fun fr2 => κ (.pan v fr2 m')) t p
                    | none => .fail 175) 0 p fr m
                | some _ => .fail 174
              | none => .fail 174
            | none => match ops.toList.any (fun o => hasW E o.op) with
              | true => match chainB E ops.toList with
                | true => execOpsF E (callIn E ih) ops.toList (fun p fr m => ih k p fr m κ) p fr m
                | false => .fail 133
              | false => match wetB E ops.toList && !ops.toList.any (fun o => hasR E o.op) with
                | true => execOps E (fun o => quiet E o || writer o) (callQ E ih) ops.toList ops.toList (fun p fr m => ih k p fr m κ) p fr m
                | false => tRun E ih ops.toList (fun p fr m => ih k p fr m κ) p fr m
        | false => .fail 146
  | .seq a b => ih (.code a :: .code b :: k) p fr m κ
  | .cond c x y => match evalIn fr c with
    | .bool b => dec p b fun b p => match b with
      | true => ih (.code x :: k) p fr m κ
      | false => ih (.code y :: k) p fr m κ
    | _ => .fail 147
  | .block id b => ih (.code b :: .inBlock id :: k) p fr m κ
  | .scope b => ih (.code b :: .inScope b :: k) p fr m κ
  | .loop b => match p with
    | .go p => ih (.code b :: .inLoop b :: k) p fr m κ
    | .auto => ih (.code b :: .inLoop b :: k) .auto fr m κ
    | _ => κ (.stop (.code (.loop b) :: k) fr m)
  | .exit id => match exitTo id k with
    | some k => ih k p fr m κ
    | none => .fail 148
  | .ret => κ (.ret p fr m)
  | _ => .fail 149

noncomputable def stepIn (ih : ExecK α) : ExecK α := fun items p fr m κ =>
  match items with
  | [] => κ (.ret p fr m)
  | .inBlock _ :: k => ih k p fr m κ
  | .inScope _ :: k => ih k p fr m κ
  | .inLoop b :: k => match p with
    | .go p => ih (.code b :: .inLoop b :: k) p fr m κ
    | .auto => ih (.code b :: .inLoop b :: k) .auto fr m κ
    | _ => κ (.stop (.inLoop b :: k) fr m)
  | .code c :: k => codeStep E ih c k p fr m κ
  | .inRegion ops l :: k => match l with
    | [] => ih k p fr m κ
    | i :: _ => match decide (l = List.range' i (ops.size - i)) with
      | true => execOpsP E (callIn E ih) (fun v fr m => κ (.pan v fr m)) ops.toList (ops.toList.drop i) (fun p fr m => ih k p fr m κ) p fr m
      | false => .fail 186
  | _ => .fail 150

noncomputable def exec (n : Nat) : ExecK α :=
  Nat.rec (motive := fun _ => ExecK α) (fun _ _ _ _ _ => .fail 140) (fun _ ih => stepIn E ih) n

/-- A call from its arguments to its value. -/
noncomputable def execFn (n : Nat) (f : FuncId) (args : List SV) (p : Plan) : Tree (SV × Mem) :=
  match E.fn f with
  | some fn => match fn.body with
    | some body => match fn.name == "runtime.NumGoroutine" with
      | false => Fr.make fn.ntmps args fun fr => exec E n [.code body] p fr ⟨0, .e⟩ fun o => match o with
        | .ret _ fr m => results E fn m fr fun v => .leaf (v, m)
        | _ => .fail 142
      | true => .fail 143
    | none => .fail 144
  | none => .fail 145

end

/-! ### The program's own rows -/

def tyOf.rep (u : Ty) : Nat → Ty
  | 0 => .unit
  | 1 => u
  | n + 1 => .pair u (tyOf.rep u n)

def tyOf.goF (ty : TypeId → Option Ty) : List Field → Option Ty
  | [] => some .unit
  | [f] => ty f.type
  | f :: fs => match ty f.type, tyOf.goF ty fs with
    | some a, some b => some (.pair a b)
    | _, _ => none

/-- A struct or an array is no plain number. -/
def tyOf.one : Option Ty → Option Ty
  | some (.int k) => some (.pair (.int k) .unit)
  | u => u

def tyOf (P : Program) : Nat → TypeId → Option Ty
  | 0, _ => none
  | d + 1, t => match P.underlying t with
    | some .bool => some .bool
    | some (.int k) => some (.int k)
    | some .string => some .str
    | some (.slice e) => match tyOf P d e with
      | some u => some (.list u)
      | none => none
    | some (.struct fs) => tyOf.one (tyOf.goF (tyOf P d) fs.toList)
    | some (.array n e) => match tyOf P d e with
      | some u => tyOf.one (some (tyOf.rep u n))
      | none => none
    | _ => none

/-- Do these cells begin with the type's plain datum? What is left behind it. -/
def dfltChk : Ty → List Value → Option (List Value)
  | .unit, vs => some vs
  | .int k, vs => match vs with
    | .int k' 0 :: vs => if k = k' then some vs else none
    | _ => none
  | .bool, vs => match vs with
    | .bool false :: vs => some vs
    | _ => none
  | .str, vs => match vs with
    | .string ⟨⟨[]⟩⟩ :: vs => some vs
    | _ => none
  | .list _, vs => match vs with
    | .slice none 0 0 :: vs => some vs
    | _ => none
  | .pair a b, vs => match dfltChk a vs with
    | some vs => dfltChk b vs
    | none => none

def tyIf (u : Option Ty) (vs : List Value) : Option Ty :=
  match u with
  | some u => match dfltChk u vs with
    | some [] => some u
    | _ => none
  | none => none

def rowOf (P : Program) (t : TypeId) : Option Row :=
  match P.underlying t, P.info? t with
  | some d, some i => match i.zero with
    | some z => some { desc := d, size := i.size, bytes := i.bytes, zero := z.cells.toList.map ofLeaf, ty := tyIf (tyOf P 20 t) z.cells.toList, eqg := P.eqGuardType P.depth t, held := P.stoodInHeld t }
    | none => none
  | _, _ => none

/-- What is known of a program by itself, with these summaries. -/
noncomputable def Env.of (P : Program) (sum : FuncId → Option (List SV → Option (Tree SV))) : Env :=
  { row := rowOf P, fn := fun f => P.funcs[f]?, sum := sum, wr := fun _ => none, rd := fun _ => false, pn := fun _ => none, cut := fun _ => false }
/-- The same, with functions that turn rows of their caller. -/
noncomputable def Env.ofW (P : Program) (sum : FuncId → Option (List SV → Option (Tree SV))) (wr : FuncId → Option (List SV → Mem → Option (Tree (SV × Mem)))) : Env :=
  { row := rowOf P, fn := fun f => P.funcs[f]?, sum := sum, wr := wr, rd := fun _ => false, pn := fun _ => none, cut := fun _ => false }
/-- The same, with functions that are handed their caller's rows as data. -/
noncomputable def Env.ofR (P : Program) (sum : FuncId → Option (List SV → Option (Tree SV))) (wr : FuncId → Option (List SV → Mem → Option (Tree (SV × Mem)))) (rd : FuncId → Bool) : Env :=
  { row := rowOf P, fn := fun f => P.funcs[f]?, sum := sum, wr := wr, rd := rd, pn := fun _ => none, cut := fun _ => false }
/-- The same, with functions that may panic, and regions ahead of which to stop. -/
noncomputable def Env.ofP (P : Program) (sum : FuncId → Option (List SV → Option (Tree SV))) (wr : FuncId → Option (List SV → Mem → Option (Tree (SV × Mem)))) (pn : FuncId → Option (List SV → Mem → Option (Tree Ex))) (rd : FuncId → Bool) (cut : Nat → Bool) : Env :=
  { row := rowOf P, fn := fun f => P.funcs[f]?, sum := sum, wr := wr, rd := rd, pn := pn, cut := cut }
/-- The same, with types whose boxes keep their type, functions that are called last, and functions that turn one box of their caller's. -/
noncomputable def Env.ofB (P : Program) (sum : FuncId → Option (List SV → Option (Tree SV))) (wr : FuncId → Option (List SV → Mem → Option (Tree (SV × Mem)))) (pn : FuncId → Option (List SV → Mem → Option (Tree Ex))) (bx : FuncId → Option (List SV → Box → Option (Tree (Bool × SV × Box)))) (typed : TypeId → Bool) (lst : FuncId → Bool) (rd : FuncId → Bool) (cut : Nat → Bool) : Env :=
  { row := rowOf P, fn := fun f => P.funcs[f]?, sum := sum, wr := wr, rd := rd, pn := pn, cut := cut, typed := typed, lst := lst, bx := bx, zv := fun t => (P.info? t).bind fun i => i.zero }

end Go.Sx
namespace Go.Sx
open Go.RowKit
def Gnd (w : World) : Prop := w.ShapedOpen Go.Proofs.Tryd.prog
/-- What is known of the element types of rows of bytes. -/
def El8 (e : TypeId) : Prop := Go.Proofs.Tryd.prog.underlying e = some (.int .u8) ∧ Go.Proofs.Tryd.prog.cellsOf e = 1
class ElOK (P : Program) : Prop where
  ok : ∀ e, P.underlying e = some (.int .u8) → P.cellsOf e = 1 → El8 e
instance : ElOK Go.Proofs.Tryd.prog := ⟨fun _ h k => ⟨h, k⟩⟩
theorem Gnd.mono {w w' : World} (h : Gnd w) (hb : Below w.heap.size w w') : Gnd w' :=
  World.ShapedOpen.keptBut (may := fun _ => False) h (hb.frame _) fun _ h => h.elim
end Go.Sx
namespace Go.Sx
theorem tyOf_one {u : Option Ty} {k : IntKind} (h : tyOf.one u = some (.int k)) : False := by
  unfold tyOf.one at h
  split at h
  · cases h
  · rename_i h1
    exact h1 k h
theorem tyOf_u8 {P : Program} {k : IntKind} : ∀ {d : Nat} {t : TypeId}, tyOf P d t = some (.int k) → P.underlying t = some (.int k)
  | 0, t, h => by cases h
  | d + 1, t, h => by
    unfold tyOf at h
    split at h
    all_goals first
      | (cases h; done)
      | (injection h with h; injection h with h; subst h; assumption)
      | exact (tyOf_one h).elim
      | (split at h <;> first | (cases h; done) | exact (tyOf_one h).elim)
theorem tyIf_eq {u : Option Ty} {vs : List Value} {t : Ty} (h : tyIf u vs = some t) : u = some t := by
  unfold tyIf at h
  split at h
  · split at h
    · exact h
    · cases h
  · cases h
theorem rowOf_cells {P : Program} {t : TypeId} {r : Row} (h : rowOf P t = some r) (h1 : r.size = 1) : P.cellsOf t = 1 := by
  unfold rowOf at h
  split at h
  · rename_i d i hd hi
    split at h
    · injection h with h
      subst h
      unfold Program.cellsOf
      rw [hi]
      exact h1
    · cases h
  · cases h
theorem rowOf_u8 {P : Program} [ElOK P] {t : TypeId} {r : Row} (h : rowOf P t = some r) (hk : r.ty = some (.int .u8) ∨ r.desc = .int .u8) (h1 : r.size = 1) : El8 t := by
  refine ElOK.ok (P := P) t ?_ (rowOf_cells h h1)
  unfold rowOf at h
  split at h
  · rename_i d i hd hi
    split at h
    · injection h with h
      subst h
      rcases hk with hk | hk
      · exact tyOf_u8 (tyIf_eq hk)
      · exact hd.trans (congrArg some hk)
    · cases h
  · cases h
end Go.Sx
set_option linter.unusedSimpArgs false
set_option linter.unusedVariables false
namespace Go.Sx
open Go.RowKit

abbrev Rho := Nat → Nat × Nat × Nat

/-- Cells that read as a datum: every block that is looked into is readable. -/
def RepD (R : Nat → Prop) (w : World) : (t : Ty) → t.T → List Value → Prop
  | .unit, _, vs => vs = []
  | .int k, n, vs => vs = [.int k n]
  | .bool, b, vs => vs = [.bool b]
  | .str, s, vs => vs = [.string ⟨⟨s⟩⟩]
  | .list t, l, vs => ∃ (a : Option Addr) (cap : Nat), vs = [.slice a (List.length l) cap] ∧ List.length l ≤ cap ∧
      (0 < List.length l → ∃ b o, a = some ⟨b, o, none⟩ ∧ R b ∧ ∀ i (h : i < List.length l), ∃ cs : List Value, cs.length = t.sz ∧
        (∀ j, j < t.sz → w.cell? ⟨b, o + (i * t.sz + j), none⟩ = cs[j]?) ∧ RepD R w t (List.get l ⟨i, h⟩) cs)
  | .pair a b, x, vs => ∃ v1 v2, vs = v1 ++ v2 ∧ RepD R w a x.1 v1 ∧ RepD R w b x.2 v2

/-- Elements that lie one behind the other. -/
def ElemsAt (R : Nat → Prop) (w : World) (t : Ty) (b o : Nat) (l : List t.T) : Prop :=
  R b ∧ ∀ i (h : i < l.length), ∃ cs : List Value, cs.length = t.sz ∧ (∀ j, j < t.sz → w.cell? ⟨b, o + (i * t.sz + j), none⟩ = cs[j]?) ∧ RepD R w t l[i] cs

mutual
def Rep (R : Nat → Prop) (ρ : Rho) (n : Nat) (w : World) : SV → Value → Prop
  | .undef, v => v = Go.undef
  | .top, _ => True
  | .int k i, v => v = .int k i
  | .bool b, v => v = .bool b
  | .str s, v => v = .string ⟨⟨s⟩⟩
  | .nilS, v => v = .slice none 0 0
  | .list t l, v => RepD R w (.list t) l [v]
  | .row id, v => id < n ∧ ∃ a, v = .slice a (ρ id).2.1 (ρ id).2.2 ∧ (0 < (ρ id).2.2 → a = some ⟨(ρ id).1, 0, none⟩)
  | .arr id off k, v => id < n ∧ v = .slice (some ⟨(ρ id).1, off, none⟩) k k
  | .ptr id off, v => id < n ∧ v = .pointer (some ⟨(ρ id).1, off, none⟩)
  | .nilP, v => v = .pointer none
  | .eptr t l i off, v => ∃ b o, v = .pointer (some ⟨b, o + (i * t.sz + off), none⟩) ∧ i < l.length ∧ ElemsAt R w t b o l
  | .rptr id sz i off, v => id < n ∧ v = .pointer (some ⟨(ρ id).1, i * sz + off, none⟩)
  | .agg cs, v => ∃ vs : List Value, v = .agg ⟨vs⟩ ∧ RepL R ρ n w cs vs
  | .tuple cs, v => ∃ vs : List Value, v = .tuple ⟨vs⟩ ∧ RepL R ρ n w cs vs
  | .fn f first cap, v => ∃ vs us : List Value, v = .func (.func f) ⟨vs⟩ ⟨us⟩ ∧ RepL R ρ n w first vs ∧ RepL R ρ n w cap us
  | .raw u, v => v = u
def RepL (R : Nat → Prop) (ρ : Rho) (n : Nat) (w : World) : List SV → List Value → Prop
  | [], vs => vs = []
  | c :: cs, vs => ∃ u us, vs = u :: us ∧ Rep R ρ n w c u ∧ RepL R ρ n w cs us
end

/-- What is kept: names keep their blocks, readable blocks stay readable and as they were. -/
structure Ext (R : Nat → Prop) (ρ : Rho) (n : Nat) (w : World) (R' : Nat → Prop) (ρ' : Rho) (n' : Nat) (w' : World) : Prop where
  le : n ≤ n'
  same : ∀ id, id < n → ρ' id = ρ id
  keep : ∀ b, R b → R' b ∧ w'.heap[b]? = w.heap[b]?

theorem Ext.refl (R : Nat → Prop) (ρ : Rho) (n : Nat) (w : World) : Ext R ρ n w R ρ n w := ⟨Nat.le_refl _, fun _ _ => rfl, fun _ h => ⟨h, rfl⟩⟩
theorem Ext.trans {R R' R'' : Nat → Prop} {ρ ρ' ρ'' : Rho} {n n' n'' : Nat} {w w' w'' : World} (h : Ext R ρ n w R' ρ' n' w') (k : Ext R' ρ' n' w' R'' ρ'' n'' w'') : Ext R ρ n w R'' ρ'' n'' w'' :=
  ⟨Nat.le_trans h.le k.le, fun id hid => (k.same id (Nat.lt_of_lt_of_le hid h.le)).trans (h.same id hid), fun b hb => let ⟨h1, h2⟩ := h.keep b hb; let ⟨k1, k2⟩ := k.keep b h1; ⟨k1, k2.trans h2⟩⟩

theorem cell_of_heap {w w' : World} {a : Addr} (h : w'.heap[a.block]? = w.heap[a.block]?) : w'.cell? a = w.cell? a := by
  simp only [World.cell?, h]

theorem RepD.mono {R R' : Nat → Prop} {w w' : World} (hk : ∀ b, R b → R' b ∧ w'.heap[b]? = w.heap[b]?) : ∀ (t : Ty) (x : t.T) (vs : List Value), RepD R w t x vs → RepD R' w' t x vs
  | .unit, _, _, h => h
  | .int _, _, _, h => h
  | .bool, _, _, h => h
  | .str, _, _, h => h
  | .list t, l, vs, h => by
    obtain ⟨a, cap, hvs, hc, hi⟩ := h
    refine ⟨a, cap, hvs, hc, fun hp => ?_⟩
    obtain ⟨b, o, ha, hR, he⟩ := hi hp
    refine ⟨b, o, ha, (hk b hR).1, fun i h => ?_⟩
    obtain ⟨cs, h1, h2, h3⟩ := he i h
    exact ⟨cs, h1, fun j hj => (cell_of_heap (a := ⟨b, _, none⟩) (hk b hR).2).trans (h2 j hj), RepD.mono hk t _ _ h3⟩
  | .pair a b, x, vs, h => by
    obtain ⟨v1, v2, hv, h1, h2⟩ := h
    exact ⟨v1, v2, hv, RepD.mono hk a _ _ h1, RepD.mono hk b _ _ h2⟩

theorem ElemsAt.mono {R R' : Nat → Prop} {w w' : World} (hk : ∀ b, R b → R' b ∧ w'.heap[b]? = w.heap[b]?) {t : Ty} {b o : Nat} {l : List t.T} (h : ElemsAt R w t b o l) : ElemsAt R' w' t b o l :=
  ⟨(hk b h.1).1, fun i hi => by
    obtain ⟨cs, h1, h2, h3⟩ := h.2 i hi
    exact ⟨cs, h1, fun j hj => (cell_of_heap (a := ⟨b, _, none⟩) (hk b h.1).2).trans (h2 j hj), RepD.mono hk t _ _ h3⟩⟩

mutual
theorem Rep.mono {R R' : Nat → Prop} {ρ ρ' : Rho} {n n' : Nat} {w w' : World} (e : Ext R ρ n w R' ρ' n' w') : ∀ (x : SV) (v : Value), Rep R ρ n w x v → Rep R' ρ' n' w' x v
  | .undef, _, h => h
  | .top, _, _ => trivial
  | .int _ _, _, h => h
  | .bool _, _, h => h
  | .str _, _, h => h
  | .nilS, _, h => h
  | .list t l, v, h => RepD.mono e.keep (.list t) l [v] h
  | .row id, _, h => ⟨Nat.lt_of_lt_of_le h.1 e.le, by rw [e.same id h.1]; exact h.2⟩
  | .arr id _ _, _, h => ⟨Nat.lt_of_lt_of_le h.1 e.le, by rw [e.same id h.1]; exact h.2⟩
  | .ptr id _, _, h => ⟨Nat.lt_of_lt_of_le h.1 e.le, by rw [e.same id h.1]; exact h.2⟩
  | .nilP, _, h => h
  | .eptr t l i off, v, h => by
    obtain ⟨b, o, h1, h2, h3⟩ := h
    exact ⟨b, o, h1, h2, h3.mono e.keep⟩
  | .rptr id _ _ _, _, h => ⟨Nat.lt_of_lt_of_le h.1 e.le, by rw [e.same id h.1]; exact h.2⟩
  | .agg cs, v, h => by
    obtain ⟨vs, h1, h2⟩ := h
    exact ⟨vs, h1, RepL.mono e cs vs h2⟩
  | .tuple cs, v, h => by
    obtain ⟨vs, h1, h2⟩ := h
    exact ⟨vs, h1, RepL.mono e cs vs h2⟩
  | .fn f first cap, v, h => by
    obtain ⟨vs, us, h1, h2, h3⟩ := h
    exact ⟨vs, us, h1, RepL.mono e first vs h2, RepL.mono e cap us h3⟩
  | .raw _, _, h => h
theorem RepL.mono {R R' : Nat → Prop} {ρ ρ' : Rho} {n n' : Nat} {w w' : World} (e : Ext R ρ n w R' ρ' n' w') : ∀ (xs : List SV) (vs : List Value), RepL R ρ n w xs vs → RepL R' ρ' n' w' xs vs
  | [], _, h => h
  | x :: xs, vs, h => by
    obtain ⟨u, us, h1, h2, h3⟩ := h
    exact ⟨u, us, h1, Rep.mono e x u h2, RepL.mono e xs us h3⟩
end

/-! ### Memory -/

def unfrozen (arr : Array Value) (fr : Nat × Nat) : Prop := ∀ i, i < arr.size → ¬ (fr.1 ≤ i ∧ i < fr.2)
/-- The same, of elements of a type that is known where they are bytes. -/
def unfrozenT (t : Ty) (e : TypeId) (arr : Array Value) (fr : Nat × Nat) : Prop := unfrozen arr fr ∧ (t = .int .u8 → El8 e)

def BoxRel (R : Nat → Prop) (ρ : Rho) (n : Nat) (w : World) (r : Nat × Nat × Nat) : Box → Prop
  | .cells cs => ∃ arr e fr, w.heap[r.1]? = some (.cells arr e fr) ∧ unfrozen arr fr ∧ RepL R ρ n w cs arr.toList
  | .rows t l => l.length = r.2.1 ∧ l.length ≤ r.2.2 ∧ (0 < r.2.2 → ∃ arr e fr, w.heap[r.1]? = some (.cells arr e fr) ∧ unfrozenT t e arr fr ∧ arr.size = r.2.2 * t.sz ∧
      ∀ i (h : i < l.length), ∃ cs : List Value, cs.length = t.sz ∧ (∀ j, j < t.sz → arr[i * t.sz + j]? = cs[j]?) ∧ RepD R w t l[i] cs)
  | .iter s pos => w.heap[r.1]? = some (.stringIter ⟨⟨s⟩⟩ pos)
  | .obj t cs => ∃ arr, w.heap[r.1]? = some (.cells arr t (0, 0)) ∧ RepL R ρ n w cs arr.toList

/-- A box that has a block: all but rows of capacity 0. -/
def solid (r : Nat × Nat × Nat) : Box → Prop
  | .rows _ _ => 0 < r.2.2
  | _ => True

/-- The blocks that may be read as data: what the call was given, and its own blocks that are no box. -/
def RO (w0 : World) (R0 : Nat → Prop) (ρ : Rho) (w : World) (m : Mem) (b : Nat) : Prop :=
  (R0 b ∧ b < w0.heap.size) ∨ (w0.heap.size ≤ b ∧ b < w.heap.size ∧ ∀ id B, m.get id = some B → solid (ρ id) B → (ρ id).1 ≠ b)

/-- As 'Below', from a world of the ground. -/
structure BelowG (B : Nat) (w w' : World) : Prop extends Below B w w' where
  gr : Gnd w
theorem BelowG.trans {B : Nat} {a b c : World} (h : BelowG B a b) (k : Below B b c) : BelowG B a c := ⟨h.toBelow.trans k, h.gr⟩

structure MRel (w0 : World) (R0 : Nat → Prop) (ρ : Rho) (w : World) (m : Mem) : Prop where
  below : BelowG w0.heap.size w0 w
  lt : ∀ id B, m.get id = some B → id < m.next
  lo : ∀ id B, m.get id = some B → solid (ρ id) B → w0.heap.size ≤ (ρ id).1
  hi : ∀ id B, m.get id = some B → solid (ρ id) B → (ρ id).1 < w.heap.size
  inj : ∀ id id' B B', m.get id = some B → m.get id' = some B' → solid (ρ id) B → solid (ρ id') B' → (ρ id).1 = (ρ id').1 → id = id'
  box : ∀ id B, m.get id = some B → BoxRel (RO w0 R0 ρ w m) ρ m.next w (ρ id) B

theorem MRel.gnd {w0 : World} {R0 : Nat → Prop} {ρ : Rho} {w : World} {m : Mem} (h : MRel w0 R0 ρ w m) : Gnd w := h.below.gr.mono h.below.toBelow

abbrev MExt (w0 : World) (R0 : Nat → Prop) (ρ : Rho) (w : World) (m : Mem) (ρ' : Rho) (w' : World) (m' : Mem) : Prop :=
  Ext (RO w0 R0 ρ w m) ρ m.next w (RO w0 R0 ρ' w' m') ρ' m'.next w'

theorem BoxRel.mono {R R' : Nat → Prop} {ρ ρ' : Rho} {n n' : Nat} {w w' : World} (e : Ext R ρ n w R' ρ' n' w') {r : Nat × Nat × Nat} (B : Box) (hh : solid r B → w'.heap[r.1]? = w.heap[r.1]?) (h : BoxRel R ρ n w r B) : BoxRel R' ρ' n' w' r B := by
  cases B with
  | cells cs =>
    obtain ⟨arr, el, fr, h1, h2, h3⟩ := h
    exact ⟨arr, el, fr, (hh trivial).trans h1, h2, RepL.mono e _ _ h3⟩
  | rows t l =>
    obtain ⟨h0, h0', hp⟩ := h
    refine ⟨h0, h0', fun hc => ?_⟩
    obtain ⟨arr, el, fr, h1, h2, h3, h4⟩ := hp hc
    refine ⟨arr, el, fr, (hh hc).trans h1, h2, h3, fun i hi => ?_⟩
    obtain ⟨cs, k1, k2, k3⟩ := h4 i hi
    exact ⟨cs, k1, k2, RepD.mono e.keep _ _ _ k3⟩
  | iter s pos => exact (hh trivial).trans h
  | obj t cs =>
    obtain ⟨arr, h1, h3⟩ := h
    exact ⟨arr, (hh trivial).trans h1, RepL.mono e _ _ h3⟩

/-! ### Tables -/

section
variable {β : Type}
theorem Tb.get_e (i : Nat) : (Tb.e : Tb β).get i = none := rfl
theorem Tb.get_n_zero (l : Tb β) (v : Option β) (r : Tb β) : (Tb.n l v r).get 0 = v := rfl
theorem Tb.get_n_succ (l : Tb β) (v : Option β) (r : Tb β) (j : Nat) : (Tb.n l v r).get (j + 1) = Tb.pick j l.get r.get := rfl
theorem Tb.pick_even {γ : Type} {j : Nat} (h : j % 2 = 0) (a b : Nat → γ) : Tb.pick j a b = a (j / 2) := by simp [Tb.pick, h]
theorem Tb.pick_odd {γ : Type} {j : Nat} (h : ¬ j % 2 = 0) (a b : Nat → γ) : Tb.pick j a b = b (j / 2) := by
  have : Nat.beq (j % 2) 0 = false := by
    rw [← Bool.not_eq_true, Nat.beq_eq]; exact h
  simp [Tb.pick, this]

/-- What a strict store into a table leaves. -/
def TbSet (t : Tb β) (i : Nat) (v : Option β) (t' : Tb β) : Prop := ∀ k, t'.get k = if k = i then v else t.get k

theorem holds_setT {α : Type} {L : α → Prop} : ∀ (d : Nat) (t : Tb β) (i : Nat) (v : Option β) (k : Tb β → Tree α), (setT d t i v k).holds L → ∃ t', TbSet t i v t' ∧ (k t').holds L
  | 0, _, _, _, _, h => h.elim
  | d + 1, .e, 0, v, k, h => ⟨_, fun j => by cases j with
      | zero => simp [Tb.get_n_zero]
      | succ j => rw [Tb.get_n_succ]; by_cases hj : j % 2 = 0 <;> simp [Tb.pick_even, Tb.pick_odd, hj, Tb.get_e], h⟩
  | d + 1, .n l u r, 0, v, k, h => ⟨_, fun j => by cases j with
      | zero => simp [Tb.get_n_zero]
      | succ j => simp [Tb.get_n_succ], h⟩
  | d + 1, .e, i + 1, v, k, h => by
    change (Tb.pick i (fun i => setT d .e i v fun l => k (.n l none .e)) (fun i => setT d .e i v fun r => k (.n .e none r))).holds L at h
    by_cases hi : i % 2 = 0
    · rw [Tb.pick_even hi] at h
      obtain ⟨t', h1, h2⟩ := holds_setT d _ _ _ _ h
      refine ⟨_, fun j => ?_, h2⟩
      cases j with
      | zero => simp [Tb.get_n_zero, Tb.get_e]
      | succ j =>
        rw [Tb.get_n_succ]
        by_cases hj : j % 2 = 0
        · rw [Tb.pick_even hj, h1 (j / 2), Tb.get_e, Tb.get_e]
          have : j / 2 = i / 2 ↔ j + 1 = i + 1 := by omega
          simp [this]
        · rw [Tb.pick_odd hj, Tb.get_e, Tb.get_e, if_neg (by omega)]
    · rw [Tb.pick_odd hi] at h
      obtain ⟨t', h1, h2⟩ := holds_setT d _ _ _ _ h
      refine ⟨_, fun j => ?_, h2⟩
      cases j with
      | zero => simp [Tb.get_n_zero, Tb.get_e]
      | succ j =>
        rw [Tb.get_n_succ]
        by_cases hj : j % 2 = 0
        · rw [Tb.pick_even hj, Tb.get_e, Tb.get_e, if_neg (by omega)]
        · rw [Tb.pick_odd hj, h1 (j / 2), Tb.get_e, Tb.get_e]
          have : j / 2 = i / 2 ↔ j + 1 = i + 1 := by omega
          simp [this]
  | d + 1, .n l u r, i + 1, v, k, h => by
    change (Tb.pick i (fun i => setT d l i v fun l => k (.n l u r)) (fun i => setT d r i v fun r => k (.n l u r))).holds L at h
    by_cases hi : i % 2 = 0
    · rw [Tb.pick_even hi] at h
      obtain ⟨t', h1, h2⟩ := holds_setT d _ _ _ _ h
      refine ⟨_, fun j => ?_, h2⟩
      cases j with
      | zero => simp [Tb.get_n_zero]
      | succ j =>
        rw [Tb.get_n_succ, Tb.get_n_succ]
        by_cases hj : j % 2 = 0
        · rw [Tb.pick_even hj, Tb.pick_even hj, h1 (j / 2)]
          have : j / 2 = i / 2 ↔ j + 1 = i + 1 := by omega
          simp [this]
        · rw [Tb.pick_odd hj, Tb.pick_odd hj, if_neg (by omega)]
    · rw [Tb.pick_odd hi] at h
      obtain ⟨t', h1, h2⟩ := holds_setT d _ _ _ _ h
      refine ⟨_, fun j => ?_, h2⟩
      cases j with
      | zero => simp [Tb.get_n_zero]
      | succ j =>
        rw [Tb.get_n_succ, Tb.get_n_succ]
        by_cases hj : j % 2 = 0
        · rw [Tb.pick_even hj, Tb.pick_even hj, if_neg (by omega)]
        · rw [Tb.pick_odd hj, Tb.pick_odd hj, h1 (j / 2)]
          have : j / 2 = i / 2 ↔ j + 1 = i + 1 := by omega
          simp [this]
end

/-! ### The strict helpers are what they say -/

section
variable {α : Type} {L : α → Prop}

theorem frc_eq (v : SV) (k : SV → Tree α) : frc v k = k v := by cases v <;> rfl
theorem frcN_eq (n : Nat) (k : Nat → Tree α) : frcN n k = k n := by cases n <;> rfl
theorem frcL_eq : ∀ (l : List SV) (k : List SV → Tree α), frcL l k = k l
  | [], _ => rfl
  | x :: xs, k => by
    change frc x (fun x => frcL xs fun xs => k (x :: xs)) = _
    rw [frc_eq, frcL_eq xs]
theorem nth_eq {β : Type} : ∀ (l : List β) (n : Nat), nth l n = l[n]?
  | [], n => by simp [nth]
  | x :: xs, 0 => rfl
  | x :: xs, n + 1 => by
    change nth xs n = _
    rw [nth_eq xs n]; simp

theorem dec_holds {p : Plan} {b : Bool} {k : Bool → Plan → Tree α} (h : (dec p b k).holds L) : ∃ p', (k b p').holds L := by
  cases p with
  | all => cases b with
    | false => exact ⟨_, h.2 rfl⟩
    | true => exact ⟨_, h.1 rfl⟩
  | fork pt pf => cases b with
    | false => exact ⟨_, h.2 rfl⟩
    | true => exact ⟨_, h.1 rfl⟩
  | auto => cases b <;> exact ⟨_, h⟩
  | lit p => cases b <;> exact ⟨_, h⟩
  | go p => exact h.elim
  | stop => exact h.elim

/-- What stands where the cells from 'off' on are these. -/
def over (cs : List SV) (off : Nat) (vs : List SV) : List SV := cs.take off ++ vs ++ cs.drop (off + vs.length)

theorem overK_holds : ∀ (cs : List SV) (off : Nat) (vs : List SV) (k : List SV → Tree α), (overK cs off vs k).holds L → (vs = [] ∧ (k cs).holds L) ∨ (off + vs.length ≤ cs.length ∧ (k (over cs off vs)).holds L)
  | [], off, [], k, h => .inl ⟨rfl, h⟩
  | [], off, _ :: _, k, h => h.elim
  | c :: cs, off, [], k, h => .inl ⟨rfl, h⟩
  | c :: cs, 0, v :: vs, k, h => by
    change (frc v fun v => overK cs 0 vs fun ys => k (v :: ys)).holds L at h
    rw [frc_eq] at h
    rcases overK_holds cs 0 vs _ h with ⟨rfl, h1⟩ | ⟨h1, h2⟩
    · exact .inr ⟨by simp, by simpa [over] using h1⟩
    · exact .inr ⟨by simp at h1 ⊢; omega, by simpa [over, Nat.add_comm] using h2⟩
  | c :: cs, off + 1, v :: vs, k, h => by
    change (overK cs off (v :: vs) fun ys => k (c :: ys)).holds L at h
    rcases overK_holds cs off (v :: vs) _ h with ⟨h0, _⟩ | ⟨h1, h2⟩
    · cases h0
    · refine .inr ⟨by simp at h1 ⊢; omega, ?_⟩
      have e : over (c :: cs) (off + 1) (v :: vs) = c :: over cs off (v :: vs) := by
        unfold over
        rw [show off + 1 + (v :: vs).length = (off + (v :: vs).length) + 1 from by omega]
        simp only [List.take_succ_cons, List.drop_succ_cons, List.cons_append]
      rw [e]; exact h2

theorem takeK_holds : ∀ (cs : List SV) (off n : Nat) (k : List SV → Tree α), (takeK cs off n k).holds L → (n = 0 ∧ (k []).holds L) ∨ (off + n ≤ cs.length ∧ (k ((cs.drop off).take n)).holds L)
  | [], off, 0, k, h => .inl ⟨rfl, h⟩
  | [], off, n + 1, k, h => h.elim
  | c :: cs, off, 0, k, h => .inl ⟨rfl, h⟩
  | c :: cs, 0, n + 1, k, h => by
    change (frc c fun c => takeK cs 0 n fun ys => k (c :: ys)).holds L at h
    rw [frc_eq] at h
    rcases takeK_holds cs 0 n _ h with ⟨rfl, h1⟩ | ⟨h1, h2⟩
    · exact .inr ⟨by simp, by simpa using h1⟩
    · exact .inr ⟨by simp at h1 ⊢; omega, by simpa using h2⟩
  | c :: cs, off + 1, n + 1, k, h => by
    change (takeK cs off (n + 1) k).holds L at h
    rcases takeK_holds cs off (n + 1) _ h with ⟨h0, _⟩ | ⟨h1, h2⟩
    · cases h0
    · exact .inr ⟨by simp at h1 ⊢; omega, by simpa using h2⟩
end
end Go.Sx
set_option linter.unusedSimpArgs false
set_option linter.unusedVariables false
namespace Go.Sx
open Go.RowKit

theorem MRel.size_le {w0 : World} {R0 : Nat → Prop} {ρ : Rho} {w : World} {m : Mem} (h : MRel w0 R0 ρ w m) : w0.heap.size ≤ w.heap.size := h.below.size
theorem MRel.ro_lt {w0 : World} {R0 : Nat → Prop} {ρ : Rho} {w : World} {m : Mem} (h : MRel w0 R0 ρ w m) {b : Nat} (hb : RO w0 R0 ρ w m b) : b < w.heap.size := by
  rcases hb with ⟨_, h1⟩ | ⟨_, h1, _⟩
  · have := h.size_le; omega
  · exact h1
theorem MRel.ro_ne {w0 : World} {R0 : Nat → Prop} {ρ : Rho} {w : World} {m : Mem} (h : MRel w0 R0 ρ w m) {b id : Nat} {B : Box} (hb : RO w0 R0 ρ w m b) (hid : m.get id = some B) (hs : solid (ρ id) B) : (ρ id).1 ≠ b := by
  rcases hb with ⟨_, h1⟩ | ⟨_, _, h1⟩
  · have := h.lo id B hid hs; omega
  · exact h1 id B hid hs

/-- A world with the same heap (a draw, say). -/
theorem MRel.sameHeap {w0 : World} {R0 : Nat → Prop} {ρ : Rho} {w w' : World} {m : Mem} (h : MRel w0 R0 ρ w m) (hh : w'.heap = w.heap) (ho : w'.os = w.os) (ht : w'.tape = w.tape) (hp : w'.output = w.output) :
    MRel w0 R0 ρ w' m ∧ MExt w0 R0 ρ w m ρ w' m := by
  have hro : ∀ b, RO w0 R0 ρ w' m b ↔ RO w0 R0 ρ w m b := fun b => by simp only [RO, hh]
  have e : MExt w0 R0 ρ w m ρ w' m := ⟨Nat.le_refl _, fun _ _ => rfl, fun b hb => ⟨(hro b).2 hb, by rw [hh]⟩⟩
  refine ⟨⟨⟨⟨by rw [ho, h.below.os], by rw [ht, h.below.tape], by rw [hp, h.below.output], by rw [hh]; exact h.below.size, fun k hk => by rw [hh]; exact h.below.block k hk⟩, h.below.gr⟩, h.lt, h.lo, by rw [hh]; exact h.hi, h.inj, fun id B hB => ?_⟩, e⟩
  exact BoxRel.mono e B (fun _ => by rw [hh]) (h.box id B hB)

theorem MRel.drew {w0 : World} {R0 : Nat → Prop} {ρ : Rho} {w : World} {m : Mem} (h : MRel w0 R0 ρ w m) : MRel w0 R0 ρ w.drew m ∧ MExt w0 R0 ρ w m ρ w.drew m := h.sameHeap rfl rfl rfl rfl

def upd (ρ : Rho) (id : Nat) (r : Nat × Nat × Nat) : Rho := fun k => if k = id then r else ρ k
theorem upd_same (ρ : Rho) (id : Nat) (r : Nat × Nat × Nat) : upd ρ id r id = r := by simp [upd]
theorem upd_other (ρ : Rho) {id k : Nat} (r : Nat × Nat × Nat) (h : k ≠ id) : upd ρ id r k = ρ k := by simp [upd, h]

/-- A table with one entry turned. -/
def MSet (m : Mem) (id : Nat) (b : Option Box) (m' : Mem) : Prop := (∀ k, m'.get k = if k = id then b else m.get k) ∧ m'.next = m.next
def MPush (m : Mem) (B : Box) (m' : Mem) : Prop := (∀ k, m'.get k = if k = m.next then some B else m.get k) ∧ m'.next = m.next + 1

/-- All that is there is there. -/
def Up (m m2 : Mem) : Prop := ∀ id B, m.get id = some B → m2.get id = some B
theorem Up.refl (m : Mem) : Up m m := fun _ _ h => h
def Box.like : Box → Box → Prop
  | .cells a, .cells b => a.length = b.length
  | .rows u l, .rows u' l' => u = u' ∧ l.length = l'.length
  | .iter _ _, .iter _ _ => True
  | .obj t a, .obj u b => t = u ∧ a.length = b.length
  | _, _ => False
theorem Box.like_refl : ∀ B : Box, B.like B
  | .cells _ => rfl
  | .rows _ _ => ⟨rfl, rfl⟩
  | .iter _ _ => trivial
  | .obj _ _ => ⟨rfl, rfl⟩
theorem Box.like_symm : ∀ {B C : Box}, B.like C → C.like B
  | .cells _, .cells _, h => Eq.symm h
  | .rows _ _, .rows _ _, h => ⟨h.1.symm, h.2.symm⟩
  | .iter _ _, .iter _ _, _ => trivial
  | .obj _ _, .obj _ _, h => ⟨h.1.symm, h.2.symm⟩
theorem Box.like_trans : ∀ {B C D : Box}, B.like C → C.like D → B.like D
  | .cells _, .cells _, .cells _, h, k => Eq.trans h k
  | .rows _ _, .rows _ _, .rows _ _, h, k => ⟨h.1.trans k.1, h.2.trans k.2⟩
  | .iter _ _, .iter _ _, .iter _ _, _, _ => trivial
  | .obj _ _, .obj _ _, .obj _ _, h, k => ⟨h.1.trans k.1, h.2.trans k.2⟩
/-- All that is there is there in the same shape. -/
def Shape (m m2 : Mem) : Prop := ∀ id B, m.get id = some B → ∃ B', m2.get id = some B' ∧ B.like B'
theorem Shape.refl (m : Mem) : Shape m m := fun _ B h => ⟨B, h, B.like_refl⟩
theorem Shape.trans {m m1 m2 : Mem} (h : Shape m m1) (k : Shape m1 m2) : Shape m m2 := fun id B hb => by
  obtain ⟨C, h1, h2⟩ := h id B hb
  obtain ⟨D, k1, k2⟩ := k id C h1
  exact ⟨D, k1, Box.like_trans h2 k2⟩
theorem Up.shape {m m2 : Mem} (h : Up m m2) : Shape m m2 := fun id B hb => ⟨B, h id B hb, B.like_refl⟩
theorem MSet.shape {m m' : Mem} {id : Nat} {B C : Box} (hg : m.get id = some B) (h : MSet m id (some C) m') (hl : B.like C) : Shape m m' ∧ Shape m' m := by
  refine ⟨fun k D hk => ?_, fun k D hk => ?_⟩
  · rw [h.1 k]
    by_cases hki : k = id
    · subst hki; rw [hg] at hk; injection hk with hk; subst hk; exact ⟨C, by simp, hl⟩
    · exact ⟨D, by rw [if_neg hki]; exact hk, D.like_refl⟩
  · rw [h.1 k] at hk
    by_cases hki : k = id
    · subst hki; simp at hk; subst hk; exact ⟨B, hg, Box.like_symm hl⟩
    · rw [if_neg hki] at hk; exact ⟨D, hk, D.like_refl⟩
theorem MPush.up {m m' : Mem} {B : Box} (h : MPush m B m') (hn : m.get m.next = none) : Up m m' := fun k D hk => by
  rw [h.1 k]
  by_cases hki : k = m.next
  · subst hki; rw [hn] at hk; cases hk
  · rw [if_neg hki]; exact hk

theorem Mem.set_holds {α : Type} {L : α → Prop} {m : Mem} {id : Nat} {b : Option Box} {k : Mem → Tree α} (h : (m.set id b k).holds L) : ∃ m', MSet m id b m' ∧ (k m').holds L := by
  obtain ⟨t', h1, h2⟩ := holds_setT _ _ _ _ _ h
  exact ⟨⟨m.next, t'⟩, ⟨h1, rfl⟩, h2⟩
theorem Mem.push_holds {α : Type} {L : α → Prop} {m : Mem} {B : Box} {k : Mem → Nat → Tree α} (h : (m.push B k).holds L) : ∃ m', MPush m B m' ∧ (k m' m.next).holds L := by
  unfold Mem.push at h
  rw [frcN_eq] at h
  obtain ⟨t', h1, h2⟩ := holds_setT _ _ _ _ _ h
  exact ⟨⟨m.next + 1, t'⟩, ⟨h1, rfl⟩, h2⟩

theorem MRel.fresh {w0 : World} {R0 : Nat → Prop} {ρ : Rho} {w : World} {m : Mem} (h : MRel w0 R0 ρ w m) : m.get m.next = none := by
  cases hg : m.get m.next with
  | none => rfl
  | some B => exact absurd (h.lt _ B hg) (Nat.lt_irrefl _)

/-- A new box: in a block that no box has and that no datum is read from (a new one, as a rule), or without a block. -/
theorem MRel.push {w0 : World} {R0 : Nat → Prop} {ρ : Rho} {w w' : World} {m m' : Mem} {B : Box} {r : Nat × Nat × Nat} (h : MRel w0 R0 ρ w m) (hm : MPush m B m')
    (hos : w'.os = w.os) (ht : w'.tape = w.tape) (hp : w'.output = w.output) (hsz : w.heap.size ≤ w'.heap.size) (hold : ∀ k, k < w.heap.size → w'.heap[k]? = w.heap[k]?)
    (hs : solid r B → w.heap.size ≤ r.1 ∧ r.1 < w'.heap.size)
    (hB : ∀ R n ρ', Ext (RO w0 R0 ρ w m) ρ m.next w R ρ' n w' → BoxRel R ρ' n w' r B) :
    MRel w0 R0 (upd ρ m.next r) w' m' ∧ MExt w0 R0 ρ w m (upd ρ m.next r) w' m' := by
  have hle := h.size_le
  have hg : ∀ k C, m'.get k = some C → (k = m.next ∧ C = B) ∨ (k ≠ m.next ∧ m.get k = some C) := fun k C hk => by
    rw [hm.1 k] at hk
    by_cases e : k = m.next
    · rw [if_pos e] at hk; exact .inl ⟨e, by injection hk with hk; exact hk.symm⟩
    · rw [if_neg e] at hk; exact .inr ⟨e, hk⟩
  have e : MExt w0 R0 ρ w m (upd ρ m.next r) w' m' := by
    refine ⟨by rw [hm.2]; omega, fun id hid => upd_other _ _ (by omega), fun b hb => ⟨?_, hold b (h.ro_lt hb)⟩⟩
    have hlt := h.ro_lt hb
    rcases hb with hb | ⟨h1, h2, h3⟩
    · exact .inl hb
    · refine .inr ⟨h1, by omega, fun id C hid hsol => ?_⟩
      rcases hg id C hid with ⟨rfl, rfl⟩ | ⟨hne, hk⟩
      · rw [upd_same] at hsol ⊢; have := (hs hsol).1; omega
      · rw [upd_other _ _ hne] at hsol ⊢; exact h3 id C hk hsol
  refine ⟨⟨h.below.trans ⟨hos, ht, hp, hsz, fun k hk => hold k (by omega)⟩, fun id C hid => ?_, fun id C hid hsol => ?_, fun id C hid hsol => ?_, fun id id' C C' hid hid' hs1 hs2 he => ?_, fun id C hid => ?_⟩, e⟩
  · rw [hm.2]
    rcases hg id C hid with ⟨rfl, _⟩ | ⟨_, hk⟩
    · omega
    · have := h.lt id C hk; omega
  · rcases hg id C hid with ⟨rfl, rfl⟩ | ⟨hne, hk⟩
    · rw [upd_same] at hsol ⊢; have := (hs hsol).1; omega
    · rw [upd_other _ _ hne] at hsol ⊢; exact h.lo id C hk hsol
  · rcases hg id C hid with ⟨rfl, rfl⟩ | ⟨hne, hk⟩
    · rw [upd_same] at hsol ⊢; exact (hs hsol).2
    · rw [upd_other _ _ hne] at hsol ⊢; have := h.hi id C hk hsol; omega
  · rcases hg id C hid with ⟨rfl, rfl⟩ | ⟨hne, hk⟩ <;> rcases hg id' C' hid' with ⟨rfl, rfl⟩ | ⟨hne', hk'⟩
    · rfl
    · rw [upd_same] at hs1 he; rw [upd_other _ _ hne'] at hs2 he
      have := h.hi id' C' hk' hs2; have := (hs hs1).1; omega
    · rw [upd_same] at hs2 he; rw [upd_other _ _ hne] at hs1 he
      have := h.hi id C hk hs1; have := (hs hs2).1; omega
    · rw [upd_other _ _ hne] at hs1 he; rw [upd_other _ _ hne'] at hs2 he
      exact h.inj id id' C C' hk hk' hs1 hs2 he
  · rcases hg id C hid with ⟨rfl, rfl⟩ | ⟨hne, hk⟩
    · rw [upd_same]
      exact hB _ _ _ e
    · rw [upd_other _ _ hne]
      exact BoxRel.mono e C (fun hsol => hold _ (h.hi id C hk hsol)) (h.box id C hk)

theorem MRel.alloc {w0 : World} {R0 : Nat → Prop} {ρ : Rho} {w : World} {m m' : Mem} {B : Box} {o : Obj} (h : MRel w0 R0 ρ w m) (hm : MPush m B m') (len cap : Nat)
    (hB : ∀ R n ρ', Ext (RO w0 R0 ρ w m) ρ m.next w R ρ' n (w.alloc o) → BoxRel R ρ' n (w.alloc o) (w.heap.size, len, cap) B) :
    MRel w0 R0 (upd ρ m.next (w.heap.size, len, cap)) (w.alloc o) m' ∧ MExt w0 R0 ρ w m (upd ρ m.next (w.heap.size, len, cap)) (w.alloc o) m' :=
  h.push hm rfl rfl rfl (by simp) (fun k hk => Below.heap_alloc w o k hk) (fun _ => ⟨Nat.le_refl _, by simp⟩) hB

/-- A live box's block is now another object. -/
theorem MRel.setBox {w0 : World} {R0 : Nat → Prop} {ρ : Rho} {w w' : World} {m m' : Mem} {id : Nat} {B B' : Box} (h : MRel w0 R0 ρ w m) (hid : m.get id = some B) (hsol : solid (ρ id) B) (hm : MSet m id (some B') m')
    (hos : w'.os = w.os) (ht : w'.tape = w.tape) (hp : w'.output = w.output) (hsz : w'.heap.size = w.heap.size) (hoth : ∀ k, k ≠ (ρ id).1 → w'.heap[k]? = w.heap[k]?)
    (hB : ∀ R, Ext (RO w0 R0 ρ w m) ρ m.next w R ρ m.next w' → BoxRel R ρ m.next w' (ρ id) B') :
    MRel w0 R0 ρ w' m' ∧ MExt w0 R0 ρ w m ρ w' m' := by
  have hg : ∀ k C, m'.get k = some C → (k = id ∧ C = B') ∨ (k ≠ id ∧ m.get k = some C) := fun k C hk => by
    rw [hm.1 k] at hk
    by_cases e : k = id
    · rw [if_pos e] at hk; exact .inl ⟨e, by injection hk with hk; exact hk.symm⟩
    · rw [if_neg e] at hk; exact .inr ⟨e, hk⟩
  have hro : ∀ b, RO w0 R0 ρ w m b → RO w0 R0 ρ w' m' b := fun b hb => by
    rcases hb with hb | ⟨h1, h2, h3⟩
    · exact .inl hb
    · refine .inr ⟨h1, by omega, fun k C hk hs => ?_⟩
      rcases hg k C hk with ⟨rfl, _⟩ | ⟨_, hk'⟩
      · exact h3 k B hid hsol
      · exact h3 k C hk' hs
  have e : MExt w0 R0 ρ w m ρ w' m' := ⟨by rw [hm.2]; exact Nat.le_refl _, fun _ _ => rfl, fun b hb => ⟨hro b hb, hoth b fun he => h.ro_ne hb hid hsol he.symm⟩⟩
  have hlo := h.lo id B hid hsol
  refine ⟨⟨h.below.trans ⟨hos, ht, hp, by omega, fun k hk => hoth k (by omega)⟩, fun k C hk => ?_, fun k C hk hs => ?_, fun k C hk hs => ?_, fun k k' C C' hk hk' hs hs' he => ?_, fun k C hk => ?_⟩, e⟩
  · rw [hm.2]
    rcases hg k C hk with ⟨rfl, _⟩ | ⟨_, hk'⟩
    · exact h.lt k B hid
    · exact h.lt k C hk'
  · rcases hg k C hk with ⟨rfl, _⟩ | ⟨_, hk'⟩
    · exact hlo
    · exact h.lo k C hk' hs
  · rw [hsz]
    rcases hg k C hk with ⟨rfl, _⟩ | ⟨_, hk'⟩
    · exact h.hi k B hid hsol
    · exact h.hi k C hk' hs
  · have live : ∀ j D, m'.get j = some D → solid (ρ j) D → ∃ D', m.get j = some D' ∧ solid (ρ j) D' := fun j D hj hsj => by
      rcases hg j D hj with ⟨rfl, _⟩ | ⟨_, hj'⟩
      · exact ⟨B, hid, hsol⟩
      · exact ⟨D, hj', hsj⟩
    obtain ⟨D, hD, hDs⟩ := live k C hk hs
    obtain ⟨D', hD', hDs'⟩ := live k' C' hk' hs'
    exact h.inj k k' D D' hD hD' hDs hDs' he
  · rcases hg k C hk with ⟨rfl, rfl⟩ | ⟨hne, hk'⟩
    · have := hB (RO w0 R0 ρ w' m') ⟨Nat.le_refl _, e.same, e.keep⟩
      rw [hm.2]; exact this
    · exact BoxRel.mono e C (fun hs => hoth _ fun he => hne (h.inj k id C B hk' hid hs hsol he)) (h.box k C hk')

/-- A box is let go: its block may now be read as data. -/
theorem MRel.drop {w0 : World} {R0 : Nat → Prop} {ρ : Rho} {w : World} {m m' : Mem} {id : Nat} (h : MRel w0 R0 ρ w m) (hm : MSet m id none m') :
    MRel w0 R0 ρ w m' ∧ MExt w0 R0 ρ w m ρ w m' := by
  have hg : ∀ k C, m'.get k = some C → k ≠ id ∧ m.get k = some C := fun k C hk => by
    rw [hm.1 k] at hk
    by_cases e : k = id
    · rw [if_pos e] at hk; cases hk
    · rw [if_neg e] at hk; exact ⟨e, hk⟩
  have hro : ∀ b, RO w0 R0 ρ w m b → RO w0 R0 ρ w m' b := fun b hb => by
    rcases hb with hb | ⟨h1, h2, h3⟩
    · exact .inl hb
    · exact .inr ⟨h1, h2, fun k C hk => h3 k C (hg k C hk).2⟩
  have e : MExt w0 R0 ρ w m ρ w m' := ⟨by rw [hm.2]; exact Nat.le_refl _, fun _ _ => rfl, fun b hb => ⟨hro b hb, rfl⟩⟩
  exact ⟨⟨h.below, fun k C hk => by rw [hm.2]; exact h.lt k C (hg k C hk).2, fun k C hk => h.lo k C (hg k C hk).2, fun k C hk => h.hi k C (hg k C hk).2,
    fun k k' C C' hk hk' => h.inj k k' C C' (hg k C hk).2 (hg k' C' hk').2, fun k C hk => BoxRel.mono e C (fun _ => rfl) (h.box k C (hg k C hk).2)⟩, e⟩

/-! ### Lists of cells -/

section
variable {R : Nat → Prop} {ρ : Rho} {n : Nat} {w : World}

theorem RepL.length : ∀ {cs : List SV} {vs : List Value}, RepL R ρ n w cs vs → vs.length = cs.length
  | [], _, h => by rw [h]; rfl
  | _ :: _, _, h => by
    obtain ⟨u, us, rfl, _, h2⟩ := h
    simp [RepL.length h2]
theorem RepL.get : ∀ {cs : List SV} {vs : List Value}, RepL R ρ n w cs vs → ∀ {i : Nat} {c : SV}, cs[i]? = some c → ∃ v, vs[i]? = some v ∧ Rep R ρ n w c v
  | [], _, _, i, c, hi => by simp at hi
  | x :: xs, _, h, 0, c, hi => by
    obtain ⟨u, us, rfl, h1, _⟩ := h
    simp at hi; subst hi
    exact ⟨u, by simp, h1⟩
  | x :: xs, _, h, i + 1, c, hi => by
    obtain ⟨u, us, rfl, _, h2⟩ := h
    simp at hi
    obtain ⟨v, h3, h4⟩ := RepL.get h2 hi
    exact ⟨v, by simpa using h3, h4⟩
theorem RepL.mk : ∀ {cs : List SV} {vs : List Value}, vs.length = cs.length → (∀ (i : Nat) (c : SV) (v : Value), cs[i]? = some c → vs[i]? = some v → Rep R ρ n w c v) → RepL R ρ n w cs vs
  | [], vs, hl, _ => by simpa [RepL] using hl
  | c :: cs, [], hl, _ => by simp at hl
  | c :: cs, v :: vs, hl, h => ⟨v, vs, rfl, h 0 c v (by simp) (by simp), RepL.mk (by simpa using hl) fun i c' v' h1 h2 => h (i + 1) c' v' (by simpa using h1) (by simpa using h2)⟩
theorem RepL.append {as1 bs : List SV} {us vs : List Value} (h : RepL R ρ n w as1 us) (k : RepL R ρ n w bs vs) : RepL R ρ n w (as1 ++ bs) (us ++ vs) := by
  induction as1 generalizing us with
  | nil => rw [show us = [] from h]; exact k
  | cons a as1 ih =>
    obtain ⟨u, us, rfl, h1, h2⟩ := h
    exact ⟨u, us ++ vs, rfl, h1, ih h2⟩
theorem RepL.drop {cs : List SV} {vs : List Value} (h : RepL R ρ n w cs vs) (k : Nat) : RepL R ρ n w (cs.drop k) (vs.drop k) :=
  RepL.mk (by simp [h.length]) fun i c v h1 h2 => by
    rw [List.getElem?_drop] at h1 h2
    obtain ⟨v', h3, h4⟩ := h.get h1
    rw [h3] at h2; injection h2 with h2; exact h2 ▸ h4
theorem RepL.take {cs : List SV} {vs : List Value} (h : RepL R ρ n w cs vs) (k : Nat) : RepL R ρ n w (cs.take k) (vs.take k) :=
  RepL.mk (by simp [h.length]) fun i c v h1 h2 => by
    rw [List.getElem?_take] at h1 h2
    by_cases hi : i < k
    · rw [if_pos hi] at h1 h2
      obtain ⟨v', h3, h4⟩ := h.get h1
      rw [h3] at h2; injection h2 with h2; exact h2 ▸ h4
    · rw [if_neg hi] at h1; cases h1
theorem RepL.map (ev : Operand → SV) (eb : Operand → Value) : ∀ xs : List Operand, (∀ x ∈ xs, Rep R ρ n w (ev x) (eb x)) → RepL R ρ n w (xs.map ev) (xs.map eb)
  | [], _ => rfl
  | x :: xs, h => ⟨_, _, rfl, h x List.mem_cons_self, RepL.map ev eb xs fun y hy => h y (List.mem_cons_of_mem _ hy)⟩

/-- A datum's cells are that many, and read as its flat form. -/
theorem RepD.flat : ∀ (t : Ty) (x : t.T) (vs : List Value), RepD R w t x vs → vs.length = t.sz ∧ RepL R ρ n w (Go.Sx.flat t x) vs
  | .unit, _, vs, h => by rw [show vs = [] from h]; exact ⟨rfl, rfl⟩
  | .int _, _, vs, h => by rw [show vs = _ from h]; exact ⟨rfl, _, _, rfl, rfl, rfl⟩
  | .bool, _, vs, h => by rw [show vs = _ from h]; exact ⟨rfl, _, _, rfl, rfl, rfl⟩
  | .str, _, vs, h => by rw [show vs = _ from h]; exact ⟨rfl, _, _, rfl, rfl, rfl⟩
  | .list t, l, vs, h => by
    have h' := h
    obtain ⟨a, cap, rfl, _⟩ := h
    exact ⟨rfl, _, _, rfl, h', rfl⟩
  | .pair a b, x, vs, h => by
    obtain ⟨v1, v2, rfl, h1, h2⟩ := h
    obtain ⟨l1, r1⟩ := RepD.flat a x.1 v1 h1
    obtain ⟨l2, r2⟩ := RepD.flat b x.2 v2 h2
    exact ⟨by simp [l1, l2, Ty.sz], r1.append r2⟩
theorem flat_length : ∀ (t : Ty) (x : t.T), (Go.Sx.flat t x).length = t.sz
  | .unit, _ => rfl
  | .int _, _ => rfl
  | .bool, _ => rfl
  | .str, _ => rfl
  | .list _, _ => rfl
  | .pair a b, x => by simp [Go.Sx.flat, Ty.sz, flat_length a, flat_length b]

/-- Back: cells whose values with unknowns are read as a datum. -/
theorem RepD.unflat : ∀ (t : Ty) (cs : List SV) (x : t.T) (rest : List SV) (vs : List Value), Go.Sx.unflat t cs = some (x, rest) → RepL R ρ n w cs vs →
    ∃ v1 v2, vs = v1 ++ v2 ∧ v1.length = t.sz ∧ RepD R w t x v1 ∧ RepL R ρ n w rest v2
  | .unit, cs, x, rest, vs, he, h => by
    simp only [Go.Sx.unflat, Option.some.injEq, Prod.mk.injEq] at he
    obtain ⟨_, rfl⟩ := he
    exact ⟨[], vs, rfl, rfl, rfl, h⟩
  | .int k, cs, x, rest, vs, he, h => by
    cases cs with
    | nil => simp [Go.Sx.unflat] at he
    | cons c cs =>
      cases c <;> simp only [Go.Sx.unflat] at he <;> try (cases he; done)
      split at he
      · rename_i hk
        simp only [Option.some.injEq, Prod.mk.injEq] at he
        obtain ⟨rfl, rfl⟩ := he
        subst hk
        obtain ⟨u, us, rfl, h1, h2⟩ := h
        exact ⟨[u], us, rfl, rfl, by rw [show u = _ from h1]; rfl, h2⟩
      · cases he
  | .bool, cs, x, rest, vs, he, h => by
    cases cs with
    | nil => simp [Go.Sx.unflat] at he
    | cons c cs =>
      cases c <;> simp only [Go.Sx.unflat] at he <;> try (cases he; done)
      simp only [Option.some.injEq, Prod.mk.injEq] at he
      obtain ⟨rfl, rfl⟩ := he
      obtain ⟨u, us, rfl, h1, h2⟩ := h
      exact ⟨[u], us, rfl, rfl, by rw [show u = _ from h1]; rfl, h2⟩
  | .str, cs, x, rest, vs, he, h => by
    cases cs with
    | nil => simp [Go.Sx.unflat] at he
    | cons c cs =>
      cases c <;> simp only [Go.Sx.unflat] at he <;> try (cases he; done)
      simp only [Option.some.injEq, Prod.mk.injEq] at he
      obtain ⟨rfl, rfl⟩ := he
      obtain ⟨u, us, rfl, h1, h2⟩ := h
      exact ⟨[u], us, rfl, rfl, by rw [show u = _ from h1]; rfl, h2⟩
  | .list t, cs, x, rest, vs, he, h => by
    cases cs with
    | nil => simp [Go.Sx.unflat] at he
    | cons c cs =>
      cases c <;> simp only [Go.Sx.unflat] at he <;> try (cases he; done)
      · simp only [Option.some.injEq, Prod.mk.injEq] at he
        obtain ⟨rfl, rfl⟩ := he
        obtain ⟨u, us, rfl, h1, h2⟩ := h
        exact ⟨[u], us, rfl, rfl, ⟨none, 0, by rw [show u = _ from h1]; rfl, Nat.le_refl _, fun h0 => absurd h0 (Nat.lt_irrefl _)⟩, h2⟩
      · split at he
        · rename_i ht
          simp only [Option.some.injEq, Prod.mk.injEq] at he
          obtain ⟨rfl, rfl⟩ := he
          subst ht
          obtain ⟨u, us, rfl, h1, h2⟩ := h
          exact ⟨[u], us, rfl, rfl, h1, h2⟩
        · cases he
  | .pair a b, cs, x, rest, vs, he, h => by
    simp only [Go.Sx.unflat] at he
    cases h1 : Go.Sx.unflat a cs with
    | none => rw [h1] at he; cases he
    | some q =>
      obtain ⟨x1, cs1⟩ := q
      rw [h1] at he
      dsimp only at he
      cases h2 : Go.Sx.unflat b cs1 with
      | none => rw [h2] at he; cases he
      | some q =>
        obtain ⟨x2, cs2⟩ := q
        rw [h2] at he
        simp only [Option.some.injEq, Prod.mk.injEq] at he
        obtain ⟨rfl, rfl⟩ := he
        obtain ⟨v1, v2, rfl, l1, r1, k1⟩ := RepD.unflat a cs x1 cs1 vs h1 h
        obtain ⟨v3, v4, rfl, l2, r2, k2⟩ := RepD.unflat b cs1 x2 _ v2 h2 k1
        exact ⟨v1 ++ v3, v4, by simp, by simp [l1, l2, Ty.sz], ⟨v1, v3, rfl, r1, r2⟩, k2⟩
end
end Go.Sx
