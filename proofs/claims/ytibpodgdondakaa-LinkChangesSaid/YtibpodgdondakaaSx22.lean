/-
  Sx22: contracts of functions that take pointers and leave the memory alone; facts by their arguments.
-/
import Derived.Test.YtibpodgdondakaaSx21
import Derived.Test.YtibpodgdondakaaSx18
set_option linter.unusedSimpArgs false
set_option linter.unusedVariables false
namespace Go.Sx
open Go.RowKit

/-- A call in a memory that is not looked at. -/
noncomputable def execAt (E : Env) (n : Nat) (f : FuncId) (args : List SV) (p : Plan) (m : Mem) : Tree (SV × Mem) :=
  match E.fn f with
  | some fn => match fn.body with
    | some body => match fn.name == "runtime.NumGoroutine" with
      | false => Fr.make fn.ntmps args fun fr => exec E n [.code body] p fr m fun o => match o with
        | .ret _ fr m => results E fn m fr fun v => .leaf (v, m)
        | .stop .. => .fail 142
      | true => .fail 143
    | none => .fail 144
  | none => .fail 145

theorem scall_at {P : Program} {E : Env} (hK : Known P E) {n : Nat} {f : FuncId} {args : List SV} {p : Plan} {v : SV} (h : ∀ m, (execAt E n f args p m).holds fun x => x = (v, m)) : SCall P f args v := by
  intro m w0 R0 ρ w vs hm hvs
  have h := h m
  unfold execAt at h
  split at h
  · rename_i fn hfn
    have hf := hK.e.fn f fn hfn
    split at h
    · rename_i body hb
      split at h
      · rename_i hn
        obtain ⟨fr, h1, h2, h3, h4⟩ := make_holds h
        obtain ⟨out, h5, h6⟩ := exec_ok hK.e hK.s hK.mix n _ _ _ _ _ _ h1
        cases out with
        | stop it fr' m' => exact h5.elim
        | ret p' fr' mc =>
          dsimp only at h5
          obtain ⟨v', h7, h8⟩ := results_holds hK.e h5
          have h7 : (v', mc) = (v, m) := h7
          injection h7 with e1 e2
          subst e1 e2
          rw [callFunc_enter hf hb hn]
          exact calls_of_reach hf hb h6 h8 hm (frame_rel h2 h3 h4 hvs)
      · exact h.elim
    · exact h.elim
  · exact h.elim

/-- The one leaf of a tree with nothing unknown. -/
def Tree.closed {α : Type} : Tree α → Option α
  | .leaf a => some a
  | .req b t => match b with
    | true => t.closed
    | false => none
  | .node b t f => match b with
    | true => t.closed
    | false => f.closed
  | .fail _ => none
theorem Tree.closed_holds {α : Type} {v : α} : ∀ (t : Tree α), t.closed = some v → t.holds fun x => x = v
  | .leaf a, h => by injection h
  | .req b t, h => by
    cases b with
    | false => cases h
    | true => exact ⟨rfl, closed_holds t h⟩
  | .node b t f, h => by
    cases b with
    | false => exact ⟨fun hb => (by cases hb), fun _ => closed_holds f h⟩
    | true => exact ⟨fun _ => closed_holds t h, fun hb => (by cases hb)⟩
  | .fail _, h => by cases h
theorem scall_closed {P : Program} (hmix : P.follows .mixedOrders = true) (l : List Fact) (hl : allOk P l) (n : Nat) (p : Plan) {f : FuncId} {args : List SV} {v : SV}
    (ht : (execFn (Env.of P (sumOf l)) n f args p).vals.closed = some v) (hd : dataL args = true) (hv : v.data = true) : SCall P f args v :=
  scall_v hmix l hl n p rfl (Tree.closed_holds _ ht) hd hv

/-! ### Facts by their arguments -/

def I64 (n : Int) : SV := .int .i64 n
def fact0 (f : FuncId) (t : Tree SV) : Fact := ⟨f, fun args => match args with
  | [] => some t
  | _ => none⟩
theorem fact0_ok {P : Program} {f : FuncId} {t : Tree SV} (k : t.says (SCall P f [])) : (fact0 f t).ok P := fun args t' ht => by
  simp only [fact0] at ht
  split at ht
  · injection ht with ht; subst ht; exact k
  · cases ht
def factI (f : FuncId) (h : Int → Tree SV) : Fact := ⟨f, fun args => match args with
  | [.int .i64 a] => some (h a)
  | _ => none⟩
theorem factI_ok {P : Program} {f : FuncId} {h : Int → Tree SV} (k : ∀ a, (h a).says (SCall P f [I64 a])) : (factI f h).ok P := fun args t ht => by
  simp only [factI] at ht
  split at ht
  · injection ht with ht; subst ht; exact k _
  · cases ht
def factII (f : FuncId) (h : Int → Int → Tree SV) : Fact := ⟨f, fun args => match args with
  | [.int .i64 a, .int .i64 b] => some (h a b)
  | _ => none⟩
theorem factII_ok {P : Program} {f : FuncId} {h : Int → Int → Tree SV} (k : ∀ a b, (h a b).says (SCall P f [I64 a, I64 b])) : (factII f h).ok P := fun args t ht => by
  simp only [factII] at ht
  split at ht
  · injection ht with ht; subst ht; exact k _ _
  · cases ht
def factIII (f : FuncId) (h : Int → Int → Int → Tree SV) : Fact := ⟨f, fun args => match args with
  | [.int .i64 a, .int .i64 b, .int .i64 c] => some (h a b c)
  | _ => none⟩
theorem factIII_ok {P : Program} {f : FuncId} {h : Int → Int → Int → Tree SV} (k : ∀ a b c, (h a b c).says (SCall P f [I64 a, I64 b, I64 c])) : (factIII f h).ok P := fun args t ht => by
  simp only [factIII] at ht
  split at ht
  · injection ht with ht; subst ht; exact k _ _ _
  · cases ht
def factS (f : FuncId) (h : List UInt8 → Tree SV) : Fact := ⟨f, fun args => match args with
  | [.str a] => some (h a)
  | _ => none⟩
theorem factS_ok {P : Program} {f : FuncId} {h : List UInt8 → Tree SV} (k : ∀ a, (h a).says (SCall P f [.str a])) : (factS f h).ok P := fun args t ht => by
  simp only [factS] at ht
  split at ht
  · injection ht with ht; subst ht; exact k _
  · cases ht

/-! ### Plans of segments -/

def keepS (n : Nat) (ks : List Nat) : List Item → List Bool := fun _ => (List.range n).map fun i => ks.any fun j => Nat.beq i j
def slotsS (n : Nat) (ks : List (Nat × SV)) : List SV := (List.range n).map fun i => (ks.lookup i).getD .top
theorem slotsS_len (n : Nat) (ks : List (Nat × SV)) : (slotsS n ks).length = n := by simp [slotsS]
theorem renL_len (ids : List Nat) (l : List SV) : (renL ids l).length = l.length := by
  induction l with
  | nil => rfl
  | cons x l ih => simp [renL, ih]
noncomputable def startS (P : Program) (f : Nat) (args : List SV) : List SV := args ++ List.replicate ((fnOf P f).ntmps - args.length) .undef
noncomputable def codeS (P : Program) (f : Nat) : List Item := [.code (bodyOf P f)]
end Go.Sx
