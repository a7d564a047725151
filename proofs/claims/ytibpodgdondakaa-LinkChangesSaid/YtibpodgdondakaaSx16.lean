/-
  Sx16: what is known of a program, and how summaries are added one by one.
-/
import Derived.Test.YtibpodgdondakaaSx15
set_option linter.unusedSimpArgs false
set_option linter.unusedVariables false
namespace Go.Sx
open Go.RowKit

theorem dfltChk_rep {R : Nat → Prop} {w : World} : ∀ (u : Ty) (vs rest : List Value), dfltChk u vs = some rest → ∃ v1, vs = v1 ++ rest ∧ RepD R w u u.dflt v1
  | .unit, vs, rest, h => by simp only [dfltChk, Option.some.injEq] at h; exact ⟨[], h, rfl⟩
  | .int k, vs, rest, h => by
    unfold dfltChk at h
    split at h
    · split at h
      · rename_i hk
        injection h with h; subst h hk
        exact ⟨[_], rfl, rfl⟩
      · cases h
    · cases h
  | .bool, vs, rest, h => by
    unfold dfltChk at h
    split at h
    · injection h with h; subst h
      exact ⟨[_], rfl, rfl⟩
    · cases h
  | .str, vs, rest, h => by
    unfold dfltChk at h
    split at h
    · injection h with h; subst h
      exact ⟨[_], rfl, rfl⟩
    · cases h
  | .list t, vs, rest, h => by
    unfold dfltChk at h
    split at h
    · injection h with h; subst h
      exact ⟨[_], rfl, none, 0, rfl, Nat.le_refl _, fun h0 => absurd h0 (Nat.lt_irrefl _)⟩
    · cases h
  | .pair a b, vs, rest, h => by
    unfold dfltChk at h
    split at h
    · rename_i vs1 h1
      obtain ⟨v1, e1, r1⟩ := dfltChk_rep a vs vs1 h1
      obtain ⟨v2, e2, r2⟩ := dfltChk_rep b vs1 rest h
      exact ⟨v1 ++ v2, by rw [e1, e2]; simp, v1, v2, rfl, r1, r2⟩
    · cases h

theorem rowOf_ok {P : Program} {t : TypeId} {r : Row} (h : rowOf P t = some r) : RowOK P t r := by
  unfold rowOf at h
  split at h
  · rename_i d i hd hi
    split at h
    · rename_i z hz
      injection h with h
      subst h
      refine ⟨hd, ⟨i, z, hi, rfl, rfl, hz, fun R ρ n w => ofLeafs_rep R ρ n w _, fun u hu R w => ?_⟩, rfl, rfl⟩
      dsimp only at hu
      unfold tyIf at hu
      split at hu
      · rename_i u' hu'
        split at hu
        · rename_i hc
          injection hu with hu; subst hu
          obtain ⟨v1, e1, r1⟩ := dfltChk_rep (R := R) (w := w) u' _ _ hc
          rw [List.append_nil] at e1
          rw [e1]; exact r1
        · cases hu
      · cases hu
    · cases h
  · cases h

theorem known_of {P : Program} {sum : FuncId → Option (List SV → Option (Tree SV))} (hmix : P.follows .mixedOrders = true) (hsum : SumOK P (Env.of P sum)) : Known P (Env.of P sum) :=
  ⟨⟨fun t r h => rowOf_ok h, fun f fn h => h⟩, hsum, hmix⟩

/-- No summary at all. -/
theorem sum_none {P : Program} : SumOK P (Env.of P fun _ => none) := fun f s args t h => by cases h

/-- One function, its number, and what it hands back. -/
structure Fact where
  f : FuncId
  s : List SV → Option (Tree SV)

/-- The summaries of a list. -/
noncomputable def sumOf (l : List Fact) (f : FuncId) : Option (List SV → Option (Tree SV)) :=
  List.rec (motive := fun _ => Option (List SV → Option (Tree SV))) none (fun x _ ih => match Nat.beq x.f f with
    | true => some x.s
    | false => ih) l

/-- A fact is true of a program. -/
def Fact.ok (P : Program) (x : Fact) : Prop := ∀ args t, x.s args = some t → t.says (SCall P x.f args)

theorem sumOf_ok {P : Program} : ∀ (l : List Fact), (∀ x ∈ l, x.ok P) → SumOK P (Env.of P (sumOf l))
  | [], _ => fun f s args t h => by cases h
  | x :: l, h => fun f s args t hs ht => by
    change (match Nat.beq x.f f with
      | true => some x.s
      | false => sumOf l f) = some s at hs
    split at hs
    · rename_i hf
      injection hs with hs
      subst hs
      have : x.f = f := Nat.eq_of_beq_eq_true hf
      subst this
      exact h x List.mem_cons_self args t ht
    · exact sumOf_ok l (fun y hy => h y (List.mem_cons_of_mem _ hy)) f s args t hs ht

/-- A contract out of the evaluator's tree, given the facts on what it calls. -/
theorem scall_of {P : Program} (hmix : P.follows .mixedOrders = true) (l : List Fact) (hl : ∀ x ∈ l, x.ok P) (n : Nat) (p : Plan) {f : FuncId} {args : List SV} {v : SV} {t : Tree (SV × Mem)} (ht : execFn (Env.of P (sumOf l)) n f args p = t) (h : t.holds fun x => x.1 = v) (hd : dataL args = true) (hv : v.data = true) : SCall P f args v :=
  scall_of_exec (known_of hmix (sumOf_ok l hl)) hd hv (by rw [ht]; exact h)
end Go.Sx
