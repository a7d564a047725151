/-
  Sx18: trees without their memory; facts out of contracts; numbers that fit.
-/
import Derived.Test.YtibpodgdondakaaSx17
set_option linter.unusedSimpArgs false
set_option linter.unusedVariables false
namespace Go.Sx
open Go.RowKit

/-- The values alone. -/
def Tree.vals : Tree (SV × Mem) → Tree SV
  | .leaf x => .leaf x.1
  | .node b t f => .node b t.vals f.vals
  | .req b t => .req b t.vals
  | .fail n => .fail n

theorem Tree.vals_holds {L : SV → Prop} : ∀ t : Tree (SV × Mem), t.vals.holds L → t.holds fun x => L x.1
  | .leaf _, h => h
  | .node _ t f, h => ⟨fun hb => t.vals_holds (h.1 hb), fun hb => f.vals_holds (h.2 hb)⟩
  | .req _ t, h => ⟨h.1, t.vals_holds h.2⟩
  | .fail _, h => h

/-- All facts of a list are true. -/
def allOk (P : Program) : List Fact → Prop
  | [] => True
  | x :: l => x.ok P ∧ allOk P l
theorem allOk.all {P : Program} : ∀ {l : List Fact}, allOk P l → ∀ x ∈ l, x.ok P
  | _ :: _, h, _, .head _ => h.1
  | _ :: _, h, _, .tail _ hx => h.2.all _ hx

theorem scall_v {P : Program} (hmix : P.follows .mixedOrders = true) (l : List Fact) (hl : allOk P l) (n : Nat) (p : Plan) {f : FuncId} {args : List SV} {v : SV} {t : Tree SV}
    (ht : (execFn (Env.of P (sumOf l)) n f args p).vals = t) (h : t.holds fun x => x = v) (hd : dataL args = true) (hv : v.data = true) : SCall P f args v :=
  scall_of hmix l hl.all n p rfl (Tree.vals_holds _ (by rw [ht]; exact h)) hd hv

theorem SCall.calls_some {P : Program} {f : FuncId} {fn : Func} {args : List SV} {v : SV} (h : SCall P f args v) (hv : v.data = true) (hf : P.funcs[f]? = some fn) (hb : fn.body.isSome = true) (hn : (fn.name == "runtime.NumGoroutine") = false) (w : World) (vs : List Value) (hvs : RepL (fun b => b < w.heap.size) (fun _ => (0, 0, 0)) 0 w args vs) :
    Calls P f vs.toArray w fun e w' => ∃ u, e = .returned u ∧ Below w.heap.size w w' ∧ Rep (fun b => b < w'.heap.size) (fun _ => (0, 0, 0)) 0 w' v u := by
  obtain ⟨body, hb⟩ := Option.isSome_iff_exists.mp hb
  exact h.calls hv hf hb hn w vs hvs

theorem wrap64 {x : Int} (h : -9223372036854775808 ≤ x) (k : x ≤ 9223372036854775807) : IntKind.wrap .i64 x = x := by
  have h2 : IntKind.wrap .i64 x = if true && decide (x % 18446744073709551616 ≥ 9223372036854775808) then x % 18446744073709551616 - 18446744073709551616 else x % 18446744073709551616 := rfl
  rw [h2]
  simp only [Bool.true_and, decide_eq_true_eq]
  split <;> omega
end Go.Sx
