/-
  Sx20: a call with loops: states, segments, descent.
  Sx21: loops over a memory that grows: at the head of a loop the boxes are named anew, in the order in which the slots name them; rows that are handed back become data.
  Sx22: contracts of functions that take pointers and leave the memory alone; facts by their arguments.
  Sx32: functions that turn boxes of their caller's, and functions that panic: segments, descent, contracts.
  N1: small things.
  Sx30: a contract of the library's, as the model's own 'Calls' says it, becomes a fact of the evaluator.
  DERIVED: THE SHELF's CONTRACTS AT THIS DUMP, IN PLAIN WORDS (tools/lay-plain.mjs out of 'TrydShelf.lean', which tools/lay-shelf.mjs wrote): THE SAME DECLARATIONS UNDER THE SAME NAMES: 'import', 'namespace', 'open', 'def', 'theorem' AND NOTHING ELSE: no command of the shelf's: FOR A HAND-IN. Each laying: the table of numbers ('.._ren') and one theorem, a field a fact of the dump's own or the kernel's comparison; each contract: ONE APPLICATION.
  F: contracts of the library's functions as facts of the evaluator: strings.Cut, strings.FieldsFunc, strings.Trim.
-/
import Derived.Test.YtlhkgeoahblffaaDoorZA5
import Derived.Test.YtlhkgeoahblffaaDoorProg
import Derived.Shelf.Strings.Builder1
import Derived.Shelf.Strings.Trim
import Derived.Shelf.Small.Utf8
import Derived.Shelf.Small.Strs
import Derived.Shelf.Strings.BuilderF
import Derived.Shelf.Strings.BuilderK
import Derived.Shelf.Strings.Search1
import Derived.Shelf.Strings.Search2
import Derived.Shelf.Strings.Cut
import Derived.Shelf.LaysM
import Derived.Shelf.Strings.Shaped
import Derived.Shelf.Unicode.Decode
import Derived.Shelf.Strings.Runes
import Derived.Shelf.Strings.AsciiSet
import Derived.Shelf.Unicode.DecodeSlow
import Derived.Shelf.Unicode.DecodeAny
import Derived.Shelf.Unicode.DecodeLast
import Derived.Shelf.Strings.FieldsFuncAny
import Derived.Shelf.Strings.SlTrimAscii
set_option linter.unusedSimpArgs false
set_option linter.unusedVariables false
namespace Go.Sx
open Go.RowKit

/-- The loop's body is entered. -/
def enter : List Item → List Item
  | .code (.loop b) :: k => .code b :: .inLoop b :: k
  | .inLoop b :: k => .code b :: .inLoop b :: k
  | x => x

/-- The loops of a code, each with what comes behind it, as they stand when entered. -/
def loopsIn : Code → List Item → List (List Item)
  | .seq a b, k => loopsIn a (.code b :: k) ++ loopsIn b k
  | .cond _ x y, k => loopsIn x k ++ loopsIn y k
  | .block id b, k => loopsIn b (.inBlock id :: k)
  | .scope b, k => loopsIn b (.inScope b :: k)
  | .loop b, k => (.code b :: .inLoop b :: k) :: loopsIn b (.inLoop b :: k)
  | _, _ => []

def fnOf (P : Program) (f : FuncId) : Func := match P.funcs[f]? with
  | some fn => fn
  | none => default
def bodyOf (P : Program) (f : FuncId) : Code := match (fnOf P f).body with
  | some b => b
  | none => .skip
/-- The loop of that number in a function. -/
def loopOf (P : Program) (f : FuncId) (i : Nat) : List Item := ((loopsIn (bodyOf P f) [])[i]?).getD []

/-- From a state to the next head of a loop, or to the end. -/
noncomputable def seg (E : Env) (n : Nat) (fn : Func) (keep : List Item → List Bool × List Bool) (items : List Item) (p : Plan) (slots : List SV) (boxes : List (Option Box)) : Tree Stop :=
  Fr.make slots.length slots fun fr => memFill boxes ⟨0, .e⟩ fun m => exec E n items p fr m fun o => match o with
    | .ret _ fr m => results E fn m fr fun v => .leaf (.done v)
    | .stop items fr m => .leaf (.at (enter items) fr.size (viewS fr (keep items).1 0) (viewM m (keep items).2 0))
    | .pan .. => .fail 175

/-- From such a state the code comes to its end, with this value. -/
def Runs (P : Program) (fn : Func) (v : SV) (items : List Item) (slots : List SV) (boxes : List (Option Box)) : Prop :=
  ∀ fr m, Canon slots boxes fr m → ∃ p fr' m', Reach P items fr m (.ret p fr' m') ∧
    ∀ ⦃ds : List Deferred⦄ w0 R0 ρ w a, SRelD ds w0 R0 ρ w fr' m' a → ∃ u, (Go.results fn a.tmps).run P w = .ok u w ∧ Rep (RO w0 R0 ρ w m') ρ m'.next w v u

theorem tbSet_ex {β : Type} : ∀ (i : Nat) (t : Tb β) (v : Option β), ∃ t', TbSet t i v t' := by
  intro i
  induction i using Nat.strongRecOn with
  | ind i ih =>
    intro t v
    obtain ⟨l, x, r, hg⟩ : ∃ l x r, ∀ k, t.get k = (Tb.n l x r).get k := by
      cases t with
      | n l x r => exact ⟨l, x, r, fun _ => rfl⟩
      | e =>
        refine ⟨.e, none, .e, fun k => ?_⟩
        cases k with
        | zero => rfl
        | succ j =>
          rw [Tb.get_n_succ]
          by_cases h : j % 2 = 0
          · rw [Tb.pick_even h]; rfl
          · rw [Tb.pick_odd h]; rfl
    cases i with
    | zero =>
      refine ⟨.n l v r, fun k => ?_⟩
      cases k with
      | zero => rfl
      | succ j => rw [if_neg (by omega), hg]; rfl
    | succ i =>
      by_cases hi : i % 2 = 0
      · obtain ⟨l', hl⟩ := ih (i / 2) (by omega) l v
        refine ⟨.n l' x r, fun k => ?_⟩
        cases k with
        | zero => rw [if_neg (by omega), hg]; rfl
        | succ j =>
          rw [hg, Tb.get_n_succ, Tb.get_n_succ]
          by_cases h : j % 2 = 0
          · rw [Tb.pick_even h, Tb.pick_even h, hl]
            by_cases e : j = i
            · subst e; simp
            · rw [if_neg (by omega), if_neg (by omega)]
          · rw [Tb.pick_odd h, Tb.pick_odd h, if_neg (by omega)]
      · obtain ⟨r', hr⟩ := ih (i / 2) (by omega) r v
        refine ⟨.n l x r', fun k => ?_⟩
        cases k with
        | zero => rw [if_neg (by omega), hg]; rfl
        | succ j =>
          rw [hg, Tb.get_n_succ, Tb.get_n_succ]
          by_cases h : j % 2 = 0
          · rw [Tb.pick_even h, Tb.pick_even h, if_neg (by omega)]
          · rw [Tb.pick_odd h, Tb.pick_odd h, hr]
            by_cases e : j = i
            · subst e; simp
            · rw [if_neg (by omega), if_neg (by omega)]

theorem Tree.holds_mono {α : Type} {L L' : α → Prop} (h : ∀ x, L x → L' x) : ∀ t : Tree α, t.holds L → t.holds L'
  | .leaf _, k => h _ k
  | .node _ t f, k => ⟨fun hb => t.holds_mono h (k.1 hb), fun hb => f.holds_mono h (k.2 hb)⟩
  | .req _ t, k => ⟨k.1, t.holds_mono h k.2⟩
  | .fail _, k => k

theorem Canon.of {slots : List SV} {boxes : List (Option Box)} : ∃ fr m, Canon slots boxes fr m := by
  have hS : ∀ (l : List SV) (t : Tb SV) (i : Nat), ∃ t' : Tb SV, ∀ k, t'.get k = if i ≤ k ∧ k < i + l.length then l[k - i]? else t.get k := by
    intro l
    induction l with
    | nil => exact fun t i => ⟨t, fun k => by rw [if_neg (by simp)]⟩
    | cons x l ih =>
      intro t i
      obtain ⟨t1, h1⟩ := ih t (i + 1)
      have : ∃ t', TbSet t1 i (some x) t' := tbSet_ex i t1 (some x)
      obtain ⟨t', ht'⟩ := this
      refine ⟨t', fun k => ?_⟩
      rw [ht' k]
      by_cases hk : k = i
      · subst hk; simp
      · rw [if_neg hk, h1 k]
        by_cases h2 : i + 1 ≤ k ∧ k < i + 1 + l.length
        · rw [if_pos h2, if_pos (by simp; omega)]
          rw [show k - i = (k - (i + 1)) + 1 by omega]
          simp
        · rw [if_neg h2, if_neg (by simp; omega)]
  have hB : ∀ (l : List (Option Box)) (t : Tb Box) (i : Nat), ∃ t' : Tb Box, ∀ k, t'.get k = if i ≤ k ∧ k < i + l.length then (l[k - i]?).join else t.get k := by
    intro l
    induction l with
    | nil => exact fun t i => ⟨t, fun k => by rw [if_neg (by simp)]⟩
    | cons x l ih =>
      intro t i
      obtain ⟨t1, h1⟩ := ih t (i + 1)
      obtain ⟨t', ht'⟩ := tbSet_ex i t1 x
      refine ⟨t', fun k => ?_⟩
      rw [ht' k]
      by_cases hk : k = i
      · subst hk; simp
      · rw [if_neg hk, h1 k]
        by_cases h2 : i + 1 ≤ k ∧ k < i + 1 + l.length
        · rw [if_pos h2, if_pos (by simp; omega)]
          rw [show k - i = (k - (i + 1)) + 1 by omega]
          simp
        · rw [if_neg h2, if_neg (by simp; omega)]
  obtain ⟨t, ht⟩ := hS slots .e 0
  obtain ⟨u, hu⟩ := hB boxes .e 0
  refine ⟨⟨slots.length, t⟩, ⟨boxes.length, u⟩, ⟨rfl, fun k => ?_, rfl, fun k => ?_⟩⟩
  · unfold Fr.get
    rw [ht k, List.getD_eq_getElem?_getD]
    by_cases h : k < slots.length
    · rw [if_pos (by omega)]; simp [h]
    · rw [if_neg (by omega)]
      rw [Tb.get_e, List.getElem?_eq_none (by omega)]; rfl
  · unfold Mem.get
    rw [hu k]
    by_cases h : k < boxes.length
    · rw [if_pos (by omega)]; simp
    · rw [if_neg (by omega)]
      rw [Tb.get_e, List.getElem?_eq_none (by omega)]; rfl

theorem Canon.swap {ds : List Deferred} {slots : List SV} {boxes : List (Option Box)} {fr fr' : Fr} {m m' : Mem} (h : Canon slots boxes fr m) (h' : Canon slots boxes fr' m') {w0 : World} {R0 : Nat → Prop} {ρ : Rho} {w : World} {a : Act} (hs : SRelD ds w0 R0 ρ w fr m a) :
    SRelD ds w0 R0 ρ w fr' m' a ∧ (∀ b, RO w0 R0 ρ w m b ↔ RO w0 R0 ρ w m' b) := by
  have hg : ∀ id, m'.get id = m.get id := fun id => by rw [h.box, h'.box]
  have hn : m'.next = m.next := by rw [h.next, h'.next]
  have hro : RO w0 R0 ρ w m' = RO w0 R0 ρ w m := by
    funext b
    unfold RO
    simp only [hg]
  obtain ⟨h1, h2, h3⟩ := hs
  refine ⟨⟨⟨h1.below, fun id B hB => ?_, fun id B hB => h1.lo id B (by rw [← hg]; exact hB), fun id B hB => h1.hi id B (by rw [← hg]; exact hB), fun id id' B B' hB hB' => h1.inj id id' B B' (by rw [← hg]; exact hB) (by rw [← hg]; exact hB'), fun id B hB => ?_⟩, ⟨?_, fun t => ?_⟩, h3⟩, fun b => by rw [hro]⟩
  · rw [hn]; exact h1.lt id B (by rw [← hg]; exact hB)
  · rw [hro, hn]; exact h1.box id B (by rw [← hg]; exact hB)
  · rw [h'.size, ← h.size]; exact h2.1
  · rw [hro, hn, h'.get, ← h.get]; exact h2.2 t

theorem Reach.swap {P : Program} {items : List Item} {slots : List SV} {boxes : List (Option Box)} {fr fr' : Fr} {m m' : Mem} {out : Out} (h : Canon slots boxes fr m) (h' : Canon slots boxes fr' m') (hr : Reach P items fr' m' out) : Reach P items fr m out := by
  intro ds w0 R0 ρ w a hs b cs
  obtain ⟨k1, k2⟩ := h.swap h' hs
  have hn : m'.next = m.next := by rw [h.next, h'.next]
  have := hr w0 R0 ρ w a k1 b cs
  cases out with
  | ret p fr2 m2 =>
    obtain ⟨ρ2, w2, a2, todo, g1, g2, g3⟩ := this
    exact ⟨ρ2, w2, a2, todo, g1, ⟨by rw [← hn]; exact g2.le, fun id hid => g2.same id (by rw [hn]; exact hid), fun b hb => g2.keep b ((k2 b).mp hb)⟩, g3⟩
  | stop it fr2 m2 =>
    obtain ⟨ρ2, w2, a2, g1, g2, g3⟩ := this
    exact ⟨ρ2, w2, a2, g1, ⟨by rw [← hn]; exact g2.le, fun id hid => g2.same id (by rw [hn]; exact hid), fun b hb => g2.keep b ((k2 b).mp hb)⟩, g3⟩
  | pan v fr2 m2 =>
    obtain ⟨ρ2, w2, a2, todo, u, g1, g2, g3, g4⟩ := this
    exact ⟨ρ2, w2, a2, todo, u, g1, ⟨by rw [← hn]; exact g2.le, fun id hid => g2.same id (by rw [hn]; exact hid), fun b hb => g2.keep b ((k2 b).mp hb)⟩, g3, g4⟩

/-- One segment: to the end, or to a state from which the code comes to its end. -/
theorem runs_seg {P : Program} {E : Env} (hK : Known P E) {n : Nat} {fn : Func} {keep : List Item → List Bool × List Bool} {items : List Item} {p : Plan} {slots : List SV} {boxes : List (Option Box)} {v : SV}
    (h : (seg E n fn keep items p slots boxes).holds fun o => match o with
      | .done v' => v' = v
      | .at items' size slots' boxes' => slots'.length = size ∧ boxes.length ≤ boxes'.length ∧ underL boxes'.length slots' = true ∧ underO boxes'.length boxes' = true ∧ Runs P fn v items' slots' boxes') : Runs P fn v items slots boxes := by
  intro fr0 m0 hc0
  unfold seg at h
  obtain ⟨fr, h1, h2, h3, h4⟩ := make_holds h
  obtain ⟨m, h5, h6, h7, h8⟩ := memFill_holds boxes ⟨0, .e⟩ _ h1 fun id _ => rfl
  have hc : Canon slots boxes fr m := ⟨h2, h4, by rw [h6]; simp, fun id => by simpa using h8 id⟩
  obtain ⟨out, h9, h10⟩ := exec_ok hK.e hK.s hK.mix n _ _ _ _ _ _ h5
  cases out with
  | pan v1 fr' m' => exact h9.elim
  | ret p' fr' m' =>
    dsimp only at h9
    obtain ⟨v', k1, k2⟩ := results_holds hK.e h9
    obtain rfl : v' = v := k1
    exact ⟨p', fr', m', h10.swap hc0 hc, k2⟩
  | stop items' fr' m' =>
    dsimp only at h9
    have h10 : Reach P items fr m (.stop (enter items') fr' m') := by
      refine h10.trans ?_
      unfold enter
      split
      · exact Reach.step fun b a cs w _ => step_loop
      · exact Reach.step fun b a cs w _ => step_inLoop
      · exact Reach.refl _ _ _
    obtain ⟨k1, k2, k3, k4, k5⟩ := h9
    obtain ⟨fr2, m2, hc2⟩ := Canon.of (slots := viewS fr' (keep items').1 0) (boxes := viewM m' (keep items').2 0)
    obtain ⟨p', fr3, m3, g1, g2⟩ := k5 fr2 m2 hc2
    refine ⟨p', fr3, m3, Reach.swap hc0 hc (Reach.trans (Reach.weaken h10 hc2 ?_ (fun i x hx => by simpa using viewS_get fr' _ 0 i x hx) (fun i B hB => by simpa using viewM_get m' _ 0 i B hB) k3 k4 (by rw [hc.next]; exact k2)) g1), g2⟩
    exact k1

/-- Descent: from every state that keeps the law, the code comes to its end. -/
theorem runs_of {P : Program} {E : Env} (hK : Known P E) {n : Nat} {fn : Func} {v : SV} {σ : Type} (inv : σ → Prop) (μ : σ → Nat) (keep : List Item → List Bool × List Bool) (it : σ → List Item) (sl : σ → List SV) (bx : σ → List (Option Box)) (pl : σ → Plan)
    (h : ∀ s, inv s → (seg E n fn keep (it s) (pl s) (sl s) (bx s)).holds fun o => match o with
      | .done v' => v' = v
      | .at items' size slots' boxes' => ∃ s', inv s' ∧ μ s' < μ s ∧ items' = it s' ∧ slots' = sl s' ∧ boxes' = bx s' ∧ (sl s').length = size ∧ (bx s).length ≤ (bx s').length ∧ underL (bx s').length (sl s') = true ∧ underO (bx s').length (bx s') = true) :
    ∀ s, inv s → Runs P fn v (it s) (sl s) (bx s) := by
  have : ∀ k s, μ s < k → inv s → Runs P fn v (it s) (sl s) (bx s) := by
    intro k
    induction k with
    | zero => exact fun s hk => absurd hk (Nat.not_lt_zero _)
    | succ k ih =>
      intro s hk hs
      refine runs_seg hK (E := E) (n := n) (keep := keep) (p := pl s) (Tree.holds_mono (fun o ho => ?_) _ (h s hs))
      cases o with
      | done v' => exact ho
      | «at» items' size slots' boxes' =>
        obtain ⟨s', a1, a2, rfl, rfl, rfl, a6, a7, a8, a9⟩ := ho
        exact ⟨a6, a7, a8, a9, ih s' (by omega) a1⟩
  exact fun s hs => this _ s (Nat.lt_succ_self _) hs

theorem pad_get (l : List SV) (k t : Nat) : (l ++ List.replicate k SV.undef).getD t .undef = l.getD t .undef := by
  simp only [List.getD_eq_getElem?_getD]
  by_cases h : t < l.length
  · rw [List.getElem?_append_left h]
  · rw [List.getElem?_append_right (by omega), List.getElem?_eq_none (l := l) (by omega)]
    cases hx : (List.replicate k SV.undef)[t - l.length]? with
    | none => rfl
    | some x =>
      have := List.eq_of_mem_replicate (List.mem_of_getElem? hx)
      subst this; rfl

theorem scall_of_runs {P : Program} {f : FuncId} {fn : Func} {body : Code} {args : List SV} {v : SV} (hf : P.funcs[f]? = some fn) (hb : fn.body = some body) (hn : (fn.name == "runtime.NumGoroutine") = false) (hd : dataL args = true) (hvd : v.data = true)
    (hl : args.length ≤ fn.ntmps) (h : Runs P fn v [.code body] (args ++ List.replicate (fn.ntmps - args.length) .undef) []) : SCall P f args v := by
  intro m w0 R0 ρ w vs hm hvs
  obtain ⟨fr, mc0, hc⟩ := Canon.of (slots := args ++ List.replicate (fn.ntmps - args.length) .undef) (boxes := [])
  have hc' : Canon (args ++ List.replicate (fn.ntmps - args.length) .undef) [] fr ⟨0, .e⟩ := ⟨hc.size, hc.get, rfl, fun id => rfl⟩
  obtain ⟨p', fr', mc, h6, h8⟩ := h fr ⟨0, .e⟩ hc'
  rw [callFunc_enter hf hb hn]
  obtain ⟨o1, o2⟩ := own_mem hm ρ
  have hfr := frame_rel (size := fn.ntmps) (by rw [hc.size]; simp; omega) (.inr hl) (fun t => by rw [hc.get, pad_get]) (RepL.data (R' := RO w (RO w0 R0 ρ w m) ρ w ⟨0, .e⟩) (ρ' := ρ) (n' := 0) o2 args vs hd hvs)
  refine Calls.mono (calls_of_reach hf hb h6 h8 o1 hfr) fun e w' ⟨u, he, ρ', g1, g2, g3⟩ => ⟨u, he, ?_⟩
  have hst := Hand.start hm g1
  obtain ⟨k1, k2⟩ := hst.finish hm g1
  exact ⟨ρ, k1, k2, Rep.data (fun b hb => hst.ro b (.inr hb)) v u hvd g3⟩

/-- A whole call: its own first segment, then descent. -/
theorem scall_loops {P : Program} {f : FuncId} {args : List SV} {v : SV} (hd : dataL args = true) (hvd : v.data = true)
    (hf : (match P.funcs[f]? with
      | some fn => fn.body.isSome && !(fn.name == "runtime.NumGoroutine") && Nat.ble args.length fn.ntmps
      | none => false) = true)
    (h : Runs P (fnOf P f) v [.code (bodyOf P f)] (args ++ List.replicate ((fnOf P f).ntmps - args.length) .undef) []) : SCall P f args v := by
  unfold fnOf bodyOf at h
  unfold fnOf at h
  cases hx : P.funcs[f]? with
  | none => rw [hx] at hf; cases hf
  | some fn =>
    rw [hx] at hf h
    dsimp only at hf h
    simp only [Bool.and_eq_true, Bool.not_eq_true'] at hf
    obtain ⟨⟨h1, h2⟩, h3⟩ := hf
    obtain ⟨body, hb⟩ := Option.isSome_iff_exists.mp h1
    rw [hb] at h
    exact scall_of_runs hx hb h2 hd hvd (Nat.le_of_ble_eq_true h3) h
end Go.Sx
set_option linter.unusedSimpArgs false
set_option linter.unusedVariables false
namespace Go.Sx
open Go.RowKit

theorem idx_get : ∀ {l : List Nat} {k j : Nat}, idx l k = some j → l[j]? = some k
  | x :: l, k, j, h => by
    unfold idx at h
    split at h
    · rename_i hx
      injection h with h; subst h
      simp [Nat.eq_of_beq_eq_true hx]
    · split at h
      · rename_i j' hj
        injection h with h; subst h
        simpa using idx_get hj
      · cases h

mutual
/-- A value with its boxes named anew. -/
def ren (ids : List Nat) : SV → SV
  | .row id => match idx ids id with | some k => .row k | none => .top
  | .arr id o n => match idx ids id with | some k => .arr k o n | none => .top
  | .ptr id o => match idx ids id with | some k => .ptr k o | none => .top
  | .rptr id z i o => match idx ids id with | some k => .rptr k z i o | none => .top
  | .agg cs => .agg (renL ids cs)
  | .tuple cs => .tuple (renL ids cs)
  | .fn f a b => .fn f (renL ids a) (renL ids b)
  | v => v
def renL (ids : List Nat) : List SV → List SV
  | [] => []
  | x :: xs => ren ids x :: renL ids xs
end

def renB (ids : List Nat) : Box → Box
  | .cells cs => .cells (renL ids cs)
  | .rows t l => .rows t l
  | .iter s p => .iter s p
  | .obj t cs => .obj t (renL ids cs)

noncomputable def idsM (m : Mem) : List Nat → List Nat → List Nat
  | [], l => l
  | id :: r, l => idsM m r (match m.get id with
    | some (.cells cs) => idsL cs l
    | some (.obj _ cs) => idsL cs l
    | _ => l)
noncomputable def live (m : Mem) (slots : List SV) : List Nat :=
  let l := idsL slots []
  let l := idsM m l l
  idsM m l l

def nodupB : List Nat → Bool
  | [] => true
  | x :: l => (match idx l x with | some _ => false | none => true) && nodupB l
theorem idx_none : ∀ {l : List Nat} {k : Nat}, idx l k = none → k ∉ l
  | [], _, _ => List.not_mem_nil
  | x :: l, k, h => by
    unfold idx at h
    split at h
    · cases h
    · rename_i hx
      split at h
      · cases h
      · rename_i hj
        intro hm
        cases hm with
        | head => simp at hx
        | tail _ hm => exact idx_none hj hm
theorem nodupB_spec : ∀ {l : List Nat}, nodupB l = true → l.Nodup
  | [], _ => List.nodup_nil
  | x :: l, h => by
    simp only [nodupB, Bool.and_eq_true] at h
    refine List.nodup_cons.2 ⟨?_, nodupB_spec h.2⟩
    have h1 := h.1
    split at h1
    · cases h1
    · rename_i hx; exact idx_none hx

section
variable {R R' : Nat → Prop} {ρ ρ' : Rho} {n n' : Nat} {w : World} {ids : List Nat}
mutual
theorem Rep.ren (hR : ∀ b, R b → R' b) (hρ : ∀ id k, idx ids id = some k → k < n' ∧ ρ' k = ρ id) : ∀ (x : SV) (v : Value), Rep R ρ n w x v → Rep R' ρ' n' w (Go.Sx.ren ids x) v
  | .undef, _, h => h
  | .top, _, h => trivial
  | .int _ _, _, h => h
  | .bool _, _, h => h
  | .str _, _, h => h
  | .nilS, _, h => h
  | .list t l, v, h => RepD.mono (fun b hb => ⟨hR b hb, rfl⟩) (.list t) l [v] h
  | .row id, v, h => by
    unfold Go.Sx.ren
    split
    · rename_i k hk
      obtain ⟨h1, h2⟩ := hρ id k hk
      obtain ⟨_, h⟩ := h
      exact ⟨h1, by rw [h2]; exact h⟩
    · trivial
  | .arr id _ _, v, h => by
    unfold Go.Sx.ren
    split
    · rename_i k hk
      obtain ⟨h1, h2⟩ := hρ id k hk
      exact ⟨h1, by rw [h2]; exact h.2⟩
    · trivial
  | .ptr id _, v, h => by
    unfold Go.Sx.ren
    split
    · rename_i k hk
      obtain ⟨h1, h2⟩ := hρ id k hk
      exact ⟨h1, by rw [h2]; exact h.2⟩
    · trivial
  | .nilP, _, h => h
  | .eptr t l i off, v, h => by
    obtain ⟨b, o, h1, h2, h3⟩ := h
    exact ⟨b, o, h1, h2, h3.mono fun b hb => ⟨hR b hb, rfl⟩⟩
  | .rptr id _ _ _, v, h => by
    unfold Go.Sx.ren
    split
    · rename_i k hk
      obtain ⟨h1, h2⟩ := hρ id k hk
      exact ⟨h1, by rw [h2]; exact h.2⟩
    · trivial
  | .agg cs, v, h => by
    obtain ⟨vs, h1, h2⟩ := h
    exact ⟨vs, h1, RepL.ren hR hρ cs vs h2⟩
  | .tuple cs, v, h => by
    obtain ⟨vs, h1, h2⟩ := h
    exact ⟨vs, h1, RepL.ren hR hρ cs vs h2⟩
  | .fn f first cap, v, h => by
    obtain ⟨vs, us, h1, h2, h3⟩ := h
    exact ⟨vs, us, h1, RepL.ren hR hρ first vs h2, RepL.ren hR hρ cap us h3⟩
  | .raw _, _, h => h
theorem RepL.ren (hR : ∀ b, R b → R' b) (hρ : ∀ id k, idx ids id = some k → k < n' ∧ ρ' k = ρ id) : ∀ (xs : List SV) (vs : List Value), RepL R ρ n w xs vs → RepL R' ρ' n' w (Go.Sx.renL ids xs) vs
  | [], _, h => h
  | x :: xs, vs, h => by
    obtain ⟨v, us, h1, h2, h3⟩ := h
    exact ⟨v, us, h1, Rep.ren hR hρ x v h2, RepL.ren hR hρ xs us h3⟩
end

theorem BoxRel.ren (hR : ∀ b, R b → R' b) (hρ : ∀ id k, idx ids id = some k → k < n' ∧ ρ' k = ρ id) {r : Nat × Nat × Nat} : ∀ (B : Box), BoxRel R ρ n w r B → BoxRel R' ρ' n' w r (renB ids B)
  | .cells cs, h => by
    obtain ⟨arr, e, fr, h1, h2, h3⟩ := h
    exact ⟨arr, e, fr, h1, h2, RepL.ren hR hρ _ _ h3⟩
  | .rows t l, h => by
    obtain ⟨h1, h2, h3⟩ := h
    refine ⟨h1, h2, fun h0 => ?_⟩
    obtain ⟨arr, e, fr, k1, k2, k3, k4⟩ := h3 h0
    refine ⟨arr, e, fr, k1, k2, k3, fun i hi => ?_⟩
    obtain ⟨cs, c1, c2, c3⟩ := k4 i hi
    exact ⟨cs, c1, c2, RepD.mono (fun b hb => ⟨hR b hb, rfl⟩) _ _ _ c3⟩
  | .iter s pos, h => h
  | .obj t cs, h => by
    obtain ⟨arr, h1, h3⟩ := h
    exact ⟨arr, h1, RepL.ren hR hρ _ _ h3⟩
end

theorem solid_ren {r : Nat × Nat × Nat} {ids : List Nat} : ∀ (B : Box), solid r (renB ids B) ↔ solid r B
  | .cells _ => Iff.rfl
  | .rows _ _ => Iff.rfl
  | .iter _ _ => Iff.rfl
  | .obj _ _ => Iff.rfl

theorem getD_renL (ids : List Nat) : ∀ (l : List SV) (t : Nat), (renL ids l).getD t .undef = ren ids (l.getD t .undef)
  | [], t => by cases t <;> rfl
  | x :: l, 0 => rfl
  | x :: l, t + 1 => by
    have := getD_renL ids l t
    simpa [renL] using this

theorem nodup_inj : ∀ {l : List Nat}, l.Nodup → ∀ (i j : Nat) (x : Nat), l[i]? = some x → l[j]? = some x → i = j
  | [], _, i, j, x, h, _ => by simp at h
  | y :: l, hn, i, j, x, hi, hj => by
    rw [List.nodup_cons] at hn
    cases i with
    | zero =>
      cases j with
      | zero => rfl
      | succ j =>
        simp at hi hj; subst hi
        exact absurd (List.mem_of_getElem? hj) hn.1
    | succ i =>
      cases j with
      | zero =>
        simp at hi hj; subst hj
        exact absurd (List.mem_of_getElem? hi) hn.1
      | succ j => rw [nodup_inj hn.2 i j x (by simpa using hi) (by simpa using hj)]

/-- A state is also what is left of it, with its boxes named anew. -/
theorem SRelD.rename {ds : List Deferred} {w0 : World} {R0 : Nat → Prop} {ρ : Rho} {w : World} {fr fr2 : Fr} {m m2 : Mem} {a : Act} {slots : List SV} {ids : List Nat} (h : SRelD ds w0 R0 ρ w fr m a) (hn : ids.Nodup)
    (hc : Canon (renL ids slots) (ids.map fun id => (m.get id).map (renB ids)) fr2 m2) (hlen : slots.length = fr.size) (hs : ∀ (i : Nat) (x : SV), slots[i]? = some x → x = .top ∨ x = fr.get i) :
    SRelD ds w0 R0 (fun k => ρ (ids.getD k 0)) w fr2 m2 a ∧ ∀ b, RO w0 R0 ρ w m b → RO w0 R0 (fun k => ρ (ids.getD k 0)) w m2 b := by
  obtain ⟨h1, h2, h3⟩ := h
  have hg : ∀ k B, m2.get k = some B → ∃ id B0, ids[k]? = some id ∧ m.get id = some B0 ∧ B = renB ids B0 := fun k B hB => by
    rw [hc.box k] at hB
    simp only [List.getElem?_map] at hB
    cases hx : ids[k]? with
    | none => rw [hx] at hB; cases hB
    | some id =>
      rw [hx] at hB
      cases hy : m.get id with
      | none => simp [hy] at hB
      | some B0 => simp [hy] at hB; exact ⟨id, B0, rfl, hy, hB.symm⟩
  have hρk : ∀ k id, ids[k]? = some id → ρ (ids.getD k 0) = ρ id := fun k id hk => by rw [List.getD_eq_getElem?_getD, hk]; rfl
  have hρ : ∀ id k, idx ids id = some k → k < m2.next ∧ (fun k => ρ (ids.getD k 0)) k = ρ id := fun id k hk => by
    have := idx_get hk
    refine ⟨?_, hρk k id this⟩
    rw [hc.next]
    simpa using (List.getElem?_eq_some_iff.1 this).1
  have hro : ∀ b, RO w0 R0 ρ w m b → RO w0 R0 (fun k => ρ (ids.getD k 0)) w m2 b := fun b hb => by
    rcases hb with hb | ⟨k1, k2, k3⟩
    · exact .inl hb
    · refine .inr ⟨k1, k2, fun k B hB hsol => ?_⟩
      obtain ⟨id, B0, g1, g2, rfl⟩ := hg k B hB
      dsimp only at hsol ⊢
      rw [hρk k id g1] at hsol ⊢
      exact k3 id B0 g2 ((solid_ren B0).1 hsol)
  refine ⟨⟨⟨h1.below, fun k B hB => ?_, fun k B hB hsol => ?_, fun k B hB hsol => ?_, fun k k' B B' hB hB' hsol hsol' heq => ?_, fun k B hB => ?_⟩, ⟨?_, fun t => ?_⟩, h3⟩, hro⟩
  · obtain ⟨id, B0, g1, g2, rfl⟩ := hg k B hB
    rw [hc.next]
    simpa using (List.getElem?_eq_some_iff.1 g1).1
  · obtain ⟨id, B0, g1, g2, rfl⟩ := hg k B hB
    rw [hρk k id g1] at hsol ⊢
    exact h1.lo id B0 g2 ((solid_ren B0).1 hsol)
  · obtain ⟨id, B0, g1, g2, rfl⟩ := hg k B hB
    rw [hρk k id g1] at hsol ⊢
    exact h1.hi id B0 g2 ((solid_ren B0).1 hsol)
  · obtain ⟨id, B0, g1, g2, rfl⟩ := hg k B hB
    obtain ⟨id', B0', g1', g2', rfl⟩ := hg k' B' hB'
    rw [hρk k id g1] at hsol heq
    rw [hρk k' id' g1'] at hsol' heq
    have := h1.inj id id' B0 B0' g2 g2' ((solid_ren B0).1 hsol) ((solid_ren B0').1 hsol') heq
    subst this
    exact nodup_inj hn k k' id g1 g1'
  · obtain ⟨id, B0, g1, g2, rfl⟩ := hg k B hB
    rw [hρk k id g1]
    exact BoxRel.ren hro hρ B0 (h1.box id B0 g2)
  · rw [hc.size, show (renL ids slots).length = slots.length from ?_, hlen]
    · exact h2.1
    · clear hc hlen hs
      induction slots with
      | nil => rfl
      | cons x l ih => simp [renL, ih]
  · rw [hc.get t, getD_renL]
    rw [List.getD_eq_getElem?_getD]
    cases hx : slots[t]? with
    | none =>
      have ht : slots.length ≤ t := by simpa using hx
      have : a.tmps.getD t Go.undef = Go.undef := by
        rw [Array.getD_eq_getD_getElem?, Array.getElem?_eq_none (by rw [← h2.1, ← hlen]; exact ht)]
        rfl
      rw [this]; exact rfl
    | some x =>
      rcases hs t x hx with rfl | rfl
      · exact trivial
      · exact Rep.ren hro hρ _ _ (h2.2 t)

/-! ### What is handed back -/

/-! ### Segments and descent -/

noncomputable def segR (E : Env) (n : Nat) (fn : Func) (hint : Ty) (keep : List Item → List Bool) (items : List Item) (p : Plan) (slots : List SV) (boxes : List (Option Box)) : Tree Stop :=
  Fr.make slots.length slots fun fr => memFill boxes ⟨0, .e⟩ fun m => exec E n items p fr m fun o => match o with
    | .ret _ fr m => results E fn m fr fun v => .leaf (.done (give hint m v))
    | .stop items fr m => match live m (viewS fr (keep items) 0) with
      | ids => match nodupB ids with
        | true => .leaf (.at (enter items) fr.size (renL ids (viewS fr (keep items) 0)) (ids.map fun id => (m.get id).map (renB ids)))
        | false => .fail 170
    | .pan .. => .fail 175

/-- From such a state the code comes to its end, with this value. -/
def RunsR (P : Program) (fn : Func) (v : SV) (items : List Item) (slots : List SV) (boxes : List (Option Box)) : Prop :=
  ∀ fr m, Canon slots boxes fr m → ∀ w0 R0 ρ w a, SRel w0 R0 ρ w fr m a → ∀ (b : Frame) (cs : List Frame), ∃ ρ' w' a' todo u, MRel w0 R0 ρ' w' ⟨0, .e⟩ ∧ a'.defers = [] ∧ (∀ b, RO w0 R0 ρ w m b → RO w0 R0 ρ' w' ⟨0, .e⟩ b ∧ w'.heap[b]? = w.heap[b]?) ∧
    Steps P (lone (b.at a items) cs w) (lone { b.at a' todo with mode := .returning } cs w') ∧ (Go.results fn a'.tmps).run P w' = .ok u w' ∧ Rep (RO w0 R0 ρ' w' ⟨0, .e⟩) ρ' 0 w' v u

theorem runsR_seg {P : Program} {E : Env} (hK : Known P E) {n : Nat} {fn : Func} {hint : Ty} {keep : List Item → List Bool} {items : List Item} {p : Plan} {slots : List SV} {boxes : List (Option Box)} {v : SV} (hvd : v.data = true)
    (h : (segR E n fn hint keep items p slots boxes).holds fun o => match o with
      | .done v' => v' = v
      | .at items' size slots' boxes' => slots'.length = size ∧ RunsR P fn v items' slots' boxes') : RunsR P fn v items slots boxes := by
  intro fr0 m0 hc0 w0 R0 ρ w a hs b cs
  unfold segR at h
  obtain ⟨fr, h1, h2, h3, h4⟩ := make_holds h
  obtain ⟨m, h5, h6, h7, h8⟩ := memFill_holds boxes ⟨0, .e⟩ _ h1 fun id _ => rfl
  have hc : Canon slots boxes fr m := ⟨h2, h4, by rw [h6]; simp, fun id => by simpa using h8 id⟩
  obtain ⟨hs1, hro1⟩ := hc0.swap hc hs
  obtain ⟨out, h9, h10⟩ := exec_ok hK.e hK.s hK.mix n _ _ _ _ _ _ h5
  cases out with
  | pan v1 fr' m' => exact h9.elim
  | ret p' fr' m' =>
    dsimp only at h9
    obtain ⟨v', k1, k2⟩ := results_holds hK.e h9
    obtain rfl : give hint m' v' = v := k1
    obtain ⟨ρ1, w1, a1, todo, g1, g2, g3⟩ := h10 w0 R0 ρ w a hs1 b cs
    obtain ⟨u, r1, r2⟩ := k2 w0 R0 ρ1 w1 a1 g1
    obtain ⟨e1, e2⟩ := g1.1.bare
    exact ⟨ρ1, w1, a1, todo, u, e1, g1.2.2, fun b hb => ⟨e2 b (g2.keep b ((hro1 b).1 hb)).1, (g2.keep b ((hro1 b).1 hb)).2⟩, g3, r1, give_rep g1.1 r2 hvd⟩
  | stop items' fr' m' =>
    dsimp only at h9
    split at h9
    · rename_i hnd
      have h10 : Reach P items fr m (.stop (enter items') fr' m') := by
        refine h10.trans ?_
        unfold enter
        split
        · exact Reach.step fun b a cs w _ => step_loop
        · exact Reach.step fun b a cs w _ => step_inLoop
        · exact Reach.refl _ _ _
      generalize hids : live m' (viewS fr' (keep items') 0) = ids at h9 hnd
      obtain ⟨k1, k5⟩ := h9
      obtain ⟨ρ1, w1, a1, g1, g2, g3⟩ := h10 w0 R0 ρ w a hs1 b cs
      obtain ⟨fr2, m2, hc2⟩ := Canon.of (slots := renL ids (viewS fr' (keep items') 0)) (boxes := ids.map fun id => (m'.get id).map (renB ids))
      have hlr : ∀ l : List SV, (renL ids l).length = l.length := fun l => by
        induction l with
        | nil => rfl
        | cons x l ih => simp [renL, ih]
      obtain ⟨e1, e2⟩ := g1.rename (nodupB_spec hnd) hc2 (by rw [← k1, hlr]) (fun i x hx => by simpa using viewS_get fr' _ 0 i x hx)
      obtain ⟨ρ3, w3, a3, todo, u, q1, q2, q3, q4, q5, q6⟩ := k5 fr2 m2 hc2 w0 R0 _ w1 a1 e1 b cs
      exact ⟨ρ3, w3, a3, todo, u, q1, q2, fun b hb => by
        have s1 := g2.keep b ((hro1 b).1 hb)
        have s2 := q3 b (e2 b s1.1)
        exact ⟨s2.1, s2.2.trans s1.2⟩, g3.trans q4, q5, q6⟩
    · exact h9.elim

/-- Descent: from every state that keeps the law, the code comes to its end. -/
theorem runsR_of {P : Program} {E : Env} (hK : Known P E) {n : Nat} {fn : Func} {hint : Ty} {v : SV} (hvd : v.data = true) {σ : Type} (inv : σ → Prop) (μ : σ → Nat) (keep : List Item → List Bool) (it : σ → List Item) (sl : σ → List SV) (bx : σ → List (Option Box)) (pl : σ → Plan)
    (h : ∀ s, inv s → (segR E n fn hint keep (it s) (pl s) (sl s) (bx s)).holds fun o => match o with
      | .done v' => v' = v
      | .at items' size slots' boxes' => slots'.length = size ∧ ((∃ s', inv s' ∧ μ s' < μ s ∧ items' = it s' ∧ slots' = sl s' ∧ boxes' = bx s') ∨ RunsR P fn v items' slots' boxes')) :
    ∀ s, inv s → RunsR P fn v (it s) (sl s) (bx s) := by
  have : ∀ k s, μ s < k → inv s → RunsR P fn v (it s) (sl s) (bx s) := by
    intro k
    induction k with
    | zero => exact fun s hk => absurd hk (Nat.not_lt_zero _)
    | succ k ih =>
      intro s hk hs
      refine runsR_seg hK hvd (E := E) (n := n) (hint := hint) (keep := keep) (p := pl s) (Tree.holds_mono (fun o ho => ?_) _ (h s hs))
      cases o with
      | done v' => exact ho
      | «at» items' size slots' boxes' =>
        obtain ⟨a6, ho⟩ := ho
        rcases ho with ⟨s', a1, a2, rfl, rfl, rfl⟩ | ho
        · exact ⟨a6, ih s' (by omega) a1⟩
        · exact ⟨a6, ho⟩
  exact fun s hs => this _ s (Nat.lt_succ_self _) hs

/-- A whole call: its own first segment, then descent. -/
theorem scallR_loops {P : Program} {f : FuncId} {args : List SV} {v : SV} (hd : dataL args = true) (hvd : v.data = true)
    (hf : (match P.funcs[f]? with
      | some fn => fn.body.isSome && !(fn.name == "runtime.NumGoroutine") && Nat.ble args.length fn.ntmps
      | none => false) = true)
    (h : RunsR P (fnOf P f) v [.code (bodyOf P f)] (args ++ List.replicate ((fnOf P f).ntmps - args.length) .undef) []) : SCall P f args v := by
  unfold fnOf bodyOf at h
  unfold fnOf at h
  cases hx : P.funcs[f]? with
  | none => rw [hx] at hf; cases hf
  | some fn =>
    rw [hx] at hf h
    dsimp only at hf h
    simp only [Bool.and_eq_true, Bool.not_eq_true'] at hf
    obtain ⟨⟨h1, hn⟩, h3⟩ := hf
    obtain ⟨body, hb⟩ := Option.isSome_iff_exists.mp h1
    rw [hb] at h
    have hl := Nat.le_of_ble_eq_true h3
    intro m w0 R0 ρ w vs hm hvs
    obtain ⟨fr, mc0, hc⟩ := Canon.of (slots := args ++ List.replicate (fn.ntmps - args.length) .undef) (boxes := [])
    have hc' : Canon (args ++ List.replicate (fn.ntmps - args.length) .undef) [] fr ⟨0, .e⟩ := ⟨hc.size, hc.get, rfl, fun id => rfl⟩
    rw [callFunc_enter hx hb hn]
    obtain ⟨o1, o2⟩ := own_mem hm ρ
    have hfr := frame_rel (size := fn.ntmps) (by rw [hc.size]; simp; omega) (.inr hl) (fun t => by rw [hc.get, pad_get]) (RepL.data (R' := RO w (RO w0 R0 ρ w m) ρ w ⟨0, .e⟩) (ρ' := ρ) (n' := 0) o2 args vs hd hvs)
    intro cs
    let b : Frame := { (default : Frame) with fn := f, kind := .normal }
    have henter : Frame.enter P f vs.toArray .normal = b.at { tmps := vs.toArray ++ Array.replicate (fn.ntmps - vs.toArray.size) Go.undef, defers := [] } [.code body] := by
      simp [Frame.enter, Frame.at, hx, hb, b]
    obtain ⟨ρ', w', a', todo, u, q1, q2, q3, q4, q5, q6⟩ := h fr ⟨0, .e⟩ hc' w (RO w0 R0 ρ w m) ρ w { tmps := vs.toArray ++ Array.replicate (fn.ntmps - vs.toArray.size) Go.undef, defers := [] } ⟨o1, hfr, rfl⟩ b cs
    have hst := Hand.start hm q1
    obtain ⟨k1, k2⟩ := hst.finish hm q1
    exact ⟨.returned u, w', _, ⟨u, rfl, ρ, k1, k2, Rep.data (fun b hb => hst.ro b (.inr hb)) v u hvd q6⟩, by rw [henter]; exact q4, rfl, rfl, q2, rfl, fn, hx, q5⟩
end Go.Sx
set_option linter.unusedSimpArgs false
set_option linter.unusedVariables false
namespace Go.Sx
open Go.RowKit

/-- A call in a memory that is not looked at. -/
noncomputable def execAt (E : Env) (n : Nat) (f : FuncId) (args : List SV) (p : Plan) (m : Mem) : Tree (SV × Mem) :=
  match E.fn f with
  | some fn => match fn.body with
    | some body => match fn.name == "runtime.NumGoroutine" with
      | false => Fr.make fn.ntmps args fun fr => exec E n [.code body] p fr m fun o => match o with
        | .ret _ fr m => results E fn m fr fun v => .leaf (v, m)
        | _ => .fail 142
      | true => .fail 143
    | none => .fail 144
  | none => .fail 145

theorem scall_at {P : Program} {E : Env} (hK : Known P E) {n : Nat} {f : FuncId} {args : List SV} {p : Plan} {v : SV} (h : ∀ m, (execAt E n f args p m).holds fun x => x = (v, m)) : SCall P f args v := by
  intro m w0 R0 ρ w vs hm hvs
  have h := h m
  unfold execAt at h
  split at h
  · rename_i fn hfn
    have hf := hK.e.fn f fn hfn
    split at h
    · rename_i body hb
      split at h
      · rename_i hn
        obtain ⟨fr, h1, h2, h3, h4⟩ := make_holds h
        obtain ⟨out, h5, h6⟩ := exec_ok hK.e hK.s hK.mix n _ _ _ _ _ _ h1
        cases out with
        | stop it fr' m' => exact h5.elim
        | pan v1 fr' m' => exact h5.elim
        | ret p' fr' mc =>
          dsimp only at h5
          obtain ⟨v', h7, h8⟩ := results_holds hK.e h5
          have h7 : (v', mc) = (v, m) := h7
          injection h7 with e1 e2
          subst e1 e2
          rw [callFunc_enter hf hb hn]
          exact calls_of_reach hf hb h6 h8 hm (frame_rel h2 h3 h4 hvs)
      · exact h.elim
    · exact h.elim
  · exact h.elim

/-- The one leaf of a tree with nothing unknown. -/
def Tree.closed {α : Type} : Tree α → Option α
  | .leaf a => some a
  | .req b t => match b with
    | true => t.closed
    | false => none
  | .node b t f => match b with
    | true => t.closed
    | false => f.closed
  | .fail _ => none
theorem Tree.closed_holds {α : Type} {v : α} : ∀ (t : Tree α), t.closed = some v → t.holds fun x => x = v
  | .leaf a, h => by injection h
  | .req b t, h => by
    cases b with
    | false => cases h
    | true => exact ⟨rfl, closed_holds t h⟩
  | .node b t f, h => by
    cases b with
    | false => exact ⟨fun hb => (by cases hb), fun _ => closed_holds f h⟩
    | true => exact ⟨fun _ => closed_holds t h, fun hb => (by cases hb)⟩
  | .fail _, h => by cases h
theorem scall_closed {P : Program} [ElOK P] (hmix : P.follows .mixedOrders = true) (l : List Fact) (hl : allOk P l) (n : Nat) (p : Plan) {f : FuncId} {args : List SV} {v : SV}
    (ht : (execFn (Env.of P (sumOf l)) n f args p).vals.closed = some v) (hd : dataL args = true) (hv : v.data = true) : SCall P f args v :=
  scall_v hmix l hl n p rfl (Tree.closed_holds _ ht) hd hv

/-! ### Facts by their arguments -/

def I64 (n : Int) : SV := .int .i64 n
def fact0 (f : FuncId) (t : Tree SV) : Fact := ⟨f, fun args => match args with
  | [] => some t
  | _ => none⟩
theorem fact0_ok {P : Program} {f : FuncId} {t : Tree SV} (k : t.says (SCall P f [])) : (fact0 f t).ok P := fun args t' ht => by
  simp only [fact0] at ht
  split at ht
  · injection ht with ht; subst ht; exact k
  · cases ht
def factI (f : FuncId) (h : Int → Tree SV) : Fact := ⟨f, fun args => match args with
  | [.int .i64 a] => some (h a)
  | _ => none⟩
theorem factI_ok {P : Program} {f : FuncId} {h : Int → Tree SV} (k : ∀ a, (h a).says (SCall P f [I64 a])) : (factI f h).ok P := fun args t ht => by
  simp only [factI] at ht
  split at ht
  · injection ht with ht; subst ht; exact k _
  · cases ht
def factII (f : FuncId) (h : Int → Int → Tree SV) : Fact := ⟨f, fun args => match args with
  | [.int .i64 a, .int .i64 b] => some (h a b)
  | _ => none⟩
theorem factII_ok {P : Program} {f : FuncId} {h : Int → Int → Tree SV} (k : ∀ a b, (h a b).says (SCall P f [I64 a, I64 b])) : (factII f h).ok P := fun args t ht => by
  simp only [factII] at ht
  split at ht
  · injection ht with ht; subst ht; exact k _ _
  · cases ht
def factIII (f : FuncId) (h : Int → Int → Int → Tree SV) : Fact := ⟨f, fun args => match args with
  | [.int .i64 a, .int .i64 b, .int .i64 c] => some (h a b c)
  | _ => none⟩
theorem factIII_ok {P : Program} {f : FuncId} {h : Int → Int → Int → Tree SV} (k : ∀ a b c, (h a b c).says (SCall P f [I64 a, I64 b, I64 c])) : (factIII f h).ok P := fun args t ht => by
  simp only [factIII] at ht
  split at ht
  · injection ht with ht; subst ht; exact k _ _ _
  · cases ht
def factS (f : FuncId) (h : List UInt8 → Tree SV) : Fact := ⟨f, fun args => match args with
  | [.str a] => some (h a)
  | _ => none⟩
theorem factS_ok {P : Program} {f : FuncId} {h : List UInt8 → Tree SV} (k : ∀ a, (h a).says (SCall P f [.str a])) : (factS f h).ok P := fun args t ht => by
  simp only [factS] at ht
  split at ht
  · injection ht with ht; subst ht; exact k _
  · cases ht

/-! ### Plans of segments -/

def keepS (n : Nat) (ks : List Nat) : List Item → List Bool := fun _ => (List.range n).map fun i => ks.any fun j => Nat.beq i j
def slotsS (n : Nat) (ks : List (Nat × SV)) : List SV := (List.range n).map fun i => (ks.lookup i).getD .top
theorem slotsS_len (n : Nat) (ks : List (Nat × SV)) : (slotsS n ks).length = n := by simp [slotsS]
theorem renL_len (ids : List Nat) (l : List SV) : (renL ids l).length = l.length := by
  induction l with
  | nil => rfl
  | cons x l ih => simp [renL, ih]
noncomputable def startS (P : Program) (f : Nat) (args : List SV) : List SV := args ++ List.replicate ((fnOf P f).ntmps - args.length) .undef
noncomputable def codeS (P : Program) (f : Nat) : List Item := [.code (bodyOf P f)]
end Go.Sx
set_option linter.unusedSimpArgs false
set_option linter.unusedVariables false
namespace Go.Sx
open Go.RowKit

/-- How a function's code ends: with a value, or with a panic; and the boxes that it was handed. -/
inductive Fin where
  | ret (v : SV) (bs : List (Option Box))
  | pan (v : SV) (bs : List (Option Box))
def Fin.boxes : Fin → List (Option Box)
  | .ret _ bs => bs
  | .pan _ bs => bs
def Fin.val : Fin → SV
  | .ret v _ => v
  | .pan v _ => v

inductive StopX where
  | fin (r : Fin)
  | at (items : List Item) (size : Nat) (slots : List SV) (boxes : List (Option Box))

/-- A box that mentions no other. -/
noncomputable def dataB : Box → Bool
  | .cells cs => dataL cs
  | .obj _ cs => dataL cs
  | _ => true
noncomputable def dataO : List (Option Box) → Bool
  | [] => true
  | some B :: l => dataB B && dataO l
  | none :: l => dataO l
/-- A row of the memory's own, as data. -/
noncomputable def gvV (np : Nat) (m : Mem) (v : SV) : SV := match v with
  | .row id => match m.get id with
    | some (.rows t l) => match Nat.ble np id with
      | true => .list t l
      | false => .row id
    | _ => .row id
  | v => v
noncomputable def gvL (np : Nat) (m : Mem) : List SV → List SV
  | [] => []
  | x :: xs => gvV np m x :: gvL np m xs
noncomputable def gvA (np : Nat) (m : Mem) (v : SV) : SV := match v with
  | .agg cs => .agg (gvL np m cs)
  | v => gvV np m v
noncomputable def gvM (np : Nat) (m : Mem) : List SV → List SV
  | [] => []
  | x :: xs => gvA np m x :: gvM np m xs
noncomputable def gvW (np : Nat) (m : Mem) (v : SV) : SV := match v with
  | .tuple cs => .tuple (gvM np m cs)
  | v => gvA np m v
noncomputable def gvB (np : Nat) (m : Mem) : Box → Box
  | .cells cs => .cells (gvL np m cs)
  | B => B
/-- The first boxes of a memory; the rows in them as data. -/
noncomputable def firstB (m : Mem) (np : Nat) : List (Option Box) := (List.range np).map fun k => (m.get k).map (gvB np m)

noncomputable def liveX (np : Nat) (m : Mem) (slots : List SV) : List Nat :=
  let l := idsL slots (List.range np)
  let l := idsM m l l
  idsM m l l

noncomputable def segX (E : Env) (n : Nat) (fn : Func) (np : Nat) (keep : List Item → List Bool) (items : List Item) (p : Plan) (slots : List SV) (boxes : List (Option Box)) : Tree StopX :=
  Fr.make slots.length slots fun fr => memFill boxes ⟨0, .e⟩ fun m => exec E n items p fr m fun o => match o with
    | .ret _ fr m => results E fn m fr fun v => match dataO (firstB m np) && (gvW np m v).data with
      | true => .leaf (.fin (.ret (gvW np m v) (firstB m np)))
      | false => .fail 180
    | .pan v fr m => match dataO (firstB m np) && v.data with
      | true => .leaf (.fin (.pan v (firstB m np)))
      | false => .fail 181
    | .stop items fr m => match liveX np m (viewS fr (keep items) 0) with
      | ids => match nodupB ids && decide (ids.take np = List.range np) with
        | true => .leaf (.at (enter items) fr.size (renL ids (viewS fr (keep items) 0)) (ids.map fun id => (m.get id).map (renB ids)))
        | false => .fail 170

/-- From such a state the code comes to this end. -/
def RunsX (P : Program) (fn : Func) (ds : List Deferred) (np : Nat) (r : Fin) (items : List Item) (slots : List SV) (boxes : List (Option Box)) : Prop :=
  ∀ fr m, Canon slots boxes fr m → ∀ w0 R0 ρ w a, SRelD ds w0 R0 ρ w fr m a → ∀ (b : Frame) (cs : List Frame), ∃ ρ' w' a' todo u mF, mF.next = np ∧ (∀ k, mF.get k = (r.boxes[k]?).join) ∧ MRel w0 R0 ρ' w' mF ∧ (∀ k, k < np → ρ' k = ρ k) ∧ a'.defers = ds ∧
    (∀ b, RO w0 R0 ρ w m b → RO w0 R0 ρ' w' mF b ∧ w'.heap[b]? = w.heap[b]?) ∧ Rep (RO w0 R0 ρ' w' mF) ρ' np w' r.val u ∧
    match r with
    | .ret _ _ => Steps P (lone (b.at a items) cs w) (lone { b.at a' todo with mode := .returning } cs w') ∧ (Go.results fn a'.tmps).run P w' = .ok u w'
    | .pan _ _ => Steps P (lone (b.at a items) cs w) (lone { b.at a' todo with mode := .panicking [{ v := u, recovered := false }] } cs w')

theorem dataO_get : ∀ {l : List (Option Box)} {k : Nat} {B : Box}, dataO l = true → (l[k]?).join = some B → dataB B = true
  | [], k, B, _, h => by simp at h
  | none :: l, 0, B, _, h => by simp at h
  | none :: l, k + 1, B, hd, h => dataO_get (l := l) (k := k) hd (by simpa using h)
  | some C :: l, 0, B, hd, h => by
    have hd : (dataB C && dataO l) = true := hd
    rw [Bool.and_eq_true] at hd
    have : C = B := by simpa using h
    rw [← this]; exact hd.1
  | some C :: l, k + 1, B, hd, h => by
    have hd : (dataB C && dataO l) = true := hd
    rw [Bool.and_eq_true] at hd
    exact dataO_get (l := l) (k := k) hd.2 (by simpa using h)
theorem firstB_get {m : Mem} {np k : Nat} : ((firstB m np)[k]?).join = if k < np then (m.get k).map (gvB np m) else none := by
  unfold firstB
  rw [List.getElem?_map]
  by_cases h : k < np
  · rw [List.getElem?_range h, if_pos h]; rfl
  · rw [List.getElem?_eq_none (by simpa using h), if_neg h]; rfl
theorem gv_solid {np : Nat} {m : Mem} {r : Nat × Nat × Nat} : ∀ (B : Box), solid r (gvB np m B) ↔ solid r B
  | .cells _ => Iff.rfl
  | .rows _ _ => Iff.rfl
  | .iter _ _ => Iff.rfl
  | .obj _ _ => Iff.rfl

/-- The first boxes alone. -/
theorem MRel.first {w0 : World} {R0 : Nat → Prop} {ρ : Rho} {w : World} {m mF : Mem} {np : Nat} (h : MRel w0 R0 ρ w m) (hd : dataO (firstB m np) = true) (hn : mF.next = np) (hg : ∀ k, mF.get k = ((firstB m np)[k]?).join) :
    MRel w0 R0 ρ w mF ∧ (∀ b, RO w0 R0 ρ w m b → RO w0 R0 ρ w mF b) ∧ ∀ v u, (gvW np m v).data = true → Rep (RO w0 R0 ρ w m) ρ m.next w v u → Rep (RO w0 R0 ρ w mF) ρ mF.next w (gvW np m v) u := by
  have hsub : ∀ k B, mF.get k = some B → k < np ∧ dataB B = true ∧ ∃ C, m.get k = some C ∧ B = gvB np m C := fun k B hB => by
    rw [hg k] at hB
    have hdB := dataO_get hd hB
    rw [firstB_get] at hB
    split at hB
    · rename_i hk
      cases hC : m.get k with
      | none => rw [hC] at hB; cases hB
      | some C => rw [hC] at hB; injection hB with hB; exact ⟨hk, hdB, C, rfl, hB.symm⟩
    · cases hB
  have hsol : ∀ k B, mF.get k = some B → solid (ρ k) B → ∃ C, m.get k = some C ∧ solid (ρ k) C := fun k B hB hs => by
    obtain ⟨_, _, C, hC, e⟩ := hsub k B hB
    exact ⟨C, hC, by rw [e] at hs; exact (gv_solid C).1 hs⟩
  have hro : ∀ b, RO w0 R0 ρ w m b → RO w0 R0 ρ w mF b := fun b hb => by
    rcases hb with hb | ⟨k1, k2, k3⟩
    · exact .inl hb
    · exact .inr ⟨k1, k2, fun id B hB hs => by
        obtain ⟨C, hC, hs'⟩ := hsol id B hB hs
        exact k3 id C hC hs'⟩
  have hv : ∀ (x : SV) (u : Value), (gvV np m x).data = true → Rep (RO w0 R0 ρ w m) ρ m.next w x u → Rep (RO w0 R0 ρ w mF) ρ mF.next w (gvV np m x) u := fun x u hdx hr => by
    unfold gvV at hdx ⊢
    split at hdx
    · rename_i id
      split at hdx
      · rename_i t l hgid
        split at hdx
        · rename_i hle
          have hle := Nat.le_of_ble_eq_true hle
          obtain ⟨_, a, hu, ha⟩ := hr
          obtain ⟨b1, b2, hp⟩ := h.box id _ hgid
          refine ⟨a, (ρ id).2.2, by rw [hu, b1], b2, fun h0 => ?_⟩
          have h0 : 0 < (ρ id).2.2 := Nat.lt_of_lt_of_le h0 b2
          obtain ⟨arr, e, fr, k1, k2, k3, k4⟩ := hp h0
          refine ⟨(ρ id).1, 0, ha h0, .inr ⟨h.lo id _ hgid h0, h.hi id _ hgid h0, fun k B hB hs he => ?_⟩, fun i hi => ?_⟩
          · obtain ⟨C, hC, hs'⟩ := hsol k B hB hs
            have := h.inj k id C _ hC hgid hs' h0 he
            have := (hsub k B hB).1
            omega
          · obtain ⟨cs, c1, c2, c3⟩ := k4 i hi
            refine ⟨cs, c1, fun j hj => ?_, RepD.mono (fun b hb => ⟨hro b hb, rfl⟩) _ _ _ c3⟩
            rw [cell_of_row w _ _ arr e fr k1, Nat.zero_add]
            exact c2 j hj
        · cases hdx
      · cases hdx
    · exact Rep.data hro x u hdx hr
  have hvl : ∀ (xs : List SV) (us : List Value), dataL (gvL np m xs) = true → RepL (RO w0 R0 ρ w m) ρ m.next w xs us → RepL (RO w0 R0 ρ w mF) ρ mF.next w (gvL np m xs) us := by
    intro xs
    induction xs with
    | nil => exact fun us _ hr => hr
    | cons x xs ih =>
      intro us hdx hr
      obtain ⟨u, us', rfl, r1, r2⟩ := hr
      have hdx : dataL (gvV np m x :: gvL np m xs) = true := hdx
      rw [dataL_cons] at hdx
      cases hx : (gvV np m x).data with
      | false => rw [hx] at hdx; cases hdx
      | true => rw [hx] at hdx; exact ⟨u, us', rfl, hv x u hx r1, ih us' hdx r2⟩
  have hva : ∀ (x : SV) (u : Value), (gvA np m x).data = true → Rep (RO w0 R0 ρ w m) ρ m.next w x u → Rep (RO w0 R0 ρ w mF) ρ mF.next w (gvA np m x) u := fun x u hdx hr => by
    unfold gvA at hdx ⊢
    split at hdx
    · obtain ⟨vs, h1, h2⟩ := hr
      exact ⟨vs, h1, hvl _ vs (by rw [← data_agg]; exact hdx) h2⟩
    · exact hv x u hdx hr
  have hvm : ∀ (xs : List SV) (us : List Value), dataL (gvM np m xs) = true → RepL (RO w0 R0 ρ w m) ρ m.next w xs us → RepL (RO w0 R0 ρ w mF) ρ mF.next w (gvM np m xs) us := by
    intro xs
    induction xs with
    | nil => exact fun us _ hr => hr
    | cons x xs ih =>
      intro us hdx hr
      obtain ⟨u, us', rfl, r1, r2⟩ := hr
      have hdx : dataL (gvA np m x :: gvM np m xs) = true := hdx
      rw [dataL_cons] at hdx
      cases hx : (gvA np m x).data with
      | false => rw [hx] at hdx; cases hdx
      | true => rw [hx] at hdx; exact ⟨u, us', rfl, hva x u hx r1, ih us' hdx r2⟩
  have hvw : ∀ (x : SV) (u : Value), (gvW np m x).data = true → Rep (RO w0 R0 ρ w m) ρ m.next w x u → Rep (RO w0 R0 ρ w mF) ρ mF.next w (gvW np m x) u := fun x u hdx hr => by
    unfold gvW at hdx ⊢
    split at hdx
    · obtain ⟨vs, h1, h2⟩ := hr
      exact ⟨vs, h1, hvm _ vs (by rw [← data_tuple]; exact hdx) h2⟩
    · exact hva x u hdx hr
  refine ⟨⟨h.below, fun id B hB => by rw [hn]; exact (hsub id B hB).1, fun id B hB hs => by obtain ⟨C, hC, hs'⟩ := hsol id B hB hs; exact h.lo id C hC hs', fun id B hB hs => by obtain ⟨C, hC, hs'⟩ := hsol id B hB hs; exact h.hi id C hC hs', fun id id' B B' hB hB' hs hs' he => ?_, fun id B hB => ?_⟩, hro, hvw⟩
  · obtain ⟨C, hC, g1⟩ := hsol id B hB hs
    obtain ⟨C', hC', g2⟩ := hsol id' B' hB' hs'
    exact h.inj id id' C C' hC hC' g1 g2 he
  · obtain ⟨_, hdB, C, hC, rfl⟩ := hsub id B hB
    have h4 := h.box id C hC
    cases C with
    | cells cs =>
      obtain ⟨arr, e, fr, k1, k2, k3⟩ := h4
      exact ⟨arr, e, fr, k1, k2, hvl cs _ hdB k3⟩
    | rows t l =>
      obtain ⟨k1, k2, k3⟩ := h4
      refine ⟨k1, k2, fun h0 => ?_⟩
      obtain ⟨arr, e, fr, q1, q2, q3, q4⟩ := k3 h0
      refine ⟨arr, e, fr, q1, q2, q3, fun i hi => ?_⟩
      obtain ⟨cs, c1, c2, c3⟩ := q4 i hi
      exact ⟨cs, c1, c2, RepD.mono (fun b hb => ⟨hro b hb, rfl⟩) _ _ _ c3⟩
    | iter s pos => exact h4
    | obj t cs =>
      obtain ⟨arr, k1, k3⟩ := h4
      exact ⟨arr, k1, RepL.data hro _ _ hdB k3⟩

theorem memOf (np : Nat) (bs : List (Option Box)) : ∃ mF : Mem, mF.next = np ∧ ∀ k, mF.get k = (bs[k]?).join := by
  obtain ⟨fr, m, hc⟩ := Canon.of (slots := []) (boxes := bs)
  exact ⟨⟨np, m.tb⟩, rfl, hc.box⟩

theorem runsX_seg {P : Program} {E : Env} (hK : Known P E) {n : Nat} {fn : Func} {ds : List Deferred} {np : Nat} {keep : List Item → List Bool} {items : List Item} {p : Plan} {slots : List SV} {boxes : List (Option Box)} {r : Fin} (hnp : np ≤ boxes.length)
    (h : (segX E n fn np keep items p slots boxes).holds fun o => match o with
      | .fin r' => r' = r
      | .at items' size slots' boxes' => slots'.length = size ∧ RunsX P fn ds np r items' slots' boxes') : RunsX P fn ds np r items slots boxes := by
  intro fr0 m0 hc0 w0 R0 ρ w a hs b cs
  unfold segX at h
  obtain ⟨fr, h1, h2, h3, h4⟩ := make_holds h
  obtain ⟨m, h5, h6, h7, h8⟩ := memFill_holds boxes ⟨0, .e⟩ _ h1 fun id _ => rfl
  have hc : Canon slots boxes fr m := ⟨h2, h4, by rw [h6]; simp, fun id => by simpa using h8 id⟩
  have hnm : np ≤ m.next := by rw [hc.next]; exact hnp
  obtain ⟨hs1, hro1⟩ := hc0.swap hc hs
  obtain ⟨out, h9, h10⟩ := exec_ok hK.e hK.s hK.mix n _ _ _ _ _ _ h5
  cases out with
  | ret p' fr' m' =>
    dsimp only at h9
    obtain ⟨v', k1, k2⟩ := results_holds hK.e h9
    split at k1
    · rename_i hd
      rw [Bool.and_eq_true] at hd
      have k1 : Fin.ret (gvW np m' v') (firstB m' np) = r := k1
      subst k1
      obtain ⟨ρ1, w1, a1, todo, g1, g2, g3⟩ := h10 w0 R0 ρ w a hs1 b cs
      obtain ⟨u, r1, r2⟩ := k2 w0 R0 ρ1 w1 a1 g1
      obtain ⟨mF, hn, hg⟩ := memOf np (firstB m' np)
      obtain ⟨e1, e2, e3⟩ := g1.1.first hd.1 hn hg
      exact ⟨ρ1, w1, a1, todo, u, mF, hn, hg, e1, fun k hk => g2.same k (by omega), g1.2.2, fun b hb => ⟨e2 b (g2.keep b ((hro1 b).1 hb)).1, (g2.keep b ((hro1 b).1 hb)).2⟩, by have := e3 v' u hd.2 r2; rw [hn] at this; exact this, g3, r1⟩
    · exact k1.elim
  | pan v' fr' m' =>
    dsimp only at h9
    split at h9
    · rename_i hd
      rw [Bool.and_eq_true] at hd
      have h9 : Fin.pan v' (firstB m' np) = r := h9
      subst h9
      obtain ⟨ρ1, w1, a1, todo, u, g1, g2, g3, g4⟩ := h10 w0 R0 ρ w a hs1 b cs
      obtain ⟨mF, hn, hg⟩ := memOf np (firstB m' np)
      obtain ⟨e1, e2, _⟩ := g1.1.first hd.1 hn hg
      exact ⟨ρ1, w1, a1, todo, u, mF, hn, hg, e1, fun k hk => g2.same k (by omega), g1.2.2, fun b hb => ⟨e2 b (g2.keep b ((hro1 b).1 hb)).1, (g2.keep b ((hro1 b).1 hb)).2⟩, Rep.data e2 v' u hd.2 g3, g4⟩
    · exact h9.elim
  | stop items' fr' m' =>
    dsimp only at h9
    split at h9
    · rename_i hnd
      rw [Bool.and_eq_true, decide_eq_true_eq] at hnd
      have h10 : Reach P items fr m (.stop (enter items') fr' m') := by
        refine h10.trans ?_
        unfold enter
        split
        · exact Reach.step fun b a cs w _ => step_loop
        · exact Reach.step fun b a cs w _ => step_inLoop
        · exact Reach.refl _ _ _
      generalize hids : liveX np m' (viewS fr' (keep items') 0) = ids at h9 hnd
      obtain ⟨k1, k5⟩ := h9
      obtain ⟨ρ1, w1, a1, g1, g2, g3⟩ := h10 w0 R0 ρ w a hs1 b cs
      obtain ⟨fr2, m2, hc2⟩ := Canon.of (slots := renL ids (viewS fr' (keep items') 0)) (boxes := ids.map fun id => (m'.get id).map (renB ids))
      obtain ⟨e1, e2⟩ := g1.rename (nodupB_spec hnd.1) hc2 (by rw [← k1, renL_len]) (fun i x hx => by simpa using viewS_get fr' _ 0 i x hx)
      obtain ⟨ρ3, w3, a3, todo, u, mF, q1, q2, q3, q4, q5, q6, q7, q8⟩ := k5 fr2 m2 hc2 w0 R0 _ w1 a1 e1 b cs
      refine ⟨ρ3, w3, a3, todo, u, mF, q1, q2, q3, fun k hk => ?_, q5, fun b hb => by
        have s1 := g2.keep b ((hro1 b).1 hb)
        have s2 := q6 b (e2 b s1.1)
        exact ⟨s2.1, s2.2.trans s1.2⟩, q7, ?_⟩
      · rw [q4 k hk]
        have : ids.getD k 0 = k := by
          have h1 : (ids.take np)[k]? = (List.range np)[k]? := by rw [hnd.2]
          rw [List.getElem?_take_of_lt hk, List.getElem?_range hk] at h1
          rw [List.getD_eq_getElem?_getD, h1]; rfl
        rw [this]
        exact g2.same k (by omega)
      · cases r with
        | ret v bs => exact ⟨g3.trans q8.1, q8.2⟩
        | pan v bs => exact g3.trans q8
    · exact h9.elim

/-- Descent. -/
theorem runsX_of {P : Program} {E : Env} (hK : Known P E) {n : Nat} {fn : Func} {ds : List Deferred} {np : Nat} {r : Fin} {σ : Type} (inv : σ → Prop) (μ : σ → Nat) (keep : List Item → List Bool) (it : σ → List Item) (sl : σ → List SV) (bx : σ → List (Option Box)) (pl : σ → Plan) (hnp : ∀ s, np ≤ (bx s).length)
    (h : ∀ s, inv s → (segX E n fn np keep (it s) (pl s) (sl s) (bx s)).holds fun o => match o with
      | .fin r' => r' = r
      | .at items' size slots' boxes' => slots'.length = size ∧ ((∃ s', inv s' ∧ μ s' < μ s ∧ items' = it s' ∧ slots' = sl s' ∧ boxes' = bx s') ∨ RunsX P fn ds np r items' slots' boxes')) :
    ∀ s, inv s → RunsX P fn ds np r (it s) (sl s) (bx s) := by
  have : ∀ k s, μ s < k → inv s → RunsX P fn ds np r (it s) (sl s) (bx s) := by
    intro k
    induction k with
    | zero => exact fun s hk => absurd hk (Nat.not_lt_zero _)
    | succ k ih =>
      intro s hk hs
      refine runsX_seg hK (hnp s) (E := E) (n := n) (keep := keep) (p := pl s) (Tree.holds_mono (fun o ho => ?_) _ (h s hs))
      cases o with
      | fin v' => exact ho
      | «at» items' size slots' boxes' =>
        obtain ⟨a6, ho⟩ := ho
        rcases ho with ⟨s', a1, a2, rfl, rfl, rfl⟩ | ho
        · exact ⟨a6, ih s' (by omega) a1⟩
        · exact ⟨a6, ho⟩
  exact fun s hs => this _ s (Nat.lt_succ_self _) hs

/-! ### Contracts -/

def fnOk (P : Program) (f : FuncId) (args : List SV) : Bool := match P.funcs[f]? with
  | some fn => fn.body.isSome && !(fn.name == "runtime.NumGoroutine") && Nat.ble args.length fn.ntmps
  | none => false
theorem fnOk_spec {P : Program} {f : FuncId} {args : List SV} (h : fnOk P f args = true) : P.funcs[f]? = some (fnOf P f) ∧ (fnOf P f).body = some (bodyOf P f) ∧ ((fnOf P f).name == "runtime.NumGoroutine") = false ∧ args.length ≤ (fnOf P f).ntmps := by
  unfold fnOk at h
  unfold bodyOf fnOf
  cases hx : P.funcs[f]? with
  | none => rw [hx] at h; cases h
  | some fn =>
    rw [hx] at h
    dsimp only at h ⊢
    simp only [Bool.and_eq_true, Bool.not_eq_true'] at h
    obtain ⟨⟨h1, h2⟩, h3⟩ := h
    obtain ⟨body, hb⟩ := Option.isSome_iff_exists.1 h1
    rw [hb]
    exact ⟨rfl, rfl, h2, Nat.le_of_ble_eq_true h3⟩

/-- What such an end is to a caller. -/
def Fin.ex : Fin → Mem → Ex
  | .ret v _, m => .ok v m
  | .pan v _, m => .pan v m

def Fin.post (P : Program) (Φ : Value → World → Prop) : Fin → Result Next → Prop
  | .ret _ _ => OpPost P Φ
  | .pan _ _ => PanPost P Φ
/-- The core: a call whose code is run in a memory of boxes; what it leaves is carried over by the caller. -/
theorem xcall_core {P : Program} {f : FuncId} {args : List SV} {np : Nat} {r : Fin} {boxes : List (Option Box)} (hf : fnOk P f args = true) (h : RunsX P (fnOf P f) [] np r (codeS P f) (startS P f args) boxes)
    {w0 w0c : World} {R0 R0c : Nat → Prop} {ρ ρc : Rho} {w : World} {m mc m' : Mem} {vs : List Value} (hcn : mc.next = boxes.length) (hcg : ∀ k, mc.get k = (boxes[k]?).join) (hmc : MRel w0c R0c ρc w mc) (hvs : RepL (RO w0c R0c ρc w mc) ρc mc.next w args vs)
    (hout : ∀ ρ' w' u mF, mF.next = np → (∀ k, mF.get k = (r.boxes[k]?).join) → MRel w0c R0c ρ' w' mF → (∀ k, k < np → ρ' k = ρc k) → (∀ b, RO w0c R0c ρc w mc b → RO w0c R0c ρ' w' mF b ∧ w'.heap[b]? = w.heap[b]?) → Rep (RO w0c R0c ρ' w' mF) ρ' np w' r.val u → OpOut w0 R0 ρ w m r.val m' u w') :
    r.post P (OpOut w0 R0 ρ w m r.val m') ((Go.callFunc f vs.toArray).run P w) := by
  obtain ⟨hfn, hb, hn, hl⟩ := fnOk_spec hf
  obtain ⟨fr, mx, hcx⟩ := Canon.of (slots := startS P f args) (boxes := boxes)
  have hc : Canon (startS P f args) boxes fr mc := ⟨hcx.size, hcx.get, hcn, hcg⟩
  have hfr := frame_rel (fr := fr) (size := (fnOf P f).ntmps) (by rw [hc.size]; simp [startS]; omega) (.inr hl) (fun t => by rw [hc.get]; exact pad_get ..) hvs
  let b : Frame := { (default : Frame) with fn := f, kind := .normal }
  have henter : Frame.enter P f vs.toArray .normal = b.at { tmps := vs.toArray ++ Array.replicate ((fnOf P f).ntmps - vs.toArray.size) Go.undef, defers := [] } [.code (bodyOf P f)] := by
    simp [Frame.enter, Frame.at, hfn, hb, b]
  have key := fun cs => h fr mc hc w0c R0c ρc w { tmps := vs.toArray ++ Array.replicate ((fnOf P f).ntmps - vs.toArray.size) Go.undef, defers := [] } ⟨hmc, hfr, rfl⟩ b cs
  rw [callFunc_enter hfn hb hn]
  cases r with
  | ret v bs =>
    intro cs
    obtain ⟨ρ', w', a', todo, u, mF, q1, q2, q3, q4, q5, q6, q7, q8, q9⟩ := key cs
    exact ⟨.returned u, w', _, ⟨u, rfl, hout ρ' w' u mF q1 q2 q3 q4 q6 q7⟩, by rw [henter]; exact q8, rfl, rfl, q5, rfl, _, hfn, q9⟩
  | pan v bs =>
    intro cs
    obtain ⟨ρ', w', a', todo, u, mF, q1, q2, q3, q4, q5, q6, q7, q8⟩ := key cs
    exact ⟨.panicked [{ v := u, recovered := false }], w', _, ⟨u, rfl, hout ρ' w' u mF q1 q2 q3 q4 q6 q7⟩, by rw [henter]; exact q8, rfl, rfl, q5, _, hfn⟩

/-- In a memory of just these boxes. -/
theorem xcall_full {P : Program} {f : FuncId} {args : List SV} {np : Nat} {r : Fin} {boxes : List (Option Box)} (hf : fnOk P f args = true) (h : RunsX P (fnOf P f) [] np r (codeS P f) (startS P f args) boxes) (hnp : boxes.length = np)
    {m m' : Mem} (hcn : m.next = boxes.length) (hcg : ∀ k, m.get k = (boxes[k]?).join) (hn' : m'.next = np) (hg' : ∀ k, m'.get k = (r.boxes[k]?).join) : XCall P f args m (r.ex m') := by
  have key : ∀ w0 R0 ρ w (vs : List Value), MRel w0 R0 ρ w m → RepL (RO w0 R0 ρ w m) ρ m.next w args vs → r.post P (OpOut w0 R0 ρ w m r.val m') ((Go.callFunc f vs.toArray).run P w) := fun w0 R0 ρ w vs hm hvs =>
    xcall_core hf h hcn hcg hm hvs fun ρ' w' u mF e1 e2 e3 e4 e5 e6 => by
      have eg : ∀ k, m'.get k = mF.get k := fun k => by rw [hg', e2]
      refine ⟨ρ', e3.congr eg (by rw [hn', e1]), ⟨by rw [hcn, hn', hnp]; exact Nat.le_refl _, fun k hk => e4 k (by omega), fun b hb => ?_⟩, ?_⟩
      · obtain ⟨k1, k2⟩ := e5 b hb
        exact ⟨by rw [RO.congr eg]; exact k1, k2⟩
      · rw [RO.congr eg, hn']; exact e6
  cases r with
  | ret v bs => exact key
  | pan v bs => exact key

/-- Flat values: they say nothing of memory. -/
def flatV : SV → Bool
  | .int _ _ => true
  | .bool _ => true
  | .str _ => true
  | .undef => true
  | .nilS => true
  | .nilP => true
  | .raw _ => true
  | _ => false
def flatL : List SV → Bool
  | [] => true
  | x :: xs => flatV x && flatL xs
def flatA : SV → Bool
  | .agg cs => flatL cs
  | .tuple cs => flatL cs
  | v => flatV v
theorem flatV_rep {R R' : Nat → Prop} {ρ ρ' : Rho} {n n' : Nat} {w w' : World} : ∀ {x : SV} {v : Value}, flatV x = true → Rep R ρ n w x v → Rep R' ρ' n' w' x v
  | .int _ _, _, _, h => h
  | .bool _, _, _, h => h
  | .str _, _, _, h => h
  | .undef, _, _, h => h
  | .nilS, _, _, h => h
  | .nilP, _, _, h => h
  | .raw _, _, _, h => h
theorem flatL_rep {R R' : Nat → Prop} {ρ ρ' : Rho} {n n' : Nat} {w w' : World} : ∀ {xs : List SV} {vs : List Value}, flatL xs = true → RepL R ρ n w xs vs → RepL R' ρ' n' w' xs vs
  | [], _, _, h => h
  | x :: xs, vs, hd, h => by
    obtain ⟨u, us, rfl, h1, h2⟩ := h
    have hd : (flatV x && flatL xs) = true := hd
    rw [Bool.and_eq_true] at hd
    exact ⟨u, us, rfl, flatV_rep hd.1 h1, flatL_rep hd.2 h2⟩
theorem flatA_rep {R R' : Nat → Prop} {ρ ρ' : Rho} {n n' : Nat} {w w' : World} {x : SV} {v : Value} (hd : flatA x = true) (h : Rep R ρ n w x v) : Rep R' ρ' n' w' x v := by
  unfold flatA at hd
  split at hd
  · obtain ⟨vs, h1, h2⟩ := h; exact ⟨vs, h1, flatL_rep hd h2⟩
  · obtain ⟨vs, h1, h2⟩ := h; exact ⟨vs, h1, flatL_rep hd h2⟩
  · exact flatV_rep hd h

/-- One box of the caller's, among others: it and what is handed back are flat. -/
theorem xcall_flat {P : Program} {f : FuncId} {args argsc : List SV} {r : Fin} {cs0 cs1 : List SV} (hf : fnOk P f argsc = true) (h : RunsX P (fnOf P f) [] 1 r (codeS P f) (startS P f argsc) [some (.cells cs0)]) (hr : r.boxes = [some (.cells cs1)])
    {m m' : Mem} {id : Nat} (hB : m.get id = some (.cells cs0)) (fl0 : flatL cs0 = true) (fl1 : flatL cs1 = true) (flv : flatA r.val = true) (hn' : m'.next = m.next) (hg' : ∀ k, m'.get k = if k = id then some (.cells cs1) else m.get k)
    (harg : ∀ w0 R0 ρ w (vs : List Value) (mc : Mem), MRel w0 R0 ρ w m → mc.next = 1 → (∀ k, mc.get k = if k = 0 then some (.cells cs0) else none) → RepL (RO w0 R0 ρ w m) ρ m.next w args vs → RepL (RO w0 R0 (fun _ => ρ id) w mc) (fun _ => ρ id) 1 w argsc vs) : XCall P f args m (r.ex m') := by
  have key : ∀ w0 R0 ρ w (vs : List Value), MRel w0 R0 ρ w m → RepL (RO w0 R0 ρ w m) ρ m.next w args vs → r.post P (OpOut w0 R0 ρ w m r.val m') ((Go.callFunc f vs.toArray).run P w) := fun w0 R0 ρ w vs hm hvs => by
    obtain ⟨mc, hn, hg⟩ := memOf 1 [some (.cells cs0)]
    have hgc : ∀ k, mc.get k = if k = 0 then some (.cells cs0) else none := fun k => by
      rw [hg k]
      cases k with
      | zero => rfl
      | succ k => simp
    have only : ∀ k B, mc.get k = some B → k = 0 ∧ B = .cells cs0 := fun k B hk => by
      rw [hgc k] at hk
      split at hk
      · rename_i h0; injection hk with hk; exact ⟨h0, hk.symm⟩
      · cases hk
    have hmc : MRel w0 R0 (fun _ => ρ id) w mc := by
      refine ⟨hm.below, fun k B hk => by rw [hn, (only k B hk).1]; exact Nat.zero_lt_one, fun k B hk hs => ?_, fun k B hk hs => ?_, fun k k' B B' hk hk' _ _ _ => by rw [(only k B hk).1, (only k' B' hk').1], fun k B hk => ?_⟩
      · obtain ⟨_, rfl⟩ := only k B hk; exact hm.lo id _ hB trivial
      · obtain ⟨_, rfl⟩ := only k B hk; exact hm.hi id _ hB trivial
      · obtain ⟨_, rfl⟩ := only k B hk
        obtain ⟨arr, e, fr, k1, k2, k3⟩ := hm.box id _ hB
        exact ⟨arr, e, fr, k1, k2, flatL_rep fl0 k3⟩
    have hroc : ∀ b, RO w0 R0 ρ w m b → RO w0 R0 (fun _ => ρ id) w mc b := fun b hb => by
      rcases hb with hb | ⟨k1, k2, k3⟩
      · exact .inl hb
      · exact .inr ⟨k1, k2, fun k B hk hs => by obtain ⟨_, rfl⟩ := only k B hk; exact k3 id _ hB trivial⟩
    refine xcall_core (m := m) (m' := m') hf h (by rw [hn]; rfl) hg hmc (by rw [hn]; exact harg w0 R0 ρ w vs mc hm hn hgc hvs) fun ρ' w' u mF e1 e2 e3 e4 e5 e6 => ?_
    have eρ : ρ' 0 = ρ id := e4 0 Nat.zero_lt_one
    have hF : mF.get 0 = some (.cells cs1) := by rw [e2, hr]; rfl
    have hsz := e3.below.size
    have hgrow : w.heap.size ≤ w'.heap.size ∨ True := .inr trivial
    -- the caller's other boxes stand in blocks that the callee has left alone
    have hoth : ∀ k B, k ≠ id → m.get k = some B → solid (ρ k) B → RO w0 R0 (fun _ => ρ id) w mc (ρ k).1 := fun k B hk hkB hs => by
      refine .inr ⟨hm.lo k B hkB hs, hm.hi k B hkB hs, fun j C hj hsj heq => ?_⟩
      obtain ⟨_, rfl⟩ := only j C hj
      exact hk (hm.inj id k _ _ hB hkB trivial hs heq).symm
    have hlt' : ∀ b, RO w0 R0 ρ' w' mF b → b < w'.heap.size := fun b hb => e3.ro_lt hb
    have hro : ∀ b, RO w0 R0 ρ w m b → RO w0 R0 ρ w' m' b ∧ w'.heap[b]? = w.heap[b]? := fun b hb => by
      obtain ⟨k1, k2⟩ := e5 b (hroc b hb)
      refine ⟨?_, k2⟩
      rcases hb with hb | ⟨h1, h2, h3⟩
      · exact .inl hb
      · refine .inr ⟨h1, hlt' b k1, fun k B hk hs => ?_⟩
        rw [hg' k] at hk
        split at hk
        · rename_i hkid; subst hkid; exact h3 k _ hB trivial
        · exact h3 k B hk hs
    have hext : MExt w0 R0 ρ w m ρ w' m' := ⟨by rw [hn']; exact Nat.le_refl _, fun _ _ => rfl, hro⟩
    refine ⟨ρ, ⟨e3.below, fun k B hk => ?_, fun k B hk hs => ?_, fun k B hk hs => ?_, fun k k' B B' hk hk' hs hs' heq => ?_, fun k B hk => ?_⟩, hext, flatA_rep flv e6⟩
    · rw [hg' k] at hk
      rw [hn']
      split at hk
      · rename_i hkid; subst hkid; exact hm.lt k _ hB
      · exact hm.lt k B hk
    · rw [hg' k] at hk
      split at hk
      · rename_i hkid; subst hkid; exact hm.lo k _ hB trivial
      · exact hm.lo k B hk hs
    · rw [hg' k] at hk
      split at hk
      · rename_i hkid; subst hkid
        rw [← eρ]; exact e3.hi 0 _ hF trivial
      · rename_i hkid
        exact hlt' _ (e5 _ (hoth k B hkid hk hs)).1
    · rw [hg' k] at hk
      rw [hg' k'] at hk'
      split at hk
      · rename_i h1
        split at hk'
        · rename_i h2; rw [h1, h2]
        · rename_i h2
          subst h1
          exact hm.inj k k' _ _ hB hk' trivial hs' heq
      · rename_i h1
        split at hk'
        · rename_i h2
          subst h2
          exact hm.inj k k' _ _ hk hB hs trivial heq
        · exact hm.inj k k' _ _ hk hk' hs hs' heq
    · rw [hg' k] at hk
      split at hk
      · rename_i hkid
        subst hkid
        injection hk with hk; subst hk
        obtain ⟨arr, e, fr, k1, k2, k3⟩ := e3.box 0 _ hF
        rw [eρ] at k1
        exact ⟨arr, e, fr, k1, k2, flatL_rep fl1 k3⟩
      · rename_i hkid
        exact BoxRel.mono hext B (fun hs => (e5 _ (hoth k B hkid hk hs)).2) (hm.box k B hk)
  cases r with
  | ret v bs => exact key
  | pan v bs => exact key
end Go.Sx
set_option linter.unusedSimpArgs false
set_option linter.unusedVariables false
set_option maxRecDepth 100000
namespace Go.Proofs.YtlhkgeoahblffaaDoor
open Go.Sx

theorem mix : Tryd.prog.follows .mixedOrders = true := by kernel_rfl
theorem hK {l : List Fact} (h : allOk Tryd.prog l) : Known Tryd.prog (Env.of Tryd.prog (sumOf l)) := known_of mix (sumOf_ok l h.all)
/-- Texts of at most 100000 bytes. -/
def small (s : List UInt8) : Bool := decide ((s.length : Int) ≤ 100000)
theorem small_iff {s : List UInt8} : small s = true ↔ (s.length : Int) ≤ 100000 := by simp [small]
/-- The byte at a place, and the letter. -/
def bt (s : List UInt8) (i : Int) : Int := ↑(s.getD i.toNat 0).toNat
def rn (s : List UInt8) (p : Nat) : Int := ↑(Utf8.decode (ByteArray.mk (Array.mk s)) p).fst
/-- Facts on texts. -/
def factT (f : FuncId) (h : List UInt8 → Tree SV) : Fact := ⟨f, fun args => match args with
  | [.str s] => some (.req (small s) (h s))
  | _ => none⟩
theorem factT_ok {P : Program} {f : FuncId} {h : List UInt8 → Tree SV} (k : ∀ s, small s = true → (h s).says (SCall P f [.str s])) : (factT f h).ok P := fun args t ht => by
  simp only [factT] at ht
  split at ht
  · injection ht with ht; subst ht; exact fun hs => k _ hs
  · cases ht
theorem small_le {s t : List UInt8} (h : t.length ≤ s.length) (hs : small s = true) : small t = true := by
  rw [small_iff] at hs ⊢; omega
theorem head45 {b : UInt8} : (b.toNat : Int) = 45 ↔ b = 45 := ⟨fun h => UInt8.toNat_inj.1 (by have : (45 : UInt8).toNat = 45 := rfl; omega), fun h => by subst h; rfl⟩
end Go.Proofs.YtlhkgeoahblffaaDoor
set_option linter.unusedSimpArgs false
set_option linter.unusedVariables false
namespace Go.Sx
open Go.RowKit

theorem scall_lib {P : Program} {f : FuncId} {fn : Func} {args : List SV} {v : SV} (hd : dataL args = true) (hv : v.data = true) (hf : P.funcs[f]? = some fn) (hb : fn.body.isSome = true) (hn : (fn.name == "runtime.NumGoroutine") = false)
    (h : ∀ (R : Nat → Prop) (w : World) (vs : List Value), (∀ b, R b → b < w.heap.size) → Gnd w → RepL R (fun _ => (0, 0, 0)) 0 w args vs →
      Calls P f vs.toArray w fun e w' => ∃ u, e = .returned u ∧ Below w.heap.size w w' ∧ Rep (fun b => R b ∨ (w.heap.size ≤ b ∧ b < w'.heap.size)) (fun _ => (0, 0, 0)) 0 w' v u) : SCall P f args v := by
  intro m w0 R0 ρ w vs hm hvs
  obtain ⟨body, hb⟩ := Option.isSome_iff_exists.1 hb
  rw [callFunc_enter hf hb hn]
  obtain ⟨o1, o2⟩ := own_mem hm ρ
  have hvs' := RepL.data (R' := RO w0 R0 ρ w m) (ρ' := fun _ => (0, 0, 0)) (n' := 0) (fun b hb => hb) args vs hd hvs
  refine Calls.mono (h (RO w0 R0 ρ w m) w vs (fun b hb => hm.ro_lt hb) hm.gnd hvs') fun e w' ⟨u, he, g1, g3⟩ => ⟨u, he, ?_⟩
  have g : MRel w (RO w0 R0 ρ w m) ρ w' ⟨0, .e⟩ := ⟨⟨g1, hm.gnd⟩, fun id B h => (by cases h), fun id B h => (by cases h), fun id B h => (by cases h), fun id id' B B' h => (by cases h), fun id B h => (by cases h)⟩
  have hst := Hand.start hm g
  obtain ⟨k1, k2⟩ := hst.finish hm g
  refine ⟨ρ, k1, k2, Rep.data (fun b hb => ?_) v u hv g3⟩
  rcases hb with hb | hb
  · exact hst.ro b (.inr (.inl ⟨hb, hm.ro_lt hb⟩))
  · exact hst.ro b (.inr (.inr ⟨hb.1, hb.2, fun id B h => by cases h⟩))

/-- Strings in a new block read as a list. -/
theorem rep_new_strs {R : Nat → Prop} {ρ : Rho} {n : Nat} {w : World} {t : TypeId} (l : List ByteArray) (ls : List Ty.str.T) (cells : Array Value) (e : ls.length = l.length) (hls : ∀ i (h : i < ls.length) (h' : i < l.length), ls[i] = l[i].data.toList) (hc : cells = (l.map Value.string).toArray) (hR : R w.heap.size) : Rep R ρ n (w.alloc (.cells cells t)) (.list .str ls) (.slice (some ⟨w.heap.size, 0, none⟩) l.length l.length) := by
  subst hc
  refine ⟨some ⟨w.heap.size, 0, none⟩, l.length, by rw [e], Nat.le_of_eq e, fun hp => ⟨w.heap.size, 0, rfl, hR, fun i h => ⟨[.string (l[i]'(by rw [← e]; exact h))], rfl, fun j hj => ?_, ?_⟩⟩⟩
  · have hi : i < l.length := by rw [← e]; exact h
    obtain rfl : j = 0 := by have : j < 1 := hj; omega
    have hh : (w.alloc (.cells (l.map Value.string).toArray t)).heap[w.heap.size]? = some (.cells (l.map Value.string).toArray t) := by show (w.heap.push _)[w.heap.size]? = _; simp
    unfold World.cell?
    dsimp only
    rw [hh]
    simp [Ty.sz, hi]
  · have hi : i < l.length := by rw [← e]; exact h
    show [Value.string _] = [Value.string _]
    rw [List.get_eq_getElem, hls i h hi]
end Go.Sx
namespace Go.Proofs
open Go.Shelf
def Tryd.lays170_ren : Go.Shelf.Ren := ⟨fun | 170 => 30 | n => n, fun | 70 => 49 | 3 => 3 | 0 => 0 | 72 => 51 | 37 => 40 | 5 => 5 | n => n, fun | n => n⟩
theorem Tryd.lays170 : Go.Proofs.Lays.n170 Tryd.prog Tryd.lays170_ren := {
  mixed := by kernel_rfl
  f170 := Tryd.func30.trans (congrArg some (by kernel_rfl))
  t0 := Tryd.underlying0
  a0 := Tryd.isAgg0
  z0 := Tryd.sizeOf0
  v0 := Tryd.zeroValue0
  t3 := Tryd.underlying3
  a3 := Tryd.isAgg3
  z3 := Tryd.sizeOf3
  v3 := Tryd.zeroValue3
  t37 := Tryd.underlying40
  a37 := Tryd.isAgg40
  z37 := Tryd.sizeOf40
  v37 := Tryd.zeroValue40
  t70 := Tryd.underlying49
  a70 := Tryd.isAgg49
  z70 := Tryd.sizeOf49
  v70 := Tryd.zeroValue49
  t72 := Tryd.underlying51
  a72 := Tryd.isAgg51
  z72 := Tryd.sizeOf51
  v72 := Tryd.zeroValue51 }
open Go.RowKit in
/-- (*strings.Builder).Len: "Len returns the number of accumulated bytes; b.Len() == len(b.String()).": the world is as it was. (LAID: no walk: one application.) -/
theorem Tryd.Builder_Len (B b : Nat) (bs : List Value) (w : World) (h : Lib.IsBuilder 51 5 B b bs w) :
    Calls Tryd.prog 30 #[.pointer (some ⟨b, 0, none⟩)] w fun e w' => e = .returned (.int .i64 bs.length) ∧ w' = w := Any.Builder_Len Tryd.lays170 B b bs w h
def Tryd.lays169_ren : Go.Shelf.Ren := ⟨fun | 169 => 31 | n => n, fun | 70 => 49 | 9 => 9 | 0 => 0 | 72 => 51 | 37 => 40 | 127 => 83 | 3 => 3 | 5 => 5 | n => n, fun | n => n⟩
theorem Tryd.lays169 : Go.Proofs.Lays.n169 Tryd.prog Tryd.lays169_ren := {
  mixed := by kernel_rfl
  f169 := Tryd.func31.trans (congrArg some (by kernel_rfl))
  t0 := Tryd.underlying0
  a0 := Tryd.isAgg0
  z0 := Tryd.sizeOf0
  v0 := Tryd.zeroValue0
  t3 := Tryd.underlying3
  a3 := Tryd.isAgg3
  z3 := Tryd.sizeOf3
  v3 := Tryd.zeroValue3
  t9 := Tryd.underlying9
  a9 := Tryd.isAgg9
  z9 := Tryd.sizeOf9
  v9 := Tryd.zeroValue9
  t37 := Tryd.underlying40
  a37 := Tryd.isAgg40
  z37 := Tryd.sizeOf40
  v37 := Tryd.zeroValue40
  t70 := Tryd.underlying49
  a70 := Tryd.isAgg49
  z70 := Tryd.sizeOf49
  v70 := Tryd.zeroValue49
  t72 := Tryd.underlying51
  a72 := Tryd.isAgg51
  z72 := Tryd.sizeOf51
  v72 := Tryd.zeroValue51
  t127 := Tryd.underlying83
  a127 := Tryd.isAgg83
  z127 := Tryd.sizeOf83
  v127 := Tryd.zeroValue83 }
theorem Tryd.Builder_Extra_169 : Builder.Extra Tryd.prog Tryd.lays169_ren := {
  sizeBuilder := by kernel_rfl
  liesBuilder := by kernel_rfl
  t5 := Tryd.underlying5
  a5 := Tryd.isAgg5
  z5 := Tryd.sizeOf5
  v5 := Tryd.zeroValue5
  infoByte := by kernel_rfl
  cellsByte := by kernel_rfl
  sizeByte := by kernel_rfl
  neB5 := by decide }
open Go.RowKit in
/-- (*strings.Builder).String: "String returns the accumulated string.": OF A BUILDER THAT HOLDS AT LEAST ONE BYTE. ✋ THE MODEL FREEZES THOSE BYTES IN THE BUFFER (unsafe.String): a later write INTO them ends the model's run without an answer; a later append BEHIND them goes on. The statement's order of evaluation is drawn: one draw. (LAID: no walk: one application.) -/
theorem Tryd.Builder_String (B b : Nat) (l : List UInt8) (w : World) (h : Lib.IsBuilder 51 5 B b (Lib.byteCells l) w) (h0 : l ≠ []) :
    Calls Tryd.prog 31 #[.pointer (some ⟨b, 0, none⟩)] w fun e w' => e = .returned (.string ⟨l.toArray⟩) ∧ Below B w w' := Any.Builder_String Tryd.lays169 Tryd.Builder_Extra_169 B b l w h h0
open Go.RowKit in
/-- (*strings.Builder).String OF A BUILDER THAT HOLDS NO BYTE: the empty string. (Its buffer is nil, or a row of which it has taken nothing yet; where that row has NO capacity the model lays one new block for unsafe.SliceData's 'some address'.) One draw. (LAID: no walk: one application.) -/
theorem Tryd.Builder_String_empty (B b : Nat) (w : World) (h : Lib.IsBuilder 51 5 B b [] w) (hBw : B ≤ w.heap.size) :
    Calls Tryd.prog 31 #[.pointer (some ⟨b, 0, none⟩)] w fun e w' => e = .returned (.string ⟨#[]⟩) ∧ Below B w w' := Any.Builder_String_empty Tryd.lays169 Tryd.Builder_Extra_169 B b w h hBw
open Go.RowKit in
/-- (*strings.Builder).String: "String returns the accumulated string.": WHATEVER THE BUILDER HOLDS. (LAID: no walk: one application.) -/
theorem Tryd.Builder_String_any (B b : Nat) (l : List UInt8) (w : World) (h : Lib.IsBuilder 51 5 B b (Lib.byteCells l) w) (hBw : B ≤ w.heap.size) :
    Calls Tryd.prog 31 #[.pointer (some ⟨b, 0, none⟩)] w fun e w' => e = .returned (.string ⟨l.toArray⟩) ∧ Below B w w' := Any.Builder_String_any Tryd.lays169 Tryd.Builder_Extra_169 B b l w h hBw
def Tryd.lays231_ren : Go.Shelf.Ren := ⟨fun | 231 => 76 | n => n, fun | 9 => 9 | 5 => 5 | 3 => 3 | 4 => 4 | n => n, fun | n => n⟩
theorem Tryd.lays231 : Go.Proofs.Lays.n231 Tryd.prog Tryd.lays231_ren := {
  mixed := by kernel_rfl
  f231 := Tryd.func76.trans (congrArg some (by kernel_rfl))
  t3 := Tryd.underlying3
  a3 := Tryd.isAgg3
  z3 := Tryd.sizeOf3
  v3 := Tryd.zeroValue3
  t4 := Tryd.underlying4
  a4 := Tryd.isAgg4
  z4 := Tryd.sizeOf4
  v4 := Tryd.zeroValue4
  t5 := Tryd.underlying5
  a5 := Tryd.isAgg5
  z5 := Tryd.sizeOf5
  v5 := Tryd.zeroValue5
  t9 := Tryd.underlying9
  a9 := Tryd.isAgg9
  z9 := Tryd.sizeOf9
  v9 := Tryd.zeroValue9 }
open Go.RowKit in
/-- strings.trimLeftByte (no doc; what TrimLeft and Trim call at a cutset of one ASCII byte): the leading bytes that are c are cut off. The world is as it was. (LAID: no walk: one application.) -/
theorem Tryd.strings_trimLeftByte (s : ByteArray) (c : UInt8) (w : World) :
    Calls Tryd.prog 76 #[.string s, .int .u8 c.toNat] w fun e w' => e = .returned (.string ⟨(Lib.trimLeftB s.data.toList c).toArray⟩) ∧ w' = w := Any.strings_trimLeftByte Tryd.lays231 s c w
def Tryd.lays232_ren : Go.Shelf.Ren := ⟨fun | 232 => 77 | n => n, fun | 9 => 9 | 5 => 5 | 3 => 3 | 4 => 4 | n => n, fun | n => n⟩
theorem Tryd.lays232 : Go.Proofs.Lays.n232 Tryd.prog Tryd.lays232_ren := {
  mixed := by kernel_rfl
  f232 := Tryd.func77.trans (congrArg some (by kernel_rfl))
  t3 := Tryd.underlying3
  a3 := Tryd.isAgg3
  z3 := Tryd.sizeOf3
  v3 := Tryd.zeroValue3
  t4 := Tryd.underlying4
  a4 := Tryd.isAgg4
  z4 := Tryd.sizeOf4
  v4 := Tryd.zeroValue4
  t5 := Tryd.underlying5
  a5 := Tryd.isAgg5
  z5 := Tryd.sizeOf5
  v5 := Tryd.zeroValue5
  t9 := Tryd.underlying9
  a9 := Tryd.isAgg9
  z9 := Tryd.sizeOf9
  v9 := Tryd.zeroValue9 }
open Go.RowKit in
/-- strings.trimRightByte (no doc; what TrimRight and Trim call at a cutset of one ASCII byte): the trailing bytes that are c are cut off. The world is as it was. ('hs': a string's length is a number that an int holds.) (LAID: no walk: one application.) -/
theorem Tryd.strings_trimRightByte (s : ByteArray) (c : UInt8) (w : World) (hs : s.size ≤ 9223372036854775807) :
    Calls Tryd.prog 77 #[.string s, .int .u8 c.toNat] w fun e w' => e = .returned (.string ⟨(Lib.trimRightB s.data.toList c).toArray⟩) ∧ w' = w := Any.strings_trimRightByte Tryd.lays232 s c w hs
def Tryd.lays160_ren : Go.Shelf.Ren := ⟨fun | 160 => 57 | 232 => 77 | 231 => 76 | 227 => 78 | 234 => 80 | 233 => 79 | 236 => 82 | 235 => 81 | 228 => 85 | 271 => 88 | 151 => 87 | 197 => 86 | 120 => 95 | 152 => 94 | 260 => 93 | 137 => 98 | 119 => 99 | 224 => 91 | 225 => 90 | 217 => 89 | 266 => 96 | n => n, fun | 9 => 9 | 4 => 4 | 3 => 3 | 5 => 5 | 117 => 109 | 116 => 108 | 0 => 0 | 124 => 112 | 21 => 21 | 105 => 117 | 46 => 96 | 119 => 126 | 139 => 129 | 138 => 128 | n => n, fun | 3 => 1 | 4 => 2 | n => n⟩
theorem Tryd.lays160 : Go.Proofs.Lays.n160 Tryd.prog Tryd.lays160_ren := {
  mixed := by kernel_rfl
  f119 := Tryd.func99.trans (congrArg some (by kernel_rfl))
  f120 := Tryd.func95.trans (congrArg some (by kernel_rfl))
  f137 := Tryd.func98.trans (congrArg some (by kernel_rfl))
  f151 := Tryd.func87.trans (congrArg some (by kernel_rfl))
  f152 := Tryd.func94.trans (congrArg some (by kernel_rfl))
  f160 := Tryd.func57.trans (congrArg some (by kernel_rfl))
  f197 := Tryd.func86.trans (congrArg some (by kernel_rfl))
  f217 := Tryd.func89.trans (congrArg some (by kernel_rfl))
  f224 := Tryd.func91.trans (congrArg some (by kernel_rfl))
  f225 := Tryd.func90.trans (congrArg some (by kernel_rfl))
  f227 := Tryd.func78.trans (congrArg some (by kernel_rfl))
  f228 := Tryd.func85.trans (congrArg some (by kernel_rfl))
  f231 := Tryd.func76.trans (congrArg some (by kernel_rfl))
  f232 := Tryd.func77.trans (congrArg some (by kernel_rfl))
  f233 := Tryd.func79.trans (congrArg some (by kernel_rfl))
  f234 := Tryd.func80.trans (congrArg some (by kernel_rfl))
  f235 := Tryd.func81.trans (congrArg some (by kernel_rfl))
  f236 := Tryd.func82.trans (congrArg some (by kernel_rfl))
  f260 := Tryd.func93.trans (congrArg some (by kernel_rfl))
  f266 := Tryd.func96.trans (congrArg some (by kernel_rfl))
  f271 := Tryd.func88.trans (congrArg some (by kernel_rfl))
  t0 := Tryd.underlying0
  a0 := Tryd.isAgg0
  z0 := Tryd.sizeOf0
  v0 := Tryd.zeroValue0
  t3 := Tryd.underlying3
  a3 := Tryd.isAgg3
  z3 := Tryd.sizeOf3
  v3 := Tryd.zeroValue3
  t4 := Tryd.underlying4
  a4 := Tryd.isAgg4
  z4 := Tryd.sizeOf4
  v4 := Tryd.zeroValue4
  t5 := Tryd.underlying5
  a5 := Tryd.isAgg5
  z5 := Tryd.sizeOf5
  v5 := Tryd.zeroValue5
  t9 := Tryd.underlying9
  a9 := Tryd.isAgg9
  z9 := Tryd.sizeOf9
  v9 := Tryd.zeroValue9
  t21 := Tryd.underlying21
  a21 := Tryd.isAgg21
  z21 := Tryd.sizeOf21
  v21 := Tryd.zeroValue21
  t46 := Tryd.underlying96
  a46 := Tryd.isAgg96
  z46 := Tryd.sizeOf96
  v46 := Tryd.zeroValue96
  t105 := Tryd.underlying117
  a105 := Tryd.isAgg117
  z105 := Tryd.sizeOf117
  v105 := Tryd.zeroValue117
  t116 := Tryd.underlying108
  a116 := Tryd.isAgg108
  z116 := Tryd.sizeOf108
  t117 := Tryd.underlying109
  a117 := Tryd.isAgg109
  z117 := Tryd.sizeOf109
  v117 := Tryd.zeroValue109
  t119 := Tryd.underlying126
  a119 := Tryd.isAgg126
  z119 := Tryd.sizeOf126
  t124 := Tryd.underlying112
  a124 := Tryd.isAgg112
  z124 := Tryd.sizeOf112
  v124 := Tryd.zeroValue112
  t138 := Tryd.underlying128
  a138 := Tryd.isAgg128
  z138 := Tryd.sizeOf128
  v138 := Tryd.zeroValue128
  t139 := Tryd.underlying129
  a139 := Tryd.isAgg129
  z139 := Tryd.sizeOf129
  v139 := Tryd.zeroValue129
  g3 := by kernel_rfl
  g4 := by kernel_rfl }
open Go.RowKit in
/-- strings.Trim: "Trim returns a slice of the string s with all leading and trailing Unicode code points contained in cutset removed.": AT A cutset OF ONE ASCII BYTE. THE WORLD BEHIND IT: as it was, or (where s is not empty) with ONE DRAW MORE off the tape: the statement 'return trimLeftByte(trimRightByte(s, c), c)' draws its order of evaluation. (LAID: no walk: one application.) -/
theorem Tryd.strings_Trim_one (s : ByteArray) (c : UInt8) (hc : c.toNat < 128) (w : World) (hs : s.size ≤ 9223372036854775807) :
    Calls Tryd.prog 57 #[.string s, .string ⟨#[c]⟩] w fun e w' => e = .returned (.string ⟨(Lib.trimB s.data.toList c).toArray⟩) ∧ (w' = w ∨ w' = w.drew) := Any.strings_Trim_one Tryd.lays160 s c hc w hs
def Tryd.lays119_ren : Go.Shelf.Ren := ⟨fun | 119 => 99 | n => n, fun | 21 => 21 | 4 => 4 | n => n, fun | n => n⟩
theorem Tryd.lays119 : Go.Proofs.Lays.n119 Tryd.prog Tryd.lays119_ren := {
  mixed := by kernel_rfl
  f119 := Tryd.func99.trans (congrArg some (by kernel_rfl))
  t4 := Tryd.underlying4
  a4 := Tryd.isAgg4
  z4 := Tryd.sizeOf4
  v4 := Tryd.zeroValue4
  t21 := Tryd.underlying21
  a21 := Tryd.isAgg21
  z21 := Tryd.sizeOf21
  v21 := Tryd.zeroValue21 }
/-- utf8.ValidRune: "ValidRune reports whether r can be legally encoded as UTF-8. Code points that are out of range or a surrogate half are illegal.": IT RETURNS 'Lib.validRune r'; the world is as it was. (LAID: no walk: one application.) -/
theorem Tryd.utf8_ValidRune (r : Int) (w : World) :
    Calls Tryd.prog 99 #[.int .i32 r] w fun e w' => e = .returned (.bool (Lib.validRune r)) ∧ w' = w := Any.utf8_ValidRune Tryd.lays119 r w
def Tryd.lays120_ren : Go.Shelf.Ren := ⟨fun | 120 => 95 | n => n, fun | 5 => 5 | 4 => 4 | n => n, fun | n => n⟩
theorem Tryd.lays120 : Go.Proofs.Lays.n120 Tryd.prog Tryd.lays120_ren := {
  mixed := by kernel_rfl
  f120 := Tryd.func95.trans (congrArg some (by kernel_rfl))
  t4 := Tryd.underlying4
  a4 := Tryd.isAgg4
  z4 := Tryd.sizeOf4
  v4 := Tryd.zeroValue4
  t5 := Tryd.underlying5
  a5 := Tryd.isAgg5
  z5 := Tryd.sizeOf5
  v5 := Tryd.zeroValue5 }
/-- utf8.RuneStart: "RuneStart reports whether the byte could be the first byte of an encoded, possibly invalid rune. Second and subsequent bytes always have the top two bits set to 10.": IT RETURNS 'Lib.runeStart b'; the world is as it was. ('h0', 'h1': b is a byte: a caller has it of every byte that it was handed.) (LAID: no walk: one application.) -/
theorem Tryd.utf8_RuneStart (b : Int) (w : World) (h0 : 0 ≤ b) (h1 : b < 256) :
    Calls Tryd.prog 95 #[.int .u8 b] w fun e w' => e = .returned (.bool (Lib.runeStart b)) ∧ w' = w := Any.utf8_RuneStart Tryd.lays120 b w h0 h1
def Tryd.lays137_ren : Go.Shelf.Ren := ⟨fun | 137 => 98 | 217 => 89 | 266 => 96 | n => n, fun | 9 => 9 | 5 => 5 | 3 => 3 | n => n, fun | n => n⟩
theorem Tryd.lays137 : Go.Proofs.Lays.n137 Tryd.prog Tryd.lays137_ren := {
  mixed := by kernel_rfl
  f137 := Tryd.func98.trans (congrArg some (by kernel_rfl))
  f217 := Tryd.func89.trans (congrArg some (by kernel_rfl))
  f266 := Tryd.func96.trans (congrArg some (by kernel_rfl))
  t3 := Tryd.underlying3
  a3 := Tryd.isAgg3
  z3 := Tryd.sizeOf3
  v3 := Tryd.zeroValue3
  t5 := Tryd.underlying5
  a5 := Tryd.isAgg5
  z5 := Tryd.sizeOf5
  v5 := Tryd.zeroValue5
  t9 := Tryd.underlying9
  a9 := Tryd.isAgg9
  z9 := Tryd.sizeOf9
  v9 := Tryd.zeroValue9 }
open Go.RowKit in
/-- strings.IndexByte: "IndexByte returns the index of the first instance of c in s, or -1 if c is not present in s.": IT RETURNS 'Lib.indexByte s c'; the world is as it was. (LAID: no walk: one application.) -/
theorem Tryd.strings_IndexByte (s : ByteArray) (c : Int) (w : World) :
    Calls Tryd.prog 98 #[.string s, .int .u8 c] w fun e w' => e = .returned (.int .i64 (Lib.indexByte s.data.toList c.toNat.toUInt8)) ∧ w' = w := Any.strings_IndexByte Tryd.lays137 s c w
open Go.RowKit in
/-- (*strings.Builder).Len: "Len returns the number of accumulated bytes; b.Len() == len(b.String()).": the world is as it was. (THE FORM '_f': 'Lib.IsBuilderF'.) (LAID: no walk: one application.) -/
theorem Tryd.Builder_Len_f (B b : Nat) (bs : List Value) (w : World) (h : Lib.IsBuilderF 51 5 B b bs w) :
    Calls Tryd.prog 30 #[.pointer (some ⟨b, 0, none⟩)] w fun e w' => e = .returned (.int .i64 bs.length) ∧ w' = w := Any.Builder_Len_f Tryd.lays170 B b bs w h
open Go.RowKit in
/-- (*strings.Builder).String: "String returns the accumulated string.": OF A BUILDER THAT HOLDS AT LEAST ONE BYTE. ✋ THE MODEL FREEZES THOSE BYTES IN THE BUFFER (unsafe.String): a later write INTO them ends the model's run without an answer; a later append BEHIND them goes on. The statement's order of evaluation is drawn: one draw. THE FORM '_f': IT SAYS BESIDES THAT THE BUILDER IS A BUILDER STILL ('Lib.IsBuilderF', the same bytes): SO IT CAN BE WRITTEN ON: 'b.WriteString(b.String()[:k])'. (LAID: no walk: one application.) -/
theorem Tryd.Builder_String_f (B b : Nat) (l : List UInt8) (w : World) (h : Lib.IsBuilderF 51 5 B b (Lib.byteCells l) w) (h0 : l ≠ []) :
    Calls Tryd.prog 31 #[.pointer (some ⟨b, 0, none⟩)] w fun e w' => e = .returned (.string ⟨l.toArray⟩) ∧ (Lib.IsBuilderF 51 5 B b (Lib.byteCells l) w' ∧ Below B w w') := Any.Builder_String_f Tryd.lays169 Tryd.Builder_Extra_169 B b l w h h0
open Go.RowKit in
/-- (*strings.Builder).String OF A BUILDER THAT HOLDS NO BYTE: the empty string; THE FORM '_f': a builder still. (LAID: no walk: one application.) -/
theorem Tryd.Builder_String_empty_f (B b : Nat) (w : World) (h : Lib.IsBuilderF 51 5 B b [] w) (hBw : B ≤ w.heap.size) :
    Calls Tryd.prog 31 #[.pointer (some ⟨b, 0, none⟩)] w fun e w' => e = .returned (.string ⟨#[]⟩) ∧ (Lib.IsBuilderF 51 5 B b [] w' ∧ Below B w w') := Any.Builder_String_empty_f Tryd.lays169 Tryd.Builder_Extra_169 B b w h hBw
open Go.RowKit in
/-- (*strings.Builder).String: "String returns the accumulated string.": WHATEVER THE BUILDER HOLDS; THE FORM '_f': OF A BUILDER THAT MAY HAVE BEEN READ BEFORE; AND IT IS A BUILDER STILL, holding the same bytes: it can be written on. (LAID: no walk: one application.) -/
theorem Tryd.Builder_String_any_f (B b : Nat) (l : List UInt8) (w : World) (h : Lib.IsBuilderF 51 5 B b (Lib.byteCells l) w) (hBw : B ≤ w.heap.size) :
    Calls Tryd.prog 31 #[.pointer (some ⟨b, 0, none⟩)] w fun e w' => e = .returned (.string ⟨l.toArray⟩) ∧ (Lib.IsBuilderF 51 5 B b (Lib.byteCells l) w' ∧ Below B w w') := Any.Builder_String_any_f Tryd.lays169 Tryd.Builder_Extra_169 B b l w h hBw
open Go.RowKit in
/-- (*strings.Builder).String: "String returns the accumulated string.": OF A BUILDER THAT HOLDS AT LEAST ONE BYTE. ✋ THE MODEL FREEZES THOSE BYTES IN THE BUFFER (unsafe.String): a later write INTO them ends the model's run without an answer; a later append BEHIND them goes on. The statement's order of evaluation is drawn: one draw. THE FORM '_k': OVER 'Lib.IsBuilderF' (a builder that 'String()' may have read), AND WITH THE FRAME THAT REACHES ABOVE THE BUILDER: 'Lib.OthersKept': every block that is not b and is no row of uint8's stands as it stood: the iterator of a range among them. (LAID: no walk: one application.) -/
theorem Tryd.Builder_String_k (B b : Nat) (l : List UInt8) (w : World) (h : Lib.IsBuilderF 51 5 B b (Lib.byteCells l) w) (h0 : l ≠ []) :
    Calls Tryd.prog 31 #[.pointer (some ⟨b, 0, none⟩)] w fun e w' => e = .returned (.string ⟨l.toArray⟩) ∧ (Lib.IsBuilderF 51 5 B b (Lib.byteCells l) w' ∧ Below B w w' ∧ Lib.OthersKept 5 (some b) w w') := Any.Builder_String_k Tryd.lays169 Tryd.Builder_Extra_169 B b l w h h0
open Go.RowKit in
/-- (*strings.Builder).String OF A BUILDER THAT HOLDS NO BYTE: the empty string; THE FORM '_k': OVER 'Lib.IsBuilderF' (a builder that 'String()' may have read), AND WITH THE FRAME THAT REACHES ABOVE THE BUILDER: 'Lib.OthersKept': every block that is not b and is no row of uint8's stands as it stood: the iterator of a range among them. (LAID: no walk: one application.) -/
theorem Tryd.Builder_String_empty_k (B b : Nat) (w : World) (h : Lib.IsBuilderF 51 5 B b [] w) (hBw : B ≤ w.heap.size) :
    Calls Tryd.prog 31 #[.pointer (some ⟨b, 0, none⟩)] w fun e w' => e = .returned (.string ⟨#[]⟩) ∧ (Lib.IsBuilderF 51 5 B b [] w' ∧ Below B w w' ∧ Lib.OthersKept 5 (some b) w w') := Any.Builder_String_empty_k Tryd.lays169 Tryd.Builder_Extra_169 B b w h hBw
open Go.RowKit in
/-- (*strings.Builder).String: "String returns the accumulated string.": WHATEVER THE BUILDER HOLDS; THE FORM '_k': OVER 'Lib.IsBuilderF' (a builder that 'String()' may have read), AND WITH THE FRAME THAT REACHES ABOVE THE BUILDER: 'Lib.OthersKept': every block that is not b and is no row of uint8's stands as it stood: the iterator of a range among them. (LAID: no walk: one application.) -/
theorem Tryd.Builder_String_any_k (B b : Nat) (l : List UInt8) (w : World) (h : Lib.IsBuilderF 51 5 B b (Lib.byteCells l) w) (hBw : B ≤ w.heap.size) :
    Calls Tryd.prog 31 #[.pointer (some ⟨b, 0, none⟩)] w fun e w' => e = .returned (.string ⟨l.toArray⟩) ∧ (Lib.IsBuilderF 51 5 B b (Lib.byteCells l) w' ∧ Below B w w' ∧ Lib.OthersKept 5 (some b) w w') := Any.Builder_String_any_k Tryd.lays169 Tryd.Builder_Extra_169 B b l w h hBw
def Tryd.lays217_ren : Go.Shelf.Ren := ⟨fun | 217 => 89 | 266 => 96 | n => n, fun | 9 => 9 | 5 => 5 | 3 => 3 | n => n, fun | n => n⟩
theorem Tryd.lays217 : Go.Proofs.Lays.n217 Tryd.prog Tryd.lays217_ren := {
  mixed := by kernel_rfl
  f217 := Tryd.func89.trans (congrArg some (by kernel_rfl))
  f266 := Tryd.func96.trans (congrArg some (by kernel_rfl))
  t3 := Tryd.underlying3
  a3 := Tryd.isAgg3
  z3 := Tryd.sizeOf3
  v3 := Tryd.zeroValue3
  t5 := Tryd.underlying5
  a5 := Tryd.isAgg5
  z5 := Tryd.sizeOf5
  v5 := Tryd.zeroValue5
  t9 := Tryd.underlying9
  a9 := Tryd.isAgg9
  z9 := Tryd.sizeOf9
  v9 := Tryd.zeroValue9 }
open Go.RowKit Go.Lib in
/-- internal/stringslite.IndexByte (what strings.IndexByte calls): IT RETURNS 'Lib.indexByte s c'; the world is as it was. (LAID: no walk: one application.) -/
theorem Tryd.stringslite_IndexByte (s : ByteArray) (c : Int) (w : World) :
    Calls Tryd.prog 89 #[.string s, .int .u8 c] w fun e w' => e = .returned (.int .i64 (Lib.indexByte s.data.toList c.toNat.toUInt8)) ∧ w' = w := Any.stringslite_IndexByte Tryd.lays217 s c w
def Tryd.lays224_ren : Go.Shelf.Ren := ⟨fun | 224 => 91 | n => n, fun | 3 => 3 | n => n, fun | n => n⟩
theorem Tryd.lays224 : Go.Proofs.Lays.n224 Tryd.prog Tryd.lays224_ren := {
  mixed := by kernel_rfl
  f224 := Tryd.func91.trans (congrArg some (by kernel_rfl))
  t3 := Tryd.underlying3
  a3 := Tryd.isAgg3
  z3 := Tryd.sizeOf3
  v3 := Tryd.zeroValue3 }
open Go.RowKit Go.Lib in
/-- internal/bytealg.Cutover: "Cutover reports the number of failures of IndexByte we should tolerate before switching over to Index. n is the number of bytes processed so far.": on amd64: (n + 16) / 8. (LAID: no walk: one application.) -/
theorem Tryd.bytealg_Cutover (n : Int) (h0 : 0 ≤ n) (h1 : n < 4611686018427387904) (w : World) :
    Calls Tryd.prog 91 #[.int .i64 n] w fun e w' => e = .returned (.int .i64 ((n + 16) / 8)) ∧ w' = w := Any.bytealg_Cutover Tryd.lays224 n h0 h1 w
def Tryd.lays314_ren : Go.Shelf.Ren := ⟨fun | 314 => 97 | n => n, fun | 9 => 9 | 51 => 123 | 3 => 3 | 4 => 4 | 5 => 5 | 46 => 96 | n => n, fun | n => n⟩
theorem Tryd.lays314 : Go.Proofs.Lays.n314 Tryd.prog Tryd.lays314_ren := {
  mixed := by kernel_rfl
  f314 := Tryd.func97.trans (congrArg some (by kernel_rfl))
  t3 := Tryd.underlying3
  a3 := Tryd.isAgg3
  z3 := Tryd.sizeOf3
  v3 := Tryd.zeroValue3
  t4 := Tryd.underlying4
  a4 := Tryd.isAgg4
  z4 := Tryd.sizeOf4
  v4 := Tryd.zeroValue4
  t5 := Tryd.underlying5
  a5 := Tryd.isAgg5
  z5 := Tryd.sizeOf5
  v5 := Tryd.zeroValue5
  t9 := Tryd.underlying9
  a9 := Tryd.isAgg9
  z9 := Tryd.sizeOf9
  v9 := Tryd.zeroValue9
  t46 := Tryd.underlying96
  a46 := Tryd.isAgg96
  z46 := Tryd.sizeOf96
  v46 := Tryd.zeroValue96
  t51 := Tryd.underlying123
  a51 := Tryd.isAgg123
  z51 := Tryd.sizeOf123
  v51 := Tryd.zeroValue123 }
open Go.RowKit Go.Lib in
/-- hashStr: "returns the hash and the appropriate multiplicative factor for use in Rabin-Karp algorithm": THE HASH OF ALL OF sep, AND 16777619 ^ len(sep), both in uint32. (LAID: no walk: one application.) -/
theorem Tryd.bytealg_hashStr (sep : ByteArray) (hs : sep.size < 4294967281) (w : World) :
    Calls Tryd.prog 97 #[.string sep] w fun e w' => e = .returned (.tuple #[.int .u32 (RK.H sep.data.toList % 4294967296), .int .u32 (16777619 ^ sep.size % 4294967296)]) ∧ w' = w := Any.bytealg_hashStr Tryd.lays314 sep hs w
def Tryd.lays267_ren : Go.Shelf.Ren := ⟨fun | 267 => 92 | 314 => 97 | n => n, fun | 9 => 9 | 3 => 3 | 146 => 124 | 51 => 123 | 4 => 4 | 5 => 5 | 46 => 96 | n => n, fun | n => n⟩
theorem Tryd.lays267 : Go.Proofs.Lays.n267 Tryd.prog Tryd.lays267_ren := {
  mixed := by kernel_rfl
  f267 := Tryd.func92.trans (congrArg some (by kernel_rfl))
  f314 := Tryd.func97.trans (congrArg some (by kernel_rfl))
  t3 := Tryd.underlying3
  a3 := Tryd.isAgg3
  z3 := Tryd.sizeOf3
  v3 := Tryd.zeroValue3
  t4 := Tryd.underlying4
  a4 := Tryd.isAgg4
  z4 := Tryd.sizeOf4
  v4 := Tryd.zeroValue4
  t5 := Tryd.underlying5
  a5 := Tryd.isAgg5
  z5 := Tryd.sizeOf5
  v5 := Tryd.zeroValue5
  t9 := Tryd.underlying9
  a9 := Tryd.isAgg9
  z9 := Tryd.sizeOf9
  v9 := Tryd.zeroValue9
  t46 := Tryd.underlying96
  a46 := Tryd.isAgg96
  z46 := Tryd.sizeOf96
  v46 := Tryd.zeroValue96
  t51 := Tryd.underlying123
  a51 := Tryd.isAgg123
  z51 := Tryd.sizeOf123
  v51 := Tryd.zeroValue123
  t146 := Tryd.underlying124
  a146 := Tryd.isAgg124
  z146 := Tryd.sizeOf124
  v146 := Tryd.zeroValue124 }
open Go.RowKit Go.Lib in
theorem Tryd.bytealg_IndexRabinKarp (s sep : ByteArray) (h1 : 1 ≤ sep.size) (h2 : sep.size ≤ s.size) (hs : s.size < 4294967281) (w : World) :
    Calls Tryd.prog 92 #[.string s, .string sep] w fun e w' => e = .returned (.int .i64 (Lib.index s.data.toList sep.data.toList)) ∧ w' = w := Any.bytealg_IndexRabinKarp Tryd.lays267 s sep h1 h2 hs w
def Tryd.lays219_ren : Go.Shelf.Ren := ⟨fun | 219 => 84 | 217 => 89 | 225 => 90 | 224 => 91 | 267 => 92 | 266 => 96 | 314 => 97 | n => n, fun | 9 => 9 | 3 => 3 | 4 => 4 | 5 => 5 | 46 => 96 | 146 => 124 | 51 => 123 | n => n, fun | 1 => 0 | n => n⟩
theorem Tryd.lays219 : Go.Proofs.Lays.n219 Tryd.prog Tryd.lays219_ren := {
  mixed := by kernel_rfl
  f217 := Tryd.func89.trans (congrArg some (by kernel_rfl))
  f219 := Tryd.func84.trans (congrArg some (by kernel_rfl))
  f224 := Tryd.func91.trans (congrArg some (by kernel_rfl))
  f225 := Tryd.func90.trans (congrArg some (by kernel_rfl))
  f266 := Tryd.func96.trans (congrArg some (by kernel_rfl))
  f267 := Tryd.func92.trans (congrArg some (by kernel_rfl))
  f314 := Tryd.func97.trans (congrArg some (by kernel_rfl))
  t3 := Tryd.underlying3
  a3 := Tryd.isAgg3
  z3 := Tryd.sizeOf3
  v3 := Tryd.zeroValue3
  t4 := Tryd.underlying4
  a4 := Tryd.isAgg4
  z4 := Tryd.sizeOf4
  v4 := Tryd.zeroValue4
  t5 := Tryd.underlying5
  a5 := Tryd.isAgg5
  z5 := Tryd.sizeOf5
  v5 := Tryd.zeroValue5
  t9 := Tryd.underlying9
  a9 := Tryd.isAgg9
  z9 := Tryd.sizeOf9
  v9 := Tryd.zeroValue9
  t46 := Tryd.underlying96
  a46 := Tryd.isAgg96
  z46 := Tryd.sizeOf96
  v46 := Tryd.zeroValue96
  t51 := Tryd.underlying123
  a51 := Tryd.isAgg123
  z51 := Tryd.sizeOf123
  v51 := Tryd.zeroValue123
  t146 := Tryd.underlying124
  a146 := Tryd.isAgg124
  z146 := Tryd.sizeOf124
  v146 := Tryd.zeroValue124
  g1 := by kernel_rfl }
open Go.RowKit Go.Lib in
/-- internal/stringslite.Index (what strings.Index calls) AT A substr OF ONE BYTE c: IT RETURNS 'Lib.indexByte s c'; the world is as it was. (LAID: no walk: one application.) -/
theorem Tryd.stringslite_Index_one (s : ByteArray) (c : UInt8) (w : World) :
    Calls Tryd.prog 84 #[.string s, .string ⟨#[c]⟩] w fun e w' => e = .returned (.int .i64 (Lib.indexByte s.data.toList c)) ∧ w' = w := Any.stringslite_Index_one Tryd.lays219 s c w
open Go.RowKit Go.Lib in
/-- internal/stringslite.Index (what strings.Index calls) AT A substr OF WHATEVER LENGTH: IT RETURNS 'Lib.index s substr'; the world is as it was. 'm': what internal/bytealg.MaxLen holds: whatever. (LAID: no walk: one application.) -/
theorem Tryd.stringslite_Index (s sub : ByteArray) (m : Int) (w : World) (hs : s.size < 4294967281) (hm : w.cell? ⟨0, 0, none⟩ = some (.int .i64 m)) :
    Calls Tryd.prog 84 #[.string s, .string sub] w fun e w' => e = .returned (.int .i64 (Lib.index s.data.toList sub.data.toList)) ∧ w' = w := Any.stringslite_Index Tryd.lays219 s sub m w hs hm
def Tryd.lays220_ren : Go.Shelf.Ren := ⟨fun | 220 => 75 | 219 => 84 | 217 => 89 | 225 => 90 | 224 => 91 | 267 => 92 | 266 => 96 | 314 => 97 | n => n, fun | 9 => 9 | 4 => 4 | 3 => 3 | 5 => 5 | 46 => 96 | 146 => 124 | 51 => 123 | n => n, fun | 1 => 0 | n => n⟩
theorem Tryd.lays220 : Go.Proofs.Lays.n220 Tryd.prog Tryd.lays220_ren := {
  mixed := by kernel_rfl
  f217 := Tryd.func89.trans (congrArg some (by kernel_rfl))
  f219 := Tryd.func84.trans (congrArg some (by kernel_rfl))
  f220 := Tryd.func75.trans (congrArg some (by kernel_rfl))
  f224 := Tryd.func91.trans (congrArg some (by kernel_rfl))
  f225 := Tryd.func90.trans (congrArg some (by kernel_rfl))
  f266 := Tryd.func96.trans (congrArg some (by kernel_rfl))
  f267 := Tryd.func92.trans (congrArg some (by kernel_rfl))
  f314 := Tryd.func97.trans (congrArg some (by kernel_rfl))
  t3 := Tryd.underlying3
  a3 := Tryd.isAgg3
  z3 := Tryd.sizeOf3
  v3 := Tryd.zeroValue3
  t4 := Tryd.underlying4
  a4 := Tryd.isAgg4
  z4 := Tryd.sizeOf4
  v4 := Tryd.zeroValue4
  t5 := Tryd.underlying5
  a5 := Tryd.isAgg5
  z5 := Tryd.sizeOf5
  v5 := Tryd.zeroValue5
  t9 := Tryd.underlying9
  a9 := Tryd.isAgg9
  z9 := Tryd.sizeOf9
  v9 := Tryd.zeroValue9
  t46 := Tryd.underlying96
  a46 := Tryd.isAgg96
  z46 := Tryd.sizeOf96
  v46 := Tryd.zeroValue96
  t51 := Tryd.underlying123
  a51 := Tryd.isAgg123
  z51 := Tryd.sizeOf123
  v51 := Tryd.zeroValue123
  t146 := Tryd.underlying124
  a146 := Tryd.isAgg124
  z146 := Tryd.sizeOf124
  v146 := Tryd.zeroValue124
  g1 := by kernel_rfl }
open Go.RowKit Go.Lib in
/-- internal/stringslite.Cut (what strings.Cut calls): IT RETURNS 'Lib.cut s sep'; the world is as it was but for the count of draws. (LAID: no walk: one application.) -/
theorem Tryd.stringslite_Cut (s sep : ByteArray) (m : Int) (w : World) (hs : s.size < 4294967281) (hm : w.cell? ⟨0, 0, none⟩ = some (.int .i64 m)) :
    Calls Tryd.prog 75 #[.string s, .string sep] w fun e w' => e = .returned (.tuple #[.string ⟨(Lib.cut s.data.toList sep.data.toList).1.toArray⟩, .string ⟨(Lib.cut s.data.toList sep.data.toList).2.1.toArray⟩, .bool (Lib.cut s.data.toList sep.data.toList).2.2]) ∧ ∃ n, w' = w.drewN n := Any.stringslite_Cut Tryd.lays220 s sep m w hs hm
def Tryd.lays145_ren : Go.Shelf.Ren := ⟨fun | 145 => 56 | 220 => 75 | 219 => 84 | 217 => 89 | 225 => 90 | 224 => 91 | 267 => 92 | 266 => 96 | 314 => 97 | n => n, fun | 9 => 9 | 4 => 4 | 59 => 87 | 3 => 3 | 5 => 5 | 46 => 96 | 146 => 124 | 51 => 123 | n => n, fun | 1 => 0 | n => n⟩
theorem Tryd.lays145 : Go.Proofs.Lays.n145 Tryd.prog Tryd.lays145_ren := {
  mixed := by kernel_rfl
  f145 := Tryd.func56.trans (congrArg some (by kernel_rfl))
  f217 := Tryd.func89.trans (congrArg some (by kernel_rfl))
  f219 := Tryd.func84.trans (congrArg some (by kernel_rfl))
  f220 := Tryd.func75.trans (congrArg some (by kernel_rfl))
  f224 := Tryd.func91.trans (congrArg some (by kernel_rfl))
  f225 := Tryd.func90.trans (congrArg some (by kernel_rfl))
  f266 := Tryd.func96.trans (congrArg some (by kernel_rfl))
  f267 := Tryd.func92.trans (congrArg some (by kernel_rfl))
  f314 := Tryd.func97.trans (congrArg some (by kernel_rfl))
  t3 := Tryd.underlying3
  a3 := Tryd.isAgg3
  z3 := Tryd.sizeOf3
  v3 := Tryd.zeroValue3
  t4 := Tryd.underlying4
  a4 := Tryd.isAgg4
  z4 := Tryd.sizeOf4
  v4 := Tryd.zeroValue4
  t5 := Tryd.underlying5
  a5 := Tryd.isAgg5
  z5 := Tryd.sizeOf5
  v5 := Tryd.zeroValue5
  t9 := Tryd.underlying9
  a9 := Tryd.isAgg9
  z9 := Tryd.sizeOf9
  v9 := Tryd.zeroValue9
  t46 := Tryd.underlying96
  a46 := Tryd.isAgg96
  z46 := Tryd.sizeOf96
  v46 := Tryd.zeroValue96
  t51 := Tryd.underlying123
  a51 := Tryd.isAgg123
  z51 := Tryd.sizeOf123
  v51 := Tryd.zeroValue123
  t59 := Tryd.underlying87
  a59 := Tryd.isAgg87
  z59 := Tryd.sizeOf87
  v59 := Tryd.zeroValue87
  t146 := Tryd.underlying124
  a146 := Tryd.isAgg124
  z146 := Tryd.sizeOf124
  v146 := Tryd.zeroValue124
  g1 := by kernel_rfl }
open Go.RowKit Go.Lib in
/-- strings.Cut: "Cut slices s around the first instance of sep, returning the text before and after sep. The found result reports whether sep appears in s. If sep does not appear in s, cut returns s, "", false.": IT RETURNS 'Lib.cut s sep'; the world is as it was but for the count of draws. (LAID: no walk: one application.) -/
theorem Tryd.strings_Cut (s sep : ByteArray) (m : Int) (w : World) (hs : s.size < 4294967281) (hm : w.cell? ⟨0, 0, none⟩ = some (.int .i64 m)) :
    Calls Tryd.prog 56 #[.string s, .string sep] w fun e w' => e = .returned (.tuple #[.string ⟨(Lib.cut s.data.toList sep.data.toList).1.toArray⟩, .string ⟨(Lib.cut s.data.toList sep.data.toList).2.1.toArray⟩, .bool (Lib.cut s.data.toList sep.data.toList).2.2]) ∧ ∃ n, w' = w.drewN n := Any.strings_Cut Tryd.lays145 s sep m w hs hm
def Tryd.laysM219_ren : Go.Shelf.Ren := ⟨fun | 219 => 84 | 217 => 89 | 225 => 90 | 224 => 91 | 267 => 92 | 266 => 96 | 314 => 97 | n => n, fun | 9 => 9 | 3 => 3 | 4 => 4 | 5 => 5 | 46 => 96 | 146 => 124 | 51 => 123 | n => n, fun | 1 => 0 | n => n⟩
theorem Tryd.laysM219 : Go.Proofs.LaysM.n219 Tryd.prog Tryd.laysM219_ren := {
  mixed := by kernel_rfl
  f217 := Tryd.func89.trans (congrArg some (by kernel_rfl))
  f219 := Tryd.func84.trans (congrArg some (by kernel_rfl))
  f224 := Tryd.func91.trans (congrArg some (by kernel_rfl))
  f225 := Tryd.func90.trans (congrArg some (by kernel_rfl))
  f266 := Tryd.func96.trans (congrArg some (by kernel_rfl))
  f267 := Tryd.func92.trans (congrArg some (by kernel_rfl))
  f314 := Tryd.func97.trans (congrArg some (by kernel_rfl))
  t3 := Tryd.underlying3
  a3 := Tryd.isAgg3
  z3 := Tryd.sizeOf3
  v3 := Tryd.zeroValue3
  t4 := Tryd.underlying4
  a4 := Tryd.isAgg4
  z4 := Tryd.sizeOf4
  v4 := Tryd.zeroValue4
  t5 := Tryd.underlying5
  a5 := Tryd.isAgg5
  z5 := Tryd.sizeOf5
  v5 := Tryd.zeroValue5
  t9 := Tryd.underlying9
  a9 := Tryd.isAgg9
  z9 := Tryd.sizeOf9
  v9 := Tryd.zeroValue9
  t46 := Tryd.underlying96
  a46 := Tryd.isAgg96
  z46 := Tryd.sizeOf96
  v46 := Tryd.zeroValue96
  t51 := Tryd.underlying123
  a51 := Tryd.isAgg123
  z51 := Tryd.sizeOf123
  v51 := Tryd.zeroValue123
  t146 := Tryd.underlying124
  a146 := Tryd.isAgg124
  z146 := Tryd.sizeOf124
  v146 := Tryd.zeroValue124
  g1 := by kernel_rfl
  i3 := by kernel_rfl
  i4 := by kernel_rfl
  i5 := by kernel_rfl
  i9 := by kernel_rfl
  i46 := by kernel_rfl
  i51 := by kernel_rfl
  i146 := by kernel_rfl
  m1 := by kernel_rfl
  s1_3 := fun w h => Go.Proofs.cell_of_shapedOpen_int (zero := #[.int .i64 0]) (t := 3) h (of_decide_eq_true (by kernel_rfl)) (by kernel_rfl) rfl (by kernel_rfl) (by kernel_rfl) Tryd.underlying3 }
open Go.RowKit Go.Lib in
theorem Tryd.stringslite_Index_shaped (s sub : ByteArray) (w : World) (h : w.ShapedOpen Tryd.prog) (hs : s.size < 4294967281) :
    Calls Tryd.prog 84 #[.string s, .string sub] w fun e w' => e = .returned (.int .i64 (Lib.index s.data.toList sub.data.toList)) ∧ w' = w := Any.stringslite_Index_shaped Tryd.laysM219 s sub w h hs
def Tryd.laysM220_ren : Go.Shelf.Ren := ⟨fun | 220 => 75 | 219 => 84 | 217 => 89 | 225 => 90 | 224 => 91 | 267 => 92 | 266 => 96 | 314 => 97 | n => n, fun | 9 => 9 | 4 => 4 | 3 => 3 | 5 => 5 | 46 => 96 | 146 => 124 | 51 => 123 | n => n, fun | 1 => 0 | n => n⟩
theorem Tryd.laysM220 : Go.Proofs.LaysM.n220 Tryd.prog Tryd.laysM220_ren := {
  mixed := by kernel_rfl
  f217 := Tryd.func89.trans (congrArg some (by kernel_rfl))
  f219 := Tryd.func84.trans (congrArg some (by kernel_rfl))
  f220 := Tryd.func75.trans (congrArg some (by kernel_rfl))
  f224 := Tryd.func91.trans (congrArg some (by kernel_rfl))
  f225 := Tryd.func90.trans (congrArg some (by kernel_rfl))
  f266 := Tryd.func96.trans (congrArg some (by kernel_rfl))
  f267 := Tryd.func92.trans (congrArg some (by kernel_rfl))
  f314 := Tryd.func97.trans (congrArg some (by kernel_rfl))
  t3 := Tryd.underlying3
  a3 := Tryd.isAgg3
  z3 := Tryd.sizeOf3
  v3 := Tryd.zeroValue3
  t4 := Tryd.underlying4
  a4 := Tryd.isAgg4
  z4 := Tryd.sizeOf4
  v4 := Tryd.zeroValue4
  t5 := Tryd.underlying5
  a5 := Tryd.isAgg5
  z5 := Tryd.sizeOf5
  v5 := Tryd.zeroValue5
  t9 := Tryd.underlying9
  a9 := Tryd.isAgg9
  z9 := Tryd.sizeOf9
  v9 := Tryd.zeroValue9
  t46 := Tryd.underlying96
  a46 := Tryd.isAgg96
  z46 := Tryd.sizeOf96
  v46 := Tryd.zeroValue96
  t51 := Tryd.underlying123
  a51 := Tryd.isAgg123
  z51 := Tryd.sizeOf123
  v51 := Tryd.zeroValue123
  t146 := Tryd.underlying124
  a146 := Tryd.isAgg124
  z146 := Tryd.sizeOf124
  v146 := Tryd.zeroValue124
  g1 := by kernel_rfl
  i3 := by kernel_rfl
  i4 := by kernel_rfl
  i5 := by kernel_rfl
  i9 := by kernel_rfl
  i46 := by kernel_rfl
  i51 := by kernel_rfl
  i146 := by kernel_rfl
  m1 := by kernel_rfl
  s1_3 := fun w h => Go.Proofs.cell_of_shapedOpen_int (zero := #[.int .i64 0]) (t := 3) h (of_decide_eq_true (by kernel_rfl)) (by kernel_rfl) rfl (by kernel_rfl) (by kernel_rfl) Tryd.underlying3 }
open Go.RowKit Go.Lib in
theorem Tryd.stringslite_Cut_shaped (s sep : ByteArray) (w : World) (h : w.ShapedOpen Tryd.prog) (hs : s.size < 4294967281) :
    Calls Tryd.prog 75 #[.string s, .string sep] w fun e w' => e = .returned (.tuple #[.string ⟨(Lib.cut s.data.toList sep.data.toList).1.toArray⟩, .string ⟨(Lib.cut s.data.toList sep.data.toList).2.1.toArray⟩, .bool (Lib.cut s.data.toList sep.data.toList).2.2]) ∧ ∃ n, w' = w.drewN n := Any.stringslite_Cut_shaped Tryd.laysM220 s sep w h hs
def Tryd.laysM145_ren : Go.Shelf.Ren := ⟨fun | 145 => 56 | 220 => 75 | 219 => 84 | 217 => 89 | 225 => 90 | 224 => 91 | 267 => 92 | 266 => 96 | 314 => 97 | n => n, fun | 9 => 9 | 4 => 4 | 59 => 87 | 3 => 3 | 5 => 5 | 46 => 96 | 146 => 124 | 51 => 123 | n => n, fun | 1 => 0 | n => n⟩
theorem Tryd.laysM145 : Go.Proofs.LaysM.n145 Tryd.prog Tryd.laysM145_ren := {
  mixed := by kernel_rfl
  f145 := Tryd.func56.trans (congrArg some (by kernel_rfl))
  f217 := Tryd.func89.trans (congrArg some (by kernel_rfl))
  f219 := Tryd.func84.trans (congrArg some (by kernel_rfl))
  f220 := Tryd.func75.trans (congrArg some (by kernel_rfl))
  f224 := Tryd.func91.trans (congrArg some (by kernel_rfl))
  f225 := Tryd.func90.trans (congrArg some (by kernel_rfl))
  f266 := Tryd.func96.trans (congrArg some (by kernel_rfl))
  f267 := Tryd.func92.trans (congrArg some (by kernel_rfl))
  f314 := Tryd.func97.trans (congrArg some (by kernel_rfl))
  t3 := Tryd.underlying3
  a3 := Tryd.isAgg3
  z3 := Tryd.sizeOf3
  v3 := Tryd.zeroValue3
  t4 := Tryd.underlying4
  a4 := Tryd.isAgg4
  z4 := Tryd.sizeOf4
  v4 := Tryd.zeroValue4
  t5 := Tryd.underlying5
  a5 := Tryd.isAgg5
  z5 := Tryd.sizeOf5
  v5 := Tryd.zeroValue5
  t9 := Tryd.underlying9
  a9 := Tryd.isAgg9
  z9 := Tryd.sizeOf9
  v9 := Tryd.zeroValue9
  t46 := Tryd.underlying96
  a46 := Tryd.isAgg96
  z46 := Tryd.sizeOf96
  v46 := Tryd.zeroValue96
  t51 := Tryd.underlying123
  a51 := Tryd.isAgg123
  z51 := Tryd.sizeOf123
  v51 := Tryd.zeroValue123
  t59 := Tryd.underlying87
  a59 := Tryd.isAgg87
  z59 := Tryd.sizeOf87
  v59 := Tryd.zeroValue87
  t146 := Tryd.underlying124
  a146 := Tryd.isAgg124
  z146 := Tryd.sizeOf124
  v146 := Tryd.zeroValue124
  g1 := by kernel_rfl
  i3 := by kernel_rfl
  i4 := by kernel_rfl
  i5 := by kernel_rfl
  i9 := by kernel_rfl
  i46 := by kernel_rfl
  i51 := by kernel_rfl
  i59 := by kernel_rfl
  i146 := by kernel_rfl
  m1 := by kernel_rfl
  s1_3 := fun w h => Go.Proofs.cell_of_shapedOpen_int (zero := #[.int .i64 0]) (t := 3) h (of_decide_eq_true (by kernel_rfl)) (by kernel_rfl) rfl (by kernel_rfl) (by kernel_rfl) Tryd.underlying3 }
open Go.RowKit Go.Lib in
theorem Tryd.strings_Cut_shaped (s sep : ByteArray) (w : World) (h : w.ShapedOpen Tryd.prog) (hs : s.size < 4294967281) :
    Calls Tryd.prog 56 #[.string s, .string sep] w fun e w' => e = .returned (.tuple #[.string ⟨(Lib.cut s.data.toList sep.data.toList).1.toArray⟩, .string ⟨(Lib.cut s.data.toList sep.data.toList).2.1.toArray⟩, .bool (Lib.cut s.data.toList sep.data.toList).2.2]) ∧ ∃ n, w' = w.drewN n := Any.strings_Cut_shaped Tryd.laysM145 s sep w h hs
def Tryd.lays197_ren : Go.Shelf.Ren := ⟨fun | 197 => 86 | 260 => 93 | n => n, fun | 9 => 9 | 21 => 21 | 3 => 3 | 4 => 4 | 5 => 5 | 105 => 117 | 119 => 126 | 0 => 0 | 46 => 96 | 139 => 129 | 138 => 128 | n => n, fun | 3 => 1 | 4 => 2 | n => n⟩
theorem Tryd.lays197 : Go.Proofs.Lays.n197 Tryd.prog Tryd.lays197_ren := {
  mixed := by kernel_rfl
  f197 := Tryd.func86.trans (congrArg some (by kernel_rfl))
  f260 := Tryd.func93.trans (congrArg some (by kernel_rfl))
  t0 := Tryd.underlying0
  a0 := Tryd.isAgg0
  z0 := Tryd.sizeOf0
  v0 := Tryd.zeroValue0
  t3 := Tryd.underlying3
  a3 := Tryd.isAgg3
  z3 := Tryd.sizeOf3
  v3 := Tryd.zeroValue3
  t4 := Tryd.underlying4
  a4 := Tryd.isAgg4
  z4 := Tryd.sizeOf4
  v4 := Tryd.zeroValue4
  t5 := Tryd.underlying5
  a5 := Tryd.isAgg5
  z5 := Tryd.sizeOf5
  v5 := Tryd.zeroValue5
  t9 := Tryd.underlying9
  a9 := Tryd.isAgg9
  z9 := Tryd.sizeOf9
  v9 := Tryd.zeroValue9
  t21 := Tryd.underlying21
  a21 := Tryd.isAgg21
  z21 := Tryd.sizeOf21
  v21 := Tryd.zeroValue21
  t46 := Tryd.underlying96
  a46 := Tryd.isAgg96
  z46 := Tryd.sizeOf96
  v46 := Tryd.zeroValue96
  t105 := Tryd.underlying117
  a105 := Tryd.isAgg117
  z105 := Tryd.sizeOf117
  v105 := Tryd.zeroValue117
  t119 := Tryd.underlying126
  a119 := Tryd.isAgg126
  z119 := Tryd.sizeOf126
  t138 := Tryd.underlying128
  a138 := Tryd.isAgg128
  z138 := Tryd.sizeOf128
  v138 := Tryd.zeroValue128
  t139 := Tryd.underlying129
  a139 := Tryd.isAgg129
  z139 := Tryd.sizeOf129
  v139 := Tryd.zeroValue129
  g3 := by kernel_rfl
  g4 := by kernel_rfl }
open Go.RowKit Go.Lib in
/-- unicode/utf8.DecodeRuneInString: "DecodeRuneInString is like DecodeRune but its input is a string.": ("DecodeRune unpacks the first UTF-8 encoding in p and returns the rune and its width in bytes."): WHERE s BEGINS WITH AN ASCII BYTE x: (x, 1). (LAID: no walk: one application.) -/
theorem Tryd.utf8_DecodeRuneInString_ascii (s : ByteArray) (x : UInt8) (w : World) (h0 : s.data.toList[0]? = some x) (hx : x.toNat < 128) :
    Calls Tryd.prog 86 #[.string s] w fun e w' => e = .returned (.tuple #[.int .i32 x.toNat, .int .i64 1]) ∧ w' = w := Any.utf8_DecodeRuneInString_ascii Tryd.lays197 s x w h0 hx
def Tryd.lays152_ren : Go.Shelf.Ren := ⟨fun | 152 => 94 | 137 => 98 | 119 => 99 | 224 => 91 | 225 => 90 | 217 => 89 | 266 => 96 | n => n, fun | 9 => 9 | 21 => 21 | 3 => 3 | 4 => 4 | 5 => 5 | 0 => 0 | 46 => 96 | n => n, fun | n => n⟩
theorem Tryd.lays152 : Go.Proofs.Lays.n152 Tryd.prog Tryd.lays152_ren := {
  mixed := by kernel_rfl
  f119 := Tryd.func99.trans (congrArg some (by kernel_rfl))
  f137 := Tryd.func98.trans (congrArg some (by kernel_rfl))
  f152 := Tryd.func94.trans (congrArg some (by kernel_rfl))
  f217 := Tryd.func89.trans (congrArg some (by kernel_rfl))
  f224 := Tryd.func91.trans (congrArg some (by kernel_rfl))
  f225 := Tryd.func90.trans (congrArg some (by kernel_rfl))
  f266 := Tryd.func96.trans (congrArg some (by kernel_rfl))
  t0 := Tryd.underlying0
  a0 := Tryd.isAgg0
  z0 := Tryd.sizeOf0
  v0 := Tryd.zeroValue0
  t3 := Tryd.underlying3
  a3 := Tryd.isAgg3
  z3 := Tryd.sizeOf3
  v3 := Tryd.zeroValue3
  t4 := Tryd.underlying4
  a4 := Tryd.isAgg4
  z4 := Tryd.sizeOf4
  v4 := Tryd.zeroValue4
  t5 := Tryd.underlying5
  a5 := Tryd.isAgg5
  z5 := Tryd.sizeOf5
  v5 := Tryd.zeroValue5
  t9 := Tryd.underlying9
  a9 := Tryd.isAgg9
  z9 := Tryd.sizeOf9
  v9 := Tryd.zeroValue9
  t21 := Tryd.underlying21
  a21 := Tryd.isAgg21
  z21 := Tryd.sizeOf21
  v21 := Tryd.zeroValue21
  t46 := Tryd.underlying96
  a46 := Tryd.isAgg96
  z46 := Tryd.sizeOf96
  v46 := Tryd.zeroValue96 }
open Go.RowKit Go.Lib in
theorem Tryd.strings_IndexRune_ascii (s : ByteArray) (r : Int) (w : World) (h0 : 0 ≤ r) (h1 : r < 128) :
    Calls Tryd.prog 94 #[.string s, .int .i32 r] w fun e w' => e = .returned (.int .i64 (Lib.indexByte s.data.toList r.toNat.toUInt8)) ∧ w' = w := Any.strings_IndexRune_ascii Tryd.lays152 s r w h0 h1
def Tryd.lays151_ren : Go.Shelf.Ren := ⟨fun | 151 => 87 | 152 => 94 | 137 => 98 | 119 => 99 | 224 => 91 | 225 => 90 | 217 => 89 | 266 => 96 | n => n, fun | 9 => 9 | 21 => 21 | 4 => 4 | 3 => 3 | 5 => 5 | 0 => 0 | 46 => 96 | n => n, fun | n => n⟩
theorem Tryd.lays151 : Go.Proofs.Lays.n151 Tryd.prog Tryd.lays151_ren := {
  mixed := by kernel_rfl
  f119 := Tryd.func99.trans (congrArg some (by kernel_rfl))
  f137 := Tryd.func98.trans (congrArg some (by kernel_rfl))
  f151 := Tryd.func87.trans (congrArg some (by kernel_rfl))
  f152 := Tryd.func94.trans (congrArg some (by kernel_rfl))
  f217 := Tryd.func89.trans (congrArg some (by kernel_rfl))
  f224 := Tryd.func91.trans (congrArg some (by kernel_rfl))
  f225 := Tryd.func90.trans (congrArg some (by kernel_rfl))
  f266 := Tryd.func96.trans (congrArg some (by kernel_rfl))
  t0 := Tryd.underlying0
  a0 := Tryd.isAgg0
  z0 := Tryd.sizeOf0
  v0 := Tryd.zeroValue0
  t3 := Tryd.underlying3
  a3 := Tryd.isAgg3
  z3 := Tryd.sizeOf3
  v3 := Tryd.zeroValue3
  t4 := Tryd.underlying4
  a4 := Tryd.isAgg4
  z4 := Tryd.sizeOf4
  v4 := Tryd.zeroValue4
  t5 := Tryd.underlying5
  a5 := Tryd.isAgg5
  z5 := Tryd.sizeOf5
  v5 := Tryd.zeroValue5
  t9 := Tryd.underlying9
  a9 := Tryd.isAgg9
  z9 := Tryd.sizeOf9
  v9 := Tryd.zeroValue9
  t21 := Tryd.underlying21
  a21 := Tryd.isAgg21
  z21 := Tryd.sizeOf21
  v21 := Tryd.zeroValue21
  t46 := Tryd.underlying96
  a46 := Tryd.isAgg96
  z46 := Tryd.sizeOf96
  v46 := Tryd.zeroValue96 }
open Go.RowKit Go.Lib in
theorem Tryd.strings_ContainsRune_ascii (s : ByteArray) (r : Int) (w : World) (h0 : 0 ≤ r) (h1 : r < 128) :
    Calls Tryd.prog 87 #[.string s, .int .i32 r] w fun e w' => e = .returned (.bool (decide (0 ≤ Lib.indexByte s.data.toList r.toNat.toUInt8))) ∧ w' = w := Any.strings_ContainsRune_ascii Tryd.lays151 s r w h0 h1
def Tryd.lays227_ren : Go.Shelf.Ren := ⟨fun | 227 => 78 | n => n, fun | 9 => 9 | 116 => 108 | 4 => 4 | 0 => 0 | 3 => 3 | 5 => 5 | n => n, fun | n => n⟩
theorem Tryd.lays227 : Go.Proofs.Lays.n227 Tryd.prog Tryd.lays227_ren := {
  mixed := by kernel_rfl
  f227 := Tryd.func78.trans (congrArg some (by kernel_rfl))
  t0 := Tryd.underlying0
  a0 := Tryd.isAgg0
  z0 := Tryd.sizeOf0
  v0 := Tryd.zeroValue0
  t3 := Tryd.underlying3
  a3 := Tryd.isAgg3
  z3 := Tryd.sizeOf3
  v3 := Tryd.zeroValue3
  t4 := Tryd.underlying4
  a4 := Tryd.isAgg4
  z4 := Tryd.sizeOf4
  v4 := Tryd.zeroValue4
  t5 := Tryd.underlying5
  a5 := Tryd.isAgg5
  z5 := Tryd.sizeOf5
  v5 := Tryd.zeroValue5
  t9 := Tryd.underlying9
  a9 := Tryd.isAgg9
  z9 := Tryd.sizeOf9
  v9 := Tryd.zeroValue9
  t116 := Tryd.underlying108
  a116 := Tryd.isAgg108
  z116 := Tryd.sizeOf108 }
open Go.RowKit Go.Lib in
theorem Tryd.strings_makeASCIISet (hv116 : ∀ w, (zeroValue 108).run Tryd.prog w = .ok (.agg (Array.replicate 256 (.bool false))) w) (chars : ByteArray) (w : World) (hs : chars.size < 4294967281) (hascii : ∀ (j : Nat) b, chars.data.toList[j]? = some b → b.toNat < 128) :
    Calls Tryd.prog 78 #[.string chars] w fun e w' => e = .returned (.tuple #[.agg (Lib.setCells chars.data.toList), .bool true]) ∧ w' = w.alloc (.cells (Lib.setCells chars.data.toList) 108) := Any.strings_makeASCIISet Tryd.lays227 hv116 (by kernel_rfl) chars w hs hascii
def Tryd.lays228_ren : Go.Shelf.Ren := ⟨fun | 228 => 85 | n => n, fun | 124 => 112 | 5 => 5 | 4 => 4 | 0 => 0 | 116 => 108 | n => n, fun | n => n⟩
theorem Tryd.lays228 : Go.Proofs.Lays.n228 Tryd.prog Tryd.lays228_ren := {
  mixed := by kernel_rfl
  f228 := Tryd.func85.trans (congrArg some (by kernel_rfl))
  t0 := Tryd.underlying0
  a0 := Tryd.isAgg0
  z0 := Tryd.sizeOf0
  v0 := Tryd.zeroValue0
  t4 := Tryd.underlying4
  a4 := Tryd.isAgg4
  z4 := Tryd.sizeOf4
  v4 := Tryd.zeroValue4
  t5 := Tryd.underlying5
  a5 := Tryd.isAgg5
  z5 := Tryd.sizeOf5
  v5 := Tryd.zeroValue5
  t116 := Tryd.underlying108
  a116 := Tryd.isAgg108
  z116 := Tryd.sizeOf108
  t124 := Tryd.underlying112
  a124 := Tryd.isAgg112
  z124 := Tryd.sizeOf112
  v124 := Tryd.zeroValue112 }
open Go.RowKit Go.Lib in
/-- '(as *asciiSet) contains(c)': 'as[c]': the set lies at block b, whole. (LAID: no walk: one application.) -/
theorem Tryd.asciiSet_contains (b : Nat) (x : UInt8) (v : Bool) (w : World) (hc : w.cell? ⟨b, x.toNat, none⟩ = some (.bool v)) :
    Calls Tryd.prog 85 #[.pointer (some ⟨b, 0, none⟩), .int .u8 x.toNat] w fun e w' => e = .returned (.bool v) ∧ w' = w := Any.asciiSet_contains Tryd.lays228 b x v w hc
def Tryd.lays260_ren : Go.Shelf.Ren := ⟨fun | 260 => 93 | n => n, fun | 9 => 9 | 21 => 21 | 3 => 3 | 4 => 4 | 5 => 5 | 119 => 126 | 0 => 0 | 46 => 96 | 139 => 129 | 138 => 128 | n => n, fun | 3 => 1 | 4 => 2 | n => n⟩
theorem Tryd.lays260 : Go.Proofs.Lays.n260 Tryd.prog Tryd.lays260_ren := {
  mixed := by kernel_rfl
  f260 := Tryd.func93.trans (congrArg some (by kernel_rfl))
  t0 := Tryd.underlying0
  a0 := Tryd.isAgg0
  z0 := Tryd.sizeOf0
  v0 := Tryd.zeroValue0
  t3 := Tryd.underlying3
  a3 := Tryd.isAgg3
  z3 := Tryd.sizeOf3
  v3 := Tryd.zeroValue3
  t4 := Tryd.underlying4
  a4 := Tryd.isAgg4
  z4 := Tryd.sizeOf4
  v4 := Tryd.zeroValue4
  t5 := Tryd.underlying5
  a5 := Tryd.isAgg5
  z5 := Tryd.sizeOf5
  v5 := Tryd.zeroValue5
  t9 := Tryd.underlying9
  a9 := Tryd.isAgg9
  z9 := Tryd.sizeOf9
  v9 := Tryd.zeroValue9
  t21 := Tryd.underlying21
  a21 := Tryd.isAgg21
  z21 := Tryd.sizeOf21
  v21 := Tryd.zeroValue21
  t46 := Tryd.underlying96
  a46 := Tryd.isAgg96
  z46 := Tryd.sizeOf96
  v46 := Tryd.zeroValue96
  t119 := Tryd.underlying126
  a119 := Tryd.isAgg126
  z119 := Tryd.sizeOf126
  t138 := Tryd.underlying128
  a138 := Tryd.isAgg128
  z138 := Tryd.sizeOf128
  v138 := Tryd.zeroValue128
  t139 := Tryd.underlying129
  a139 := Tryd.isAgg129
  z139 := Tryd.sizeOf129
  v139 := Tryd.zeroValue129
  g3 := by kernel_rfl
  g4 := by kernel_rfl }
open Go.RowKit Go.Lib in
theorem Tryd.utf8_decodeRuneInStringSlow (s : ByteArray) (w : World) (hT : Lib.Utf8Tabs 1 2 w) :
    Calls Tryd.prog 93 #[.string s] w fun e w' => e = .returned (.tuple #[.int .i32 (Lib.decodeGo s).1, .int .i64 (Lib.decodeGo s).2]) ∧ Below w.heap.size w w' := Any.utf8_decodeRuneInStringSlow Tryd.lays260 s w hT
open Go.RowKit Go.Lib in
/-- **unicode/utf8.DecodeRuneInString AT EVERY STRING.** (LAID: no walk: one application.) -/
theorem Tryd.utf8_DecodeRuneInString (s : ByteArray) (w : World) (hT : Lib.Utf8Tabs 1 2 w) :
    Calls Tryd.prog 86 #[.string s] w fun e w' => e = .returned (.tuple #[.int .i32 (Lib.decodeGo s).1, .int .i64 (Lib.decodeGo s).2]) ∧ Below w.heap.size w w' := Any.utf8_DecodeRuneInString Tryd.lays197 s w hT
def Tryd.lays271_ren : Go.Shelf.Ren := ⟨fun | 271 => 88 | 120 => 95 | 197 => 86 | 260 => 93 | n => n, fun | 9 => 9 | 21 => 21 | 3 => 3 | 4 => 4 | 5 => 5 | 105 => 117 | 119 => 126 | 0 => 0 | 46 => 96 | 139 => 129 | 138 => 128 | n => n, fun | 3 => 1 | 4 => 2 | n => n⟩
theorem Tryd.lays271 : Go.Proofs.Lays.n271 Tryd.prog Tryd.lays271_ren := {
  mixed := by kernel_rfl
  f120 := Tryd.func95.trans (congrArg some (by kernel_rfl))
  f197 := Tryd.func86.trans (congrArg some (by kernel_rfl))
  f260 := Tryd.func93.trans (congrArg some (by kernel_rfl))
  f271 := Tryd.func88.trans (congrArg some (by kernel_rfl))
  t0 := Tryd.underlying0
  a0 := Tryd.isAgg0
  z0 := Tryd.sizeOf0
  v0 := Tryd.zeroValue0
  t3 := Tryd.underlying3
  a3 := Tryd.isAgg3
  z3 := Tryd.sizeOf3
  v3 := Tryd.zeroValue3
  t4 := Tryd.underlying4
  a4 := Tryd.isAgg4
  z4 := Tryd.sizeOf4
  v4 := Tryd.zeroValue4
  t5 := Tryd.underlying5
  a5 := Tryd.isAgg5
  z5 := Tryd.sizeOf5
  v5 := Tryd.zeroValue5
  t9 := Tryd.underlying9
  a9 := Tryd.isAgg9
  z9 := Tryd.sizeOf9
  v9 := Tryd.zeroValue9
  t21 := Tryd.underlying21
  a21 := Tryd.isAgg21
  z21 := Tryd.sizeOf21
  v21 := Tryd.zeroValue21
  t46 := Tryd.underlying96
  a46 := Tryd.isAgg96
  z46 := Tryd.sizeOf96
  v46 := Tryd.zeroValue96
  t105 := Tryd.underlying117
  a105 := Tryd.isAgg117
  z105 := Tryd.sizeOf117
  v105 := Tryd.zeroValue117
  t119 := Tryd.underlying126
  a119 := Tryd.isAgg126
  z119 := Tryd.sizeOf126
  t138 := Tryd.underlying128
  a138 := Tryd.isAgg128
  z138 := Tryd.sizeOf128
  v138 := Tryd.zeroValue128
  t139 := Tryd.underlying129
  a139 := Tryd.isAgg129
  z139 := Tryd.sizeOf129
  v139 := Tryd.zeroValue129
  g3 := by kernel_rfl
  g4 := by kernel_rfl }
open Go.RowKit Go.Lib in
/-- **unicode/utf8.DecodeLastRuneInString AT EVERY STRING.** (LAID: no walk: one application.) -/
theorem Tryd.utf8_DecodeLastRuneInString (s : ByteArray) (w : World) (hs : s.size ≤ 9223372036854775807) (hT : Lib.Utf8Tabs 1 2 w) :
    Calls Tryd.prog 88 #[.string s] w fun e w' => e = .returned (.tuple #[.int .i32 (Lib.decodeLastL s.data.toList).1, .int .i64 (Lib.decodeLastL s.data.toList).2]) ∧ Below w.heap.size w w' := Any.utf8_DecodeLastRuneInString Tryd.lays271 s w hs hT
def Tryd.lays229_ren : Go.Shelf.Ren := ⟨fun | 229 => 73 | n => n, fun | 9 => 9 | 40 => 105 | 31 => 69 | 152 => 113 | 3 => 3 | 0 => 0 | 4 => 4 | 21 => 21 | 154 => 115 | n => n, fun | n => n⟩
theorem Tryd.lays229 : Go.Proofs.Lays.n229 Tryd.prog Tryd.lays229_ren := {
  mixed := by kernel_rfl
  f229 := Tryd.func73.trans (congrArg some (by kernel_rfl))
  t0 := Tryd.underlying0
  a0 := Tryd.isAgg0
  z0 := Tryd.sizeOf0
  v0 := Tryd.zeroValue0
  t3 := Tryd.underlying3
  a3 := Tryd.isAgg3
  z3 := Tryd.sizeOf3
  v3 := Tryd.zeroValue3
  t4 := Tryd.underlying4
  a4 := Tryd.isAgg4
  z4 := Tryd.sizeOf4
  v4 := Tryd.zeroValue4
  t9 := Tryd.underlying9
  a9 := Tryd.isAgg9
  z9 := Tryd.sizeOf9
  v9 := Tryd.zeroValue9
  t21 := Tryd.underlying21
  a21 := Tryd.isAgg21
  z21 := Tryd.sizeOf21
  v21 := Tryd.zeroValue21
  t31 := Tryd.underlying69
  a31 := Tryd.isAgg69
  z31 := Tryd.sizeOf69
  v31 := Tryd.zeroValue69
  t40 := Tryd.underlying105
  a40 := Tryd.isAgg105
  z40 := Tryd.sizeOf105
  v40 := Tryd.zeroValue105
  t152 := Tryd.underlying113
  a152 := Tryd.isAgg113
  z152 := Tryd.sizeOf113
  v152 := Tryd.zeroValue113
  t154 := Tryd.underlying115
  a154 := Tryd.isAgg115
  z154 := Tryd.sizeOf115
  v154 := Tryd.zeroValue115 }
open Go.RowKit Go.Lib in
theorem Tryd.strings_FieldsFunc_runes (g : Nat) (lb : Array Value) (eg : ∀ args w, (callFunc g args).run Tryd.prog w = .ok (.enter g args) w) (p : Nat → Bool) (s : ByteArray) (w : World) (hs : s.size ≤ 4294967296) (hp : PredAtRunes Tryd.prog g lb p w) :
    Calls Tryd.prog 73 #[.string s, .func (.func g) #[] lb] w fun e w' => ∃ A, e = .returned (.slice (some ⟨A, 0, none⟩) (Lib.goFieldsP p s).length (Lib.goFieldsP p s).length) ∧ w.heap.size ≤ A ∧
      w'.ownsRow w.heap.size 9 1 (.slice (some ⟨A, 0, none⟩) (Lib.goFieldsP p s).length (Lib.goFieldsP p s).length) (Lib.goFieldsP p s).length ((Lib.goFieldsP p s).map Value.string) ∧ Below w.heap.size w w' := Any.strings_FieldsFunc_runes Tryd.lays229 g lb eg p s w hs hp (by kernel_rfl) (by kernel_rfl)
open Go.RowKit Go.Lib in
/-- .. over a hand of the authors' house's premise as it stands. (LAID: no walk: one application.) -/
theorem Tryd.strings_FieldsFunc (g : Nat) (lb : Array Value) (eg : ∀ args w, (callFunc g args).run Tryd.prog w = .ok (.enter g args) w) (p : Nat → Bool) (s : ByteArray) (w : World) (hs : s.size ≤ 4294967296) (hp : PredAt Tryd.prog g lb encR p w) :
    Calls Tryd.prog 73 #[.string s, .func (.func g) #[] lb] w fun e w' => ∃ A, e = .returned (.slice (some ⟨A, 0, none⟩) (Lib.goFieldsP p s).length (Lib.goFieldsP p s).length) ∧ w.heap.size ≤ A ∧
      w'.ownsRow w.heap.size 9 1 (.slice (some ⟨A, 0, none⟩) (Lib.goFieldsP p s).length (Lib.goFieldsP p s).length) (Lib.goFieldsP p s).length ((Lib.goFieldsP p s).map Value.string) ∧ Below w.heap.size w w' := Any.strings_FieldsFunc Tryd.lays229 g lb eg p s w hs hp (by kernel_rfl) (by kernel_rfl)
end Go.Proofs
set_option linter.unusedSimpArgs false
set_option linter.unusedVariables false
set_option maxRecDepth 100000
namespace Go.Proofs.YtlhkgeoahblffaaDoor
open Go.Sx Go.RowKit

/-! ### The first line, and what is behind it -/

def lineOf (s : List UInt8) : List UInt8 := (Lib.cut s [10]).1
def restOf (s : List UInt8) : List UInt8 := (Lib.cut s [10]).2.1

theorem s_cut (s : List UInt8) (hs : small s = true) : SCall Tryd.prog 56 [.str s, .str [10]] (.tuple [.str (lineOf s), .str (restOf s), .bool (Lib.cut s [10]).2.2]) := by
  rw [small_iff] at hs
  refine scall_lib rfl rfl Tryd.func56 (by kernel_rfl) (by kernel_rfl) fun R w vs hR hg hvs => ?_
  obtain ⟨u, us, rfl, h1, u2, us2, rfl, h2, h3⟩ := hvs
  have h1 : u = .string ⟨⟨s⟩⟩ := h1
  have h2 : u2 = .string ⟨⟨[10]⟩⟩ := h2
  have h3 : us2 = [] := h3
  subst h1 h2 h3
  refine Calls.mono (Go.Proofs.Tryd.strings_Cut_shaped ⟨⟨s⟩⟩ ⟨⟨[10]⟩⟩ w hg (by show s.length < 4294967281; omega)) fun e w' ⟨he, n, hw⟩ => ⟨_, he, ?_, ?_⟩
  · rw [hw]; exact (Below.refl _ w).trans ⟨rfl, rfl, rfl, Nat.le_refl _, fun _ _ => rfl⟩
  · exact ⟨_, rfl, _, _, rfl, rfl, _, _, rfl, rfl, _, _, rfl, rfl, rfl⟩
def fCut : Fact := ⟨56, fun args => match args with
  | [.str s, .str p] => some (.req (p == [10]) (.req (small s) (.leaf (.tuple [.str (lineOf s), .str (restOf s), .bool (Lib.cut s [10]).2.2]))))
  | _ => none⟩
theorem o_cut : fCut.ok Tryd.prog := fun args t ht => by
  simp only [fCut] at ht
  split at ht
  · rename_i s p
    injection ht with ht; subst ht
    intro hp hs
    have hp : p = [10] := by simpa using hp
    subst hp
    exact s_cut s hs
  · cases ht

/-! ### The words of a line -/

def isSp (r : Nat) : Bool := r == 32 || r == 9
def flds (s : List UInt8) : List (List UInt8) := (Lib.goFieldsP isSp ⟨⟨s⟩⟩).map (·.data.toList)

theorem sp_pred (w : World) : PredAtRunes Tryd.prog 74 #[] isSp w := fun W r _ _ => by
  unfold FnGives
  have e1 : ((r : Int) == 32) = (r == 32) := by rw [Bool.eq_iff_iff]; simp; omega
  have e2 : ((r : Int) == 9) = (r == 9) := by rw [Bool.eq_iff_iff]; simp; omega
  by_cases h1 : r = 32 <;> by_cases h2 : r = 9
  all_goals
    have z1 : (r : Int) = 32 ↔ r = 32 := by omega
    have z2 : (r : Int) = 9 ↔ r = 9 := by omega
    go_enter Tryd.func74, Tryd.ntmps74
    go_wp2
    all_goals first | (exfalso; omega) | (go_ret; refine ⟨?_, 0, rfl⟩; unfold isSp; rw [← e1, ← e2]; simp [z1, z2, h1, h2])

theorem rep_row {R : Nat → Prop} {ρ : Rho} {n : Nat} {w : World} {t : TypeId} (A : Nat) (l : List ByteArray) (cur : Array Value) (fz : Nat × Nat) (ls : List Ty.str.T) (e : ls.length = l.length) (hls : ∀ i (h : i < ls.length) (h' : i < l.length), ls[i] = l[i].data.toList) (hA : w.heap[A]? = some (.cells cur t fz)) (hc : cur.toList.take l.length = l.map Value.string) (hR : R A) : Rep R ρ n w (.list .str ls) (.slice (some ⟨A, 0, none⟩) l.length l.length) := by
  refine ⟨some ⟨A, 0, none⟩, l.length, by rw [e], Nat.le_of_eq e, fun hp => ⟨A, 0, rfl, hR, fun i h => ?_⟩⟩
  have hi : i < l.length := by rw [← e]; exact h
  have hv : cur[i]? = some (.string l[i]) := by
    have : (cur.toList.take l.length)[i]? = (l.map Value.string)[i]? := by rw [hc]
    rw [List.getElem?_take, if_pos hi, List.getElem?_map, List.getElem?_eq_getElem hi] at this
    simpa using this
  refine ⟨[.string l[i]], rfl, fun j hj => ?_, ?_⟩
  · obtain rfl : j = 0 := by have : j < 1 := hj; omega
    unfold World.cell?
    dsimp only
    rw [hA]
    simp [Ty.sz, hv]
  · show [Value.string _] = [Value.string _]
    rw [List.get_eq_getElem, hls i h hi]

theorem s_fields (s : List UInt8) (hs : small s = true) : SCall Tryd.prog 73 [.str s, .fn 74 [] []] (.list .str (flds s)) := by
  rw [small_iff] at hs
  refine scall_lib rfl rfl Tryd.func73 (by kernel_rfl) (by kernel_rfl) fun R w vs hR hg hvs => ?_
  obtain ⟨u, us, rfl, h1, u2, us2, rfl, ⟨a1, a2, h2, q1, q2⟩, h3⟩ := hvs
  have h1 : u = .string ⟨⟨s⟩⟩ := h1
  have h3 : us2 = [] := h3
  have q1 : a1 = [] := q1
  have q2 : a2 = [] := q2
  subst h1 q1 q2 h2 h3
  refine Calls.mono (Go.Proofs.Tryd.strings_FieldsFunc_runes 74 #[] (enters_of Tryd.func74 (by kernel_rfl) rfl) isSp ⟨⟨s⟩⟩ w (by show s.length ≤ 4294967296; omega) (sp_pred w)) fun e w' ⟨A, he, hA, hown, hb⟩ => ⟨_, he, hb, ?_⟩
  obtain ⟨_, ⟨hc, _⟩ | ⟨g, cap, cur, hv, hg, hgh, hn, _, hcs, hcur⟩⟩ := hown
  · cases hc
  · injection hv with hv1 hv2 hv3
    injection hv1 with hv1
    injection hv1 with hv1
    subst hv1
    refine rep_row A _ cur (0, 0) (flds s) (List.length_map ..) (fun i h h' => List.getElem_map ..) hgh (by simpa using hcur) (.inr ⟨hA, ?_⟩)
    rcases Nat.lt_or_ge A w'.heap.size with h | h
    · exact h
    · simp [Array.getElem?_eq_none h] at hgh
def fFields : Fact := ⟨73, fun args => match args with
  | [.str s, .fn f a b] => match a, b with
    | [], [] => some (.req (Nat.beq f 74) (.req (small s) (.leaf (.list .str (flds s)))))
    | _, _ => none
  | _ => none⟩
theorem o_fields : fFields.ok Tryd.prog := fun args t ht => by
  simp only [fFields] at ht
  split at ht
  · split at ht
    · injection ht with ht; subst ht
      intro hf hs
      rw [Nat.eq_of_beq_eq_true hf]
      exact s_fields _ hs
    · cases ht
  · cases ht

/-! ### Blanks cut off -/

theorem s_trim (s : List UInt8) (hs : small s = true) : SCall Tryd.prog 57 [.str s, .str [32, 9]] (.str (Lib.trimS s [32, 9])) := by
  rw [small_iff] at hs
  refine scall_lib rfl rfl Tryd.func57 (by kernel_rfl) (by kernel_rfl) fun R w vs hR hg hvs => ?_
  obtain ⟨u, us, rfl, h1, u2, us2, rfl, h2, h3⟩ := hvs
  have h1 : u = .string ⟨⟨s⟩⟩ := h1
  have h2 : u2 = .string ⟨⟨[32, 9]⟩⟩ := h2
  have h3 : us2 = [] := h3
  subst h1 h2 h3
  refine Calls.mono (Any.strings_Trim_ascii Tryd.lays160 (fun w => by kernel_rfl) (by kernel_rfl) ⟨⟨s⟩⟩ ⟨⟨[32, 9]⟩⟩ w (by show s.length ≤ 9223372036854775807; omega) (by decide) (fun j b hb => by
    match j, hb with
    | 0, hb => injection hb with hb; subst hb; decide
    | 1, hb => injection hb with hb; subst hb; decide)) fun e w' ⟨he, hb⟩ => ⟨_, he, hb, rfl⟩
def fTrim : Fact := ⟨57, fun args => match args with
  | [.str s, .str p] => some (.req (p == [32, 9]) (.req (small s) (.leaf (.str (Lib.trimS s [32, 9])))))
  | _ => none⟩
theorem o_trim : fTrim.ok Tryd.prog := fun args t ht => by
  simp only [fTrim] at ht
  split at ht
  · rename_i s p
    injection ht with ht; subst ht
    intro hp hs
    have hp : p = [32, 9] := by simpa using hp
    subst hp
    exact s_trim s hs
  · cases ht
end Go.Proofs.YtlhkgeoahblffaaDoor
